/- Parts of the proof. Conditions: as stated. -/
import Derived.Test.YtdgbkpoickbidaaGreatDoorHx16
set_option maxRecDepth 100000
set_option maxHeartbeats 8000000
open Go.RowKit Go.Proofs.Tryz
set_option linter.defProp false
namespace Go.Proofs.YtdgbkpoickbidaaGreatDoor
variable{l:List Int}{B C E E2 N N2 d g gs gt i n n2 r:Nat}{R S:Nat->Prop}{W w w' w1 w2 w3:World}
def Id(s:SV):Nat:=s.bs.flatten.length+s.bs.length
def mP{s:SV}{l:Nat}(h:OkV s)(hu:s.un=some (i,l))(k:Nat):Id (Jo { s with un:=some (i,k) })<=Id s/\(Jo { s with un:=some (i,k) }).bs.length<s.bs.length:=by
 have hi:=(h.un i l hu).1;have a:(Cc s i).length<=(s.bs.getD i []).length+(s.bs.getD (i+1) []).length:=by
  unfold Cc;refine AR (Gu _) ?_;rw[AN,AA];exact AD _
 have e:=congrArg List.flatten (Mw hi);have e2:=congrArg List.length e;have e3:=congrArg List.length (Mw hi);simp only[CN,GJ,AA,AJ]at e2 e3;have hb:(Jo { s with un:=some (i,k) }).bs=s.bs.take i++(if Cc s i=[] then [] else [Cc s i])++s.bs.drop (i+2):=rfl;unfold Id;rw[hb];split
 ·simp only[CN,AA,List.flatten_nil,CB];omega
 ·simp only[CN,AA,DT,AO];omega
def yY{s s2:SV}(h:OkV s){i l:Nat}(hu:s.un=some (i,l))(hp:Hz s n=(s2,n2)):Id s2<=Id s/\(l<=n->s2.bs.length<s.bs.length/\n2=n-l):=by
 unfold Hz at hp;rw[hu]at hp;simp only at hp;injection hp with h1 h2;rw[<-h1];split
 ·exact⟨(mP h hu _).1,λhl=>⟨(mP h hu _).2,by omega⟩⟩
 ·exact⟨AD _,λhl=>by omega⟩
def tM{s t:SV}(w:De s n t r):OkV s->Id t<=Id s:=by
 induction w with
 | done s=>exact λ_=>AD _
 | @stop s s1 n hn hb =>
  intro _;have⟨e1,_,_⟩:=Kz hb;unfold Id;rw[e1];exact AD _
 | @step s s1 s2 t n n2 r hn hb hp k ih =>
  intro h;have⟨e1,_,_⟩:=Kz hb;have h1:OkV s1:=by have q:=Ki h;rw[hb]at q;exact q
  have⟨i,l,hu⟩:=Uk hb;have⟨a,_⟩:=dA h1 hu hn hp;have q:=(yY h1 hu hp).1;have c:=ih a.ok;have e:Id s1=Id s:=by unfold Id;rw[e1]
  omega
structure Le (s:SV) (all:List UV) (B:Nat):Prop where
 ok:OkV s
 good:∀u∈all,Db u
 say:s.S=[]\/UdS.Nm (Qc s) (all.map (Bm s.S))
 nb:Id s<=B
def nM:Le gX [] 0:=⟨mB,λu hu=>(nomatch hu),.inr (UdS.Nm.refl _),AD _⟩
def Le.up{s:SV}{all:List UV}(h:Le s all B)(k:B<=C):Le s all C:=⟨h.ok,h.good,h.say,AR h.nb k⟩
def Ql(s:SV)(l:List UV)(X:List TV):((Cd s l X).2=s/\(Cd s l X).1≠0)\/(Bg X=true/\l.any Cb=false/\l.any (Br s.U X)=false/\Gq s.U X=true/\Cd s l X=(0,{ s with bs:=if UdS.sumV l=[] then s.bs else s.bs++[UdS.sumV l],U:=ofV X })):=by
 cases h1:Bg X with
 | false=>rw[sU h1];exact .inl ⟨rfl,by intro q;revert q;exact(by decide:¬((110:Int)=0))⟩
 | true =>
  cases h2:l.any Cb with
  | true=>rw[sT h1 h2];exact .inl ⟨rfl,by intro q;revert q;exact(by decide:¬((110:Int)=0))⟩
  | false =>
   cases h3:l.any (Br s.U X)with
   | true=>rw[sS h1 h2 h3];exact .inl ⟨rfl,by intro q;revert q;exact(by decide:¬((111:Int)=0))⟩
   | false =>
    cases h4:Gq s.U X with
    | false=>rw[sR h1 h2 h3 h4];exact .inl ⟨rfl,by intro q;revert q;exact(by decide:¬((110:Int)=0))⟩
    | true=>exact .inr ⟨rfl,rfl,rfl,rfl,iD h1 h2 h3 h4⟩
def qL{l:List UV}(h2:l.any Cb=false)(hl:∀u∈l,Ry u):∀u∈l,Db u:=λu hu=>by
 have q:Cb u=false:=by
  have:=FL.1 h2 u hu;simpa using this
 unfold Cb at q;rw[Bool.or_eq_false_iff]at q;exact⟨hl u hu,AH (by have:=of_decide_eq_false q.1;omega),by simpa using q.2⟩
def nN{s:SV}{all l:List UV}{X:List TV}(h:Le s all B)(hl:∀u∈l,Ry u)(hX:∀t∈X,0<=t.1/\t.1<=18446744073709551615)(hB:B+l.length+1<=1000000) :
  ((Cd s l X).2=s/\(Cd s l X).1≠0)\/((Cd s l X).1=0/\Le (Cd s l X).2 (all++l) (B+l.length+1)):=by
 have hk:=zE h.ok hl hX (by have:=h.nb;unfold Id at this;omega);rcases Ql s l X with q|⟨h1,h2,h3,h4,e⟩
 ·exact .inl q
 ·refine .inr ⟨by rw[e],?_⟩;have hg:=qL h2 hl;rw[e]at hk ⊢;refine⟨hk,λu hu=>(AQ.1 hu).elim (h.good u) (hg u),?_,?_⟩
  ·rcases h.say with q|q
   ·exact .inl q
   ·refine .inr ?_;have e2:Qc { s with bs:=if UdS.sumV l=[] then s.bs else s.bs++[UdS.sumV l],U:=ofV X }=Qc s++(UdS.sumV l).map (Bm s.S):=by
     show(if UdS.sumV l=[] then s.bs else s.bs++[UdS.sumV l]).flatten.map (Bm s.S)=s.bs.flatten.map (Bm s.S)++(UdS.sumV l).map (Bm s.S);split
     ·rename_i h5;rw[h5];simp
     ·rw[CN,AI,DT]
    show UdS.Nm _ ((all++l).map (Bm s.S));rw[e2,AI];exact q.append ((UdS.Nm.sum (λu hu=>(hg u hu).1.num) (Oj hg)).map (gZ s.S))
  ·show(if UdS.sumV l=[] then s.bs else s.bs++[UdS.sumV l]).flatten.length+(if UdS.sumV l=[] then s.bs else s.bs++[UdS.sumV l]).length<=_;have h5:=h.nb;have h6:=Gu l;unfold Id at h5;split
   ·omega
   ·simp only[CN,AA,DT,AO];omega
def Wr(s:SV)(X:List TV):((Cy s X).2=s/\(Cy s X).1≠0)\/(Bg X=true/\Gq s.S X=true/\Cy s X=(0,{ s with S:=X })):=by
 unfold Cy;cases h1:Bg X with
 | false=>exact .inl ⟨rfl,by intro q;revert q;exact(by decide:¬((110:Int)=0))⟩
 | true =>
  cases h2:Gq s.S X with
  | false=>exact .inl ⟨rfl,by intro q;revert q;exact(by decide:¬((111:Int)=0))⟩
  | true=>exact .inr ⟨rfl,rfl,by rw[Ii h1];rfl⟩
def xQ{S X:List TV}(hf:Bg S=true)(hx:Bg X=true)(hl:Gq S X=true)(h0:X≠[]){u:UV}(h:u.1.2.2=[]):Bm X (Bm S u)=Bm X u:=by
 obtain⟨⟨l,e,c⟩,d⟩:=u;simp only at h;subst h;rcases Gw hx with rfl|⟨x,rfl⟩
 ·exact absurd rfl h0
 ·rcases Gw hf with rfl|⟨t,rfl⟩
  ·rfl
  ·have h1:t<=x:=by
    have⟨y,hy,q⟩:=Ej.1 (Kf.1 hl (x,[]) (AE.2 rfl));rw[AE.1 hy]at q;exact((Hi _ _ _ _).1 q).2.1
   unfold Bm;simp only[aD]
   congr 3
   omega
def Wl{s:SV}{all:List UV}{X:List TV}(h:Le s all B)(hX:∀t∈X,0<=t.1/\t.1<=18446744073709551615):Le (Cy s X).2 all B:=by
 have hk:=Rj h.ok hX;rcases Wr s X with q|⟨h1,h2,e⟩
 ·rw[q.1];exact h
 ·rw[e]at hk ⊢;refine⟨hk,h.good,?_,h.nb⟩;by_cases h0:X=[]
  ·exact .inl h0
  ·refine .inr ?_;have hS:s.S≠[]:=λq=>by
    rw[q]at h2;cases X with
    | nil=>exact h0 rfl
    | cons t X=>exact absurd (Kf.1 h2 t (BC ..)) (by simp[Ak])
   rcases h.say with q|q
   ·exact absurd q hS
   ·have k:=q.map (gZ X);have e1:∀D:List UV,(∀u∈D,Db u)->(D.map (Bm s.S)).map (λx=>(gZ X x.1,x.2))=D.map (Bm X):=λD hD=>by
     rw[<-a0r,CO];exact DZ λu hu=>xQ h.ok.fs h1 h2 h0 (hD u hu).2.1
    have k2:UdS.Nm ((s.bs.flatten.map (Bm s.S)).map λx=>(gZ X x.1,x.2)) ((all.map (Bm s.S)).map λx=>(gZ X x.1,x.2)):=k;rw[e1 _ h.ok.ins,e1 _ h.good]at k2;exact k2
def iR{s t:SV}{all:List UV}(w:De s n t r)(h:Le s all B):Le t all B:=by
 have k:=Xi w h.ok;refine⟨k.ok,h.good,?_,AR (tM w h.ok) h.nb⟩;rw[k.S];rcases h.say with q|q
 ·exact .inl q
 ·exact .inr (k.say.trans q)
def aC{D:List UV}(h:∀u∈D,Db u)(t:TV):∀x∈atV D t,∃u∈D,x=(u.1.1,u.2):=λx hx=>by
 have⟨u,hu,e⟩:=AP.1 hx;exact⟨u,(BI.1 hu).1,e.symm⟩
def tW{D E:List UV}(h:UdS.Nm D E)(hD:∀u∈D,Db u)(hE:∀u∈E,Db u):UdS.sumV D=UdS.sumV E :=
 UdS.a3c h (Oj λu hu=>(AQ.1 hu).elim (hD u) (hE u)) (λu hu=>(hD u hu).1.num) (λu hu=>(hE u hu).1.num)
def nO{s:SV}{all:List UV}(h:Le s all B):Dr s=if s.S=[] then [] else UdS.sumV (all.map (Bm s.S)):=by
 unfold Dr;split
 ·rfl
 ·rename_i h0;rcases h.say with q|q
  ·exact absurd q h0
  ·exact tW q (uH h.ok) λu hu=>by
    obtain⟨v,hv,rfl⟩:=AP.1 hu;exact Mk h.ok.fs h.ok.es (h.good v hv)
structure Hv where
 g:Nat
 hold:Int
 seen:Int
 begun:Bool
 ended:Bool
def Hv.cs(gt:Nat)(x:Hv):Array Value:=#[.pointer (some ⟨gt,0,none⟩),.int .u64 x.hold,.int .u64 x.seen,.bool x.begun,.bool x.ended]
structure ShM where
 gs:Nat
 m:SpM
 Rs:Nat->Prop
 lets:Int
 bm:Nat
 L:List Hd
 clock:Nat
 H:List Hv
def ShM.cs(t:ShM):Array Value:=#[.pointer (some ⟨t.gs,0,none⟩),.int .u64 t.lets,.map (some t.bm)]
structure ShR (w:World) (R:Nat->Prop) (gt:Nat) (t:ShM):Prop where
 bk:Bk w gt 211 t.cs
 rg:R gt
 sp:SpR w t.Rs t.gs t.m
 sub:∀k,t.Rs k->R k
 pm:PM w t.bm t.L t.clock
 rb:R t.bm
 hs:∀x∈t.H,Bk w x.g 215 (x.cs gt)/\R x.g/\¬t.Rs x.g
 nt:¬t.Rs gt
 nb:¬t.Rs t.bm
 nd:(t.H.map Hv.g).Nodup
 le:∀x∈t.L,∃y∈t.H,y.g=x.g/\y.ended=false
 lh:∀y∈t.H,y.ended=false->∃x∈t.L,x.g=y.g
 low:∀k,R k->k<w.heap.size
section
variable{w w':World}{R:Nat->Prop}{gt:Nat}{t:ShM}
def ShR.hd_ne(h:ShR w R gt t){x:Hv}(hx:x∈t.H):x.g≠gt/\x.g≠t.bm:=by
 have⟨b,_,_⟩:=h.hs x hx;refine⟨λe=>?_,λe=>Jl b h.pm.bk e⟩;rw[e]at b;exact absurd (b.ty.ne h.bk.ty) (by decide)
def ShR.bm_ne(h:ShR w R gt t):gt≠t.bm:=Jl h.bk h.pm.bk
def ShR.ext(h:ShR w R gt t)(x:Ext w w'):ShR w' R gt t :=
 ⟨h.bk.ext x,h.rg,h.sp.ext x,h.sub,h.pm.ext x,h.rb,λy hy=>⟨(h.hs y hy).1.ext x,(h.hs y hy).2⟩,h.nt,h.nb,h.nd,h.le,h.lh,λk hk=>AZ (h.low k hk) x.size⟩
def ShR.spine(h:ShR w R gt t){m':SpM}(u:Upd t.Rs w w')(s:SpR w' (Rg t.Rs w w') t.gs m'):ShR w' (Rg R w w') gt { t with m:=m',Rs:=Rg t.Rs w w' }:=by
 have z:=u.size;have nw:∀{k},k<w.heap.size->¬t.Rs k->¬Rg t.Rs w w' k:=λhk hn q=>q.elim hn λq=>by omega
 have hl:∀x∈t.L,x.g<w.heap.size/\¬t.Rs x.g:=λx hx=>by
  have⟨y,hy,e,_⟩:=h.le x hx;have⟨b,_,n⟩:=h.hs y hy;rw[<-e];exact⟨b.lt,n⟩
 refine⟨h.bk.upd u h.nt,.inl h.rg,s,λk hk=>hk.elim (λq=>.inl (h.sub k q)) .inr,h.pm.upd u h.nb (λx hx=>(hl x hx).2),.inl h.rb,λx hx=>?_,nw h.bk.lt h.nt,nw h.pm.lt h.nb,h.nd,h.le,h.lh,λk hk=>hk.elim (λq=>AZ (h.low k q) z) λq=>q.2⟩;have⟨b,r,n⟩:=h.hs x hx;exact⟨b.upd u n,.inl r,nw b.lt n⟩
def ShR.wide(h:ShR w R gt t){R':Nat->Prop}(hR:∀k,R k->R' k)(hl:∀k,R' k->k<w.heap.size):ShR w R' gt t :=
 ⟨h.bk,hR _ h.rg,h.sp,λk hk=>hR k (h.sub k hk),h.pm,hR _ h.rb,λx hx=>⟨(h.hs x hx).1,hR _ (h.hs x hx).2.1,(h.hs x hx).2.2⟩,h.nt,h.nb,h.nd,h.le,h.lh,hl⟩
def ShR.upd(h:ShR w R gt t)(u:Upd S w w')(hS:∀k,R k->¬S k):ShR w' R gt t:=by
 have hl:∀x∈t.L,¬S x.g:=λx hx=>by
  have⟨y,hy,e,_⟩:=h.le x hx;rw[<-e];exact hS _ (h.hs y hy).2.1
 exact⟨h.bk.upd u (hS _ h.rg),h.rg,h.sp.upd u (λk hk=>hS k (h.sub k hk)),h.sub,h.pm.upd u (hS _ h.rb) hl,h.rb,λx hx=>⟨(h.hs x hx).1.upd u (hS _ (h.hs x hx).2.1),(h.hs x hx).2⟩,h.nt,h.nb,h.nd,h.le,h.lh,λk hk=>AZ (h.low k hk) u.size⟩
end
structure TrV where
 s:SV
 lets:Int
 hs:List Hv
def ShM.v(t:ShM):TrV:=⟨t.m.v,t.lets,t.H⟩
def Kc(n:Int)(l:List Int):Int:=l.foldl (λa b=>min a b) n
def Ia(lets:Int)(H:List Hv):Int:=Kc lets ((H.filter λh=>!h.ended).map Hv.hold)
def Jp(l:List TV):Int:=(l.getD 0 (0,[])).1
def TrV.least(t:TrV):Int:=Ia t.lets t.hs
def TrV.up(t:TrV):Int:=Jp t.s.U
def Aj(t:TrV):TrV:={ t with s:=if Jp t.s.S<t.least then { t.s with S:=[(t.least,[])] } else t.s }
def Hh:∀(l:List Int) (n:Int),Kc n l<=n/\(∀x∈l,Kc n l<=x)/\(Kc n l=n\/Kc n l∈l)
 | [],n=>⟨DX _,λx hx=>(nomatch hx),.inl rfl⟩
 | y::l,n=>by
  have⟨h1,h2,h3⟩:=Hh l (min n y);have e:Kc n (y::l)=Kc (min n y) l:=rfl;rw[e];refine⟨by omega,λx hx=>?_,?_⟩
  ·rcases AY.1 hx with rfl|hx
   ·omega
   ·exact h2 x hx
  ·rcases h3 with h3|h3
   ·by_cases q:n<=y
    ·exact .inl (by omega)
    ·exact .inr (by rw[h3,show min n y=y by omega];exact BC ..)
   ·exact .inr (BM _ h3)
def mD{n k:Int}(h1:k<=n)(h2:∀x∈l,k<=x)(h3:k=n\/k∈l):k=Kc n l:=by
 have⟨a,b,c⟩:=Hh l n;have e1:k<=Kc n l:=by rcases c with c|c;(omega);(exact h2 _ c)
 have e2:Kc n l<=k:=by rcases h3 with h3|h3;(omega);(exact b _ h3)
 omega
structure OkT (t:TrV):Prop where
 ok:OkV t.s
 S:∃s,t.s.S=[(s,[])]
 U:∃u,t.s.U=[(u,[])]
 lets:0<=t.lets/\t.lets<=18446744073709551615
 hs:∀h∈t.hs,(0<=h.hold/\h.hold<=h.seen/\h.seen<=18446744073709551615)/\(h.begun=true->h.hold+1<=h.seen/\h.seen<=t.up)
 low:Jp t.s.S<=t.least
def OkT.least_in{t:TrV}(h:OkT t):0<=t.least/\t.least<=18446744073709551615:=by
 unfold TrV.least Ia;have⟨_,_,c⟩:=Hh ((t.hs.filter λh=>!h.ended).map Hv.hold) t.lets;rcases c with c|c
 ·rw[c];exact h.lets
 ·have⟨x,hx,e⟩:=AP.1 c;rw[<-e];have q:=(h.hs x (BI.1 hx).1).1;exact⟨q.1,DJ q.2.1 q.2.2⟩
def wQ(e:Int):Bg [(e,[])]=true:=rfl
def zL{a b:Int}(h:a<=b):Gq [(a,[])] [(b,[])]=true:=Kf.2 λt ht=>by
 rw[AE.1 ht];exact Ej.2 ⟨(a,[]),AE.2 rfl,(Hi _ _ _ _).2 ⟨rfl,h,λk hk=>absurd hk (DR k)⟩⟩
def Io{t:TrV}(h:OkT t)(hlt:Jp t.s.S<t.least):Cy t.s [(t.least,[])]=(0,(Aj t).s):=by
 have⟨s,hs⟩:=h.S;have e:Jp t.s.S=s:=by rw[hs];rfl
 have e2:(Aj t).s={ t.s with S:=[(t.least,[])] }:=by unfold Aj;rw[if_pos hlt]
 rw[e2];unfold Cy;rw[wQ,hs,zL (by omega),if_neg (by decide),if_neg (by decide),Ta]
def Hn{t:TrV}(h:¬Jp t.s.S<t.least):Aj t=t:=by unfold Aj;rw[if_neg h]
def gO{t:TrV}(h:OkT t):OkT (Aj t)/\(Aj t).least=t.least/\Jp (Aj t).s.S<=t.least/\(Aj t).s.U=t.s.U:=by
 by_cases hlt:Jp t.s.S<t.least
 ·have hc:=Io h hlt;have hr:=h.least_in;have k:=Rj (X:=[(t.least,[])]) h.ok (λx hx=>by rw[AE.1 hx];exact hr);rw[hc]at k;have e2:(Aj t).s={ t.s with S:=[(t.least,[])] }:=by unfold Aj;rw[if_pos hlt]
  have hu:(Aj t).up=t.up:=by unfold TrV.up;rw[e2]
  refine⟨⟨k,⟨t.least,by rw[e2]⟩,?_,h.lets,λx hx=>by rw[hu];exact h.hs x hx,?_⟩,rfl,?_,by rw[e2]⟩
  ·rw[e2];exact h.U
  ·rw[e2];exact DX _
  ·rw[e2];exact DX _
 ·rw[Hn hlt];exact⟨h,rfl,h.low,rfl⟩
open Go.ChangeShapes Go.WideShapes Go.ChangeAt Go.RowKit Go.WideElems
structure Sop where
 k:Int
 A:Option Addr
 c:Nat
 L:List Ud
 tA:Option Addr
 tc:Nat
 T:List Tm
 n:Int
 t:Tm
 rA:Option Addr
 rc:Nat
 r:List Dat
def Sop.zero:Sop:=⟨0,none,0,[],none,0,[],0,Tm.zero,none,0,[]⟩
instance:Inhabited Sop:=⟨Sop.zero⟩
section
variable{H:Type}{enc:TypeId×Value->H}{W:World}
end
section
variable{w0 w w':World}{ga gb:Nat}{ma mb m':SpM}{Ra Rb:Nat->Prop}{A:Option Addr}{n c:Nat}{L:List Ud}
def dT{a b d:World}(x:Ext a b)(u:Upd S b d)(h:∀k,S k->a.heap.size<=k):Ext a d :=
 ⟨u.os.trans (Below.os x),u.tape.trans (Below.tape x),u.output.trans (Below.output x),AR x.size u.size,λk hk=>(u.block k (AZ hk x.size) λq=>by have:=h k q;omega).trans (Below.block x k hk)⟩
end
def Ss(y:Ud):Nat:=y.l.length / 16+y.t.l.length / 4
def Ox(L:List Ud)(k:Nat):Nat:=((L.take k).map Ss).sum
def kR{L:List Ud}{k:Nat}(h:k<L.length):Ox L (k+1)=Ox L k+Ss (L.getD k Ud.zero):=by
 unfold Ox;rw[Iy h,AI,GA];simp
def Rd{α:Type}(f:α->Nat)(l:List α)(k:Nat):((l.take k).map f).sum<=((l.take l.length).map f).sum:=by
 have h:((l.take l.length).map f).sum=((l.take k).map f).sum+((l.drop k).map f).sum:=by
  rw[<-GA,<-AI,CF,EP]
 omega
def Up{α:Type}(f:α->Nat){l:List α}{x:α}(h:x∈l):f x<=((l.take l.length).map f).sum:=by
 rw[EP];induction l with
 | nil=>cases h
 | cons a l ih =>
  rw[CJ,List.sum_cons];rcases AY.1 h with rfl|h
  ·omega
  ·have:=ih h;omega
structure Ot (E N:Nat):Prop where
 le:N<=E
 eq:N<=300->N=E
def Ot.rfl'(E:Nat):Ot E E:=⟨AD _,λ_=>rfl⟩
def Ot.add(h:Ot E N)(hE:E2=E+d)(hN:N2=N+d):Ot E2 N2:=by
 have:=h.le;exact⟨by omega,λq=>by have:=h.eq (by omega);omega⟩
def Ot.up(h:Ot E N)(hE:E<=E2)(hN:300<N):Ot E2 N:=by
 have:=h.le;exact⟨by omega,λq=>by omega⟩
def Ot.much(h:Ot E N):decide (300<N)=decide (300<E):=by
 have h1:=h.le;have h2:=h.eq;rw[decide_eq_decide];constructor<;>intro q
 ·omega
 ·rcases DO 300 N with r|r
  ·exact r
  ·have:=h2 r;omega
def dS{T:List Tm}(h:Bg (T.map Tm.v)=true):Oq T:=by
 have⟨f,n⟩:=Fk h;exact⟨AR n (by decide),λx hx=>AR (f x hx).2 (by decide)⟩
section
variable{w0 wr w':World}{M:List Sop}{i ga gb n c cT:Nat}{A AT:Option Addr}{T:List Tm}{ma mb m':SpM}{Ra Rb:Nat->Prop}{L:List Ud}
end
def Td(n:Int)(w:World):C3 172 #[.int .u64 n] w λe w'=>e=.returned (.agg #[.int .u64 n,.slice none 0 0])/\Ext w w':=by
 go_enter func172,ntmps172;go_wp2;have b1:Bk ((w.alloc (.cells #[.int .u64 n,.slice none 0 0] 26))) w.heap.size 26 #[.int .u64 n,.slice none 0 0]:=Bk.new _ _ _;have q0:=b1.cell 0;have q1:=b1.cell 1;simp at q0 q1;refine bodyPost_ret (v:=.agg #[.int .u64 n,.slice none 0 0]) (by simp[results,Tryz.results172,go_sem,q0,q1]) rfl ⟨rfl,(Ext.refl w).alloc _⟩
def Iq{α β:Type}{f:α->β}{l:List α}(nd:(l.map f).Nodup){x y:α}(hx:x∈l)(hy:y∈l)(e:f x=f y):x=y:=by
 induction l with
 | nil=>cases hx
 | cons a l ih =>
  rw[CJ]at nd;have⟨h1,h2⟩:=FZ.1 nd;rcases AY.1 hx with h3|h3<;>rcases AY.1 hy with h4|h4
  ·rw[h3,h4]
  ·exact absurd (AP.2 ⟨y,h4,by rw[<-e,h3]⟩) h1
  ·exact absurd (AP.2 ⟨x,h3,by rw[e,h4]⟩) h1
  ·exact ih h2 h3 h4
structure Oc (t:ShM) (seen:Array Nat) (n:Int):Prop where
 lo:n<=t.lets
 all:∀x∈t.L,seen.contains x.born=true->∀y∈t.H,y.g=x.g->n<=y.hold
 is:n=t.lets\/∃y∈t.H,y.ended=false/\n=y.hold
def Oc.done{t:ShM}{seen:Array Nat}{n:Int}(h:Oc t seen n)(hs:∀x∈t.L,seen.contains x.born=true)(lh:∀y∈t.H,y.ended=false->∃x∈t.L,x.g=y.g):n=Ia t.lets t.H:=by
 refine mD h.lo (λk hk=>?_) ?_
 ·obtain⟨y,hy,rfl⟩:=AP.1 hk;have⟨h1,h2⟩:=BI.1 hy;obtain⟨x,hx,e⟩:=lh y h1 (by simpa using h2);exact h.all x hx (hs x hx) y h1 e.symm
 ·rcases h.is with q|⟨y,hy,he,q⟩
  ·exact .inl q
  ·exact .inr (by rw[q];exact AP.2 ⟨y,BI.2 ⟨hy,by simp[he]⟩,rfl⟩)
def Oc.next{t:ShM}{seen:Array Nat}{n:Int}(h:Oc t seen n)(nd:(t.H.map Hv.g).Nodup)(nb:(t.L.map Hd.born).Nodup){x:Hd}(hx:x∈t.L){y:Hv}(hy:y∈t.H)(e:y.g=x.g)(he:y.ended=false):Oc t (seen.push x.born) (min n y.hold):=by
 refine⟨by have:=h.lo;omega,λx2 hx2 hs y2 hy2 e2=>?_,?_⟩
 ·rw[contains_push,Bool.or_eq_true]at hs;rcases hs with hs|hs
  ·have:=h.all x2 hx2 hs y2 hy2 e2;omega
  ·have hb:x.born=x2.born:=by have q:=(beq_iff_eq.1 hs);exact q.symm
   have a:x=x2:=Iq nb hx hx2 hb;have c:y=y2:=Iq nd hy hy2 (by rw[e,e2,a]);rw[<-c];omega
 ·by_cases q:n<=y.hold
  ·rw[show min n y.hold=n by omega];exact h.is
  ·exact .inr ⟨y,hy,he,by omega⟩
def Nh(gt:Nat)(t:ShM)(R:Nat->Prop)(w:World)(h:H0 (ShR w R gt t)):C3 175 #[.pointer (some ⟨gt,0,none⟩)] w λe w'=>e=.returned (.int .u64 (Ia t.lets t.H))/\Ext w w':=by
 have⟨bm,f⟩:=tz t.bm;have⟨lt,c⟩:=tz t.lets;have c1:w.cell? ⟨gt,1,none⟩=some (.int .u64 lt):=c▸h.o.bk.cell 1;have c2:w.cell? ⟨gt,2,none⟩=some (.map (some bm)):=f▸h.o.bk.cell 2;have D:H0 (PM w bm t.L t.clock):=j6 (f▸h.o.pm);have j:H0 (Oc t #[] lt):=j6 ⟨by rw[c];exact DX _,λx hx hs=>by simp at hs,.inl c.symm⟩;clear f c;go_enter func175,ntmps175;go_wp2_with (first
  | (at_range;refine Sa rfl _ rfl rfl D.o ?_;intro w0 q A G))
 go_frame
 have l:=j6 q;have X0:=j6 A;clear q A G
 go_loopg [3] (leftOf (t.L.map Cw).toArray #[]).size (λz v3 wr=>∃(a:Array Nat) (n:Int),z=(leftOf (t.L.map Cw).toArray a).size/\v3=.int .u64 n/\H0 (PR wr bm w.heap.size t.L t.clock a)/\H0 (Oc t a n)/\H0 (Ext w wr))
 case atStart=>exact⟨#[],lt,rfl,rfl,l,j,X0⟩
 case round =>
  clear l j;obtain⟨a,n,rfl,rfl,HR,HI,HE⟩:=hrel;go_wp2_with (first
   | (at_next;refine Vo rfl _ rfl rfl HR.o ?_ ?_))
  ·intro d;replace d:=j6 d;go_wp2;go_ret;exact⟨by rw[HI.o.done (λx hx=>by simpa using d.o x hx) h.o.lh];rfl,HE.o⟩
  ·intro x w1 hx hs r m I F c;have⟨y,hy,e,he⟩:=h.o.le x hx;have hb:=(h.o.hs y hy).1;have HX:=j6 hx;have HY:=j6 hy;have C:=j6 e;have B:=j6 he;have E:=j6 r;have E1:H0 (Ext w w1):=j6 (HE.o.grown m (λk hk=>by injection hk with hk;omega));have⟨xg,i⟩:=tz x.g;have ch:w1.cell? ⟨xg,1,none⟩=some (.int .u64 y.hold):=by have:=(hb.ext E1.o).cell 1;rw[e,i]at this;exact this
   rw[i]at F ⊢;clear hx hs r m I hy e he hb i;go_wp2
   go_roundg (leftOf (t.L.map Cw).toArray (a.push x.born)).size
   case measure=>exact c
   case rel=>exact⟨_,min n y.hold,rfl,by go_num,E,j6 (HI.o.next h.o.nd h.o.pm.nb HX.o HY.o C.o B.o),E1⟩
def cJ{e:Int}(h:Sl W 2 (some ⟨g,0,none⟩) 1 1 [.int .u64 e,.slice none 0 0]):Tin W (some ⟨g,0,none⟩) 1 [⟨e,none,0,[]⟩]:=⟨h,λx hx=>by rw[AE.1 hx];exact Sl.nil _ _⟩
def mN(e:Int):Oq [⟨e,none,0,[]⟩]:=⟨by show 1<=_;decide,λx hx=>by rw[AE.1 hx];exact AG _⟩
def Zo{u:Int}{e:Ending}(h:lG [(u,[])] w e w'):∃g c,e=.returned (.slice (some ⟨g,0,none⟩) 1 c)/\w'.cell? ⟨g,0,none⟩=some (.int .u64 u)/\Ext w w':=by
 obtain⟨A,c,n,M,rfl,hn,t,hv,x⟩:=h;have hl:M.length=1:=by have:=congrArg List.length hv;simpa using this
 match M,hl with
 | [y],_ =>
  injection hv with hv _;have e0:y.e=u:=congrArg Prod.fst hv;simp at hn;subst hn;have⟨g,e1,_,_,_,hc,_⟩:=t.own.form (Nat.zero_lt_one);subst e1;exact⟨g,c,rfl,by rw[<-e0];exact hc 0 _ rfl,x⟩
def Me(gt:Nat)(t:ShM)(R:Nat->Prop)(w:World)(h:H0 (ShR w R gt t))(ok:H0 (OkT t.v)):C3 173 #[.pointer (some ⟨gt,0,none⟩)] w λe w'=>e=.returned (.int .u64 t.v.up)/\Ext w w':=by
 have⟨u,hu⟩:=ok.o.U;have e:t.v.up=u:=by unfold TrV.up;rw[hu];rfl
 rw[e];have HV:H0 (ofV t.m.v.U=[(u,[])]):=j6 (by show ofV t.v.s.U=_;rw[hu,Ta]);have HS:H0 (SpR w t.Rs t.gs t.m):=j6 h.o.sp;have HF:H0 (Oq t.m.U):=j6 (dS (T:=t.m.U) ok.o.ok.fu);have⟨gs,a⟩:=tz t.gs;have c0:w.cell? ⟨gt,0,none⟩=some (.pointer (some ⟨gs,0,none⟩)):=a▸h.o.bk.cell 0;rw[a]at HS;clear a hu e;go_enter func173,ntmps173;go_wp2_with (go_at_call 50;refine(nG gs t.m t.Rs _ HV HS HF).mono ?_;rintro r w1 d;obtain⟨g,c,rfl,q0,x1⟩:=Zo d;have X1:=j6 x1;clear d x1)
 go_ret;exact⟨rfl,X1.o⟩
def Dj(w:World)(R:Nat->Prop)(gt:Nat)(v:TrV)(w':World):Prop:=∃t',ShR w' (Rg R w w') gt t'/\t'.v=v/\Upd R w w'
def sI(z:w.heap.size<=w'.heap.size)(h:∀k,R k->k<w.heap.size):∀k,Rg R w w' k->k<w'.heap.size:=λk hk=>hk.elim (λq=>AZ (h k q) z) λq=>q.2
def Dj.stay{t:ShM}(h:ShR w R gt t)(x:Ext w w'):Dj w R gt t.v w':=⟨t,(h.ext x).wide (λ_ hk=>.inl hk) (sI x.size h.low),rfl,Upd.ext x⟩
def Dj.spine{t:ShM}{m':SpM}(h:ShR w R gt t)(x:Ext w w1)(u:Upd t.Rs w1 w')(s:SpR w' (Rg t.Rs w1 w') t.gs m'){s':SV}(hv:m'.v=s'):Dj w R gt ⟨s',t.lets,t.H⟩ w':=by
 have z:=x.size;have z2:=u.size;refine⟨_,((h.ext x).spine u s).wide (λk hk=>?_) (sI (AR z z2) h.low),by rw[<-hv];rfl,(Upd.ext x).trans (u.mono λk _ hk=>h.sub k hk)⟩;exact hk.elim .inl λq=>.inr ⟨AR z q.1,q.2⟩
def zU{t:TrV}(h:OkT t):∃s,t.s.S=[(s,[])]/\Jp t.s.S=s:=by
 have⟨s,hs⟩:=h.S;exact⟨s,hs,by rw[hs];rfl⟩
def a1v{n:Int}(h:Sl w 2 (some ⟨g,0,none⟩) 1 1 [.int .u64 n,.slice none 0 0])(u:Upd S w W)(hS:¬S g):Tin W (some ⟨g,0,none⟩) 1 [⟨n,none,0,[]⟩]:=
 cJ (h.upd u λk hk=>by injection hk with hk;rw[<-hk];exact hS)
def Im(gt:Nat)(t:ShM)(R:Nat->Prop)(w:World)(h:H0 (ShR w R gt t))(ok:H0 (OkT t.v)):C3 174 #[.pointer (some ⟨gt,0,none⟩)] w λe w'=>e=.returned (.tuple #[])/\Dj w R gt (Aj t.v) w':=by
 have⟨s,hs,he⟩:=zU ok.o;have HV:H0 (ofV t.m.v.S=[(s,[])]):=j6 (by show ofV t.v.s.S=_;rw[hs,Ta]);have HF:H0 (Oq t.m.S):=j6 (dS (T:=t.m.S) ok.o.ok.fs);have⟨n,hn⟩:=tz (Ia t.lets t.H);have HN:H0 (t.v.least=n):=j6 hn;have HE:=j6 he;have⟨gs,c⟩:=tz t.gs;have j:=j6 c;have d:H0 (∀W,Ext w W->W.cell? ⟨gt,0,none⟩=some (.pointer (some ⟨gs,0,none⟩))):=j6 (λW x=>c▸(h.o.bk.ext x).cell 0);have HS:H0 (SpR w t.Rs gs t.m):=j6 (c▸h.o.sp);have f:H0 (∀W:World,C3 175 #[.pointer (some ⟨gt,0,none⟩)] w λe w'=>e=.returned (.int .u64 n)/\Ext w w'):=j6 (λ_=>hn▸Nh gt t R w h);clear hn hs he c;have m1:=TI;by_cases hlt:s<n
 ·have hq:=Io ok.o (by rw[HE.o,HN.o];exact hlt);rw[HN.o]at hq;have HQ:=j6 hq;clear hq;go_enter func174,ntmps174
  go_upto_region 2 with (first
   | (go_at_call 175;clear m1;refine(f.o w).mono ?_;rintro r w1 ⟨rfl,x1⟩;have X1:=j6 x1;have c0:=d.o w1 x1;clear x1;have m2:=TI)
   | (go_at_call 65;clear m2;refine(Xo gs t.m t.Rs _ HV (j6 (HS.o.ext X1.o)) HF).mono ?_;rintro r w2 a;obtain⟨g2,c2,rfl,q0,x2⟩:=Zo a;have X2:=j6 (X1.o.trans x2);clear a x2)
   | fail)
  clear q0;have XD:Ext w2 w2.drew:=(Ext.refl w2).drew;have Q0:∀y:Xt w2.drew,y.W.cell? ⟨gt,0,none⟩=some (.pointer (some ⟨gs,0,none⟩)):=λy=>d.o _ (X2.o.trans (XD.trans y.x));refine wro [0,1,3,7,0,16,48,127] (.flo [0,1,2,3,4] (.ext 5 (.ext 6 (.one 7 (.fin))))) ?_
  (refine Aa (pks rfl) ?_;(repeat (go_big_quiet_step (fail)));refine oq ?_)
  refine Ar (pks rfl) ?_;intro K_ i;go_wp2_with (go_at_call 172;refine(Td n _).mono ?_;rintro r w3 ⟨rfl,x3⟩;have X3:=j6 (X2.o.trans (XD.trans x3));replace x3:=j6 x3)
  refine An.mk x3.o ?_;refine Ar (pks rfl) ?_;intro K_ i;go_wp2;refine An.mk ((Ext.refl _).alloc _) ?_;clear Q0 XD;refine Ac (pks rfl) ?_;intro K_ i;have X4:H0 (Ext w (w3.alloc (.cells #[.int .u64 n,.slice none 0 0] 26))):=j6 (X3.o.alloc _);have l:H0 (Tin (w3.alloc (.cells #[.int .u64 n,.slice none 0 0] 26)) (some ⟨w3.heap.size,0,none⟩) 1 [⟨n,none,0,[]⟩]):=j6 (cJ (Hq w3 _ _ [.int .u64 n,.slice none 0 0] 2 1 rfl rfl (by decide)));go_wp2_with (go_at_call 45;refine(gN (q:=(0,(Aj t.v).s)) gs t.m t.Rs (some ⟨w3.heap.size,0,none⟩) 1 1 [⟨n,none,0,[]⟩] _ HQ (j6 (HS.o.ext X4.o)) (j6 rfl) l (j6 (mN _))).mono ?_;rintro r w5 ⟨m5,rfl,s5,v5,u5⟩;have HR:H0 (Dj w R gt (Aj t.v) w5):=j6 (by have k:=Dj.spine h.o X4.o u5 (by rw[j.o];exact s5) v5;exact k);clear s5 v5 u5)
  refine Ad ?_;go_wp2;go_returns;exact⟨rfl,HR.o⟩
 ·have hq:=Hn (t:=t.v) (by rw[HE.o,HN.o];exact hlt);rw[hq];clear hq;go_enter func174,ntmps174;go_wp2_with (first
   | (go_at_call 175;clear m1;refine(f.o w).mono ?_;rintro r w1 ⟨rfl,x1⟩;have X1:=j6 x1;have c0:=d.o w1 x1;clear x1;have m2:=TI)
   | (go_at_call 65;clear m2;refine(Xo gs t.m t.Rs _ HV (j6 (HS.o.ext X1.o)) HF).mono ?_;rintro r w2 a;obtain⟨g2,c2,rfl,q0,x2⟩:=Zo a;have X2:=j6 (X1.o.trans x2);clear a x2)
   | fail)
  go_returns;exact⟨rfl,Dj.stay h.o X2.o⟩
def Wb:TrV:=⟨gX,0,[]⟩
def zF:OkT Wb:=⟨mB,⟨0,rfl⟩,⟨0,rfl⟩,by decide,λh hh=>(nomatch hh),by decide⟩
def a3s(w:World)(e:Ending)(w':World):Prop:=∃gt t,e=.returned (.pointer (some ⟨gt,0,none⟩))/\ShR w' (λk=>w.heap.size<=k/\k<w'.heap.size) gt t/\t.v=Wb/\Ext w w'
def nY{m:SpM}(s:SpR w1 (λk=>w.heap.size<=k/\k<w1.heap.size) gs m)(x:Ext w w1)(h2:w2=w1.alloc (.map #[] 0))(h3:w3=w2.alloc (.cells #[.pointer (some ⟨gs,0,none⟩),.int .u64 0,.map (some w1.heap.size)] 211))(v:m.v=gX) :
  ∃t,ShR w3 (λk=>w.heap.size<=k/\k<w3.heap.size) (w1.heap.size+1) t/\t.v=Wb/\Ext w w3:=by
 have z1:=x.size;have z2:w2.heap.size=w1.heap.size+1:=by rw[h2];simp
 have z3:w3.heap.size=w1.heap.size+1+1:=by rw[h3];simp[z2]
 have x2:Ext w1 w2:=h2▸(Ext.refl w1).alloc _;have x3:Ext w2 w3:=h3▸(Ext.refl w2).alloc _;have hm:PM w2 w1.heap.size [] 0:=⟨by rw[h2];exact heap_alloc_new w1 _,λx hx=>(nomatch hx),GE,GE,λx hx=>(nomatch hx)⟩;refine⟨⟨gs,m,λk=>w.heap.size<=k/\k<w1.heap.size,0,w1.heap.size,[],0,[]⟩,⟨h3▸Bk.at z2.symm,⟨by omega,by omega⟩,s.ext (x2.trans x3),λk hk=>⟨hk.1,by omega⟩,hm.ext x3,⟨by show _<=w1.heap.size;omega,by show w1.heap.size<_;omega⟩,λx hx=>(nomatch hx),λq=>by omega,λq=>by have:=q.2;simp only at this;omega,GE,λx hx=>(nomatch hx),λy hy=>(nomatch hy),λk hk=>hk.2⟩,?_,(x.trans x2).trans x3⟩;show TrV.mk m.v 0 []=_;rw[v];rfl
def nZ(w:World):C3 70 #[] w (a3s w):=by
 have a:=@run_makeMap prog;go_enter func70,ntmps70;go_wp2_with (go_at_call 43;refine(nT _).mono ?_;rintro r w1 ⟨gs,m,rfl,s1,v1,x1⟩;have HM:=j6 (nY s1 x1 rfl rfl v1);clear s1 v1 x1)
 go_ret;have⟨t,h1,h2,h3⟩:=HM.o;exact⟨_,t,rfl,h1,h2,h3⟩
def Hp(t:TrV)(l:List UV)(u:Int):Int×TrV:=((Cd t.s l [(u,[])]).1,{ t with s:=(Cd t.s l [(u,[])]).2 })
def tU{q:Int×TrV}(gt:Nat)(t:ShM)(R:Nat->Prop)(AL:Option Addr)(cL n:Nat)(L:List Ud)(u:Int)(w:World)(hq:H0 (Hp t.v (L.map Ud.uv) u=q))(h:H0 (ShR w R gt t))(ok:H0 (OkT t.v))(hn:H0 (n=L.length))(hL:H0 (Uin w AL cL L))(h9:n<=1000000)(hin:H0 (∀x∈L,InU x))(G:H0 (Good w)) :
  C3 71 #[.pointer (some ⟨gt,0,none⟩),.slice AL n cL,.int .u64 u] w λe w'=>e=.returned (.int .u16 q.1)/\Dj w R gt q.2 w':=by
 have⟨iv,d⟩:=tz (Cd t.m.v (L.map Ud.uv) [(u,[])]);have l:H0 (Cd t.m.v (L.map Ud.uv) ([(⟨u,none,0,[]⟩:Tm)].map Tm.v)=iv):=j6 d;have A:q=(iv.1,⟨iv.2,t.lets,t.H⟩):=by
  rw[<-hq.o];unfold Hp;show((Cd t.m.v (L.map Ud.uv) [(u,[])]).1,_)=_;rw[d];show(iv.1,TrV.mk (Cd t.m.v (L.map Ud.uv) [(u,[])]).2 _ _)=_;rw[d];rfl
 subst A;have⟨gs,c⟩:=tz t.gs;have j:=j6 c;have i:H0 (∀W,Ext w W->W.cell? ⟨gt,0,none⟩=some (.pointer (some ⟨gs,0,none⟩))):=j6 (λW x=>c▸(h.o.bk.ext x).cell 0);have HS:H0 (SpR w t.Rs gs t.m):=j6 (c▸h.o.sp);clear d c hq;go_enter func71,ntmps71;have XD:Ext w w.drew:=(Ext.refl w).drew;have Q0:∀y:Xt w.drew,y.W.cell? ⟨gt,0,none⟩=some (.pointer (some ⟨gs,0,none⟩)):=λy=>i.o _ (XD.trans y.x)
 go_upto_region 1 with fail
 refine wro [0,1,3,7,15,0,0,64,192,511,1023] (.flo [0,1,2,3,4,5,6] (.ext 7 (.ext 8 (.one 9 (.flo [10] (.fin)))))) ?_
 (refine Aa (pks rfl) ?_;(repeat (go_big_quiet_step (fail)));refine oq ?_)
 refine Ar (pks rfl) ?_;intro K_ f;go_wp2_with (go_at_call 172;refine(Td u _).mono ?_;rintro r w3 ⟨rfl,x3⟩;have X3:=j6 (XD.trans x3);replace x3:=j6 x3)
 refine An.mk x3.o ?_;refine Ar (pks rfl) ?_;intro K_ f;go_wp2;refine An.mk ((Ext.refl _).alloc _) ?_;clear Q0 XD;refine Ac (pks rfl) ?_;intro K_ f;have X4:H0 (Ext w (w3.alloc (.cells #[.int .u64 u,.slice none 0 0] 26))):=j6 (X3.o.alloc _);have z:H0 (∀W,Upd t.Rs (w3.alloc (.cells #[.int .u64 u,.slice none 0 0] 26)) W->Tin W (some ⟨w3.heap.size,0,none⟩) 1 [⟨u,none,0,[]⟩]):=j6 (λW q=>a1v (Hq w3 _ _ [.int .u64 u,.slice none 0 0] 2 1 rfl rfl (by decide)) q (λr=>by have a:=h.o.low _ (h.o.sub _ r);have b:=X3.o.size;omega));go_wp2_with (go_at_call 44;refine(nV (q:=iv) gs t.m t.Rs AL cL n L (some ⟨w3.heap.size,0,none⟩) 1 1 [⟨u,none,0,[]⟩] _ l (j6 (HS.o.ext X4.o)) hn (j6 (hL.o.ext X4.o)) h9 hin (j6 rfl) z (j6 (mN _)) ok.o.ok.sp.nb (j6 (G.o.ext X4.o))).mono ?_;rintro r w5 ⟨m5,rfl,s5,v5,u5⟩;have HR:H0 (Dj w R gt ⟨iv.2,t.lets,t.H⟩ w5):=j6 (by have k:=Dj.spine h.o X4.o u5 (by rw[j.o];exact s5) v5;exact k);clear s5 v5 u5)
 (refine Aa (pks rfl) ?_;(repeat (go_big_quiet_step (fail)));refine oq ?_)
 refine Ad ?_;go_wp2;go_ret;exact⟨rfl,HR.o⟩
def rU(t:TrV)(z:Int)(r:Nat)(v:TrV):Prop:=∃s',v={ t with s:=s' }/\((s'=t.s/\r=0/\z<1)\/∃n:Nat,z=n/\0<n/\De t.s n s' r)
def nJ(gt:Nat)(t:ShM)(R:Nat->Prop)(z:Int)(w:World)(h:H0 (ShR w R gt t))(ok:H0 (OkT t.v))(hz:z<=9223372036854775807) :
  C3 72 #[.pointer (some ⟨gt,0,none⟩),.int .i64 z] w λe w'=>∃(r:Nat) (v:TrV),e=.returned (.int .i64 r)/\rU t.v z r v/\OkV v.s/\Dj w R gt v w':=by
 have⟨gs,a⟩:=tz t.gs;have d:=j6 a;have c0:w.cell? ⟨gt,0,none⟩=some (.pointer (some ⟨gs,0,none⟩)):=a▸h.o.bk.cell 0;have HS:H0 (SpR w t.Rs gs t.m):=j6 (a▸h.o.sp);clear a;go_enter func72,ntmps72;go_wp2_with (go_at_call 47;refine(tN gs z t.m t.Rs _ HS (j6 ok.o.ok) hz (j6 (λk hk=>h.o.low _ (h.o.sub k hk)))).mono ?_;rintro r w1 c;have HR:H0 (mY w t.Rs gs t.m.v z r w1):=j6 c;obtain⟨m',rr,rfl,hx⟩:=c;clear hx)
 go_ret;have⟨m1,r1,e1,s1,v1,o1,u1⟩:=HR.o;injection e1 with e1;injection e1 with _ e1;have er:rr=r1:=by omega
 subst er;exact⟨rr,⟨m1.v,t.lets,t.H⟩,rfl,⟨m1.v,rfl,v1⟩,o1,Dj.spine h.o (Ext.refl _) u1 (by rw[d.o];exact s1) rfl⟩
def iN(gt:Nat)(t:ShM)(R:Nat->Prop)(w:World)(h:H0 (ShR w R gt t)):C3 87 #[.pointer (some ⟨gt,0,none⟩)] w λe w'=>e=.returned (.int .u64 t.v.least)/\Ext w w':=by
 go_enter func87,ntmps87;go_wp2_with (go_at_call 175;refine(Nh gt t R _ h).mono ?_;rintro r w1 ⟨rfl,x1⟩;replace x1:=j6 x1)
 go_ret;exact⟨rfl,x1.o⟩
def iM(gt:Nat)(t:ShM)(R:Nat->Prop)(w:World)(h:H0 (ShR w R gt t))(ok:H0 (OkT t.v)):C3 89 #[.pointer (some ⟨gt,0,none⟩)] w λe w'=>e=.returned (.int .u64 t.v.up)/\Ext w w':=by
 go_enter func89,ntmps89;go_wp2_with (go_at_call 173;refine(Me gt t R _ h ok).mono ?_;rintro r w1 ⟨rfl,x1⟩;replace x1:=j6 x1)
 go_ret;exact⟨rfl,x1.o⟩
def atT(t:TrV)(e:Int):Int×List (List Dat×Int):=if e<t.least then (121,[]) else atS t.s (e,[])
def yI{q:Int×List (List Dat×Int)}(gt:Nat)(t:ShM)(R:Nat->Prop)(n:Int)(w:World)(hq:H0 (atT t.v n=q))(h:H0 (ShR w R gt t))(ok:H0 (OkT t.v))(G:H0 (Good w)) :
  C3 80 #[.pointer (some ⟨gt,0,none⟩),.int .u64 n] w (aE w q):=by
 have⟨ln,hl⟩:=tz (Ia t.lets t.H);have c:H0 (∀W:World,C3 175 #[.pointer (some ⟨gt,0,none⟩)] w λe w'=>e=.returned (.int .u64 ln)/\Ext w w'):=j6 (λ_=>hl▸Nh gt t R w h);have he:atT t.v n=if n<ln then (121,[]) else atS t.v.s (n,[]):=by rw[<-hl];rfl
 have HQ:=j6 (he.symm.trans hq.o);have⟨gs,a⟩:=tz t.gs;have d:H0 (∀W,Ext w W->W.cell? ⟨gt,0,none⟩=some (.pointer (some ⟨gs,0,none⟩))):=j6 (λW x=>a▸(h.o.bk.ext x).cell 0);have HS:H0 (SpR w t.Rs gs t.m):=j6 (a▸h.o.sp);clear hl he a hq;by_cases hlt:n<ln
 ·have i:q=(121,[]):=by have:=HQ.o;rw[if_pos hlt]at this;exact this.symm
  subst i;go_enter func80,ntmps80;go_wp2_with (go_at_call 175;refine(c.o w).mono ?_;rintro r w1 ⟨rfl,x1⟩;have X1:=j6 x1;clear x1)
  go_returns;exact⟨_,_,_,rfl,Sj X1.o⟩
 ·have HA:H0 (atS t.m.v (n,[])=q):=j6 (by have:=HQ.o;rw[if_neg hlt]at this;exact this);go_enter func80,ntmps80
  go_upto_region 3 with (first
   | (go_at_call 175;refine(c.o w).mono ?_;rintro r w1 ⟨rfl,x1⟩;have X1:=j6 x1;clear x1)
   | fail)
  have XD:Ext w1 w1.drew:=(Ext.refl w1).drew;have Q0:∀y:Xt w1.drew,y.W.cell? ⟨gt,0,none⟩=some (.pointer (some ⟨gs,0,none⟩)):=λy=>d.o _ (X1.o.trans (XD.trans y.x));refine wro [0,1,3,7,15,0,32,127,255,255,1023,2047] (.flo [0,1,2,3,4,5] (.ext 6 (.one 7 (.flo [8,9,10,11] (.fin))))) ?_
  (refine Aa (pks rfl) ?_;(repeat (go_big_quiet_step (fail)));refine oq ?_)
  refine Ar (pks rfl) ?_;intro K_ f;go_wp2_with (go_at_call 172;refine(Td n _).mono ?_;rintro r w3 ⟨rfl,x3⟩;have X3:=j6 (X1.o.trans (XD.trans x3));replace x3:=j6 x3)
  refine An.mk x3.o ?_;clear Q0 XD;refine Ac (pks rfl) ?_;intro K_ f;go_wp2_with (go_at_call 46;refine(tY (q:=q) gs t.m t.Rs n none 0 0 [] _ HA (j6 (HS.o.ext X3.o)) (j6 ok.o.ok.sp) (j6 rfl) (j6 (Sl.nil _ _)) (G.o.ext X3.o)).mono ?_;rintro r w5 ⟨A5,n5,c5,rfl,d5⟩;replace d5:=j6 d5)
  (refine Aa (pks rfl) ?_;(repeat (go_big_quiet_step (fail)));refine oq ?_)
  refine Ad ?_;go_wp2;go_returns;exact⟨_,_,_,rfl,dX d5.o X3.o⟩
def Bl(H:List Hv)(x:Hv):List Hv:=H.map λy=>if y.g=x.g then x else y
def Ga{H:List Hv}{x y:Hv}(h:y∈Bl H x):y=x\/(y∈H/\y.g≠x.g):=by
 have⟨z,hz,e⟩:=AP.1 h;split at e
 ·exact .inl e.symm
 ·rename_i hn;rw[<-e];exact .inr ⟨hz,hn⟩
def cR{H:List Hv}{x y:Hv}(hy:y∈H)(hn:y.g≠x.g):y∈Bl H x:=AP.2 ⟨y,hy,by rw[if_neg hn]⟩
def Ph{H:List Hv}{x y:Hv}(hy:y∈H)(e:y.g=x.g):x∈Bl H x:=AP.2 ⟨y,hy,by rw[if_pos e]⟩
def Sz(H:List Hv)(x:Hv):(Bl H x).map Hv.g=H.map Hv.g:=by
 unfold Bl;rw[CO];exact DZ λy _=>by
  show(if y.g=x.g then x else y).g=y.g;split
  ·rename_i h;exact h.symm
  ·rfl
section
variable{w w':World}{R:Nat->Prop}{gt:Nat}{t:ShM}
def ShR.uniq(h:ShR w R gt t){x y:Hv}(hx:x∈t.H)(hy:y∈t.H)(e:x.g=y.g):x=y:=Iq h.nd hx hy e
def ShR.hd(h:ShR w R gt t){x x':Hv}(hx:x∈t.H)(eg:x'.g=x.g)(ee:x'.ended=x.ended)(u:Upd (λk=>k=x.g) w w')(b:Bk w' x.g 215 (x'.cs gt)):ShR w' R gt { t with H:=Bl t.H x' }:=by
 have⟨hb,hr,hn⟩:=h.hs x hx;have⟨n1,n2⟩:=h.hd_ne hx;refine⟨h.bk.upd u (λe=>n1 e.symm),h.rg,h.sp.upd u (λk hk e=>hn (e▸hk)),h.sub,⟨(u.block t.bm h.pm.lt (λe=>n2 e.symm)).trans h.pm.bk,h.pm.st,h.pm.nb,h.pm.ng,λy hy=>?_⟩,h.rb,λy hy=>?_,h.nt,h.nb,by show((Bl t.H x').map Hv.g).Nodup;rw[Sz];exact h.nd,λy hy=>?_,λy hy he=>?_,λk hk=>AZ (h.low k hk) u.size⟩
 ·have⟨c,hc⟩:=h.pm.hb y hy;by_cases q:y.g=x.g
  ·exact⟨_,q▸b⟩
  ·exact⟨c,hc.upd u q⟩
 ·rcases Ga hy with e|⟨hy,hn'⟩
  ·rw[e,eg];exact⟨b,hr,hn⟩
  ·have⟨b2,r2,q2⟩:=h.hs y hy;exact⟨b2.upd u (λe=>hn' (e.trans eg.symm)),r2,q2⟩
 ·have⟨z,hz,e,he⟩:=h.le y hy;by_cases q:z.g=x.g
  ·have ez:=h.uniq hz hx q;exact⟨x',Ph hx eg.symm,by rw[eg,<-q,e],by rw[ee,<-ez,he]⟩
  ·exact⟨z,cR hz (by rw[eg];exact q),e,he⟩
 ·rcases Ga hy with e|⟨hy,hn'⟩
  ·rw[e,ee]at he;have⟨z,hz,q⟩:=h.lh x hx he;exact⟨z,hz,by rw[e,eg,q]⟩
  ·exact h.lh y hy he
def ShR.put_lets(h:ShR w R gt t)(n:Int):ShR (w.setCell ⟨gt,1,none⟩ (.int .u64 n)) R gt { t with lets:=n }/\Upd R w (w.setCell ⟨gt,1,none⟩ (.int .u64 n)):=by
 have u:Upd (λk=>k=gt) w (w.setCell ⟨gt,1,none⟩ (.int .u64 n)):=(Upd.refl (λk=>k=gt) w).setCell (p:=⟨gt,1,none⟩) (.inl rfl) _;refine⟨⟨h.bk.set 1 _,h.rg,h.sp.upd u (λk hk e=>h.nt (e▸hk)),h.sub,h.pm.upd u (λe=>h.bm_ne e.symm) (λx hx e=>?_),h.rb,λx hx=>?_,h.nt,h.nb,h.nd,h.le,h.lh,λk hk=>AZ (h.low k hk) u.size⟩,u.mono λk _ e=>e▸h.rg⟩
 ·have⟨y,hy,q,_⟩:=h.le x hx;exact(h.hd_ne hy).1 (q.trans e)
 ·have⟨b,r,n⟩:=h.hs x hx;exact⟨b.upd u (h.hd_ne hx).1,r,n⟩
end
def Dj.next{v:TrV}(u:Upd R w w1)(h:Dj w1 R gt v w'):Dj w R gt v w':=by
 obtain⟨t',h1,h2,h3⟩:=h;have z:=u.size;have z2:=h3.size;refine⟨t',h1.wide (λk hk=>hk.elim .inl λq=>.inr ⟨AR z q.1,q.2⟩) (λk hk=>?_),h2,u.trans h3⟩;rcases hk with hk|hk
 ·exact h1.low k (.inl hk)
 ·exact hk.2
def Xz:∀(l:List Int) {a b:Int},a<=b->Kc a l<=Kc b l
 | [],_,_,h=>h
 | y::l,a,b,h=>Xz l (show min a y<=min b y by omega)
def Tk{t:TrV}(h:OkT t){n:Int}(h1:t.lets<=n)(h2:n<=18446744073709551615):OkT { t with lets:=n }:=
 ⟨h.ok,h.S,h.U,⟨DJ h.lets.1 h1,h2⟩,h.hs,DJ h.low (Xz _ h1)⟩
def Sr{t:TrV}(h:OkT t):0<=t.up/\t.up<=18446744073709551615:=by
 have⟨u,hu⟩:=h.U;have:=h.ok.eu (u,[]) (by rw[hu];exact AE.2 rfl);have e:t.up=u:=by unfold TrV.up;rw[hu];rfl
 rw[e];exact this
def Fw(t:TrV)(n:Int):Int×TrV:=if n<t.lets\/t.up<n then (120,t) else (0,Aj { t with lets:=n })
def iT{q:Int×TrV}(gt:Nat)(t:ShM)(R:Nat->Prop)(n:Int)(w:World)(hq:H0 (Fw t.v n=q))(h:H0 (ShR w R gt t))(ok:H0 (OkT t.v)) :
  C3 73 #[.pointer (some ⟨gt,0,none⟩),.int .u64 n] w λe w'=>e=.returned (.int .u16 q.1)/\Dj w R gt q.2 w':=by
 have⟨lt,hl⟩:=tz t.lets;have⟨up,hu⟩:=tz t.v.up;have he:Fw t.v n=if n<lt\/up<n then (120,t.v) else (0,Aj { t.v with lets:=n }):=by rw[<-hl,<-hu];rfl
 have HQ:=j6 (he.symm.trans hq.o);have HM:H0 (∀W:World,Ext w W->C3 173 #[.pointer (some ⟨gt,0,none⟩)] W λe w'=>e=.returned (.int .u64 up)/\Ext W w'):=j6 (λW x=>hu▸Me gt t R W (j6 (h.o.ext x)) ok);have c:=j6 hl;have f:=j6 hu;have c1:w.cell? ⟨gt,1,none⟩=some (.int .u64 lt):=hl▸h.o.bk.cell 1;clear hl hu he hq;by_cases h1:n<lt
 ·have a:q=(120,t.v):=by have:=HQ.o;rw[if_pos (.inl h1)]at this;exact this.symm
  subst a;go_enter func73,ntmps73;go_wp2;go_ret;exact⟨rfl,Dj.stay h.o (Ext.refl _)⟩
 ·by_cases h2:up<n
  ·have a:q=(120,t.v):=by have:=HQ.o;rw[if_pos (.inr h2)]at this;exact this.symm
   subst a;go_enter func73,ntmps73;go_wp2_with (go_at_call 173;refine(HM.o w (Ext.refl _)).mono ?_;rintro r w1 ⟨rfl,x1⟩;have X1:=j6 x1;clear x1)
   go_ret;exact⟨rfl,Dj.stay h.o X1.o⟩
  ·have a:q=(0,Aj { t.v with lets:=n }):=by have:=HQ.o;rw[if_neg (λe=>e.elim h1 h2)]at this;exact this.symm
   subst a;have d:H0 (OkT { t.v with lets:=n }):=j6 (Tk ok.o (by show t.lets<=n;rw[c.o];omega) (by have:=(Sr ok.o).2;have:=f.o;omega));go_enter func73,ntmps73;have m1:=TI;go_wp2_with (first
    | (go_at_call 173;clear m1;refine(HM.o w (Ext.refl _)).mono ?_;rintro r w1 ⟨rfl,x1⟩;have X1:=j6 x1;have g:w1.cell? ⟨gt,1,none⟩=some (.int .u64 lt):=x1.cell c1;have i:=(h.o.bk.ext x1).free 1;have j:=(h.o.bk.ext x1).lt;have HP:=j6 ((h.o.ext x1).put_lets n);clear x1;have m2:=TI)
    | (go_at_call 174;clear m2;refine(Im gt { t with lets:=n } R _ (j6 HP.o.1) d).mono ?_;rintro r w2 ⟨rfl,k2⟩;have K2:H0 (Dj w R gt (Aj { t.v with lets:=n }) w2):=j6 (Dj.next ((Upd.ext X1.o).trans HP.o.2) k2);clear k2)
    | fail)
   go_ret;exact⟨rfl,K2.o⟩
end Go.Proofs.YtdgbkpoickbidaaGreatDoor
