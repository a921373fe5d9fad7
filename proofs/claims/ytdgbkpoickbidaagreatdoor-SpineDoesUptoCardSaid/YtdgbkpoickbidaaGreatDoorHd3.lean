/- Parts of the proof, put together. Conditions: each theorem states its own. -/
import Derived.Test.YtdgbkpoickbidaaGreatDoorHd2
import Derived.Lib.Builder
import Derived.Lib.AppendStr
import Derived.OwnWalk
import Derived.Laws.BytesString
import Derived.Laws.Cells
import Derived.Laws.Concat
set_option maxRecDepth 100000
set_option maxHeartbeats 8000000
open Go.RowKit
namespace Go.Proofs.YtdgbkpoickbidaaGreatDoor
def Kw(b:Bool):Int:=if b then 1 else 0
def Dj(a b:Dat):Int:=if a.k=b.k then (if a.k=2 then Ff (Kw a.b) (Kw b.b) else if a.k=3 then Ff a.n b.n else if a.k=4 then Ng a.s b.s else 0) else Ff a.k b.k
theorem bN(k:Int)(b:Bool)(n:Int)(s:ByteArray)(w:World):Calls Tryz.prog 251 #[.agg #[.int .u8 k,.bool b,.int .i64 n,.string s]] w fun e w'=>e=.returned (.int .i64 (Kw b))/\Ext w w':=by
 cases b;all_goals
  go_enter Tryz.func251,Tryz.ntmps251;go_wp2;go_ret;exact⟨rfl,(Ext.refl w).alloc _⟩
section
variable(ka na kb nb k:Int)(ba bb:Bool)(sa sb:ByteArray)(w:World)
theorem tL(h:¬ka=kb):Calls Tryz.prog 218 #[.agg #[.int .u8 ka,.bool ba,.int .i64 na,.string sa],.agg #[.int .u8 kb,.bool bb,.int .i64 nb,.string sb]] w fun e w'=>e=.returned (.int .i64 (Ff ka kb))/\Ext w w':=by
 have z:(ka != kb)=true:=by simpa using h
 clear h;go_enter Tryz.func218,Tryz.ntmps218;go_wp2_with (go_at_call 250;refine(aC _ _ _).mono ?_;rintro e w1 ⟨rfl,rfl⟩)
 go_ret;exact⟨rfl,((Ext.refl w).alloc _).alloc _⟩
theorem wJ:Calls Tryz.prog 218 #[.agg #[.int .u8 3,.bool ba,.int .i64 na,.string sa],.agg #[.int .u8 3,.bool bb,.int .i64 nb,.string sb]] w fun e w'=>e=.returned (.int .i64 (Ff na nb))/\Ext w w':=by
 go_enter Tryz.func218,Tryz.ntmps218;go_wp2_with (go_at_call 252;refine(fA _ _ _).mono ?_;rintro e w1 ⟨rfl,rfl⟩)
 go_ret;exact⟨rfl,((Ext.refl w).alloc _).alloc _⟩
theorem tK:Calls Tryz.prog 218 #[.agg #[.int .u8 4,.bool ba,.int .i64 na,.string sa],.agg #[.int .u8 4,.bool bb,.int .i64 nb,.string sb]] w fun e w'=>e=.returned (.int .i64 (Ng sa sb))/\Ext w w':=by
 go_enter Tryz.func218,Tryz.ntmps218;go_wp2_with (go_at_call 253;refine(eZ _ _ _).mono ?_;rintro e w1 ⟨rfl,rfl⟩)
 go_ret;exact⟨rfl,((Ext.refl w).alloc _).alloc _⟩
theorem nW(h2:¬k=2)(h3:¬k=3)(h4:¬k=4):Calls Tryz.prog 218 #[.agg #[.int .u8 k,.bool ba,.int .i64 na,.string sa],.agg #[.int .u8 k,.bool bb,.int .i64 nb,.string sb]] w fun e w'=>e=.returned (.int .i64 0)/\Ext w w':=by
 have z:(k != k)=false:=by simp
 have z2:(k==2)=false:=by simpa using h2
 have z3:(k==3)=false:=by simpa using h3
 have z4:(k==4)=false:=by simpa using h4
 go_enter Tryz.func218,Tryz.ntmps218;go_wp2;go_ret;exact⟨rfl,((Ext.refl w).alloc _).alloc _⟩
theorem tO:Calls Tryz.prog 218 #[.agg #[.int .u8 2,.bool ba,.int .i64 na,.string sa],.agg #[.int .u8 2,.bool bb,.int .i64 nb,.string sb]] w fun e w'=>e=.returned (.int .i64 (Ff (Kw ba) (Kw bb)))/\Ext w w':=by
 go_enter Tryz.func218,Tryz.ntmps218
 go_upto_region 6 with fail
 have a0:Bk ((w.alloc (.cells #[.int .u8 2,.bool ba,.int .i64 na,.string sa] 204)).alloc (.cells #[.int .u8 2,.bool bb,.int .i64 nb,.string sb] 204)) w.heap.size 204 #[.int .u8 2,.bool ba,.int .i64 na,.string sa]:=(Bk.new _ _ _).alloc _;have b0:Bk ((w.alloc (.cells #[.int .u8 2,.bool ba,.int .i64 na,.string sa] 204)).alloc (.cells #[.int .u8 2,.bool bb,.int .i64 nb,.string sb] 204)) (w.heap.size+1) 204 #[.int .u8 2,.bool bb,.int .i64 nb,.string sb]:=Bk.at (by simp);have E0:=((Ext.refl w).alloc (.cells #[.int .u8 2,.bool ba,.int .i64 na,.string sa] 204)).alloc (.cells #[.int .u8 2,.bool bb,.int .i64 nb,.string sb] 204);obtain⟨w0,hw0⟩:∃w0,w0=(w.alloc (.cells #[.int .u8 2,.bool ba,.int .i64 na,.string sa] 204)).alloc (.cells #[.int .u8 2,.bool bb,.int .i64 nb,.string sb] 204):=⟨_,rfl⟩;rw[<-hw0]at a0 b0 E0 ⊢;clear hw0;have X:Ext w0 w0.drew:=(Ext.refl w0).drew;have p0:∀y:Xt w0.drew,y.W.cell? ⟨w.heap.size,0,none⟩=some (.int .u8 2):=fun y=>(a0.ext (X.trans y.x)).cell 0;have p1:∀y:Xt w0.drew,y.W.cell? ⟨w.heap.size,1,none⟩=some (.bool ba):=fun y=>(a0.ext (X.trans y.x)).cell 1;have p2:∀y:Xt w0.drew,y.W.cell? ⟨w.heap.size,2,none⟩=some (.int .i64 na):=fun y=>(a0.ext (X.trans y.x)).cell 2;have p3:∀y:Xt w0.drew,y.W.cell? ⟨w.heap.size,3,none⟩=some (.string sa):=fun y=>(a0.ext (X.trans y.x)).cell 3;have q0:∀y:Xt w0.drew,y.W.cell? ⟨w.heap.size+1,0,none⟩=some (.int .u8 2):=fun y=>(b0.ext (X.trans y.x)).cell 0;have q1:∀y:Xt w0.drew,y.W.cell? ⟨w.heap.size+1,1,none⟩=some (.bool bb):=fun y=>(b0.ext (X.trans y.x)).cell 1;have q2:∀y:Xt w0.drew,y.W.cell? ⟨w.heap.size+1,2,none⟩=some (.int .i64 nb):=fun y=>(b0.ext (X.trans y.x)).cell 2;have q3:∀y:Xt w0.drew,y.W.cell? ⟨w.heap.size+1,3,none⟩=some (.string sb):=fun y=>(b0.ext (X.trans y.x)).cell 3;refine wro [0,0,3,0,0,31,63,127] (.flo [0,1,3,4] (.ext 2 (.one 5 (.one 6 (.flo [7] (.fin)))))) ?_
 (refine Aa (pks rfl) ?_;(repeat (go_big_quiet_step (fail)));refine oq ?_)
 refine Bi (pks rfl) ?_;intro K_ hK_;go_wp2_with (go_at_call 251;refine(bN _ _ _ _ _).mono ?_;rintro e w1 ⟨rfl,x1⟩)
 refine Aq.mk x1 ?_;refine Ac (pks rfl) ?_;intro K_ hK_;go_wp2_with (go_at_call 251;refine(bN _ _ _ _ _).mono ?_;rintro e w2 ⟨rfl,x2⟩)
 refine Ac (pks rfl) ?_;intro K_ hK_;go_wp2_with (go_at_call 205;refine(aB _ _ _).mono ?_;rintro e w3 ⟨rfl,rfl⟩)
 (refine Aa (pks rfl) ?_;(repeat (go_big_quiet_step (fail)));refine oq ?_)
 refine Ad ?_;go_wp2;go_ret;exact⟨rfl,((E0.trans X).trans x1).trans x2⟩
end
theorem tE(a b:Dat)(w:World):Calls Tryz.prog 218 #[.agg #[.int .u8 a.k,.bool a.b,.int .i64 a.n,.string a.s],.agg #[.int .u8 b.k,.bool b.b,.int .i64 b.n,.string b.s]] w fun e w'=>e=.returned (.int .i64 (Dj a b))/\Ext w w':=by
 obtain⟨ka,ba,na,sa⟩:=a;obtain⟨kb,bb,nb,sb⟩:=b;unfold Dj;by_cases h:ka=kb
 ·subst h;rw[if_pos rfl];by_cases h2:ka=2
  ·subst h2;rw[if_pos rfl];exact tO na nb ba bb sa sb w
  ·rw[if_neg h2];by_cases h3:ka=3
   ·subst h3;rw[if_pos rfl];exact wJ na nb ba bb sa sb w
   ·rw[if_neg h3];by_cases h4:ka=4
    ·subst h4;rw[if_pos rfl];exact tK na nb ba bb sa sb w
    ·rw[if_neg h4];exact nW na nb ka ba bb sa sb w h2 h3 h4
 ·rw[if_neg h];exact tL ka na kb nb ba bb sa sb w h
def Mq(d:Dat):List Value:=[.int .u8 d.k,.bool d.b,.int .i64 d.n,.string d.s]
def Dc(l:List Dat):List Value:=l.flatMap Mq
def Rw(w:World)(A:Option Addr)(c:Nat)(l:List Dat):Prop:=Sl w 4 A l.length c (Dc l)
theorem bJ(l:List Dat):(Dc l).length=l.length*4:=by
 unfold Dc;induction l with
 | nil=>rfl
 | cons d l ih=>rw[BM,AA,ih,AI,show(Mq d).length=4 from rfl];omega
theorem Kb:∀(l:List Dat) (i j:Nat),i<l.length->j<4->(Dc l)[i*4+j]?=(Mq (l.getD i Dat.zero))[j]?
 | [],i,j,h,_=>absurd h (DQ _)
 | d::l,0,j,_,hj=>by
  unfold Dc;rw[BM,FL,BR,BI (by rw[show(Mq d).length=4 from rfl];exact hj)];rfl
 | d::l,i+1,j,h,hj=>by
  unfold Dc;rw[BM,BD (by rw[show(Mq d).length=4 from rfl];omega),show(i+1)*4+j-(Mq d).length=i*4+j by rw[show(Mq d).length=4 from rfl];omega];exact Kb l i j (EC h) hj
theorem dV(l m:List Dat):Dc (l++m)=Dc l++Dc m:=CS
theorem Wp:∀(l:List Dat) (k:Nat),(Dc l).take (k*4)=Dc (l.take k)
 | [],k=>by simp[Dc]
 | d::l,0=>rfl
 | d::l,k+1=>by
  unfold Dc;rw[BM,List.take_succ_cons,BM,GV,show(Mq d).length=4 from rfl,AT (show(Mq d).length<=(k+1)*4 by rw[show(Mq d).length=4 from rfl];omega),show(k+1)*4-4=k*4 by omega];exact congrArg _ (Wp l k)
theorem Sp(l:List Dat):∀u∈Dc l,u.oneCell'=true:=by
 intro u hu;obtain⟨d,_,h⟩:=DH.1 hu;simp only[Mq,AZ,CU,or_false]at h;rcases h with rfl|rfl|rfl|rfl<;>rfl
section
variable{w w':World}{A:Option Addr}{c:Nat}{l:List Dat}
theorem Rw.ext(h:Rw w A c l)(x:Ext w w'):Rw w' A c l:=Sl.ext h x
theorem Rw.le(h:Rw w A c l):l.length<=9223372036854775807:=Sl.le h
theorem Rw.nil(w:World):Rw w none 0 []:=Sl.nil w 4
theorem Ry(ad:Addr)(i j:Nat)(hj:j≠0):ad.add (i+j)=⟨(ad.add i).block,(ad.add i).off+j,none⟩:=by
 rw[<-Hn];generalize ad.add i=x;unfold Addr.add;rw[if_neg hj]
theorem Rw.at(h:Rw w A c l){i:Nat}(hi:i<l.length):∃ad,A=some ad/\w.cell? (ad.add (i*4))=some (.int .u8 (l.getD i Dat.zero).k)/\w.cell? ⟨(ad.add (i*4)).block,(ad.add (i*4)).off+1,none⟩=some (.bool (l.getD i Dat.zero).b) /\
  w.cell? ⟨(ad.add (i*4)).block,(ad.add (i*4)).off+2,none⟩=some (.int .i64 (l.getD i Dat.zero).n)/\w.cell? ⟨(ad.add (i*4)).block,(ad.add (i*4)).off+3,none⟩=some (.string (l.getD i Dat.zero).s):=by
 obtain⟨ad,e,hc⟩:=h.2.2.2.2 (by omega);refine⟨ad,e,hc _ _ (by rw[<-DV (i*4),Kb l i 0 hi (by omega)];rfl),?_,?_,?_⟩
 ·rw[<-Ry ad _ 1 (by decide)];exact hc _ _ (by rw[Kb l i 1 hi (by omega)];rfl)
 ·rw[<-Ry ad _ 2 (by decide)];exact hc _ _ (by rw[Kb l i 2 hi (by omega)];rfl)
 ·rw[<-Ry ad _ 3 (by decide)];exact hc _ _ (by rw[Kb l i 3 hi (by omega)];rfl)
end
theorem Kp{P:Program}(w:World){t ty e size bytes:Nat}{z:Value}(E:Gj P t e size bytes z)(base g n c0:Nat)(xs:List Value)(hown:Own w base e size (some ⟨g,0,none⟩) n c0 xs)(hc:0<c0)
  (ad:Addr) (m c:Nat) (news:List Value) (hr:Sl w size (some ad) m c news) (hm:0<m) (h1:∀u∈news,u.oneCell'=true) (hroom:n+m<=c0) :
  ∃w',(Builtin.append_ #[t,t] ty #[.slice (some ⟨g,0,none⟩) n c0,.slice (some ad) m c]).run P w=.ok (.slice (some ⟨g,0,none⟩) (n+m) c0) w'/\Own w' base e size (some ⟨g,0,none⟩) (n+m) c0 (xs++news)/\w.grownBy w' (some g):=by
 obtain⟨i,hi,hz,hs,hby⟩:=info_parts E.info;obtain⟨ad',e1,hcells⟩:=hr.2.2.2.2 hm;cases e1;rcases hown.2 with ⟨h2,_⟩|⟨g',cur,e2,hb,hg,hnc,hcm,hcs,htake⟩
 ·omega
 ·cases e2;have hlen:(xs++news).length=(n+m)*size:=by rw[AA,hown.1,hr.1,DE]
  have hfit:n*i.size+news.length<=cur.size:=by rw[hr.1,hs,<-DE];exact AQ (CT _ hroom) hcs
  have hr2:=run_append_room (P:=P) w t ty e i E.under hi g n c0 cur hg ad m c news (by rw[hs];exact hr.1) hcells h1 hroom hfit;refine⟨_,hr2,⟨hlen,.inr ⟨g,_,rfl,hb,setRow_heap w g cur _ e _ hg,hroom,hcm,?_,?_⟩⟩,⟨rfl,rfl,rfl,by simp,fun k _ hk=>setRow_other w g k _ (fun e'=>hk (by rw[e']))⟩⟩
  ·simp only[EI,AA,CA,CQ,DZ];omega
  ·rw[hs,htake,<-hlen];exact DS
theorem Vc{P:Program}(w:World){t ty e size bytes:Nat}{z:Value}(E:Gj P t e size bytes z)(base g n c0:Nat)(xs:List Value)(hown:Own w base e size (some ⟨g,0,none⟩) n c0 xs)(hc:0<c0)
  (A:Option Addr) (m c:Nat) (news:List Value) (hr:Sl w size A m c news) (h1:∀u∈news,u.oneCell'=true) (hroom:n+m<=c0) :
  ∃w',(Builtin.append_ #[t,t] ty #[.slice (some ⟨g,0,none⟩) n c0,.slice A m c]).run P w=.ok (.slice (some ⟨g,0,none⟩) (n+m) c0) w'/\Own w' base e size (some ⟨g,0,none⟩) (n+m) c0 (xs++news)/\w.grownBy w' (some g):=by
 rcases CL m with hm|hm
 ·subst hm;have hnews:news=[]:=AG (by simpa using hr.1);subst hnews;exact⟨w,Fk w E _ n c0 hown.le.1 A c,by simpa using hown,CH w _⟩
 ·obtain⟨ad,rfl,_⟩:=hr.2.2.2.2 hm;exact Kp w E base g n c0 xs hown hc ad m c news hr hm h1 hroom
theorem Vn{P:Program}(w:World){o:Oper}{a:Act}{K:Act->World->Prop}{Q:Exit->Act->World->Prop}{t e size bytes:Nat}{z:Value}(E:Gj P t e size bytes z)(base:Nat)(s x:Operand)
  (ho:o.op=.call { callee:=.builtin .append,args:=#[s,x],argTypes:=#[t,t] })
  (g n c0:Nat) (xs:List Value) (hs:a.eval s=.slice (some ⟨g,0,none⟩) n c0) (hown:Own w base e size (some ⟨g,0,none⟩) n c0 xs) (hc:0<c0)
  (A:Option Addr) (m c:Nat) (news:List Value) (hx:a.eval x=.slice A m c) (hr:Sl w size A m c news) (h1:∀u∈news,u.oneCell'=true) (hroom:n+m<=c0)
  (h:∀w',Own w' base e size (some ⟨g,0,none⟩) (n+m) c0 (xs++news)->w.grownBy w' (some g)->K (a.put o.dst (.slice (some ⟨g,0,none⟩) (n+m) c0)) w'):o.wp P a w K Q:=by
 obtain⟨w',hrun,h2,h3⟩:=Vc (P:=P) (ty:=o.type) w E base g n c0 xs hown hc A m c news hr h1 hroom;unfold Oper.wp execOp;simp only[ho,resolve,invoke,builtin,Sem.run_bind,Sem.run_pure,Result.andThen_ok,FN,CN,EM,hs,hx,hrun];exact h w' h2 h3
theorem Bd{P:Program}(w:World){ops:Array Oper}{rest:List Oper}{o:Oper}{a:Act}{Q:Exit->Act->World->Prop}{t e size bytes:Nat}{z:Value}(E:Gj P t e size bytes z)(base:Nat)(s x:Operand)
  (ho:o.op=.call { callee:=.builtin .append,args:=#[s,x],argTypes:=#[t,t] }) (hgd:o.guard=none)
  (g n c0:Nat) (xs:List Value) (hs:a.eval s=.slice (some ⟨g,0,none⟩) n c0) (hown:Own w base e size (some ⟨g,0,none⟩) n c0 xs) (hc:0<c0)
  (A:Option Addr) (m c:Nat) (news:List Value) (hx:a.eval x=.slice A m c) (hr:Sl w size A m c news) (h1:∀u∈news,u.oneCell'=true) (hroom:n+m<=c0)
  (h:∀w',Own w' base e size (some ⟨g,0,none⟩) (n+m) c0 (xs++news)->w.grownBy w' (some g)->wpList P ops Q rest (a.put o.dst (.slice (some ⟨g,0,none⟩) (n+m) c0)) w'):wpList P ops Q (o::rest) a w :=
 wpList_plain hgd fun _ hK=>Vn w E base s x ho g n c0 xs hs hown hc A m c news hx hr h1 hroom fun w' h2 h3=>hK _ _ (h w' h2 h3)
theorem Tl(w:World)(t:TypeId)(cs:Array Value)(j:Nat)(u:Value)(h:cs.toList[j]?=some u):(w.alloc (.cells cs t)).cell? ((⟨w.heap.size,0,none⟩:Addr).add j)=some u:=by
 rw[show(⟨w.heap.size,0,none⟩:Addr).add j=⟨w.heap.size,j,none⟩by unfold Addr.add;split<;>simp_all,(Bk.new w t cs).cell,<-FM];exact h
theorem Ea(w:World)(t:TypeId)(cs:Array Value)(xs:List Value)(size n:Nat)(hc:cs.toList=xs)(hl:xs.length=n*size)(hn:n<=1000):Sl (w.alloc (.cells cs t)) size (some ⟨w.heap.size,0,none⟩) n n xs :=
 ⟨hl,AD _,by unfold maxLen;omega,(fun h=>nomatch h),fun _=>⟨_,rfl,fun j x hx=>Tl w t cs j x (by rw[hc];exact hx)⟩⟩
theorem Lp:Tryz.prog.underlying 226=some (.slice 5):=by kernel_rfl
theorem Kk:Tryz.prog.underlying 9=some .string:=by kernel_rfl
theorem aN(l m:List UInt8):Lib.byteCells (l++m)=Lib.byteCells l++Lib.byteCells m:=by simp[Lib.byteCells]
theorem Wt:∀(ns:List Int) (r:ByteArray),ns.foldl (fun r n=>r.push (UInt8.ofNat n.toNat)) r=⟨(r.data.toList++ns.map fun n=>UInt8.ofNat n.toNat).toArray⟩
 | [],r=>by simp
 | n::ns,r=>by
  rw[List.foldl_cons,Wt ns];simp
theorem wI{w:World}{t:TypeId}{cs:Array Value}{g:Nat}(hb:Bk w g t cs)(off n cap:Nat)(ns:List Int)(h:(cs.toList.drop off).take n=ns.map (Value.int .u8))(hn:ns.length=n) :
  Sem.run Tryz.prog (convert 226 9 (.slice (some ⟨g,off,none⟩) n cap)) w=.ok (.string ⟨(ns.map fun n=>UInt8.ofNat n.toNat).toArray⟩) w:=by
 rw[run_convert_bytes_string _ _ _ _ _ _ _ Lp Tryz.underlying5 Kk];have hl:(ns.map (Value.int .u8)).length=n:=by simpa using hn
 have hr:=run_loadCells_list (P:=Tryz.prog) (w:=w) ⟨g,off,none⟩ (ns.map (Value.int .u8)) (fun j v hj=>by
  rw[show(⟨g,off,none⟩:Addr).add j=⟨g,off+j,none⟩by unfold Addr.add;split<;>simp_all,hb.cell,<-FM];rw[<-h,EE]at hj;split at hj
  ·rw[GQ]at hj;exact hj
  ·cases hj)
 rw[hl]at hr;rw[run_bytesToString _ _ _ _ ns hr,Wt];rfl
theorem Ur:∀l:List UInt8,l.map ((fun n:Int=>UInt8.ofNat n.toNat) ∘ fun b:UInt8=>(b.toNat:Int))=l
 | []=>rfl
 | b::l=>by rw[CN,Ur l];simp
theorem nH:Gj Tryz.prog 226 5 1 1 (.int .u8 0):=⟨by kernel_rfl,by kernel_rfl,rfl,by decide⟩
def Hh(w:World)(B:Nat)(A:Option Addr)(n c:Nat)(xs:List UInt8):Prop:=Own w B 5 1 A n c (Lib.byteCells xs)/\B<=w.heap.size
section
variable{w w':World}{B n c:Nat}{A:Option Addr}{xs:List UInt8}
theorem Hh.nil(w:World){B:Nat}(h:B<=w.heap.size):Hh w B none 0 0 []:=⟨Own.nil w B _ 1,h⟩
theorem Hh.len(h:Hh w B A n c xs):n=xs.length:=by
 have:=h.1.1;rw[Lib.byteCells_length]at this;omega
theorem Hh.ext(h:Hh w B A n c xs)(x:Ext w w'):Hh w' B A n c xs:=⟨h.1.ext x,AQ h.2 x.size⟩
theorem Hh.alloc(h:Hh w B A n c xs)(o:Obj):Hh (w.alloc o) B A n c xs:=h.ext ((Ext.refl w).alloc o)
theorem Hh.ne(h:Hh w B A n c xs){g:Nat}(hg:w.heap.size<=g):blk A c≠some g:=fun e=>by have:=(h.1.lt g e).2;omega
theorem Wa(ys:List UInt8):∀u∈Lib.byteCells ys,u.oneCell'=true:=by
 intro u hu;obtain⟨y,_,rfl⟩:=AW.1 hu;rfl
theorem yJ(w:World){t:TypeId}{cs:Array Value}{ys:List UInt8}{m:Nat}(hc:cs.toList=Lib.byteCells ys)(hm:ys.length=m)(hb:m<=140737488355328):Sl (w.alloc (.cells cs t)) 1 (some ⟨w.heap.size,0,none⟩) m m (Lib.byteCells ys):=
 ⟨by rw[Lib.byteCells_length];omega,AD _,by unfold maxLen;omega,(fun h=>nomatch h),fun _=>⟨_,rfl,fun j u hu=>Tl w t cs j u (by rw[hc];exact hu)⟩⟩
theorem Bq{ops:Array Oper}{rest:List Oper}{o:Oper}{a:Act}{Q:Exit->Act->World->Prop}(ys:List UInt8){cs:Array Value}{m ad:Nat}(hgd:o.guard=none)(s x:Operand)
  (ho:o.op=.call { callee:=.builtin .append,args:=#[s,x],argTypes:=#[226,226] }) (h:Hh w B A n c xs) (hs:a.eval s=.slice A n c) (hx:a.eval x=.slice (some ⟨ad,0,none⟩) m m) (had:ad=w.heap.size) (hm:ys.length=m) (hc:cs.toList=Lib.byteCells ys)
  (hb:n+m<=140737488355328)
  (k:∀A' n' c' w2,Hh w2 B A' n' c' (xs++ys)->n'=n+m->w.heap.size<=w2.heap.size->Below B w w2->(∀g,g<w.heap.size->blk A c≠some g->blk A' c'≠some g/\w2.heap[g]?=w.heap[g]?)->wpList Tryz.prog ops Q rest (a.put o.dst (.slice A' n' c')) w2) :
  wpList Tryz.prog ops Q (o::rest) a (w.alloc (.cells cs 5)):=by
 subst had;have x1:Ext w (w.alloc (.cells cs 5)):=(Ext.refl w).alloc _;have hx1:w.heap.size+1=(w.alloc (.cells cs 5)).heap.size:=by simp
 refine Ab _ nH B s x ho hgd A n c _ hs (h.1.alloc _) _ m m _ hx (yJ w hc hm (by omega)) (Wa ys) (by rw[EU];exact hb) (by decide) (AQ h.2 x1.size) ?_;intro A' c' w2 h2 h3 h4;have hsz:w.heap.size<=w2.heap.size:=AQ x1.size h3.size;have hbel:Below B w w2:=Below.grown (Below.mono x1 h.2) h3 (AQ h.2 x1.size) (fun g hg=>(h.1.lt g hg).1);refine k A' (n+m) c' w2 ⟨by rw[aN];exact h2,AQ h.2 hsz⟩ rfl hsz hbel (fun g hg hne=>⟨?_,?_⟩)
 ·rcases h4 with ⟨rfl,rfl⟩|⟨h5,_⟩
  ·exact hne
  ·rw[h5,<-hx1];intro e;injection e with e;omega
 ·rw[h3.block g (by omega) (Ne.symm hne)];exact x1.block g hg
end
def be8(m:Nat):List UInt8:=[UInt8.ofNat (m / 2 ^ 56),UInt8.ofNat (m / 2 ^ 48),UInt8.ofNat (m / 2 ^ 40),UInt8.ofNat (m / 2 ^ 32),UInt8.ofNat (m / 2 ^ 24),UInt8.ofNat (m / 2 ^ 16),UInt8.ofNat (m / 2 ^ 8),UInt8.ofNat m]
def Hv(c:UInt8):List UInt8:=if c=0 then [0,255] else [c]
def Ku(d:Dat):List UInt8 :=
 if d.k=1 then [16] else if d.k=2 then [if d.b then 33 else 32] else if d.k=3 then 48::be8 (d.n+9223372036854775808).toNat else if d.k=4 then 64::(d.s.data.toList.flatMap Hv++[0,1]) else []
def Ci(l:List Dat):List UInt8:=l.flatMap Ku
def Ka(w:World)(B:Nat)(r:List UInt8)(e:Ending)(w':World):Prop:=∃A n c,e=.returned (.slice A n c)/\Hh w' B A n c r/\Below B w w'
section
variable(k n:Int)(b:Bool)(s:ByteArray)(A:Option Addr)(m c B:Nat)(xs:List UInt8)(w:World)
theorem rH(h:Hh w B A m c xs)(hm:m<=100000000000000):Calls Tryz.prog 224 #[.slice A m c,.agg #[.int .u8 1,.bool b,.int .i64 n,.string s]] w (Ka w B (xs++[16])):=by
 have HB:=hid h.2;have HO:=hid (h.alloc (.cells #[.int .u8 1,.bool b,.int .i64 n,.string s] 204));clear h;go_enter Tryz.func224,Tryz.ntmps224;go_wp2_with (at_builtin;refine Bq [16] rfl _ _ rfl HO.out rfl rfl (by first|rfl|simp) rfl rfl (by omega) ?_;intro A2 n2 c2 w2 o2 hn hz hbel hne;have O2:=hid o2;clear o2 hn hne)
 go_ret;exact⟨A2,n2,c2,rfl,O2.out,((ES B w).alloc HB.out _).trans hbel⟩
theorem rI(h:Hh w B A m c xs)(hm:m<=100000000000000):Calls Tryz.prog 224 #[.slice A m c,.agg #[.int .u8 2,.bool b,.int .i64 n,.string s]] w (Ka w B (xs++[if b then 33 else 32])):=by
 have HB:=hid h.2;have HO:=hid (h.alloc (.cells #[.int .u8 2,.bool b,.int .i64 n,.string s] 204));clear h;cases b
 ·go_enter Tryz.func224,Tryz.ntmps224;go_wp2_with (at_builtin;refine Bq [32] rfl _ _ rfl HO.out rfl rfl (by first|rfl|simp) rfl rfl (by omega) ?_;intro A2 n2 c2 w2 o2 hn hz hbel hne;have O2:=hid o2;clear o2 hn hne)
  go_ret;exact⟨A2,n2,c2,rfl,O2.out,((ES B w).alloc HB.out _).trans hbel⟩
 ·go_enter Tryz.func224,Tryz.ntmps224;go_wp2_with (at_builtin;refine Bq [33] rfl _ _ rfl HO.out rfl rfl (by first|rfl|simp) rfl rfl (by omega) ?_;intro A2 n2 c2 w2 o2 hn hz hbel hne;have O2:=hid o2;clear o2 hn hne)
  go_ret;exact⟨A2,n2,c2,rfl,O2.out,((ES B w).alloc HB.out _).trans hbel⟩
theorem put_none(h1:¬k=1)(h2:¬k=2)(h3:¬k=3)(h4:¬k=4)(h:Hh w B A m c xs):Calls Tryz.prog 224 #[.slice A m c,.agg #[.int .u8 k,.bool b,.int .i64 n,.string s]] w (Ka w B xs):=by
 have HB:=hid h.2;have HO:=hid (h.alloc (.cells #[.int .u8 k,.bool b,.int .i64 n,.string s] 204));have z1:(k==1)=false:=by simpa using h1
 have z2:(k==2)=false:=by simpa using h2
 have z3:(k==3)=false:=by simpa using h3
 have z4:(k==4)=false:=by simpa using h4
 clear h;go_enter Tryz.func224,Tryz.ntmps224;go_wp2;go_ret;exact⟨A,m,c,rfl,HO.out,(ES B w).alloc HB.out _⟩
theorem uY(hn : -9223372036854775808<=n/\n<=9223372036854775807)(h:Hh w B A m c xs)(hm:m<=100000000000000):Calls Tryz.prog 224 #[.slice A m c,.agg #[.int .u8 3,.bool b,.int .i64 n,.string s]] w (Ka w B (xs++48::be8 (n+9223372036854775808).toNat)):=by
 have HB:=hid h.2;have HO:=hid (h.alloc (.cells #[.int .u8 3,.bool b,.int .i64 n,.string s] 204));have b0:Bk (w.alloc (.cells #[.int .u8 3,.bool b,.int .i64 n,.string s] 204)) w.heap.size 204 #[.int .u8 3,.bool b,.int .i64 n,.string s]:=Bk.new _ _ _;have N0:=hid (h.ne (AD _));clear h;obtain⟨u,hu⟩:∃u,IntKind.u64.wrap n=u:=⟨_,rfl⟩;obtain⟨M,hM⟩:∃M,(n+9223372036854775808).toNat=M:=⟨_,rfl⟩;have q1:IntKind.u64.wrap (u+9223372036854775808)=(M:Int):=by
  rw[<-hu,EX,EX];omega
 have hM64:M<18446744073709551616:=by omega
 obtain⟨y0,hy0⟩:∃y:UInt8,UInt8.ofNat (M / 2 ^ 56)=y:=⟨_,rfl⟩;have w100:(M:Int) / 72057594037927936=(y0.toNat:Int):=by rw[<-hy0,DF];omega
 have HY0:=hid hy0;clear hy0;obtain⟨y1,hy1⟩:∃y:UInt8,UInt8.ofNat (M / 2 ^ 48)=y:=⟨_,rfl⟩;have w101:IntKind.u8.wrap ((M:Int) / 281474976710656)=(y1.toNat:Int):=by rw[<-hy1,DF,EO];omega
 have HY1:=hid hy1;clear hy1;obtain⟨y2,hy2⟩:∃y:UInt8,UInt8.ofNat (M / 2 ^ 40)=y:=⟨_,rfl⟩;have w102:IntKind.u8.wrap ((M:Int) / 1099511627776)=(y2.toNat:Int):=by rw[<-hy2,DF,EO];omega
 have HY2:=hid hy2;clear hy2;obtain⟨y3,hy3⟩:∃y:UInt8,UInt8.ofNat (M / 2 ^ 32)=y:=⟨_,rfl⟩;have w103:IntKind.u8.wrap ((M:Int) / 4294967296)=(y3.toNat:Int):=by rw[<-hy3,DF,EO];omega
 have HY3:=hid hy3;clear hy3;obtain⟨y4,hy4⟩:∃y:UInt8,UInt8.ofNat (M / 2 ^ 24)=y:=⟨_,rfl⟩;have w104:IntKind.u8.wrap ((M:Int) / 16777216)=(y4.toNat:Int):=by rw[<-hy4,DF,EO];omega
 have HY4:=hid hy4;clear hy4;obtain⟨y5,hy5⟩:∃y:UInt8,UInt8.ofNat (M / 2 ^ 16)=y:=⟨_,rfl⟩;have w105:IntKind.u8.wrap ((M:Int) / 65536)=(y5.toNat:Int):=by rw[<-hy5,DF,EO];omega
 have HY5:=hid hy5;clear hy5;obtain⟨y6,hy6⟩:∃y:UInt8,UInt8.ofNat (M / 2 ^ 8)=y:=⟨_,rfl⟩;have w106:IntKind.u8.wrap ((M:Int) / 256)=(y6.toNat:Int):=by rw[<-hy6,DF,EO];omega
 have HY6:=hid hy6;clear hy6;obtain⟨y7,hy7⟩:∃y:UInt8,UInt8.ofNat (M)=y:=⟨_,rfl⟩;have w107:IntKind.u8.wrap ((M:Int))=(y7.toNat:Int):=by rw[<-hy7,DF,EO];omega
 have HY7:=hid hy7;clear hy7;rw[hM];have HBE:Hid (be8 M=[y0,y1,y2,y3,y4,y5,y6,y7]):=hid (by unfold be8;rw[HY0.out,HY1.out,HY2.out,HY3.out,HY4.out,HY5.out,HY6.out,HY7.out]);rw[HBE.out];clear hM hn HBE HY0 HY1 HY2 HY3 HY4 HY5 HY6 HY7;go_enter Tryz.func224,Tryz.ntmps224;go_wp2_with (at_builtin;refine Bq [48] rfl _ _ rfl HO.out rfl rfl (by first|rfl|simp) rfl rfl (by omega) ?_;intro A1 n1 c1 w1 o1 hn1 hz1 hbel1 hne1;have O1:=hid o1;have b1:Bk w1 w.heap.size 204 #[.int .u8 3,.bool b,.int .i64 n,.string s]:=(hne1 w.heap.size (by first|omega|(simp;done)|(simp;omega)) N0.out).2.trans b0;have N1:=hid (hne1 w.heap.size (by first|omega|(simp;done)|(simp;omega)) N0.out).1;have L1:n1<=100000000000001:=(by omega);have S1:w.heap.size<w1.heap.size:=b1.lt;have X1:=hid (((ES B w).alloc HB.out _).trans hbel1);have p1:w1.cell? ⟨w.heap.size,2,none⟩=some (.int .i64 n):=b1.cell 2;clear o1 hn1 hz1 hbel1 hne1)
 refine wp_loop_rounds 9 ?_;rw[rounds_succ];go_wp2_with (at_builtin;refine Bq [y0] rfl _ _ rfl O1.out rfl rfl (by first|rfl|simp) rfl rfl (by omega) ?_;intro A2 n2 c2 w2 o2 hn2 hz2 hbel2 hne2;have O2:=hid o2;have b2:Bk w2 w.heap.size 204 #[.int .u8 3,.bool b,.int .i64 n,.string s]:=(hne2 w.heap.size (by first|omega|(simp;done)|(simp;omega)) N1.out).2.trans b1;have N2:=hid (hne2 w.heap.size (by first|omega|(simp;done)|(simp;omega)) N1.out).1;have L2:n2<=100000000000002:=(by omega);have S2:w.heap.size<w2.heap.size:=b2.lt;have X2:=hid (X1.out.trans hbel2);have p2:w2.cell? ⟨w.heap.size,2,none⟩=some (.int .i64 n):=b2.cell 2;clear o2 hn2 hz2 hbel2 hne2)
 rw[rounds_succ];go_wp2_with (at_builtin;refine Bq [y1] rfl _ _ rfl O2.out rfl rfl (by first|rfl|simp) rfl rfl (by omega) ?_;intro A3 n3 c3 w3 o3 hn3 hz3 hbel3 hne3;have O3:=hid o3;have b3:Bk w3 w.heap.size 204 #[.int .u8 3,.bool b,.int .i64 n,.string s]:=(hne3 w.heap.size (by first|omega|(simp;done)|(simp;omega)) N2.out).2.trans b2;have N3:=hid (hne3 w.heap.size (by first|omega|(simp;done)|(simp;omega)) N2.out).1;have L3:n3<=100000000000003:=(by omega);have S3:w.heap.size<w3.heap.size:=b3.lt;have X3:=hid (X2.out.trans hbel3);have p3:w3.cell? ⟨w.heap.size,2,none⟩=some (.int .i64 n):=b3.cell 2;clear o3 hn3 hz3 hbel3 hne3)
 rw[rounds_succ];go_wp2_with (at_builtin;refine Bq [y2] rfl _ _ rfl O3.out rfl rfl (by first|rfl|simp) rfl rfl (by omega) ?_;intro A4 n4 c4 w4 o4 hn4 hz4 hbel4 hne4;have O4:=hid o4;have b4:Bk w4 w.heap.size 204 #[.int .u8 3,.bool b,.int .i64 n,.string s]:=(hne4 w.heap.size (by first|omega|(simp;done)|(simp;omega)) N3.out).2.trans b3;have N4:=hid (hne4 w.heap.size (by first|omega|(simp;done)|(simp;omega)) N3.out).1;have L4:n4<=100000000000004:=(by omega);have S4:w.heap.size<w4.heap.size:=b4.lt;have X4:=hid (X3.out.trans hbel4);have p4:w4.cell? ⟨w.heap.size,2,none⟩=some (.int .i64 n):=b4.cell 2;clear o4 hn4 hz4 hbel4 hne4)
 rw[rounds_succ];go_wp2_with (at_builtin;refine Bq [y3] rfl _ _ rfl O4.out rfl rfl (by first|rfl|simp) rfl rfl (by omega) ?_;intro A5 n5 c5 w5 o5 hn5 hz5 hbel5 hne5;have O5:=hid o5;have b5:Bk w5 w.heap.size 204 #[.int .u8 3,.bool b,.int .i64 n,.string s]:=(hne5 w.heap.size (by first|omega|(simp;done)|(simp;omega)) N4.out).2.trans b4;have N5:=hid (hne5 w.heap.size (by first|omega|(simp;done)|(simp;omega)) N4.out).1;have L5:n5<=100000000000005:=(by omega);have S5:w.heap.size<w5.heap.size:=b5.lt;have X5:=hid (X4.out.trans hbel5);have p5:w5.cell? ⟨w.heap.size,2,none⟩=some (.int .i64 n):=b5.cell 2;clear o5 hn5 hz5 hbel5 hne5)
 rw[rounds_succ];go_wp2_with (at_builtin;refine Bq [y4] rfl _ _ rfl O5.out rfl rfl (by first|rfl|simp) rfl rfl (by omega) ?_;intro A6 n6 c6 w6 o6 hn6 hz6 hbel6 hne6;have O6:=hid o6;have b6:Bk w6 w.heap.size 204 #[.int .u8 3,.bool b,.int .i64 n,.string s]:=(hne6 w.heap.size (by first|omega|(simp;done)|(simp;omega)) N5.out).2.trans b5;have N6:=hid (hne6 w.heap.size (by first|omega|(simp;done)|(simp;omega)) N5.out).1;have L6:n6<=100000000000006:=(by omega);have S6:w.heap.size<w6.heap.size:=b6.lt;have X6:=hid (X5.out.trans hbel6);have p6:w6.cell? ⟨w.heap.size,2,none⟩=some (.int .i64 n):=b6.cell 2;clear o6 hn6 hz6 hbel6 hne6)
 rw[rounds_succ];go_wp2_with (at_builtin;refine Bq [y5] rfl _ _ rfl O6.out rfl rfl (by first|rfl|simp) rfl rfl (by omega) ?_;intro A7 n7 c7 w7 o7 hn7 hz7 hbel7 hne7;have O7:=hid o7;have b7:Bk w7 w.heap.size 204 #[.int .u8 3,.bool b,.int .i64 n,.string s]:=(hne7 w.heap.size (by first|omega|(simp;done)|(simp;omega)) N6.out).2.trans b6;have N7:=hid (hne7 w.heap.size (by first|omega|(simp;done)|(simp;omega)) N6.out).1;have L7:n7<=100000000000007:=(by omega);have S7:w.heap.size<w7.heap.size:=b7.lt;have X7:=hid (X6.out.trans hbel7);have p7:w7.cell? ⟨w.heap.size,2,none⟩=some (.int .i64 n):=b7.cell 2;clear o7 hn7 hz7 hbel7 hne7)
 rw[rounds_succ];go_wp2_with (at_builtin;refine Bq [y6] rfl _ _ rfl O7.out rfl rfl (by first|rfl|simp) rfl rfl (by omega) ?_;intro A8 n8 c8 w8 o8 hn8 hz8 hbel8 hne8;have O8:=hid o8;have b8:Bk w8 w.heap.size 204 #[.int .u8 3,.bool b,.int .i64 n,.string s]:=(hne8 w.heap.size (by first|omega|(simp;done)|(simp;omega)) N7.out).2.trans b7;have N8:=hid (hne8 w.heap.size (by first|omega|(simp;done)|(simp;omega)) N7.out).1;have L8:n8<=100000000000008:=(by omega);have S8:w.heap.size<w8.heap.size:=b8.lt;have X8:=hid (X7.out.trans hbel8);have p8:w8.cell? ⟨w.heap.size,2,none⟩=some (.int .i64 n):=b8.cell 2;clear o8 hn8 hz8 hbel8 hne8)
 rw[rounds_succ];go_wp2_with (at_builtin;refine Bq [y7] rfl _ _ rfl O8.out rfl rfl (by first|rfl|simp) rfl rfl (by omega) ?_;intro A9 n9 c9 w9 o9 hn9 hz9 hbel9 hne9;have O9:=hid o9;have b9:Bk w9 w.heap.size 204 #[.int .u8 3,.bool b,.int .i64 n,.string s]:=(hne9 w.heap.size (by first|omega|(simp;done)|(simp;omega)) N8.out).2.trans b8;have N9:=hid (hne9 w.heap.size (by first|omega|(simp;done)|(simp;omega)) N8.out).1;have L9:n9<=100000000000009:=(by omega);have S9:w.heap.size<w9.heap.size:=b9.lt;have X9:=hid (X8.out.trans hbel9);have p9:w9.cell? ⟨w.heap.size,2,none⟩=some (.int .i64 n):=b9.cell 2;clear o9 hn9 hz9 hbel9 hne9)
 rw[rounds_succ];go_wp2;go_ret;exact⟨A9,n9,c9,rfl,by have:=O9.out;simp only[AJ,CD,BC]at this;exact this,X9.out⟩
theorem sR(c:UInt8):(Hv c).length<=2:=by
 unfold Hv;split
 ·exact AD _
 ·exact Nat.le_succ _
theorem Nb(l:List UInt8):(l.flatMap Hv).length<=2*l.length:=by
 induction l with
 | nil=>exact AD _
 | cons c l ih =>
  have:=sR c;rw[BM,AA,AI];omega
theorem zQ{s:ByteArray}{k:Nat}(h:k<s.size):(s.data.toList.take (k+1)).flatMap Hv=(s.data.toList.take k).flatMap Hv++Hv s[k]:=by
 have h':k<s.data.toList.length:=by simpa using h
 have e:s.data.toList.take (k+1)=s.data.toList.take k++[s[k]]:=by rw[BQ h'];rfl
 rw[e,CS];simp
theorem rG(hs:s.size<=10000000000000)(h:Hh w B A m c xs)(hm:m<=100000000000000):Calls Tryz.prog 224 #[.slice A m c,.agg #[.int .u8 4,.bool b,.int .i64 n,.string s]] w (Ka w B (xs++64::(s.data.toList.flatMap Hv++[0,1]))):=by
 have HB:=hid h.2;have HO:=hid (h.alloc (.cells #[.int .u8 4,.bool b,.int .i64 n,.string s] 204));have b0:Bk (w.alloc (.cells #[.int .u8 4,.bool b,.int .i64 n,.string s] 204)) w.heap.size 204 #[.int .u8 4,.bool b,.int .i64 n,.string s]:=Bk.new _ _ _;have N0:=hid (h.ne (AD _));have HLx:Hid (xs.length=m):=hid h.len.symm;clear h;go_enter Tryz.func224,Tryz.ntmps224;go_wp2_with (at_builtin;refine Bq [64] rfl _ _ rfl HO.out rfl rfl (by first|rfl|simp) rfl rfl (by omega) ?_;intro A1 n1 c1 w1 o1 hn1 hz1 hbel1 hne1;have O1:=hid o1;have b1:Bk w1 w.heap.size 204 #[.int .u8 4,.bool b,.int .i64 n,.string s]:=(hne1 w.heap.size (by first|omega|(simp;done)|(simp;omega)) N0.out).2.trans b0;have N1:=hid (hne1 w.heap.size (by first|omega|(simp;done)|(simp;omega)) N0.out).1;have L1:n1<=100000000000001:=(by omega);have S1:w.heap.size<w1.heap.size:=b1.lt;have X1:=hid (((ES B w).alloc HB.out _).trans hbel1);have p1:w1.cell? ⟨w.heap.size,3,none⟩=some (.string s):=b1.cell 3;clear o1 hn1 hz1 hbel1 hne1)
 go_loopw [0,52] (fun u v wr=>∃(k n0 c0:Nat) (A0:Option Addr),k<=s.size/\v=.int .i64 k/\u=.slice A0 n0 c0/\Hid (Hh wr B A0 n0 c0 (xs++64::(s.data.toList.take k).flatMap Hv))/\Bk wr w.heap.size 204 #[.int .u8 4,.bool b,.int .i64 n,.string s]/\Hid (blk A0 c0≠some w.heap.size)/\Hid (Below B w wr)) (fun _ v _=>s.size-(intOf v).toNat)
 case atStart=>exact⟨0,n1,c1,A1,AE _,rfl,rfl,O1,b1,N1,X1⟩
 case round =>
  obtain⟨k,n2,c2,A2,hk,rfl,rfl,O2,b2,N2,X2⟩:=hrel;have L2:n2<=130000000000000:=by
   have h1:=O2.out.len;have h2:=Nb (s.data.toList.take k);have h3:(s.data.toList.take k).length<=k:=List.length_take_le _ _;rw[AA,HLx.out,AI]at h1;omega
  have p2:wr.cell? ⟨w.heap.size,3,none⟩=some (.string s):=b2.cell 3;have S2:w.heap.size<wr.heap.size:=b2.lt;by_cases hlt:k<s.size
  ·have HT:=hid (zQ hlt);by_cases hz:s[k].toNat=0
   ·have HE:Hid (Hv s[k]=[0,255]):=hid (by rw[show s[k]=0 from GI.1 hz];rfl);have m1:True:=trivial;go_wp2_with (first
     | (have z:=m1;clear z m1;at_builtin;refine Bq [0] rfl _ _ rfl O2.out rfl rfl (by first|rfl|simp) rfl rfl (by omega) ?_;intro A3 n3 c3 w3 o3 hn3 hz3 hbel3 hne3;have O3:=hid o3;have b3:Bk w3 w.heap.size 204 #[.int .u8 4,.bool b,.int .i64 n,.string s]:=(hne3 w.heap.size (by first|omega|(simp;done)|(simp;omega)) N2.out).2.trans b2;have N3:=hid (hne3 w.heap.size (by first|omega|(simp;done)|(simp;omega)) N2.out).1;have L3:n3<=130000000000001:=(by omega);have S3:w.heap.size<w3.heap.size:=b3.lt;have X3:=hid (X2.out.trans hbel3);have p3:w3.cell? ⟨w.heap.size,3,none⟩=some (.string s):=b3.cell 3;clear o3 hn3 hz3 hbel3 hne3;have m2:True:=trivial)
     | (have z:=m2;clear z m2;at_builtin;refine Bq [255] rfl _ _ rfl O3.out rfl rfl (by first|rfl|simp) rfl rfl (by omega) ?_;intro A4 n4 c4 w4 o4 hn4 hz4 hbel4 hne4;have O4:=hid o4;have b4:Bk w4 w.heap.size 204 #[.int .u8 4,.bool b,.int .i64 n,.string s]:=(hne4 w.heap.size (by first|omega|(simp;done)|(simp;omega)) N3.out).2.trans b3;have N4:=hid (hne4 w.heap.size (by first|omega|(simp;done)|(simp;omega)) N3.out).1;have L4:n4<=130000000000002:=(by omega);have S4:w.heap.size<w4.heap.size:=b4.lt;have X4:=hid (X3.out.trans hbel4);have p4:w4.cell? ⟨w.heap.size,3,none⟩=some (.string s):=b4.cell 3;clear o4 hn4 hz4 hbel4 hne4))
    go_roundw
    case rel=>exact⟨k+1,n4,c4,A4,by omega,by go_num,rfl,hid (by have:=O4.out;rw[HT.out,HE.out];simp only[AJ,CD,BC]at this ⊢;exact this),b4,N4,X4⟩
    case measure=>simp[intOf];omega
   ·have z0:((s[k].toNat:Int)==0)=false:=by simp;omega
    have HE:Hid (Hv s[k]=[s[k]]):=hid (by unfold Hv;rw[if_neg (fun e=>hz (by rw[e];rfl))]);go_wp2_with (at_builtin;refine Bq [s[k]] rfl _ _ rfl O2.out rfl rfl (by first|rfl|simp) rfl rfl (by omega) ?_;intro A3 n3 c3 w3 o3 hn3 hz3 hbel3 hne3;have O3:=hid o3;have b3:Bk w3 w.heap.size 204 #[.int .u8 4,.bool b,.int .i64 n,.string s]:=(hne3 w.heap.size (by first|omega|(simp;done)|(simp;omega)) N2.out).2.trans b2;have N3:=hid (hne3 w.heap.size (by first|omega|(simp;done)|(simp;omega)) N2.out).1;have L3:n3<=130000000000001:=(by omega);have S3:w.heap.size<w3.heap.size:=b3.lt;have X3:=hid (X2.out.trans hbel3);have p3:w3.cell? ⟨w.heap.size,3,none⟩=some (.string s):=b3.cell 3;clear o3 hn3 hz3 hbel3 hne3)
    go_roundw
    case rel=>exact⟨k+1,n3,c3,A3,by omega,by go_num,rfl,hid (by have:=O3.out;rw[HT.out,HE.out];simp only[AJ,CD,BC]at this ⊢;exact this),b3,N3,X3⟩
    case measure=>simp[intOf];omega
  ·have hks:k=s.size:=by omega
   have HTk:Hid (s.data.toList.take k=s.data.toList):=hid (AT (by simp;omega));clear hks;go_wp2_with (at_builtin;refine Bq [0,1] rfl _ _ rfl O2.out rfl rfl (by first|rfl|simp) rfl rfl (by omega) ?_;intro A5 n5 c5 w5 o5 hn5 hz5 hbel5 hne5;have O5:=hid o5;have X5:=hid (X2.out.trans hbel5);clear o5 hn5 hz5 hbel5 hne5)
   go_ret;exact⟨A5,n5,c5,rfl,by have:=O5.out;rw[HTk.out]at this;simp only[AJ,CD,BC]at this ⊢;exact this,X5.out⟩
theorem uZ(d:Dat)(hn : -9223372036854775808<=d.n/\d.n<=9223372036854775807)(hs:d.s.size<=10000000000000)(h:Hh w B A m c xs)(hm:m<=100000000000000) :
  Calls Tryz.prog 224 #[.slice A m c,.agg #[.int .u8 d.k,.bool d.b,.int .i64 d.n,.string d.s]] w (Ka w B (xs++Ku d)):=by
 obtain⟨k,b,n,s⟩:=d;unfold Ku;by_cases h1:k=1
 ·subst h1;exact rH n b s A m c B xs w h hm
 rw[if_neg h1];by_cases h2:k=2
 ·subst h2;exact rI n b s A m c B xs w h hm
 rw[if_neg h2];by_cases h3:k=3
 ·subst h3;exact uY n b s A m c B xs w hn h hm
 rw[if_neg h3];by_cases h4:k=4
 ·subst h4;exact rG n b s A m c B xs w hs h hm
 rw[if_neg h4,AP];exact put_none k n b s A m c B xs w h1 h2 h3 h4 h
end
def Dw:List Dat->Int
 | []=>0
 | d::l=>if d.check=0 then Dw l else d.check
def Bl(l:List Dat):Int:=if 32<l.length then 20 else Dw l
theorem Rc{l:List Dat}{i:Nat}(h:i<l.length):Dw (l.drop i)=if (l.getD i Dat.zero).check=0 then Dw (l.drop (i+1)) else (l.getD i Dat.zero).check:=by
 rw[BY h,AB,AC h];rfl
theorem Xj:∀l:List Dat,Dw l=0 ↔ ∀d∈l,d.check=0
 | []=>⟨fun _ d h=>(nomatch h),fun _=>rfl⟩
 | d::l=>by
  unfold Dw;by_cases h:d.check=0
  ·rw[if_pos h,Xj l];exact⟨fun q x hx=>(AZ.1 hx).elim (fun e=>e▸h) (q x),fun q x hx=>q x (BN _ hx)⟩
  ·rw[if_neg h];exact⟨fun q=>absurd q h,fun q=>absurd (q d (BE ..)) h⟩
theorem Mo(l:List Dat):Bl l=0↔l.length<=32/\∀d∈l,d.check=0:=by
 unfold Bl;split
 ·exact⟨fun h=>absurd h (by decide),fun h=>absurd h.1 (by omega)⟩
 ·rw[Xj];exact⟨fun h=>⟨by omega,h⟩,fun h=>h.2⟩
def Od(l:List Dat):Prop:=∀d∈l,d.s.size<=9223372036854775807
theorem Od.at{l:List Dat}(h:Od l){i:Nat}(hi:i<l.length):(l.getD i Dat.zero).s.size<=9223372036854775807:=by
 rw[AB,AC hi];exact h _ (BP hi)
theorem Uq{c:Int}(k n:Int)(b:Bool)(s:ByteArray)(w:World)(h:Hid (Dat.check ⟨k,b,n,s⟩=c))(hs:s.size<=9223372036854775807)(G:Good w) :
  Calls Tryz.prog 211 #[.agg #[.int .u8 k,.bool b,.int .i64 n,.string s]] w fun e w'=>e=.returned (.int .u16 c)/\Ext w w':=h.out▸oA k b n s w hs G
theorem Zi(A:Option Addr)(c n:Nat)(l:List Dat)(w:World)(e1:n=l.length)(h1:Rw w A c l)(ht:Od l)(G:Good w) :
  Calls Tryz.prog 154 #[.slice A n c] w fun e w'=>e=.returned (.int .u16 (Bl l))/\Ext w w':=by
 have E1:=hid e1;have hl1:=h1.le;rw[<-e1]at hl1;have H1:=hid h1;have HT:=hid ht;clear e1 h1 ht;by_cases h32:32<n
 ·have HR:Hid (Bl l=20):=hid (by unfold Bl;rw[if_pos (by rw[<-E1.out];exact h32)]);go_enter Tryz.func154,Tryz.ntmps154;go_wp2;go_ret;exact⟨(by rw[HR.out];rfl),Ext.refl w⟩
 have HR:Hid (Bl l=Dw l):=hid (by unfold Bl;rw[if_neg (by rw[<-E1.out];exact h32)]);go_enter Tryz.func154,Tryz.ntmps154;go_wp2
 go_loopw [11] (fun v wr=>∃i:Nat,i<=n/\v=.int .i64 i/\Hid (Dw (l.drop i)=Dw l)/\Ext w wr) (fun v _=>n-(intOf v).toNat)
 case atStart=>exact⟨0,AE _,rfl,hid rfl,Ext.refl _⟩
 case round =>
  obtain⟨i,hi,rfl,hr,er⟩:=hrel;have hsz:=er.size;by_cases hlt:i<n
  ·have hil:i<l.length:=by rw[<-E1.out];exact hlt
   obtain⟨a1,rfl,p0,p1,p2,p3⟩:=(H1.out.ext er).at hil;have hts:=HT.out.at hil;have HS0:=hid (Rc hil);obtain⟨d,hd⟩:∃d,l.getD i Dat.zero=d:=⟨_,rfl⟩;rw[hd]at p0 p1 p2 p3 hts HS0;clear hil hd;obtain⟨v,hv⟩:∃v,d.check=v:=⟨_,rfl⟩;have HS:Hid (Dw l=if v=0 then Dw (l.drop (i+1)) else v):=hid (by rw[<-hr.out,HS0.out,hv]);clear HS0 hr;obtain⟨ka,ba,na,sa⟩:=d;simp only at p0 p1 p2 p3 hts;have HV:=hid hv;clear hv;have GW:=hid (G.ext (er.alloc (.cells #[.int .u8 ka,.bool ba,.int .i64 na,.string sa] 204)));by_cases hv0:v=0
   ·subst hv0;go_wp2_with (go_at_call 211;refine(Uq _ _ _ _ _ HV hts GW.out).mono ?_;rintro e w1 ⟨rfl,x1⟩)
    go_roundw
    case rel=>exact⟨i+1,by omega,by go_num,hid (by rw[HS.out];simp),(er.alloc _).trans x1⟩
    case measure=>simp[intOf];omega
   ·have z:(v != 0)=true:=by simpa using hv0
    have HZ:=hid hv0;clear hv0;go_wp2_with (go_at_call 211;refine(Uq _ _ _ _ _ HV hts GW.out).mono ?_;rintro e w1 ⟨rfl,x1⟩)
    go_ret;exact⟨(by rw[HR.out,HS.out,if_neg HZ.out];rfl),(er.alloc _).trans x1⟩
  ·obtain rfl:i=n:=by omega
   have HT2:Hid (Dw l=0):=hid (by rw[<-hr.out,CM (by rw[<-E1.out];exact AD _)];rfl);clear hr;go_wp2;go_ret;exact⟨(by rw[HR.out,HT2.out];rfl),er⟩
def Oe(l:List Dat):Prop:=∀d∈l, -9223372036854775808<=d.n/\d.n<=9223372036854775807
theorem Oe.at{l:List Dat}(h:Oe l){i:Nat}(hi:i<l.length) : -9223372036854775808<=(l.getD i Dat.zero).n/\(l.getD i Dat.zero).n<=9223372036854775807:=by
 rw[AB,AC hi];exact h _ (BP hi)
theorem Lx{d:Dat}(h:d.check=0):d.s.size<=1000:=by
 unfold Dat.check Hs at h
 repeat' split at h
 all_goals first|omega|exact absurd h (by decide)
theorem rJ{d:Dat}(h:d.s.size<=1000):(Ku d).length<=2100:=by
 unfold Ku
 repeat' split
 all_goals first|(simp[be8];done)|skip
 have h1:=Nb d.s.data.toList;have h2:d.s.data.toList.length=d.s.size:=by simp
 rw[AI,AA];simp only[AI,CB];omega
theorem Sz:∀l:List Dat,(∀d∈l,d.s.size<=1000)->(Ci l).length<=2100*l.length
 | [],_=>AD _
 | d::l,h=>by
  have h1:=rJ (h d (BE ..));have h2:=Sz l (fun x hx=>h x (BN _ hx));unfold Ci at h2 ⊢;rw[BM,AA,AI];omega
theorem mY{l:List Dat}{i:Nat}(h:i<l.length):Ci (l.take (i+1))=Ci (l.take i)++Ku (l.getD i Dat.zero):=by
 unfold Ci;rw[BQ h,CS,AB,AC h];simp
theorem uX(k n:Int)(b:Bool)(s:ByteArray)(A:Option Addr)(m c B:Nat)(xs r:List UInt8)(w:World)(hr:Hid (xs++Ku ⟨k,b,n,s⟩=r))(hn : -9223372036854775808<=n/\n<=9223372036854775807)(hs:s.size<=1000)(h:Hh w B A m c xs)(hm:m<=100000000000000) :
  Calls Tryz.prog 224 #[.slice A m c,.agg #[.int .u8 k,.bool b,.int .i64 n,.string s]] w (Ka w B r):=hr.out▸uZ A m c B xs w ⟨k,b,n,s⟩ hn (by show s.size<=_;omega) h hm
theorem vP(A:Option Addr)(c n:Nat)(l:List Dat)(w:World)(e1:n=l.length)(h1:Rw w A c l)(hi:Oe l)(hk:Bl l=0) :
  Calls Tryz.prog 186 #[.slice A n c] w (Ka w w.heap.size (Ci l)):=by
 obtain⟨h32,hck⟩:=(Mo l).1 hk;have hsz:∀d∈l,d.s.size<=1000:=fun d hd=>Lx (hck d hd);have E1:=hid e1;have hn32:n<=32:=by omega
 have H1:=hid h1;have HI:=hid hi;have HZ:=hid hsz;clear e1 h1 hi hk h32 hck hsz;go_enter Tryz.func186,Tryz.ntmps186;go_wp2
 go_loopw [3,8] (fun u v wr=>∃(i n0 c0:Nat) (A0:Option Addr),i<=n/\v=.int .i64 i/\u=.slice A0 n0 c0/\Hid (Hh wr w.heap.size A0 n0 c0 (Ci (l.take i)))/\Ext w wr) (fun _ v _=>n-(intOf v).toNat)
 case atStart=>exact⟨0,0,0,none,AE _,rfl,rfl,hid (Hh.nil w (AD _)),Ext.refl w⟩
 case round =>
  obtain⟨i,n0,c0,A0,hi,rfl,rfl,O0,er⟩:=hrel;have hsz:=er.size;by_cases hlt:i<n
  ·have hil:i<l.length:=by rw[<-E1.out];exact hlt
   have L0:n0<=70000:=by
    have a1:=O0.out.len;have a2:=Sz (l.take i) (fun d hd=>HZ.out d (CF hd));have a3:(l.take i).length<=i:=List.length_take_le _ _;omega
   obtain⟨a1,rfl,p0,p1,p2,p3⟩:=(H1.out.ext er).at hil;have hin:=HI.out.at hil;have hss:(l.getD i Dat.zero).s.size<=1000:=by
    rw[AB,AC hil];exact HZ.out _ (BP hil)
   have HS0:=hid (mY hil);obtain⟨d,hd⟩:∃d,l.getD i Dat.zero=d:=⟨_,rfl⟩;rw[hd]at p0 p1 p2 p3 hin hss HS0;clear hil hd;obtain⟨ka,ba,na,sa⟩:=d;simp only at p0 p1 p2 p3 hin hss;have HIN:=hid hin;clear hin;go_wp2_with (go_at_call 224;refine(uX _ _ _ _ A0 n0 c0 w.heap.size _ _ _ (hid HS0.out.symm) HIN.out hss (O0.out.alloc _) (by omega)).mono ?_;rintro e w1 ⟨A1,n1,c1,rfl,o1,b1⟩;have O1:=hid o1;clear o1)
   go_roundw
   case rel=>exact⟨i+1,n1,c1,A1,by omega,by go_num,rfl,O1,GO (er.alloc _) b1⟩
   case measure=>simp[intOf];omega
  ·obtain rfl:i=n:=by omega
   have HT:Hid (l.take i=l):=hid (AT (by rw[<-E1.out];exact AD _));go_wp2;go_ret;exact⟨A0,n0,c0,rfl,by have:=O0.out;rw[HT.out]at this;exact this,er⟩
def As:List Dat->List Dat->Int
 | [],[]=>0
 | [],_::_ => -1
 | _::_,[]=>1
 | a::l,b::m=>if Dj a b=0 then As l m else Dj a b
theorem Xg{l m:List Dat}{i:Nat}(h1:i<l.length)(h2:i<m.length):As (l.drop i) (m.drop i)=if Dj (l.getD i Dat.zero) (m.getD i Dat.zero)=0 then As (l.drop (i+1)) (m.drop (i+1)) else Dj (l.getD i Dat.zero) (m.getD i Dat.zero):=by
 rw[BY h1,BY h2,AB,AB,AC h1,AC h2];rfl
theorem cV{l m:List Dat}{i:Nat}(h:l.length<=i):As (l.drop i) (m.drop i)=if i<m.length then -1 else 0:=by
 rw[CM h];by_cases h2:i<m.length
 ·rw[if_pos h2,BY h2];rfl
 ·rw[if_neg h2,CM (by omega)];rfl
theorem Xf{l m:List Dat}{i:Nat}(h1:i<l.length)(h2:m.length<=i):As (l.drop i) (m.drop i)=1:=by
 rw[CM h2,BY h1];rfl
theorem cW{v:Int}(ka na kb nb:Int)(ba bb:Bool)(sa sb:ByteArray)(w:World)(h:Hid (Dj ⟨ka,ba,na,sa⟩ ⟨kb,bb,nb,sb⟩=v)) :
  Calls Tryz.prog 218 #[.agg #[.int .u8 ka,.bool ba,.int .i64 na,.string sa],.agg #[.int .u8 kb,.bool bb,.int .i64 nb,.string sb]] w fun e w'=>e=.returned (.int .i64 v)/\Ext w w':=h.out▸tE ⟨ka,ba,na,sa⟩ ⟨kb,bb,nb,sb⟩ w
theorem Rl(A1 A2:Option Addr)(c1 c2 n1 n2:Nat)(l m:List Dat)(w:World)(e1:n1=l.length)(e2:n2=m.length)(h1:Rw w A1 c1 l)(h2:Rw w A2 c2 m) :
  Calls Tryz.prog 217 #[.slice A1 n1 c1,.slice A2 n2 c2,.func (.func 218) #[] #[]] w fun e w'=>e=.returned (.int .i64 (As l m))/\Ext w w':=by
 have E1:=hid e1;have E2:=hid e2;have hl1:=h1.le;have hl2:=h2.le;rw[<-e1]at hl1;rw[<-e2]at hl2;have H1:=hid h1;have H2:=hid h2;clear e1 e2 h1 h2;go_enter Tryz.func217,Tryz.ntmps217;go_wp2
 go_loopw [13] (fun v wr=>∃i:Nat,i<=n1/\v=.int .i64 i/\Hid (i<=m.length/\As (l.drop i) (m.drop i)=As l m)/\Ext w wr) (fun v _=>n1-(intOf v).toNat)
 case atStart=>exact⟨0,AE _,rfl,hid ⟨AE _,rfl⟩,Ext.refl _⟩
 case round =>
  obtain⟨i,hi,rfl,hr,er⟩:=hrel;have hsz:=er.size;by_cases hlt:i<n1
  ·obtain⟨a1,rfl,p0,p1,p2,p3⟩:=(H1.out.ext er).at (show i<l.length by rw[<-E1.out];exact hlt);obtain⟨d,hd⟩:∃d,l.getD i Dat.zero=d:=⟨_,rfl⟩;rw[hd]at p0 p1 p2 p3;by_cases hlt2:i<n2
   ·obtain⟨a2,rfl,q0,q1,q2,q3⟩:=(H2.out.ext er).at (show i<m.length by rw[<-E2.out];exact hlt2);obtain⟨d2,hd2⟩:∃d,m.getD i Dat.zero=d:=⟨_,rfl⟩;rw[hd2]at q0 q1 q2 q3;obtain⟨v,hv⟩:∃v,Dj d d2=v:=⟨_,rfl⟩;have HS:Hid (As l m=if v=0 then As (l.drop (i+1)) (m.drop (i+1)) else v):=hid (by rw[<-hr.out.2,Xg (by rw[<-E1.out];exact hlt) (by rw[<-E2.out];exact hlt2),hd,hd2,hv]);have HB:Hid (i+1<=m.length):=hid (by rw[<-E2.out];exact hlt2);clear hd hd2 hr;obtain⟨ka,ba,na,sa⟩:=d;obtain⟨kb,bb,nb,sb⟩:=d2;simp only at p0 p1 p2 p3 q0 q1 q2 q3;have HV:=hid hv;clear hv;have r0:=((Ext.refl wr).alloc (.cells #[.int .u8 ka,.bool ba,.int .i64 na,.string sa] 204)).cell q0;have r1:=((Ext.refl wr).alloc (.cells #[.int .u8 ka,.bool ba,.int .i64 na,.string sa] 204)).cell q1;have r2:=((Ext.refl wr).alloc (.cells #[.int .u8 ka,.bool ba,.int .i64 na,.string sa] 204)).cell q2;have r3:=((Ext.refl wr).alloc (.cells #[.int .u8 ka,.bool ba,.int .i64 na,.string sa] 204)).cell q3;clear q0 q1 q2 q3;by_cases hv0:v=0
    ·subst hv0;go_wp2_with (go_at_call 218;refine(cW _ _ _ _ _ _ _ _ _ HV).mono ?_;rintro e w1 ⟨rfl,x1⟩)
     go_roundw
     case rel=>exact⟨i+1,by omega,by go_num,hid ⟨HB.out,by rw[HS.out];simp⟩,((er.alloc _).alloc _).trans x1⟩
     case measure=>simp[intOf];omega
    ·have z:(v != 0)=true:=by simpa using hv0
     have HZ:=hid hv0;clear hv0;go_wp2_with (go_at_call 218;refine(cW _ _ _ _ _ _ _ _ _ HV).mono ?_;rintro e w1 ⟨rfl,x1⟩)
     go_ret;exact⟨(by rw[HS.out,if_neg HZ.out];rfl),((er.alloc _).alloc _).trans x1⟩
   ·have HS:Hid (As l m=1):=hid (by rw[<-hr.out.2];exact Xf (by rw[<-E1.out];exact hlt) (by rw[<-E2.out];omega));clear hr hd;go_wp2;go_ret;exact⟨(by rw[HS.out];rfl),er.alloc _⟩
  ·have HS:Hid (As l m=if i<m.length then -1 else 0):=hid (by rw[<-hr.out.2];exact cV (by rw[<-E1.out];omega));obtain rfl:i=n1:=by omega
   by_cases h2:i<n2
   ·have HT:Hid (As l m = -1):=hid (by rw[HS.out,if_pos (by rw[<-E2.out];exact h2)]);clear HS hr;go_wp2;go_ret;exact⟨(by rw[HT.out];rfl),er⟩
   ·have HT:Hid (As l m=0):=hid (by rw[HS.out,if_neg (by rw[<-E2.out];exact h2)]);clear HS hr;go_wp2;go_ret;exact⟨(by rw[HT.out];rfl),er⟩
theorem Fj(A1 A2:Option Addr)(c1 c2 n1 n2:Nat)(l m:List Dat)(w:World)(e1:n1=l.length)(e2:n2=m.length)(h1:Rw w A1 c1 l)(h2:Rw w A2 c2 m) :
  Calls Tryz.prog 164 #[.slice A1 n1 c1,.slice A2 n2 c2] w fun e w'=>e=.returned (.int .i64 (As l m))/\Ext w w':=by
 have H1:=hid h1;have H2:=hid h2;have E1:=hid e1;have E2:=hid e2;clear h1 h2 e1 e2;go_enter Tryz.func164,Tryz.ntmps164;go_wp2_with fail
 refine(Rl A1 A2 c1 c2 n1 n2 l m w E1.out E2.out H1.out H2.out).mono ?_;rintro e w1 ⟨rfl,x1⟩;go_wp2;go_ret;exact⟨rfl,x1⟩
theorem Qr:∀x:List UInt8,Op.bytesLess x x=false
 | []=>rfl
 | a::x=>by simp[Op.bytesLess,Qr x]
theorem Np:∀x y:List UInt8,Op.bytesLess x y=true->Op.bytesLess y x=false
 | [],[],h=>by simp[Op.bytesLess]at h
 | [],_::_,_=>by simp[Op.bytesLess]
 | _::_,[],h=>by simp[Op.bytesLess]at h
 | a::x,b::y,h=>by
  simp only[Op.bytesLess,Bool.or_eq_true,decide_eq_true_eq,Bool.and_eq_true,beq_iff_eq]at h;rcases h with h|⟨rfl,h⟩
  ·have h1:¬b<a:=fun h2=>by rw[EP]at h h2;omega
   have h2:¬b=a:=fun e=>by subst e;rw[EP]at h;omega
   simp[Op.bytesLess,h1,h2]
  ·simp[Op.bytesLess,Np x y h]
theorem Kf:∀x y:List UInt8,Op.bytesLess x y=false->Op.bytesLess y x=false->x=y
 | [],[],_,_=>rfl
 | [],_::_,h,_=>by simp[Op.bytesLess]at h
 | _::_,[],_,h=>by simp[Op.bytesLess]at h
 | a::x,b::y,h,k=>by
  simp only[Op.bytesLess,Bool.or_eq_false_iff,decide_eq_false_iff_not,Bool.and_eq_false_iff,beq_eq_false_iff_ne]at h k;have e:a=b:=by
   apply GI.1;have h1:=h.1;have k1:=k.1;rw[EP]at h1 k1;omega
  subst e;rw[Kf x y (by simpa using h.2) (by simpa using k.2)]
theorem Ug:∀x y z:List UInt8,Op.bytesLess x y=true->Op.bytesLess y z=true->Op.bytesLess x z=true
 | _,_,[],_,k=>by simp[Op.bytesLess]at k
 | [],_,_::_,_,_=>by simp[Op.bytesLess]
 | _::_,[],_::_,h,_=>by simp[Op.bytesLess]at h
 | a::x,b::y,c::z,h,k=>by
  simp only[Op.bytesLess,Bool.or_eq_true,decide_eq_true_eq,Bool.and_eq_true,beq_iff_eq]at h k ⊢;rcases h with h|⟨rfl,h⟩<;>rcases k with k|⟨rfl,k⟩
  ·left;rw[EP]at *;omega
  ·exact Or.inl h
  ·exact Or.inl k
  ·exact Or.inr ⟨rfl,Ug x y z h k⟩
theorem Mh(x y:ByteArray):Ng x y=if Op.bytesLess x.toList y.toList then -1 else if Op.bytesLess y.toList x.toList then 1 else 0:=by
 unfold Ng;cases h1:Op.bytesLess x.toList y.toList
 ·cases h2:Op.bytesLess y.toList x.toList
  ·simp[Kf _ _ h1 h2]
  ·have:¬x.toList=y.toList:=fun e=>by rw[e,Qr]at h2;cases h2
   simp[this]
 ·rfl
theorem tP(x y:ByteArray):Ng x y = -Ng y x:=by
 rw[Mh,Mh];cases h1:Op.bytesLess x.toList y.toList
 ·cases h2:Op.bytesLess y.toList x.toList<;>simp
 ·simp[Np _ _ h1]
theorem iW{x y z:ByteArray}(h:Ng x y<=0)(k:Ng y z<=0):Ng x z<=0:=by
 rw[Mh]at *;by_cases h1:Op.bytesLess x.toList z.toList=true
 ·simp[h1]
 ·by_cases h2:Op.bytesLess z.toList x.toList=true
  ·exfalso;by_cases a1:Op.bytesLess x.toList y.toList=true
   ·have a2:=Ug _ _ _ h2 a1;have a3:=Np _ _ a2;simp[a3,a2]at k
   ·by_cases b1:Op.bytesLess y.toList x.toList=true
    ·simp[a1,b1]at h
    ·have e:=Kf _ _ (by simpa using a1) (by simpa using b1);rw[<-e]at k;simp[h1,h2]at k
  ·simp[h1,h2]
theorem Tj(x y:Int):Ff x y = -Ff y x:=by
 rcases DK x y with h|h|h
 ·rw[Ga h,Hy h]
 ·subst h;rw[Ie];rfl
 ·rw[Hy h,Ga h];rfl
theorem Ru{x y:Int}:Ff x y<=0↔x<=y:=by
 rcases DK x y with h|h|h
 ·rw[Ga h];omega
 ·subst h;rw[Ie];omega
 ·rw[Hy h];omega
theorem nY{x y:ByteArray}(h:Ng x y=0):x=y:=by
 rw[Mh]at h;by_cases h1:Op.bytesLess x.toList y.toList=true
 ·simp[h1]at h
 ·by_cases h2:Op.bytesLess y.toList x.toList=true
  ·simp[h1,h2]at h
  ·have e:=Kf _ _ (by simpa using h1) (by simpa using h2);rw[FU,FU]at e;obtain⟨⟨x⟩⟩:=x;obtain⟨⟨y⟩⟩:=y;simp at e;rw[e]
theorem Pz{x y:Int}(h:Ff x y=0):x=y:=by
 rcases DK x y with k|k|k
 ·rw[Ga k]at h;omega
 ·exact k
 ·rw[Hy k]at h;omega
theorem Fb{a b:Dat}(h:¬a.k=b.k):Dj a b=Ff a.k b.k:=by unfold Dj;rw[if_neg h]
theorem Mi{a b:Dat}(h:a.k=b.k):Dj a b=if a.k=2 then Ff (Kw a.b) (Kw b.b) else if a.k=3 then Ff a.n b.n else if a.k=4 then Ng a.s b.s else 0:=by unfold Dj;rw[if_pos h]
theorem Lm(a b:Dat):Dj a b = -Dj b a:=by
 by_cases h:a.k=b.k
 ·rw[Mi h,Mi h.symm,<-h];by_cases h2:a.k=2
  ·rw[if_pos h2,if_pos h2];exact Tj _ _
  ·rw[if_neg h2,if_neg h2];by_cases h3:a.k=3
   ·rw[if_pos h3,if_pos h3];exact Tj _ _
   ·rw[if_neg h3,if_neg h3];by_cases h4:a.k=4
    ·rw[if_pos h4,if_pos h4];exact tP _ _
    ·rw[if_neg h4,if_neg h4];rfl
 ·rw[Fb h,Fb (Ne.symm h)];exact Tj _ _
theorem nZ(a:Dat):Dj a a=0:=by have:=Lm a a;omega
theorem Uo{x y z:Int}(h:Ff x y<=0)(k:Ff y z<=0):Ff x z<=0:=by rw[Ru]at *;omega
theorem iX{a b c:Dat}(h:Dj a b<=0)(k:Dj b c<=0):Dj a c<=0:=by
 by_cases e1:a.k=b.k
 ·by_cases e2:b.k=c.k
  ·rw[Mi e1]at h;rw[Mi e2]at k;rw[Mi (e1.trans e2)];rw[<-e1]at k;by_cases h2:a.k=2
   ·rw[if_pos h2]at *;exact Uo h k
   ·rw[if_neg h2]at *;by_cases h3:a.k=3
    ·rw[if_pos h3]at *;exact Uo h k
    ·rw[if_neg h3]at *;by_cases h4:a.k=4
     ·rw[if_pos h4]at *;exact iW h k
     ·rw[if_neg h4];omega
  ·rw[Fb e2]at k;rw[Fb (by rw[e1];exact e2),e1];exact k
 ·by_cases e2:b.k=c.k
  ·rw[Fb e1]at h;rw[Fb (by rw[<-e2];exact e1),<-e2];exact h
  ·rw[Fb e1,Ru]at h;rw[Fb e2,Ru]at k;rw[Fb (by omega),Ru];omega
theorem Ys{k n:Int}{b:Bool}{s:ByteArray}(h:Hs k b n s=0):(k=1\/k=2\/k=3\/k=4)/\(k≠2->b=false)/\(k≠3->n=0)/\(k≠4->s=⟨#[]⟩):=by
 by_cases hf:(k=1\/k=2\/k=3\/k=4)/\(k≠2->b=false)/\(k≠3->n=0)/\(k≠4->s=⟨#[]⟩)
 ·exact hf
 ·rw[Az hf]at h;cases h
theorem lT{a b:Bool}(h:Kw a=Kw b):a=b:=by cases a<;>cases b<;>first|rfl|(simp[Kw]at h)
theorem Xh{a b:Dat}(ha:a.check=0)(hb:b.check=0):Dj a b=0↔a=b:=by
 constructor
 ·intro h;by_cases e:a.k=b.k
  ·rw[Mi e]at h;obtain⟨ka,ba,na,sa⟩:=a;obtain⟨kb,bb,nb,sb⟩:=b;simp only at e h;subst e;obtain⟨hk,a1,a2,a3⟩:=Ys (show Hs ka ba na sa=0 from ha);obtain⟨_,b1,b2,b3⟩:=Ys (show Hs ka bb nb sb=0 from hb);have hbb:ba=bb:=by
    by_cases h2:ka=2
    ·rw[if_pos h2]at h;exact lT (Pz h)
    ·rw[a1 h2,b1 h2]
   have hnn:na=nb:=by
    by_cases h2:ka=3
    ·rw[if_neg (by omega),if_pos h2]at h;exact Pz h
    ·rw[a2 h2,b2 h2]
   have hss:sa=sb:=by
    by_cases h2:ka=4
    ·rw[if_neg (by omega),if_neg (by omega),if_pos h2]at h;exact nY h
    ·rw[a3 h2,b3 h2]
   rw[hbb,hnn,hss]
  ·rw[Fb e]at h;exact absurd (Pz h) e
 ·rintro rfl;exact nZ a
theorem Ll:∀l m:List Dat,As l m = -As m l
 | [],[]=>rfl
 | [],_::_=>rfl
 | _::_,[]=>rfl
 | a::l,b::m=>by
  unfold As;have h:=Lm a b;by_cases q:Dj a b=0
  ·rw[if_pos q,if_pos (by omega),Ll l m]
  ·rw[if_neg q,if_neg (by omega),h]
theorem Tk:Bs Dj:=⟨Lm,fun _ _ _=>iX⟩
theorem Kh:∀l m n:List Dat,As l m<=0->As m n<=0->As l n<=0
 | [],_,[],_,_=>EL _
 | [],_,_::_,_,_=>by unfold As;decide
 | _::_,[],_,h,_=>by unfold As at h;exact absurd h (by decide)
 | _::_,_::_,[],_,k=>by unfold As at k;exact absurd k (by decide)
 | a::l,b::m,c::n,h,k=>by
  unfold As at h k ⊢;by_cases q1:Dj a b=0
  ·rw[if_pos q1]at h;by_cases q2:Dj b c=0
   ·rw[if_pos q2]at k;rw[if_pos (Tk.eq_trans q1 q2)];exact Kh l m n h k
   ·rw[if_neg q2]at k;have:=Tk.lt_of_le_lt (show Dj a b<=0 by omega) (show Dj b c<0 by omega);rw[if_neg (by omega)];omega
  ·rw[if_neg q1]at h;have hbc:Dj b c<=0:=by
    by_cases q2:Dj b c=0
    ·omega
    ·rw[if_neg q2]at k;exact k
   have:=Tk.lt_of_lt_le (show Dj a b<0 by omega) hbc;rw[if_neg (by omega)];omega
structure Ct where
 A:Option Addr
 c:Nat
 l:List Dat
 k:Int
def Ct.zero:Ct:=⟨none,0,[],0⟩
def cmpC(x y:Ct):Int:=As x.l y.l
theorem cmpC_tot:Bs cmpC:=⟨fun x y=>Ll x.l y.l,fun x y z=>Kh x.l y.l z.l⟩
def ctC(x:Ct):List Value:=[.slice x.A x.l.length x.c,.int .i64 x.k]
def Bg(L:List Ct):List Value:=L.flatMap ctC
theorem Tg(L:List Ct):(Bg L).length=L.length*2:=by
 unfold Bg;induction L with
 | nil=>rfl
 | cons d l ih=>rw[BM,AA,ih,AI,show(ctC d).length=2 from rfl];omega
theorem Iy:∀(L:List Ct) (i j:Nat),i<L.length->j<2->(Bg L)[i*2+j]?=(ctC (L.getD i Ct.zero))[j]?
 | [],i,j,h,_=>absurd h (DQ _)
 | d::l,0,j,_,hj=>by
  unfold Bg;rw[BM,FL,BR,BI (by rw[show(ctC d).length=2 from rfl];exact hj)];rfl
 | d::l,i+1,j,h,hj=>by
  unfold Bg;rw[BM,BD (by rw[show(ctC d).length=2 from rfl];omega),show(i+1)*2+j-(ctC d).length=i*2+j by rw[show(ctC d).length=2 from rfl];omega];exact Iy l i j (EC h) hj
theorem Fp(L M:List Ct):Bg (L++M)=Bg L++Bg M:=CS
theorem Oo:∀(L:List Ct) (i:Nat) (x:Ct),((Bg L).set (i*2) (.slice x.A x.l.length x.c)).set (i*2+1) (.int .i64 x.k)=Bg (L.set i x)
 | [],i,x=>rfl
 | d::l,0,x=>rfl
 | d::l,i+1,x=>by
  have ih:=Oo l i x;show((ctC d++Bg l).set ((i+1)*2) _).set ((i+1)*2+1) _=ctC d++Bg (l.set i x);rw[<-ih,CG _ _ (by show 2<=_;omega),CG _ _ (by show 2<=_;omega),show(i+1)*2-(ctC d).length=i*2 by show _-2=_;omega,show(i+1)*2+1-(ctC d).length=i*2+1 by show _-2=_;omega]
theorem Ec(L:List Ct):∀u∈Bg L,u.oneCell'=true:=by
 intro u hu;obtain⟨d,_,h⟩:=DH.1 hu;simp only[ctC,AZ,CU,or_false]at h;rcases h with rfl|rfl<;>rfl
def Rws(w:World)(g:Nat)(L:List Ct):Prop:=∀x∈L,Rw w x.A x.c x.l/\∀ad,x.A=some ad->ad.block≠g
def Arr(w:World)(B g c:Nat)(L:List Ct):Prop:=Own w B 154 2 (some ⟨g,0,none⟩) L.length c (Bg L)/\0<c
section
variable{w w':World}{B g c:Nat}{L:List Ct}
theorem Arr.ext(h:Arr w B g c L)(x:Ext w w'):Arr w' B g c L:=⟨h.1.ext x,h.2⟩
theorem Rws.ext(h:Rws w g L)(x:Ext w w'):Rws w' g L:=fun y hy=>⟨(h y hy).1.ext x,(h y hy).2⟩
theorem Rw.upd{A:Option Addr}{l:List Dat}(h:Rw w A c l)(hx:w.grownBy w' (some g))(ha:∀ad,A=some ad->ad.block≠g):Rw w' A c l :=
 ⟨h.1,h.2.1,h.2.2.1,h.2.2.2.1,fun hn=>by
  obtain⟨ad,e,hc⟩:=h.2.2.2.2 hn;exact⟨ad,e,fun j u hu=>hx.cell (hc j u hu) (by rw[De];intro q;injection q with q;exact ha ad e q)⟩⟩
theorem Rws.upd(h:Rws w g L)(hx:w.grownBy w' (some g)):Rws w' g L:=fun y hy=>⟨(h y hy).1.upd hx (h y hy).2,(h y hy).2⟩
theorem Rws.sub{M:List Ct}(h:Rws w g L)(hs:∀x∈M,x∈L):Rws w g M:=fun x hx=>h x (hs x hx)
theorem Arr.le(h:Arr w B g c L):L.length<=9223372036854775807:=by have:=h.1.le;omega
theorem Arr.at(h:Arr w B g c L){i:Nat}(hi:i<L.length):w.cell? ⟨g,i*2,none⟩=some (.slice (L.getD i Ct.zero).A (L.getD i Ct.zero).l.length (L.getD i Ct.zero).c)/\w.cell? ⟨g,i*2+1,none⟩=some (.int .i64 (L.getD i Ct.zero).k):=by
 obtain⟨g',e,_,_,_,hc,_⟩:=h.1.form (by omega);cases e;exact⟨hc _ _ (by rw[<-DV (i*2),Iy L i 0 hi (by omega)];rfl),hc _ _ (by rw[Iy L i 1 hi (by omega)];rfl)⟩
theorem Arr.free(h:Arr w B g c L)(j:Nat):w.frozen? ⟨g,j,none⟩=false:=by
 rcases h.1.2 with ⟨h1,h2⟩|⟨g',cur,e,hb,hg,_⟩
 ·have:=h.2;omega
 ·cases e;simp[World.frozen?,hg]
theorem Arr.set(h:Arr w B g c L)(i:Nat)(x:Ct):Arr ((w.setCell ⟨g,i*2,none⟩ (.slice x.A x.l.length x.c)).setCell ⟨g,i*2+1,none⟩ (.int .i64 x.k)) B g c (L.set i x):=by
 have:=(h.1.put (i*2) (.slice x.A x.l.length x.c)).put (i*2+1) (.int .i64 x.k);rw[Oo]at this;refine⟨?_,h.2⟩;rw[DY];exact this
theorem Cn(w:World)(g i:Nat)(u:Value):w.grownBy (w.setCell ⟨g,i,none⟩ u) (some g):=
 ⟨rfl,rfl,rfl,by rw[DA];exact AD _,fun k _ hk=>FV w ⟨g,i,none⟩ u k (fun e=>hk (by rw[e]))⟩
theorem Av(x:Ext w w')(g:Nat):w.grownBy w' (some g):=⟨x.os,x.tape,x.output,x.size,fun k hk _=>x.block k hk⟩
end
def lexB:List UInt8->List UInt8->Int
 | [],[]=>0
 | [],_::_ => -1
 | _::_,[]=>1
 | a::x,b::y=>if a.toNat<b.toNat then -1 else if b.toNat<a.toNat then 1 else lexB x y
theorem Ia:∀p s t:List UInt8,lexB (p++s) (p++t)=lexB s t
 | [],_,_=>rfl
 | a::p,s,t=>by
  show(if a.toNat<a.toNat then -1 else if a.toNat<a.toNat then 1 else lexB (p++s) (p++t))=_;rw[if_neg (by omega),if_neg (by omega)];exact Ia p s t
theorem Dm{a b:UInt8}(x y:List UInt8)(h:a.toNat<b.toNat):lexB (a::x) (b::y) = -1:=if_pos h
theorem Dn{a b:UInt8}(x y:List UInt8)(h:b.toNat<a.toNat):lexB (a::x) (b::y)=1:=by
 show(if a.toNat<b.toNat then -1 else if b.toNat<a.toNat then 1 else lexB x y)=1;rw[if_neg (by omega),if_pos h]
theorem Iw(a:UInt8)(x y:List UInt8):lexB (a::x) (a::y)=lexB x y:=Ia [a] x y
theorem mV(p:List UInt8):lexB p p=0:=by
 have:=Ia p [] []
 rwa [AP]at this
def be:Nat->Nat->List UInt8
 | 0,_=>[]
 | k+1,m=>UInt8.ofNat (m / 256 ^ k)::be k (m % 256 ^ k)
theorem pR(m:Nat)(h:m<18446744073709551616):be8 m=be 8 m:=by
 have q:∀a b:Nat,a % 256=b % 256->UInt8.ofNat a=UInt8.ofNat b:=fun a b e=>GI.1 (by rw[DF,DF];exact e);unfold be8;simp only[be];rw[show(2:Nat) ^ 56=72057594037927936 by decide,show(2:Nat) ^ 48=281474976710656 by decide,show(2:Nat) ^ 40=1099511627776 by decide,show(2:Nat) ^ 32=4294967296 by decide,show(2:Nat) ^ 24=16777216 by decide,show(2:Nat) ^ 16=65536 by decide,show(2:Nat) ^ 8=256 by decide];simp only[Nat.pow_zero,Nat.div_one];refine congr (congrArg _ (q _ _ (by omega))) (congr (congrArg _ (q _ _ (by omega))) (congr (congrArg _ (q _ _ (by omega))) (congr (congrArg _ (q _ _ (by omega))) (congr (congrArg _ (q _ _ (by omega))) (congr (congrArg _ (q _ _ (by omega))) (congr (congrArg _ (q _ _ (by omega))) (congr (congrArg _ (q _ _ (by omega))) rfl)))))))
theorem xT:∀(k a b:Nat) (s t:List UInt8),a<256 ^ k->b<256 ^ k->a<b->lexB (be k a++s) (be k b++t) = -1/\lexB (be k b++t) (be k a++s)=1
 | 0,a,b,_,_,ha,hb,h=>by rw[Nat.pow_zero]at ha hb;omega
 | k+1,a,b,s,t,ha,hb,h=>by
  have hp:0<256 ^ k:=Nat.pow_pos (by decide);rw[Nat.pow_succ]at ha hb;have qa:a / 256 ^ k<256:=Nat.div_lt_of_lt_mul ha;have qb:b / 256 ^ k<256:=Nat.div_lt_of_lt_mul hb;have tx:∀x:Nat,x<256->(UInt8.ofNat x).toNat=x:=fun x hx=>by rw[DF];omega
  have ta:=tx _ qa;have tb:=tx _ qb;unfold be;rw[CD,CD];rcases FZ (a / 256 ^ k) (b / 256 ^ k)with q|q|q
  ·exact⟨Dm _ _ (by rw[ta,tb];exact q),Dn _ _ (by rw[ta,tb];exact q)⟩
  ·rw[q,Iw,Iw];refine xT k _ _ s t (Nat.mod_lt _ hp) (Nat.mod_lt _ hp) ?_;have e1:=Nat.div_add_mod a (256 ^ k);have e2:=Nat.div_add_mod b (256 ^ k);rw[q]at e1;omega
  ·have:b<=a:=by
    rcases DP a b with h1|h1
    ·have:=Nat.div_le_div_right (c:=256 ^ k) (Nat.le_of_lt h1);omega
    ·exact h1
   omega
theorem Wy:Hv 0=[0,255]:=rfl
theorem Px{c:UInt8}(h:¬c=0):Hv c=[c]:=if_neg h
theorem Ml{c:UInt8}(h:¬c=0):0<c.toNat:=by
 rcases CL c.toNat with q|q
 ·exact absurd (GI.1 q) h
 ·exact q
theorem oY:∀(x y:List UInt8) (s t:List UInt8),Op.bytesLess x y=true->lexB (x.flatMap Hv++(0::1::s)) (y.flatMap Hv++(0::1::t)) = -1/\lexB (y.flatMap Hv++(0::1::t)) (x.flatMap Hv++(0::1::s))=1
 | [],[],_,_,h=>by simp[Op.bytesLess]at h
 | _::_,[],_,_,h=>by simp[Op.bytesLess]at h
 | [],c::y,s,t,_=>by
  rw[BM];by_cases hc:c=0
  ·subst hc;rw[Wy];show lexB (0::1::s) (0::255::(y.flatMap Hv++0::1::t)) = -1/\lexB (0::255::(y.flatMap Hv++0::1::t)) (0::1::s)=1;rw[Iw,Iw];exact⟨Dm _ _ (by decide),Dn _ _ (by decide)⟩
  ·rw[Px hc];exact⟨Dm _ _ (Ml hc),Dn _ _ (Ml hc)⟩
 | c::x,d::y,s,t,h=>by
  simp only[Op.bytesLess,Bool.or_eq_true,decide_eq_true_eq,Bool.and_eq_true,beq_iff_eq]at h;rw[BM,BM,AJ,AJ];rcases h with h|⟨rfl,h⟩
  ·have h':=EP.1 h;have hd:¬d=0:=fun e=>by rw[e]at h';exact absurd h' (by simp)
   rw[Px hd];by_cases hc:c=0
   ·subst hc;rw[Wy];exact⟨Dm _ _ (Ml hd),Dn _ _ (Ml hd)⟩
   ·rw[Px hc];exact⟨Dm _ _ h',Dn _ _ h'⟩
  ·rw[Ia,Ia];exact oY x y s t h
theorem Nq{d:Dat}(h:d.check=0):(d.k=1\/d.k=2\/d.k=3\/d.k=4)/\(d.k≠2->d.b=false)/\(d.k≠3->d.n=0)/\(d.k≠4->d.s=⟨#[]⟩):=Ys h
def InD(d:Dat):Prop := -9223372036854775808<=d.n/\d.n<=9223372036854775807
theorem pD{a b:Dat}(ha:a.check=0)(hb:b.check=0)(ia:InD a)(ib:InD b)(h:Dj a b<0)(s t:List UInt8):lexB (Ku a++s) (Ku b++t) = -1/\lexB (Ku b++t) (Ku a++s)=1/\Dj a b = -1:=by
 obtain⟨ka,_⟩:=Nq ha;obtain⟨kb,_⟩:=Nq hb;obtain⟨k1,b1,n1,s1⟩:=a;obtain⟨k2,b2,n2,s2⟩:=b;simp only at ka kb;unfold InD at ia ib;simp only at ia ib;clear ha hb;unfold Dj at h ⊢;simp only at h ⊢;by_cases hk:k1=k2
 ·subst hk;rw[if_pos rfl]at h ⊢;rcases ka with rfl|rfl|rfl|rfl
  ·exact absurd h (by simp)
  ·cases b1<;>cases b2
   ·exact absurd h (by simp[Ff])
   ·exact⟨Dm _ _ (show(32:UInt8).toNat<(33:UInt8).toNat by decide),Dn _ _ (show(32:UInt8).toNat<(33:UInt8).toNat by decide),rfl⟩
   ·exact absurd h (by simp[Ff,Kw])
   ·exact absurd h (by simp[Ff])
  ·rw[if_neg (by decide),if_pos rfl]at h ⊢;have hlt:n1<n2:=by
    unfold Ff at h;split at h
    ·assumption
    ·split at h<;>exact absurd h (by decide)
   have e1:=pR (n1+9223372036854775808).toNat (by omega);have e2:=pR (n2+9223372036854775808).toNat (by omega);have:=xT 8 (n1+9223372036854775808).toNat (n2+9223372036854775808).toNat s t (by rw[show(256:Nat) ^ 8=18446744073709551616 by decide];omega) (by rw[show(256:Nat) ^ 8=18446744073709551616 by decide];omega) (by omega);show lexB (48::be8 _++s) (48::be8 _++t) = -1/\lexB (48::be8 _++t) (48::be8 _++s)=1/\Ff n1 n2 = -1;rw[e1,e2,CD,CD,Iw,Iw];exact⟨this.1,this.2,Ga hlt⟩
  ·rw[if_neg (by decide),if_neg (by decide),if_pos rfl]at h ⊢;have hlt:Op.bytesLess s1.toList s2.toList=true:=by
    rw[Mh]at h;split at h
    ·assumption
    ·split at h<;>exact absurd h (by decide)
   have:=oY s1.data.toList s2.data.toList s t (by rw[FU,FU]at hlt;exact hlt);show lexB (64::(s1.data.toList.flatMap Hv++[0,1])++s) (64::(s2.data.toList.flatMap Hv++[0,1])++t) = -1/\lexB (64::(s2.data.toList.flatMap Hv++[0,1])++t) (64::(s1.data.toList.flatMap Hv++[0,1])++s)=1/\Ng s1 s2 = -1;rw[CD,CD,Iw,Iw,AJ,AJ];exact⟨this.1,this.2,by rw[Mh,if_pos hlt]⟩
 ·rw[if_neg hk]at h ⊢;have hlt:k1<k2:=by
   unfold Ff at h;split at h
   ·assumption
   ·split at h<;>exact absurd h (by decide)
  refine and_assoc.1 ⟨?_,Ga hlt⟩;rcases ka with rfl|rfl|rfl|rfl<;>rcases kb with rfl|rfl|rfl|rfl<;>first|exact absurd hlt (by decide)|skip
  ·cases b2
   ·exact⟨Dm _ _ (show(16:UInt8).toNat<(32:UInt8).toNat by decide),Dn _ _ (show(16:UInt8).toNat<(32:UInt8).toNat by decide)⟩
   ·exact⟨Dm _ _ (show(16:UInt8).toNat<(33:UInt8).toNat by decide),Dn _ _ (show(16:UInt8).toNat<(33:UInt8).toNat by decide)⟩
  ·exact⟨Dm _ _ (show(16:UInt8).toNat<(48:UInt8).toNat by decide),Dn _ _ (show(16:UInt8).toNat<(48:UInt8).toNat by decide)⟩
  ·exact⟨Dm _ _ (show(16:UInt8).toNat<(64:UInt8).toNat by decide),Dn _ _ (show(16:UInt8).toNat<(64:UInt8).toNat by decide)⟩
  ·cases b1
   ·exact⟨Dm _ _ (show(32:UInt8).toNat<(48:UInt8).toNat by decide),Dn _ _ (show(32:UInt8).toNat<(48:UInt8).toNat by decide)⟩
   ·exact⟨Dm _ _ (show(33:UInt8).toNat<(48:UInt8).toNat by decide),Dn _ _ (show(33:UInt8).toNat<(48:UInt8).toNat by decide)⟩
  ·cases b1
   ·exact⟨Dm _ _ (show(32:UInt8).toNat<(64:UInt8).toNat by decide),Dn _ _ (show(32:UInt8).toNat<(64:UInt8).toNat by decide)⟩
   ·exact⟨Dm _ _ (show(33:UInt8).toNat<(64:UInt8).toNat by decide),Dn _ _ (show(33:UInt8).toNat<(64:UInt8).toNat by decide)⟩
  ·exact⟨Dm _ _ (show(48:UInt8).toNat<(64:UInt8).toNat by decide),Dn _ _ (show(48:UInt8).toNat<(64:UInt8).toNat by decide)⟩
theorem pC{d:Dat}(h:d.check=0):Ku d≠[]:=by
 obtain⟨hk,_⟩:=Nq h;unfold Ku;rcases hk with q|q|q|q<;>rw[q]<;>simp
theorem jV:∀l m:List Dat,(∀d∈l,d.check=0/\InD d)->(∀d∈m,d.check=0/\InD d)->lexB (Ci l) (Ci m)=As l m
 | [],[],_,_=>rfl
 | [],b::m,_,hm=>by
  unfold Ci;rw[BM];obtain⟨c,x,e⟩:=List.exists_cons_of_ne_nil (pC (hm b (BE ..)).1);rw[e];rfl
 | a::l,[],hl,_=>by
  unfold Ci;rw[BM];obtain⟨c,x,e⟩:=List.exists_cons_of_ne_nil (pC (hl a (BE ..)).1);rw[e];rfl
 | a::l,b::m,hl,hm=>by
  have ha:=hl a (BE ..);have hb:=hm b (BE ..);have ih:=jV l m (fun d hd=>hl d (BN _ hd)) (fun d hd=>hm d (BN _ hd));unfold Ci at ih ⊢;rw[BM,BM];unfold As;by_cases h:Dj a b=0
  ·rw[if_pos h];have e:a=b:=(Xh ha.1 hb.1).1 h;rw[e,Ia];exact ih
  ·rw[if_neg h];rcases Int.lt_or_gt_of_ne h with q|q
   ·obtain⟨h1,_,h3⟩:=pD ha.1 hb.1 ha.2 hb.2 q (l.flatMap Ku) (m.flatMap Ku);rw[h1,h3]
   ·have q':Dj b a<0:=by rw[Lm];omega
    obtain⟨_,h2,h3⟩:=pD hb.1 ha.1 hb.2 ha.2 q' (m.flatMap Ku) (l.flatMap Ku);rw[h2,Lm,h3];rfl
theorem Ol:∀l m:List Dat,(∀d∈l,d.check=0/\InD d)->(∀d∈m,d.check=0/\InD d)->As l m=0->l=m
 | [],[],_,_,_=>rfl
 | [],_::_,_,_,h=>absurd h (by unfold As;decide)
 | _::_,[],_,_,h=>absurd h (by unfold As;decide)
 | a::l,b::m,hl,hm,h=>by
  unfold As at h;by_cases q:Dj a b=0
  ·rw[if_pos q]at h;rw[(Xh (hl a (BE ..)).1 (hm b (BE ..)).1).1 q,Ol l m (fun d hd=>hl d (BN _ hd)) (fun d hd=>hm d (BN _ hd)) h]
  ·rw[if_neg q]at h;exact absurd h q
theorem vO{l m:List Dat}(hl:∀d∈l,d.check=0/\InD d)(hm:∀d∈m,d.check=0/\InD d)(h:Ci l=Ci m):l=m :=
 Ol l m hl hm (by rw[<-jV l m hl hm,h];exact mV _)
open Go.ChangeShapes Go.WideShapes Go.ChangeAt Go.RowKit Go.WideElems
instance:Inhabited Dat:=⟨Dat.zero⟩
section
variable{H:Type}{enc:TypeId×Value->H}{W:World}
theorem xQ{α:Type}{l:List α}(h:l.length=4):∃a b c d,l=[a,b,c,d]:=by
 match l,h with
 | [a,b,c,d],_=>exact⟨a,b,c,d,rfl⟩
theorem rO:Tryz.prog.cellsOf 202=1:=by kernel_rfl
theorem rQ:Tryz.prog.cellsOf 4=1:=by kernel_rfl
theorem jP:Tryz.prog.cellsOf 2=1:=by kernel_rfl
theorem jO:Tryz.prog.cellsOf 9=1:=by kernel_rfl
theorem Tc:Tryz.prog.cellsOf 204=4:=by kernel_rfl
theorem nV{sp:Nat->Bool}{held:Bool}{fuel:Nat}{cs:List Value}{y:DataW H×List MemPlace}(h:DataW.trod enc Tryz.prog W 0 sp held fuel 204 cs=some y) :
  ∃d:Dat,cs=Mq d/\InD d/\d.s.size<=9223372036854775807/\(0<=d.k/\d.k<=255):=by
 obtain⟨y0,y1,y2,y3,n,_,hl,h0,h1,h2,h3⟩:=Go.Joins.trod_struct4 Tryz.underlying204 h;rw[Tc]at hl;obtain⟨c0,c1,c2,c3,rfl⟩:=xQ hl;have g0:DataW.trod enc Tryz.prog W 0 sp held n 202 [c0]=some y0:=by
  have:DataW.trod enc Tryz.prog W 0 sp held n 202 (([c0,c1,c2,c3].drop 0).take (Tryz.prog.cellsOf 202))=some y0:=h0;rw[rO]at this;exact this
 have g1:DataW.trod enc Tryz.prog W 0 sp held n 4 [c1]=some y1:=by
  have:DataW.trod enc Tryz.prog W 0 sp held n 4 (([c0,c1,c2,c3].drop 1).take (Tryz.prog.cellsOf 4))=some y1:=h1;rw[rQ]at this;exact this
 have g2:DataW.trod enc Tryz.prog W 0 sp held n 2 [c2]=some y2:=by
  have:DataW.trod enc Tryz.prog W 0 sp held n 2 (([c0,c1,c2,c3].drop 2).take (Tryz.prog.cellsOf 2))=some y2:=h2;rw[jP]at this;exact this
 have g3:DataW.trod enc Tryz.prog W 0 sp held n 9 [c3]=some y3:=by
  have:DataW.trod enc Tryz.prog W 0 sp held n 9 (([c0,c1,c2,c3].drop 3).take (Tryz.prog.cellsOf 9))=some y3:=h3;rw[jO]at this;exact this
 obtain⟨k,e0,_,w0⟩:=DataW.trod_int Tryz.underlying202 g0;obtain⟨b,e1,_⟩:=DataW.trod_bool Tryz.underlying4 g1;obtain⟨m,e2,_,w2⟩:=DataW.trod_int Tryz.underlying2 g2;obtain⟨s,e3,_,w3⟩:=DataW.trod_string Tryz.underlying9 g3;obtain rfl:c0=.int .u8 k:=by simpa using e0
 obtain rfl:c1=.bool b:=by simpa using e1
 obtain rfl:c2=.int .i64 m:=by simpa using e2
 obtain rfl:c3=.string s:=by simpa using e3
 exact⟨⟨k,b,m,s⟩,rfl,Yv w2,w3,xI w0⟩
structure xX (l:List Dat):Prop where
 txt:Od l
 int:Oe l
 kind:∀d∈l,0<=d.k/\d.k<=255
theorem Xe{fuel:Nat}{cs:List Value}{y:DataW H×List MemPlace}(h:DataW.trod enc Tryz.prog W 0 (fun _=>true) true fuel 79 cs=some y) :
  ∃A c l,cs=[.slice A l.length c]/\Rw W A c l/\xX l:=by
 rcases EN Tryz.underlying79 h with ⟨hcs,_⟩|⟨a,n,c,m,fu,D,Pl,hcs,_,hnc,hcm,hm,_,hx⟩
 ·exact⟨none,0,[],hcs,Rw.nil W,⟨fun d hd=>(nomatch hd),fun d hd=>(nomatch hd),fun d hd=>(nomatch hd)⟩⟩
 ·rw[Tc]at hx;have hmn:n<=m:=by rw[hm];split<;>omega
  obtain⟨F,hF⟩:=FY (α:=Dat) (n:=n) (p:=fun i d=>(∀j,j<4->W.cell? (a.add (i*4+j))=(Mq d)[j]?)/\InD d/\d.s.size<=9223372036854775807/\(0<=d.k/\d.k<=255)) (fun i hi=>by
   obtain⟨cs',h1,h2⟩:=hx i (by omega);obtain⟨_,_,h3⟩:=FG h1;obtain⟨d,rfl,h4⟩:=nV h2;exact⟨d,fun j hj=>by rw[<-Hn];exact h3 j hj,h4⟩)
  have hlen:((List.range n).map F).length=n:=by simp
  have hmem:∀d∈(List.range n).map F,InD d/\d.s.size<=9223372036854775807/\(0<=d.k/\d.k<=255):=fun d hd=>by
   obtain⟨i,hi,rfl⟩:=AW.1 hd;exact(hF i (DM.1 hi)).2
  refine⟨some a,c,(List.range n).map F,by rw[hlen];exact hcs,⟨by rw[bJ],by rw[hlen];exact hnc,hcm,(fun h=>nomatch h),fun _=>⟨a,rfl,fun j u hu=>?_⟩⟩,⟨fun d hd=>(hmem d hd).2.1,fun d hd=>(hmem d hd).1,fun d hd=>(hmem d hd).2.2⟩⟩;have hj:j<n*4:=by
   rcases DP j (n*4)with q|q
   ·exact q
   ·rw[DJ (by rw[bJ,hlen];exact q)]at hu;cases hu
  have e:j=j / 4*4+j % 4:=by omega
  rw[e,Kb _ _ _ (by rw[hlen];omega) (by omega)]at hu;have e2:((List.range n).map F).getD (j / 4) Dat.zero=F (j / 4):=by
   rw[AB,CI,FR (by omega)];rfl
  rw[e2]at hu;rw[e,(hF (j / 4) (by omega)).1 (j % 4) (by omega)];exact hu
end
end Go.Proofs.YtdgbkpoickbidaaGreatDoor
