/- Parts of the proof, put together. Conditions: each theorem states its own. -/
import Derived.Test.YtdgbkpoickbidaaGreatDoorHd13
import Derived.Lib.ValidLaws
set_option maxRecDepth 100000
set_option maxHeartbeats 16000000
open Go.RowKit
namespace Go.Proofs.YtdgbkpoickbidaaGreatDoor
theorem Uc(e1 e2:Int)(A1 A2:Option Addr)(n1 n2 c1 c2:Nat)(w:World)(hne:((n1:Int) != (n2:Int))=true) :
  Calls Tryz.prog 196 #[.agg #[.int .u64 e1,.slice A1 n1 c1],.agg #[.int .u64 e2,.slice A2 n2 c2]] w fun e w' =>
   e=.returned (.tuple #[.agg #[.int .u64 0,.slice none 0 0],.int .i64 40])/\Ext w w':=by
 go_enter Tryz.func196,Tryz.ntmps196;go_wp2;go_returns;exact⟨rfl,(((Ext.refl w).alloc _).alloc _).alloc _⟩
theorem gS(e1 e2:Int)(A1 A2:Option Addr)(n c1 c2:Nat)(l1 l2:List Int)(w:World)(h1:Sl w 1 A1 n c1 (wds l1))(h2:Sl w 1 A2 n c2 (wds l2))(hn:n*4<=140737488355328) :
  Calls Tryz.prog 196 #[.agg #[.int .u64 e1,.slice A1 n c1],.agg #[.int .u64 e2,.slice A2 n c2]] w fun e w' =>
   ∃A c,e=.returned (.tuple #[.agg #[.int .u64 (max e1 e2),.slice A n c],.int .i64 0])/\Own w' w.heap.size 180 1 A n c (wds (List.zipWith max l1 l2))/\Ext w w':=by
 have hm:=h1.le;have he:((n:Int) != (n:Int))=false:=by simp
 obtain⟨v,hv⟩:∃v,max e1 e2=v:=⟨_,rfl⟩;have ve:(if e1<e2 then e2 else e1)=v:=by rw[<-hv];split<;>omega
 rw[hv];go_enter Tryz.func196,Tryz.ntmps196;go_wp2;obtain⟨w0,hw0⟩:∃w0,w0=(((w.alloc (Obj.cells #[Value.int IntKind.u64 e1,Value.slice A1 n c1] 26)).alloc (Obj.cells #[Value.int IntKind.u64 e2,Value.slice A2 n c2] 26)).alloc
   (Obj.cells #[Value.int IntKind.u64 0,Value.slice none 0 0] 26)).alloc (Obj.cells #[Value.int IntKind.u64 v,Value.slice none 0 0] 26):=⟨_,rfl⟩
 have x0:Ext w w0:=hw0▸((((Ext.refl w).alloc _).alloc _).alloc _).alloc _;have s0:w0.heap.size=w.heap.size+4:=by subst hw0;simp
 have b3:w0.cell? ⟨w.heap.size,1,none⟩=some (Value.slice A1 n c1):=by subst hw0;go_simp
 have b4:w0.cell? ⟨w.heap.size+1,1,none⟩=some (Value.slice A2 n c2):=by subst hw0;go_simp
 have b6:Bk w0 (w.heap.size+1+1) 26 #[Value.int IntKind.u64 0,Value.slice none 0 0]:=by subst hw0;exact(Bk.at (by simp)).alloc _
 have b7:Bk w0 (w.heap.size+1+1+1) 26 #[Value.int IntKind.u64 v,Value.slice none 0 0]:=by subst hw0;exact Bk.at (by simp)
 rw[<-hw0];clear hw0;have S0:=hid s0
 go_loopw [7] (fun t wr=>∃(k:Nat) (A:Option Addr) (c:Nat),k<=n/\t=.int .i64 k/\Below (w.heap.size+3) w0 wr/\Bk wr (w.heap.size+1+1+1) 26 #[.int .u64 v,.slice A k c]/\Own wr (w.heap.size+4) 180 1 A k c (wds (List.zipWith max (l1.take k) (l2.take k))))
  (fun t _=>n-(intOf t).toNat)
 case atStart=>exact⟨0,_,_,AE _,rfl,ES _ _,b7,by simpa [wds] using Own.nil _ _ _ _⟩
 case round =>
  obtain⟨k,A,c,hk,rfl,hbl,hb8,hown⟩:=hrel;have q3:=Cm hbl b3 (by simp);have q4:=Cm hbl b4 (by simp);by_cases hlt:k<n
  ·obtain⟨a1,ha1,hc1,k1⟩:=h1.word hlt;obtain⟨a2,ha2,hc2,k2⟩:=h2.word hlt;have q8:=hb8.cell 1;have f8:=hb8.free 1;have d1:=Cm hbl (x0.cell hc1) (by simp only[De];omega);have d2:=Cm hbl (x0.cell hc2) (by simp only[De];omega);simp at q8;obtain⟨x,hx⟩:∃x,l1.getD k 0=x:=⟨_,rfl⟩;obtain⟨y,hy⟩:∃y,l2.getD k 0=y:=⟨_,rfl⟩;obtain⟨m,hm2⟩:∃m,max x y=m:=⟨_,rfl⟩;have vm:(if x<y then y else x)=m:=by rw[<-hm2];split<;>omega
   rw[hx]at d1;rw[hy]at d2;have HM:Hid (max (l1.getD k 0) (l2.getD k 0)=m):=hid (by rw[hx,hy];exact hm2);clear hc1 hc2 hx hy;have i0:(0:Int)<=(k:Int):=GR _;have i1:(k:Int)<(n:Int):=by omega
   have hsz:=hbl.size;go_wp2;have X:Ext wr wr.drew:=(Ext.refl wr).drew;have q3':∀y:Xt wr.drew,y.W.cell? ⟨w.heap.size,1,none⟩=some (.slice A1 n c1):=fun y=>y.x.cell (X.cell q3);have q4':∀y:Xt wr.drew,y.W.cell? ⟨w.heap.size+1,1,none⟩=some (.slice A2 n c2):=fun y=>y.x.cell (X.cell q4);have q8':∀y:Xt wr.drew,y.W.cell? ⟨w.heap.size+1+1+1,1,none⟩=some (.slice A k c):=fun y=>y.x.cell (X.cell q8);have d1':∀y:Xt wr.drew,y.W.cell? (a1.add k)=some (.int .u32 x):=fun y=>y.x.cell (X.cell d1);have d2':∀z:Xt wr.drew,z.W.cell? (a2.add k)=some (.int .u32 y):=fun z=>z.x.cell (X.cell d2);refine wro [0,1,0,4,0,28,60,0,128,0,896,1920,4092,8188,16383,32767,65535] (.flo [0,1,2,3,4,5,6,7,8,9,10,11,12] (.ext 13 (.one 14 (.flo [15] (.one 16 (.fin)))))) ?_
   (refine Aa (pks rfl) ?_;(repeat (go_big_quiet_step (fail)));refine oq ?_)
   refine Bi (pks rfl) ?_;intro K_ hK_;go_wp2;refine Aq.mk ((Ext.refl _).alloc _) ?_;refine Ac (pks rfl) ?_;intro K_ hK_;go_wp2_with (at_builtin;refine Ck _ Ei (w.heap.size+4) _ _ (by rfl) (by rfl) A k c _ (by rfl) ((hown.alloc _).drew) (some ⟨wr.heap.size,0,none⟩) 1 1 _ (by rfl) ((Sl.one wr _ _ 1 rfl).drew) (by simp[Value.oneCell']) (by omega) (by omega) (by simp;omega) ?_;intro A' c' w1 ho1 hg1 hk1)
   have b81:=Bk.grown (by exact(hb8.alloc _).drew) hg1 (hown.ne (by simp));have f81:=b81.free 1;have q81:w1.cell? ⟨w.heap.size+1+1+1,1,none⟩=some (.slice A k c):=b81.cell 1
   (refine Aa (pks rfl) ?_;(repeat (go_big_quiet_step (fail)));refine oq ?_)
   refine Ac (pks rfl) ?_;intro K_ hK_;go_wp2;refine Ad ?_;go_wp2;rw[<-ha1,<-ha2]
   go_roundw
   case rel =>
    refine⟨k+1,A',c',by omega,by go_num,?_,?_,?_⟩
    ·exact(((hbl.alloc (by omega) _).drew).grown hg1 (by simp;omega) (fun g hg=>by have:=hown.lt g hg;omega)).setCell (by simp) _
    ·exact b81.set 1 _
    ·refine(show Own _ _ _ _ _ _ _ _ from ?_);have hl1:=h1.wlen;have hl2:=h2.wlen;have hm9:=HM.out;rw[Df _ _ (by omega),Df _ _ (by omega),GL (by simp;omega),<-In,List.zipWith_cons_cons,List.zipWith_nil_left,hm9];exact(ho1.far (by rcases hk1 with e|e<;>rw[e];exact hown.ne (by simp);simp;omega) _)
   case measure=>simp[intOf];omega
  ·obtain rfl:k=n:=by omega
   have r0:wr.cell? ⟨w.heap.size+1+1+1,0,none⟩=some (.int .u64 v):=hb8.cell 0;have r1:wr.cell? ⟨w.heap.size+1+1+1,1,none⟩=some (.slice A k c):=hb8.cell 1;have b6r:=b6.below hbl (by omega);have r2:wr.cell? ⟨w.heap.size+1+1,0,none⟩=some (.int .u64 0):=b6r.cell 0;have r3:wr.cell? ⟨w.heap.size+1+1,1,none⟩=some (.slice none 0 0):=b6r.cell 1;have r4:=b6r.free 0;have r5:=b6r.free 1;have bb:=(b6r.set 0 (.int .u64 v)).set 1 (.slice A k c);have q0:((wr.setCell ⟨w.heap.size+1+1,0,none⟩ (.int .u64 v)).setCell ⟨w.heap.size+1+1,1,none⟩ (.slice A k c)).cell? ⟨w.heap.size+1+1,0,none⟩=some (.int .u64 v):=bb.cell 0;have q1:((wr.setCell ⟨w.heap.size+1+1,0,none⟩ (.int .u64 v)).setCell ⟨w.heap.size+1+1,1,none⟩ (.slice A k c)).cell? ⟨w.heap.size+1+1,1,none⟩=some (.slice A k c):=bb.cell 1;go_wp2;refine bodyPost_ret (v:=.tuple #[.agg #[.int .u64 v,.slice A k c],.int .i64 0]) (by simp[results,Tryz.results196,go_sem,q0,q1]) rfl ?_;refine⟨A,c,rfl,?_,?_⟩
   ·have hl1:=h1.wlen;have hl2:=h2.wlen;rw[AT (by omega),AT (by omega)]at hown;exact((hown.mono (by omega)).far (hown.ne (by simp)) _).far (hown.ne (by simp)) _
   ·have e1:Ext w wr:=GO x0 (hbl.mono (by omega));exact(e1.set (by simp;omega) _).set (by simp;omega) _
theorem gR(e1 e2:Int)(A1 A2:Option Addr)(n c1 c2:Nat)(l1 l2:List Int)(w:World)(h1:Sl w 1 A1 n c1 (wds l1))(h2:Sl w 1 A2 n c2 (wds l2))(hn:n*4<=140737488355328) :
  Calls Tryz.prog 197 #[.agg #[.int .u64 e1,.slice A1 n c1],.agg #[.int .u64 e2,.slice A2 n c2]] w fun e w' =>
   ∃A c,e=.returned (.tuple #[.agg #[.int .u64 (min e1 e2),.slice A n c],.int .i64 0])/\Own w' w.heap.size 180 1 A n c (wds (List.zipWith min l1 l2))/\Ext w w':=by
 have hm:=h1.le;have he:((n:Int) != (n:Int))=false:=by simp
 obtain⟨v,hv⟩:∃v,min e1 e2=v:=⟨_,rfl⟩;have ve:(if e2<e1 then e2 else e1)=v:=by rw[<-hv];split<;>omega
 rw[hv];go_enter Tryz.func197,Tryz.ntmps197;go_wp2;obtain⟨w0,hw0⟩:∃w0,w0=(((w.alloc (Obj.cells #[Value.int IntKind.u64 e1,Value.slice A1 n c1] 26)).alloc (Obj.cells #[Value.int IntKind.u64 e2,Value.slice A2 n c2] 26)).alloc
   (Obj.cells #[Value.int IntKind.u64 0,Value.slice none 0 0] 26)).alloc (Obj.cells #[Value.int IntKind.u64 v,Value.slice none 0 0] 26):=⟨_,rfl⟩
 have x0:Ext w w0:=hw0▸((((Ext.refl w).alloc _).alloc _).alloc _).alloc _;have s0:w0.heap.size=w.heap.size+4:=by subst hw0;simp
 have b3:w0.cell? ⟨w.heap.size,1,none⟩=some (Value.slice A1 n c1):=by subst hw0;go_simp
 have b4:w0.cell? ⟨w.heap.size+1,1,none⟩=some (Value.slice A2 n c2):=by subst hw0;go_simp
 have b6:Bk w0 (w.heap.size+1+1) 26 #[Value.int IntKind.u64 0,Value.slice none 0 0]:=by subst hw0;exact(Bk.at (by simp)).alloc _
 have b7:Bk w0 (w.heap.size+1+1+1) 26 #[Value.int IntKind.u64 v,Value.slice none 0 0]:=by subst hw0;exact Bk.at (by simp)
 rw[<-hw0];clear hw0;have S0:=hid s0
 go_loopw [7] (fun t wr=>∃(k:Nat) (A:Option Addr) (c:Nat),k<=n/\t=.int .i64 k/\Below (w.heap.size+3) w0 wr/\Bk wr (w.heap.size+1+1+1) 26 #[.int .u64 v,.slice A k c]/\Own wr (w.heap.size+4) 180 1 A k c (wds (List.zipWith min (l1.take k) (l2.take k))))
  (fun t _=>n-(intOf t).toNat)
 case atStart=>exact⟨0,_,_,AE _,rfl,ES _ _,b7,by simpa [wds] using Own.nil _ _ _ _⟩
 case round =>
  obtain⟨k,A,c,hk,rfl,hbl,hb8,hown⟩:=hrel;have q3:=Cm hbl b3 (by simp);have q4:=Cm hbl b4 (by simp);by_cases hlt:k<n
  ·obtain⟨a1,ha1,hc1,k1⟩:=h1.word hlt;obtain⟨a2,ha2,hc2,k2⟩:=h2.word hlt;have q8:=hb8.cell 1;have f8:=hb8.free 1;have d1:=Cm hbl (x0.cell hc1) (by simp only[De];omega);have d2:=Cm hbl (x0.cell hc2) (by simp only[De];omega);simp at q8;obtain⟨x,hx⟩:∃x,l1.getD k 0=x:=⟨_,rfl⟩;obtain⟨y,hy⟩:∃y,l2.getD k 0=y:=⟨_,rfl⟩;obtain⟨m,hm2⟩:∃m,min x y=m:=⟨_,rfl⟩;have vm:(if y<x then y else x)=m:=by rw[<-hm2];split<;>omega
   rw[hx]at d1;rw[hy]at d2;have HM:Hid (min (l1.getD k 0) (l2.getD k 0)=m):=hid (by rw[hx,hy];exact hm2);clear hc1 hc2 hx hy;have i0:(0:Int)<=(k:Int):=GR _;have i1:(k:Int)<(n:Int):=by omega
   have hsz:=hbl.size;go_wp2;have X:Ext wr wr.drew:=(Ext.refl wr).drew;have q3':∀y:Xt wr.drew,y.W.cell? ⟨w.heap.size,1,none⟩=some (.slice A1 n c1):=fun y=>y.x.cell (X.cell q3);have q4':∀y:Xt wr.drew,y.W.cell? ⟨w.heap.size+1,1,none⟩=some (.slice A2 n c2):=fun y=>y.x.cell (X.cell q4);have q8':∀y:Xt wr.drew,y.W.cell? ⟨w.heap.size+1+1+1,1,none⟩=some (.slice A k c):=fun y=>y.x.cell (X.cell q8);have d1':∀y:Xt wr.drew,y.W.cell? (a1.add k)=some (.int .u32 x):=fun y=>y.x.cell (X.cell d1);have d2':∀z:Xt wr.drew,z.W.cell? (a2.add k)=some (.int .u32 y):=fun z=>z.x.cell (X.cell d2);refine wro [0,1,0,4,0,28,60,0,128,0,896,1920,4092,8188,16383,32767,65535] (.flo [0,1,2,3,4,5,6,7,8,9,10,11,12] (.ext 13 (.one 14 (.flo [15] (.one 16 (.fin)))))) ?_
   (refine Aa (pks rfl) ?_;(repeat (go_big_quiet_step (fail)));refine oq ?_)
   refine Bi (pks rfl) ?_;intro K_ hK_;go_wp2;refine Aq.mk ((Ext.refl _).alloc _) ?_;refine Ac (pks rfl) ?_;intro K_ hK_;go_wp2_with (at_builtin;refine Ck _ Ei (w.heap.size+4) _ _ (by rfl) (by rfl) A k c _ (by rfl) ((hown.alloc _).drew) (some ⟨wr.heap.size,0,none⟩) 1 1 _ (by rfl) ((Sl.one wr _ _ 1 rfl).drew) (by simp[Value.oneCell']) (by omega) (by omega) (by simp;omega) ?_;intro A' c' w1 ho1 hg1 hk1)
   have b81:=Bk.grown (by exact(hb8.alloc _).drew) hg1 (hown.ne (by simp));have f81:=b81.free 1;have q81:w1.cell? ⟨w.heap.size+1+1+1,1,none⟩=some (.slice A k c):=b81.cell 1
   (refine Aa (pks rfl) ?_;(repeat (go_big_quiet_step (fail)));refine oq ?_)
   refine Ac (pks rfl) ?_;intro K_ hK_;go_wp2;refine Ad ?_;go_wp2;rw[<-ha1,<-ha2]
   go_roundw
   case rel =>
    refine⟨k+1,A',c',by omega,by go_num,?_,?_,?_⟩
    ·exact(((hbl.alloc (by omega) _).drew).grown hg1 (by simp;omega) (fun g hg=>by have:=hown.lt g hg;omega)).setCell (by simp) _
    ·exact b81.set 1 _
    ·refine(show Own _ _ _ _ _ _ _ _ from ?_);have hl1:=h1.wlen;have hl2:=h2.wlen;have hm9:=HM.out;rw[Df _ _ (by omega),Df _ _ (by omega),GL (by simp;omega),<-In,List.zipWith_cons_cons,List.zipWith_nil_left,hm9];exact(ho1.far (by rcases hk1 with e|e<;>rw[e];exact hown.ne (by simp);simp;omega) _)
   case measure=>simp[intOf];omega
  ·obtain rfl:k=n:=by omega
   have r0:wr.cell? ⟨w.heap.size+1+1+1,0,none⟩=some (.int .u64 v):=hb8.cell 0;have r1:wr.cell? ⟨w.heap.size+1+1+1,1,none⟩=some (.slice A k c):=hb8.cell 1;have b6r:=b6.below hbl (by omega);have r2:wr.cell? ⟨w.heap.size+1+1,0,none⟩=some (.int .u64 0):=b6r.cell 0;have r3:wr.cell? ⟨w.heap.size+1+1,1,none⟩=some (.slice none 0 0):=b6r.cell 1;have r4:=b6r.free 0;have r5:=b6r.free 1;have bb:=(b6r.set 0 (.int .u64 v)).set 1 (.slice A k c);have q0:((wr.setCell ⟨w.heap.size+1+1,0,none⟩ (.int .u64 v)).setCell ⟨w.heap.size+1+1,1,none⟩ (.slice A k c)).cell? ⟨w.heap.size+1+1,0,none⟩=some (.int .u64 v):=bb.cell 0;have q1:((wr.setCell ⟨w.heap.size+1+1,0,none⟩ (.int .u64 v)).setCell ⟨w.heap.size+1+1,1,none⟩ (.slice A k c)).cell? ⟨w.heap.size+1+1,1,none⟩=some (.slice A k c):=bb.cell 1;go_wp2;refine bodyPost_ret (v:=.tuple #[.agg #[.int .u64 v,.slice A k c],.int .i64 0]) (by simp[results,Tryz.results197,go_sem,q0,q1]) rfl ?_;refine⟨A,c,rfl,?_,?_⟩
   ·have hl1:=h1.wlen;have hl2:=h2.wlen;rw[AT (by omega),AT (by omega)]at hown;exact((hown.mono (by omega)).far (hown.ne (by simp)) _).far (hown.ne (by simp)) _
   ·have e1:Ext w wr:=GO x0 (hbl.mono (by omega));exact(e1.set (by simp;omega) _).set (by simp;omega) _
theorem bM{mx:Int}{zl:List Int}(e1 e2:Int)(A1 A2:Option Addr)(n c1 c2:Nat)(l1 l2:List Int)(w:World)(hm:Hid (max e1 e2=mx))(hz:Hid (List.zipWith max l1 l2=zl))(h1:Hid (Sl w 1 A1 n c1 (wds l1)))(h2:Hid (Sl w 1 A2 n c2 (wds l2)))(hn:n<=100000) :
  Calls Tryz.prog 196 #[.agg #[.int .u64 e1,.slice A1 n c1],.agg #[.int .u64 e2,.slice A2 n c2]] w fun e w' =>
   ∃A c,e=.returned (.tuple #[.agg #[.int .u64 mx,.slice A n c],.int .i64 0])/\Own w' w.heap.size 180 1 A n c (wds zl)/\Ext w w':=by
 rw[<-hm.out,<-hz.out];exact gS e1 e2 A1 A2 n c1 c2 l1 l2 w h1.out h2.out (by omega)
theorem bK{mx:Int}{zl:List Int}(e1 e2:Int)(A1 A2:Option Addr)(n c1 c2:Nat)(l1 l2:List Int)(w:World)(hm:Hid (min e1 e2=mx))(hz:Hid (List.zipWith min l1 l2=zl))(h1:Hid (Sl w 1 A1 n c1 (wds l1)))(h2:Hid (Sl w 1 A2 n c2 (wds l2)))(hn:n<=100000) :
  Calls Tryz.prog 197 #[.agg #[.int .u64 e1,.slice A1 n c1],.agg #[.int .u64 e2,.slice A2 n c2]] w fun e w' =>
   ∃A c,e=.returned (.tuple #[.agg #[.int .u64 mx,.slice A n c],.int .i64 0])/\Own w' w.heap.size 180 1 A n c (wds zl)/\Ext w w':=by
 rw[<-hm.out,<-hz.out];exact gR e1 e2 A1 A2 n c1 c2 l1 l2 w h1.out h2.out (by omega)
theorem Bk.set_ne{w:World}{g:Nat}{T:TypeId}{cs:Array Value}(h:Bk w g T cs){p:Addr}(hp:g≠p.block)(u:Value):Bk (w.setCell p u) g T cs:=by
 have:=(Upd.refl (fun k=>k=p.block) w).setCell (p:=p) (.inl rfl) u;exact(this.block g h.lt hp).trans h
theorem lU(AL:Option Addr)(cL m:Nat)(L:List Tm)(e:Int)(A:Option Addr)(n c:Nat)(l:List Int)(w:World)(hm:Hid (m=L.length))(hL:Hid (Tin w AL cL L))(fL:Hid (Nx L))(ht:Hid (Sl w 1 A n c (wds l)))(u:U32 l)(h9:m<=1000000)(hn:n<=100000) :
  Calls Tryz.prog 121 #[.slice AL m cL,.agg #[.int .u64 e,.slice A n c]] w fun r w'=>∃A' c',r=.returned (.agg #[.int .u64 (Fg (L.map Tm.v) (e,l)).1,.slice A' n c'])/\((A'=A/\c'=c/\Fg (L.map Tm.v) (e,l)=(e,l))\/Own w' w.heap.size 180 1 A' n c' (wds (Fg (L.map Tm.v) (e,l)).2))/\Ext w w':=by
 have HN:Hid (n=l.length):=hid ht.out.wlen.symm;have HU:=hid u;clear u;go_enter Tryz.func121,Tryz.ntmps121;go_wp2;obtain⟨w0,hw0⟩:∃w0,w0=((w.alloc (Obj.cells #[Value.int IntKind.u64 e,Value.slice A n c] 26)).alloc (Obj.cells #[Value.int IntKind.u64 0,Value.slice none 0 0] 26)).alloc (Obj.cells #[Value.int IntKind.u64 e,Value.slice A n c] 26):=⟨_,rfl⟩;have X0:Hid (Ext w w0):=hid (hw0▸(((Ext.refl w).alloc _).alloc _).alloc _);have T0:Hid (Bk w0 w.heap.size 26 #[Value.int IntKind.u64 e,Value.slice A n c]):=hid (by subst hw0;exact((Bk.new _ _ _).alloc _).alloc _);have R0:Hid (Bk w0 (w.heap.size+1) 26 #[Value.int IntKind.u64 0,Value.slice none 0 0]):=hid (by subst hw0;exact(Bk.at (by simp)).alloc _);have O0:Hid (Bk w0 (w.heap.size+2) 26 #[Value.int IntKind.u64 e,Value.slice A n c]):=hid (by subst hw0;exact Bk.at (by simp));have S0:Hid (w.heap.size+3<=w0.heap.size):=hid (by subst hw0;simp);rw[<-hw0];clear hw0
 go_loopg [6,7] m (fun z v6 v7 wr=>∃(k:Nat) (acc:Option TV) (o:TV) (Ao:Option Addr) (co:Nat) (b:Bool),z=m-k/\k<=m/\v7=.int .i64 k/\v6=.bool b/\Hid (((L.map Tm.v).take k).foldl (Cv (e,l)) none=acc)/\Hid (Ext w wr)/\Hid (Bk wr w.heap.size 26 #[.int .u64 e,.slice A n c])/\Hid (Bk wr (w.heap.size+1) 26 #[.int .u64 0,.slice none 0 0])/\Hid (Bk wr (w.heap.size+2) 26 #[.int .u64 o.1,.slice Ao n co])/\Hid (w.heap.size+3<=wr.heap.size) /\
  ((acc=none/\b=true/\Hid (o=(e,l)/\Ao=A/\co=c))\/(acc=some o/\b=false/\Hid (Own wr (w.heap.size+3) 180 1 Ao n co (wds o.2))/\Hid (U32 o.2))))
 case atStart=>exact⟨0,none,(e,l),A,c,true,rfl,AE _,rfl,rfl,hid rfl,X0,T0,R0,O0,S0,.inl ⟨rfl,rfl,hid ⟨rfl,rfl,rfl⟩⟩⟩
 case round =>
  clear X0 T0 R0 O0 S0;obtain⟨k,acc,o,Ao,co,b,rfl,hk,rfl,rfl,HF,HE,tb,rb,ob,HW2,hacc⟩:=hrel;by_cases hlt:k<m
  ·have hkL:k<L.length:=by rw[<-hm.out];exact hlt
   obtain⟨f,Ax,nx,cx,lx,ad,TX,hx,hnx⟩:=(hL.out.ext HE.out).tmAt hkL;obtain⟨rfl,qq0,qq1,SX⟩:=TX;have hfx:=fL.out _ (Bj hkL);rw[hx]at hfx;have HG:Hid (U32 lx):=hid hfx.1;have HKV:=hid (Xy hkL);rw[hx]at HKV;have HNX:Hid (lx.length=nx):=hid hnx.symm;have HQ0:=hid qq0;have HQ1:=hid qq1;clear hx hnx hkL hfx qq0 qq1;have XE:Ext wr wr.drew:=(Ext.refl wr).drew;have q0:∀y:Xt wr.drew,y.W.cell? (ad.add (k*2))=some (.int .u64 f):=fun y=>HQ0.out ⟨_,XE.trans y.x⟩;have q1:∀y:Xt wr.drew,y.W.cell? ⟨(ad.add (k*2)).block,(ad.add (k*2)).off+1,none⟩=some (.slice Ax nx cx):=fun y=>HQ1.out ⟨_,XE.trans y.x⟩;have p0:∀y:Xt wr.drew,y.W.cell? ⟨w.heap.size,0,none⟩=some (.int .u64 e):=fun y=>(tb.out.ext (XE.trans y.x)).cell 0;have p1:∀y:Xt wr.drew,y.W.cell? ⟨w.heap.size,1,none⟩=some (.slice A n c):=fun y=>(tb.out.ext (XE.trans y.x)).cell 1;by_cases hs:n=nx
   ·subst hs;obtain⟨mx,hmx⟩:∃mx,max e f=mx:=⟨_,rfl⟩;obtain⟨zl,hzl⟩:∃zl,List.zipWith max l lx=zl:=⟨_,rfl⟩;have HMX:=hid hmx;have HZL:=hid hzl;clear hmx hzl;have HZU:Hid (U32 zl):=hid (HZL.out▸Rp HU.out HG.out);have HM:Hid (Rz (e,l) (f,lx)=(mx,zl)):=hid (by show(max e f,List.zipWith max l lx)=_;rw[HMX.out,HZL.out]);have HSM:Hid (same (e,l) (f,lx)=true):=hid (decide_eq_true (by have a:=HNX.out;have b:=HN.out;show l.length=lx.length;omega))
    go_upto_region 6 with fail
    refine wro [0,0,0,6,14,31,63,127,127,0,767,2047] (.flo [0,1,2,3,4] (.both 5 9 (.flo [6,7] (.pur [8] (.ext 9 (.one 10 (.flo [11] (.fin)))))) (.ext 5 (.flo [6,7] (.pur [8] (.one 10 (.flo [11] (.fin)))))))) ?_
    (refine Aa (pks rfl) ?_;(repeat (go_big_quiet_step (fail)));refine oq ?_)
    refine bR (pks rfl) (pks rfl) ?_ ?_<;>intro K_ hK_
    ·go_wp2_with (go_at_call 196;refine(bM e f A Ax n c cx l lx _ HMX HZL (hid (ht.out.ext (HE.out.trans XE))) (SX ⟨_,XE⟩) hn).mono ?_;rintro r w3 ⟨A3,c3,rfl,o3,x3⟩)
     refine Aq.mk x3 ?_
     (refine Aa (pks rfl) ?_;(repeat (go_big_quiet_step (fail)));refine oq ?_)
     (refine Bv (pks rfl) ?_;(repeat (go_big_quiet_step (fail)));refine oq ?_)
     refine Bi (pks rfl) ?_;intro K_ hK_;go_wp2;refine Aq.mk ((Ext.refl _).alloc _) ?_;have bz:Bk (w3.alloc (.cells #[.int .u64 0,.slice none 0 0] 26)) w3.heap.size 26 #[.int .u64 0,.slice none 0 0]:=Bk.new _ _ _;have d0:=bz.cell 0;have d1:=bz.cell 1;have d2:=bz.free 0;have d3:=bz.free 1;refine Ac (pks rfl) ?_;intro K_ hK_;go_wp2
     (refine Aa (pks rfl) ?_;(repeat (go_big_quiet_step (fail)));refine oq ?_)
     refine Ad ?_;obtain⟨w8,hw8⟩:∃w8,w8=w3.alloc (.cells #[.int .u64 mx,.slice A3 n c3] 26):=⟨_,rfl⟩;have t8:Bk w8 w3.heap.size 26 #[.int .u64 mx,.slice A3 n c3]:=by subst hw8;exact Bk.new _ _ _
     have x8:Ext wr w8:=by subst hw8;exact(XE.trans x3).alloc _
     have o8:Own w8 wr.heap.size 180 1 A3 n c3 (wds zl):=by subst hw8;exact(o3.mono XE.size).alloc _
     rw[<-hw8];clear hw8 bz d0 d1 d2 d3 o3 x3;have tb8:=tb.out.ext x8;have rb8:=rb.out.ext x8;have ob8:=ob.out.ext x8;have z0:=t8.cell 0;have z1:=t8.cell 1;have y0:=ob8.cell 0;have y1:=ob8.cell 1;have y2:=ob8.free 0;have y3:=ob8.free 1;have HT8:=hid t8;have X8:=hid x8;have HO8:=hid o8;have TB:=hid tb8;have RB:=hid rb8;have OB:=hid ob8;clear t8 x8 o8 tb8 rb8 ob8;rcases hacc with ⟨rfl,rfl,HOT⟩|⟨rfl,rfl,HOS,HOU⟩
     ·have y4:=OB.out.set2 (.int .u64 mx) (.slice A3 n c3);have y5:=y4.1;have y6:=y4.2;clear y4;go_wp2
      go_roundg (m-(k+1))
      case measure=>omega
      case rel =>
       have h8:=X8.out.size;have hw2:=HW2.out;refine⟨k+1,some (mx,zl),(mx,zl),A3,c3,false,by omega,by omega,by go_num,rfl,hid ?_,hid ?_,hid ?_,hid ?_,hid ?_,hid ?_,.inr ⟨rfl,rfl,hid ?_,hid HZU.out⟩⟩
       ·obtain⟨h1,h2⟩:=HKV.out;rw[Eh h1,HF.out,h2];show(if same (e,l) (f,lx)=true then some (Rz (e,l) (f,lx)) else none)=_;rw[if_pos HSM.out,HM.out]
       ·exact((HE.out.trans X8.out).set (p:=⟨w.heap.size+2,0,none⟩) (by simp) _).set (p:=⟨w.heap.size+2,1,none⟩) (by simp) _
       ·exact(TB.out.set_ne (p:=⟨w.heap.size+2,0,none⟩) (by simp) _).set_ne (p:=⟨w.heap.size+2,1,none⟩) (by simp) _
       ·exact(RB.out.set_ne (p:=⟨w.heap.size+2,0,none⟩) (by simp) _).set_ne (p:=⟨w.heap.size+2,1,none⟩) (by simp) _
       ·exact(OB.out.set 0 _).set 1 _
       ·simp only[DA];omega
       ·exact Own.mono ((HO8.out.far (HO8.out.ne (k:=w.heap.size+2) (by omega)) _).far (HO8.out.ne (k:=w.heap.size+2) (by omega)) _) (show w.heap.size+3<=wr.heap.size by omega)
     ·obtain⟨mn,hmn⟩:∃mn,min o.1 mx=mn:=⟨_,rfl⟩;obtain⟨zn,hzn⟩:∃zn,List.zipWith min o.2 zl=zn:=⟨_,rfl⟩;have HMN:=hid hmn;have HZN:=hid hzn;clear hmn hzn;have HM2:Hid (aR o (mx,zl)=(mn,zn)):=hid (by show(min o.1 mx,List.zipWith min o.2 zl)=_;rw[HMN.out,HZN.out]);go_wp2_with (first
       | (go_at_call 197;refine(bK o.1 mx Ao A3 n co c3 o.2 zl _ HMN HZN (hid (HOS.out.sl.ext X8.out)) (hid HO8.out.sl) hn).mono ?_;rintro r w5 ⟨A5,c5,rfl,o5,x5⟩;have TB:=hid (TB.out.ext x5);have RB:=hid (RB.out.ext x5);have OB:=hid (OB.out.ext x5);have y0:=OB.out.cell 0;have y1:=OB.out.cell 1;have y2:=OB.out.free 0;have y3:=OB.out.free 1;have y4:=OB.out.set2 (.int .u64 mn) (.slice A5 n c5);have y5:=y4.1;have y6:=y4.2;clear y4;have HO5:=hid o5;have X5:=hid x5;clear o5 x5))
      go_roundg (m-(k+1))
      case measure=>omega
      case rel =>
       have h8:=X8.out.size;have h5:=X5.out.size;have hw2:=HW2.out;refine⟨k+1,some (mn,zn),(mn,zn),A5,c5,false,by omega,by omega,by go_num,rfl,hid ?_,hid ?_,hid ?_,hid ?_,hid ?_,hid ?_,.inr ⟨rfl,rfl,hid ?_,hid (HZN.out▸Ro HOU.out HZU.out)⟩⟩
       ·obtain⟨h1,h2⟩:=HKV.out;rw[Eh h1,HF.out,h2];show(if same (e,l) (f,lx)=true then some (aR o (Rz (e,l) (f,lx))) else _)=_;rw[if_pos HSM.out,HM.out,HM2.out]
       ·exact(((HE.out.trans X8.out).trans X5.out).set (p:=⟨w.heap.size+2,0,none⟩) (by simp) _).set (p:=⟨w.heap.size+2,1,none⟩) (by simp) _
       ·exact(TB.out.set_ne (p:=⟨w.heap.size+2,0,none⟩) (by simp) _).set_ne (p:=⟨w.heap.size+2,1,none⟩) (by simp) _
       ·exact(RB.out.set_ne (p:=⟨w.heap.size+2,0,none⟩) (by simp) _).set_ne (p:=⟨w.heap.size+2,1,none⟩) (by simp) _
       ·exact(OB.out.set 0 _).set 1 _
       ·simp only[DA];omega
       ·exact Own.mono ((HO5.out.far (HO5.out.ne (k:=w.heap.size+2) (by omega)) _).far (HO5.out.ne (k:=w.heap.size+2) (by omega)) _) (show w.heap.size+3<=w8.heap.size by omega)
    ·go_wp2;refine Aq.mk ((Ext.refl _).alloc _) ?_;obtain⟨w2,hw2⟩:∃w2,w2=(wr.alloc (.cells #[.int .u64 0,.slice none 0 0] 26)).drew:=⟨_,rfl⟩;have b2:Bk w2 wr.heap.size 26 #[.int .u64 0,.slice none 0 0]:=by subst hw2;exact(Bk.new _ _ _).drew
     have x2:Ext wr.drew w2:=by subst hw2;exact(Ext.refl wr.drew).alloc _
     rw[<-hw2];clear hw2;have hb2:=b2.lt;refine Bi (pks rfl) ?_;intro K_ hK_;go_wp2_with (go_at_call 196;refine(bM e f A Ax n c cx l lx _ HMX HZL (hid (ht.out.ext (HE.out.trans (XE.trans x2)))) (SX ⟨_,(XE.trans x2)⟩) hn).mono ?_;rintro r w3 ⟨A3,c3,rfl,o3,x3⟩)
     refine Aq.mk x3 ?_;have bz:=b2.ext x3;have d0:=bz.cell 0;have d1:=bz.cell 1;have d2:=bz.free 0;have d3:=bz.free 1;have d4:=bz.set2 (.int .u64 mx) (.slice A3 n c3);have d5:=d4.1;have d6:=d4.2;clear d4
     (refine Aa (pks rfl) ?_;(repeat (go_big_quiet_step (fail)));refine oq ?_)
     (refine Bv (pks rfl) ?_;(repeat (go_big_quiet_step (fail)));refine oq ?_)
     refine Ac (pks rfl) ?_;intro K_ hK_;go_wp2
     (refine Aa (pks rfl) ?_;(repeat (go_big_quiet_step (fail)));refine oq ?_)
     refine Ad ?_;have hgw:wr.heap.size<=wr.heap.size:=AD _;obtain⟨w8,hw8⟩:∃w8,w8=(w3.setCell ⟨wr.heap.size,0,none⟩ (.int .u64 mx)).setCell ⟨wr.heap.size,1,none⟩ (.slice A3 n c3):=⟨_,rfl⟩;have t8:Bk w8 wr.heap.size 26 #[.int .u64 mx,.slice A3 n c3]:=by subst hw8;exact(bz.set 0 _).set 1 _
     have x8:Ext wr w8:=by subst hw8;exact(((XE.trans x2).trans x3).set hgw _).set hgw _
     have o8:Own w8 wr.heap.size 180 1 A3 n c3 (wds zl):=by subst hw8;exact((o3.far (o3.ne hb2) _).far (o3.ne hb2) _).mono (AQ XE.size x2.size)
     rw[<-hw8];clear hw8 bz d0 d1 d2 d3 d5 d6 o3 x3 b2;have tb8:=tb.out.ext x8;have rb8:=rb.out.ext x8;have ob8:=ob.out.ext x8;have z0:=t8.cell 0;have z1:=t8.cell 1;have y0:=ob8.cell 0;have y1:=ob8.cell 1;have y2:=ob8.free 0;have y3:=ob8.free 1;have HT8:=hid t8;have X8:=hid x8;have HO8:=hid o8;have TB:=hid tb8;have RB:=hid rb8;have OB:=hid ob8;clear t8 x8 o8 tb8 rb8 ob8;rcases hacc with ⟨rfl,rfl,HOT⟩|⟨rfl,rfl,HOS,HOU⟩
     ·have y4:=OB.out.set2 (.int .u64 mx) (.slice A3 n c3);have y5:=y4.1;have y6:=y4.2;clear y4;go_wp2
      go_roundg (m-(k+1))
      case measure=>omega
      case rel =>
       have h8:=X8.out.size;have hw2:=HW2.out;refine⟨k+1,some (mx,zl),(mx,zl),A3,c3,false,by omega,by omega,by go_num,rfl,hid ?_,hid ?_,hid ?_,hid ?_,hid ?_,hid ?_,.inr ⟨rfl,rfl,hid ?_,hid HZU.out⟩⟩
       ·obtain⟨h1,h2⟩:=HKV.out;rw[Eh h1,HF.out,h2];show(if same (e,l) (f,lx)=true then some (Rz (e,l) (f,lx)) else none)=_;rw[if_pos HSM.out,HM.out]
       ·exact((HE.out.trans X8.out).set (p:=⟨w.heap.size+2,0,none⟩) (by simp) _).set (p:=⟨w.heap.size+2,1,none⟩) (by simp) _
       ·exact(TB.out.set_ne (p:=⟨w.heap.size+2,0,none⟩) (by simp) _).set_ne (p:=⟨w.heap.size+2,1,none⟩) (by simp) _
       ·exact(RB.out.set_ne (p:=⟨w.heap.size+2,0,none⟩) (by simp) _).set_ne (p:=⟨w.heap.size+2,1,none⟩) (by simp) _
       ·exact(OB.out.set 0 _).set 1 _
       ·simp only[DA];omega
       ·exact Own.mono ((HO8.out.far (HO8.out.ne (k:=w.heap.size+2) (by omega)) _).far (HO8.out.ne (k:=w.heap.size+2) (by omega)) _) (show w.heap.size+3<=wr.heap.size by omega)
     ·obtain⟨mn,hmn⟩:∃mn,min o.1 mx=mn:=⟨_,rfl⟩;obtain⟨zn,hzn⟩:∃zn,List.zipWith min o.2 zl=zn:=⟨_,rfl⟩;have HMN:=hid hmn;have HZN:=hid hzn;clear hmn hzn;have HM2:Hid (aR o (mx,zl)=(mn,zn)):=hid (by show(min o.1 mx,List.zipWith min o.2 zl)=_;rw[HMN.out,HZN.out]);go_wp2_with (first
       | (go_at_call 197;refine(bK o.1 mx Ao A3 n co c3 o.2 zl _ HMN HZN (hid (HOS.out.sl.ext X8.out)) (hid HO8.out.sl) hn).mono ?_;rintro r w5 ⟨A5,c5,rfl,o5,x5⟩;have TB:=hid (TB.out.ext x5);have RB:=hid (RB.out.ext x5);have OB:=hid (OB.out.ext x5);have y0:=OB.out.cell 0;have y1:=OB.out.cell 1;have y2:=OB.out.free 0;have y3:=OB.out.free 1;have y4:=OB.out.set2 (.int .u64 mn) (.slice A5 n c5);have y5:=y4.1;have y6:=y4.2;clear y4;have HO5:=hid o5;have X5:=hid x5;clear o5 x5))
      go_roundg (m-(k+1))
      case measure=>omega
      case rel =>
       have h8:=X8.out.size;have h5:=X5.out.size;have hw2:=HW2.out;refine⟨k+1,some (mn,zn),(mn,zn),A5,c5,false,by omega,by omega,by go_num,rfl,hid ?_,hid ?_,hid ?_,hid ?_,hid ?_,hid ?_,.inr ⟨rfl,rfl,hid ?_,hid (HZN.out▸Ro HOU.out HZU.out)⟩⟩
       ·obtain⟨h1,h2⟩:=HKV.out;rw[Eh h1,HF.out,h2];show(if same (e,l) (f,lx)=true then some (aR o (Rz (e,l) (f,lx))) else _)=_;rw[if_pos HSM.out,HM.out,HM2.out]
       ·exact(((HE.out.trans X8.out).trans X5.out).set (p:=⟨w.heap.size+2,0,none⟩) (by simp) _).set (p:=⟨w.heap.size+2,1,none⟩) (by simp) _
       ·exact(TB.out.set_ne (p:=⟨w.heap.size+2,0,none⟩) (by simp) _).set_ne (p:=⟨w.heap.size+2,1,none⟩) (by simp) _
       ·exact(RB.out.set_ne (p:=⟨w.heap.size+2,0,none⟩) (by simp) _).set_ne (p:=⟨w.heap.size+2,1,none⟩) (by simp) _
       ·exact(OB.out.set 0 _).set 1 _
       ·simp only[DA];omega
       ·exact Own.mono ((HO5.out.far (HO5.out.ne (k:=w.heap.size+2) (by omega)) _).far (HO5.out.ne (k:=w.heap.size+2) (by omega)) _) (show w.heap.size+3<=w8.heap.size by omega)
   ·have hne:((n:Int) != (nx:Int))=true:=by simp;omega
    have HS:=hid hs;clear hs
    go_upto_region 6 with fail
    refine wro [0,0,0,6,14,31,63,127,127,0,767,2047] (.flo [0,1,2,3,4] (.both 5 9 (.flo [6,7] (.pur [8] (.ext 9 (.one 10 (.flo [11] (.fin)))))) (.ext 5 (.flo [6,7] (.pur [8] (.one 10 (.flo [11] (.fin)))))))) ?_
    (refine Aa (pks rfl) ?_;(repeat (go_big_quiet_step (fail)));refine oq ?_)
    refine bR (pks rfl) (pks rfl) ?_ ?_<;>intro K_ hK_
    ·go_wp2_with (go_at_call 196;refine(Uc e f A Ax n nx c cx _ hne).mono ?_;rintro r w3 ⟨rfl,x3⟩)
     refine Aq.mk x3 ?_
     (refine Aa (pks rfl) ?_;(repeat (go_big_quiet_step (fail)));refine oq ?_)
     (refine Bv (pks rfl) ?_;(repeat (go_big_quiet_step (fail)));refine oq ?_)
     refine Bi (pks rfl) ?_;intro K_ hK_;go_wp2;refine Aq.mk ((Ext.refl _).alloc _) ?_;have bz:Bk (w3.alloc (.cells #[.int .u64 0,.slice none 0 0] 26)) w3.heap.size 26 #[.int .u64 0,.slice none 0 0]:=Bk.new _ _ _;have d0:=bz.cell 0;have d1:=bz.cell 1;have d2:=bz.free 0;have d3:=bz.free 1;refine Ac (pks rfl) ?_;intro K_ hK_;go_wp2
     (refine Aa (pks rfl) ?_;(repeat (go_big_quiet_step (fail)));refine oq ?_)
     refine Ad ?_;have X8:=hid ((XE.trans x3).alloc (.cells #[.int .u64 0,.slice none 0 0] 26));clear bz d0 d1 d2 d3 x3;go_wp2
     go_roundg (m-(k+1))
     case measure=>omega
     case rel =>
      refine⟨k+1,acc,o,Ao,co,b,by omega,by omega,by go_num,rfl,hid ?_,hid (HE.out.trans X8.out),hid (tb.out.ext X8.out),hid (rb.out.ext X8.out),hid (ob.out.ext X8.out),hid (by have:=X8.out.size;have:=HW2.out;omega),?_⟩
      ·obtain⟨h1,h2⟩:=HKV.out;rw[Eh h1,HF.out,h2];unfold Cv;rw[if_neg (by have a:=HNX.out;have b:=HN.out;have cc:=HS.out;show ¬same (e,l) (f,lx)=true;unfold same;rw[decide_eq_true_iff];show ¬l.length=lx.length;omega)]
      ·rcases hacc with ⟨h1,h2,h3⟩|⟨h1,h2,h3,h4⟩
       ·exact .inl ⟨h1,h2,hid h3.out⟩
       ·exact .inr ⟨h1,h2,hid (h3.out.ext X8.out),h4⟩
    ·go_wp2;refine Aq.mk ((Ext.refl _).alloc _) ?_;obtain⟨w2,hw2⟩:∃w2,w2=(wr.alloc (.cells #[.int .u64 0,.slice none 0 0] 26)).drew:=⟨_,rfl⟩;have b2:Bk w2 wr.heap.size 26 #[.int .u64 0,.slice none 0 0]:=by subst hw2;exact(Bk.new _ _ _).drew
     have x2:Ext wr.drew w2:=by subst hw2;exact(Ext.refl wr.drew).alloc _
     rw[<-hw2];clear hw2;have hb2:=b2.lt;refine Bi (pks rfl) ?_;intro K_ hK_;go_wp2_with (go_at_call 196;refine(Uc e f A Ax n nx c cx _ hne).mono ?_;rintro r w3 ⟨rfl,x3⟩)
     refine Aq.mk x3 ?_;have bz:=b2.ext x3;have d0:=bz.cell 0;have d1:=bz.cell 1;have d2:=bz.free 0;have d3:=bz.free 1;have d4:=bz.set2 (.int .u64 0) (.slice none 0 0);have d5:=d4.1;have d6:=d4.2;clear d4
     (refine Aa (pks rfl) ?_;(repeat (go_big_quiet_step (fail)));refine oq ?_)
     (refine Bv (pks rfl) ?_;(repeat (go_big_quiet_step (fail)));refine oq ?_)
     refine Ac (pks rfl) ?_;intro K_ hK_;go_wp2
     (refine Aa (pks rfl) ?_;(repeat (go_big_quiet_step (fail)));refine oq ?_)
     refine Ad ?_;have hgw:wr.heap.size<=wr.heap.size:=AD _;have X8:=hid ((((XE.trans x2).trans x3).set (p:=⟨wr.heap.size,0,none⟩) hgw (.int .u64 0)).set (p:=⟨wr.heap.size,1,none⟩) hgw (.slice none 0 0));clear bz d0 d1 d2 d3 d5 d6 x3 b2;go_wp2
     go_roundg (m-(k+1))
     case measure=>omega
     case rel =>
      refine⟨k+1,acc,o,Ao,co,b,by omega,by omega,by go_num,rfl,hid ?_,hid (HE.out.trans X8.out),hid (tb.out.ext X8.out),hid (rb.out.ext X8.out),hid (ob.out.ext X8.out),hid (by have:=X8.out.size;have:=HW2.out;omega),?_⟩
      ·obtain⟨h1,h2⟩:=HKV.out;rw[Eh h1,HF.out,h2];unfold Cv;rw[if_neg (by have a:=HNX.out;have b:=HN.out;have cc:=HS.out;show ¬same (e,l) (f,lx)=true;unfold same;rw[decide_eq_true_iff];show ¬l.length=lx.length;omega)]
      ·rcases hacc with ⟨h1,h2,h3⟩|⟨h1,h2,h3,h4⟩
       ·exact .inl ⟨h1,h2,hid h3.out⟩
       ·exact .inr ⟨h1,h2,hid (h3.out.ext X8.out),h4⟩
  ·obtain rfl:m=k:=by omega
   have HF2:Hid (Fg (L.map Tm.v) (e,l)=o):=hid (by
    have h1:=HF.out;rw[show m=(L.map Tm.v).length by rw[AN];exact hm.out,DU]at h1;unfold Fg oN;rw[h1];rcases hacc with ⟨h2,_,h3⟩|⟨h2,_⟩
    ·rw[h2,h3.out.1];rfl
    ·rw[h2];rfl)
   have HXE:Hid (∀u v,Ext w ((wr.setCell ⟨w.heap.size+1,0,none⟩ u).setCell ⟨w.heap.size+1,1,none⟩ v)):=hid (fun u v=>(HE.out.set (p:=⟨w.heap.size+1,0,none⟩) (by simp) _).set (p:=⟨w.heap.size+1,1,none⟩) (by simp) _);have HOS:Hid (∀u v,(Ao=A/\co=c/\o=(e,l))\/Own ((wr.setCell ⟨w.heap.size+1,0,none⟩ u).setCell ⟨w.heap.size+1,1,none⟩ v) w.heap.size 180 1 Ao n co (wds o.2)):=hid (fun u v=>by
    rcases hacc with ⟨_,_,h3⟩|⟨_,_,h3,_⟩
    ·obtain⟨a1,a2,a3⟩:=h3.out;exact .inl ⟨a2,a3,a1⟩
    ·exact .inr (((h3.out.far (h3.out.ne (k:=w.heap.size+1) (by omega)) _).far (h3.out.ne (k:=w.heap.size+1) (by omega)) _).mono (by omega)))
   have z0:=ob.out.cell 0;have z1:=ob.out.cell 1;have z2:=rb.out.cell 0;have z3:=rb.out.cell 1;have z4:=rb.out.free 0;have z5:=rb.out.free 1;have bb:=rb.out.set2 (.int .u64 o.1) (.slice Ao n co);have z6:=bb.1;have z7:=bb.2;clear hacc;go_wp2;refine bodyPost_ret (v:=.agg #[.int .u64 o.1,.slice Ao n co]) (by simp[results,Tryz.results121,go_sem,bb.1,bb.2]) rfl ⟨Ao,co,by rw[HF2.out],?_,?_⟩
   ·rw[HF2.out];exact HOS.out _ _
   ·exact HXE.out _ _
theorem qG{b:Bool}(e1 e2:Int)(A1 A2:Option Addr)(n1 n2 c1 c2:Nat)(l1 l2:List Int)(w:World)(hb:Hid (Iq e1 l1 e2 l2=b))(h1:Sl w 1 A1 n1 c1 (wds l1))(h2:Sl w 1 A2 n2 c2 (wds l2)) :
  Calls Tryz.prog 119 #[.agg #[.int .u64 e1,.slice A1 n1 c1],.agg #[.int .u64 e2,.slice A2 n2 c2]] w fun e w'=>e=.returned (.bool b)/\Ext w w':=hb.out▸bL e1 e2 A1 A2 n1 n2 c1 c2 l1 l2 w h1 h2
def AtP(w:World)(L:List Ud)(U:List V)(e:Ending)(w':World):Prop:=∃A m c M,e=.returned (.slice A m c)/\m=M.length/\Own w' w.heap.size 154 2 A m c (Bg M)/\(∀y∈M,∃x∈L,y.A=x.A/\y.c=x.c/\y.l=x.l)/\M.map Am=U/\Ext w w'
theorem tT{w w0 w':World}{L:List Ud}{t:TV}{U0 U:List V}{e:Ending}(h:oS w0 (atU L t) U0 e w')(x:Ext w w0)(hv:U0=U):AtP w L U e w':=by
 subst hv;obtain⟨A,m,c,M,e1,e2,o,p,v,x2⟩:=h;refine⟨A,m,c,M,e1,e2,o.mono x.size,fun y hy=>?_,v,x.trans x2⟩;obtain⟨z,hz,q1,q2,q3⟩:=p y hy;obtain⟨u,hu,rfl⟩:=AW.1 hz;exact⟨u,(BV.1 hu).1,q1,q2,q3⟩
theorem dW{U:List V}(A:Option Addr)(c n:Nat)(L:List Ud)(e:Int)(At:Option Addr)(nt ct:Nat)(lt:List Int)(w:World)(hU:Hid (sumV (atV (L.map Ud.uv) (e,lt))=U))(hn:Hid (n=L.length))(h:Hid (Uin w A c L))(h9:n<=1000000)(ht:Hid (Sl w 1 At nt ct (wds lt))) :
  Calls Tryz.prog 26 #[.slice A n c,.agg #[.int .u64 e,.slice At nt ct]] w (AtP w L U):=by
 go_enter Tryz.func26,Tryz.ntmps26;go_wp2;obtain⟨wb,hwb⟩:∃wb,wb=w.alloc (.cells #[.int .u64 e,.slice At nt ct] 26):=⟨_,rfl⟩;have XB:Hid (Ext w wb):=hid (by rw[hwb];exact(Ext.refl _).alloc _);have BT:Hid (Bk wb w.heap.size 26 #[.int .u64 e,.slice At nt ct]):=hid (by rw[hwb];exact Bk.new _ _ _);rw[<-hwb];clear hwb;obtain⟨gt,hgt⟩:∃k,k=w.heap.size:=⟨_,rfl⟩;rw[<-hgt]at BT ⊢;clear hgt;have HP0:Hid (Nv wb wb L (e,lt) 0 none 0 0):=hid ⟨rfl,Own.nil _ _ _ _,Ext.refl _⟩
 go_loopg [5,6] n (fun z u v wr=>∃(i m c3:Nat) (A3:Option Addr),z=n-i/\i<=n/\m<=i/\u=.slice A3 m c3/\v=.int .i64 i/\Hid (Nv wb wr L (e,lt) i A3 m c3))
 case atStart=>exact⟨0,0,0,none,rfl,AE _,AD _,rfl,rfl,HP0⟩
 case round =>
  clear HP0;obtain⟨i,m,c3,A3,rfl,hi,hmi,rfl,rfl,HP⟩:=hrel;by_cases hlt:i<n
  ·have hil:i<L.length:=by rw[<-hn.out];exact hlt
   have XW:=XB.out.trans HP.out.ext;obtain⟨ad,rfl,p0,p1,p2,p3⟩:=(h.out.ext XW).at hil;have hm:=Ar hil;obtain⟨x,hx⟩:∃x,L.getD i Ud.zero=x:=⟨_,rfl⟩;rw[hx]at p0 p1 p2 p3 hm;obtain⟨nx,hnx⟩:∃nx,nx=x.l.length:=⟨_,rfl⟩;obtain⟨tx,htx⟩:∃tx,tx=x.t.l.length:=⟨_,rfl⟩;rw[<-hnx]at p0;rw[<-htx]at p2;have HNX:=hid hnx;have HX:=hid hx;have HIL:=hid hil;have HTX:Hid (∀W,Ext wr W->Sl W 1 x.t.A tx x.t.c (wds x.t.l)):=hid (fun W q=>by rw[htx];exact((h.out.ls x hm).t.ext XW).ext q);have HT:Hid (∀W,Ext wr W->Sl W 1 At nt ct (wds lt)):=hid (fun W q=>(ht.out.ext XW).ext q);have X:Ext wr wr.drew:=(Ext.refl wr).drew;have t0:∀z:Xt wr.drew,z.W.cell? ⟨gt,0,none⟩=some (.int .u64 e):=fun z=>(BT.out.ext ((HP.out.ext.trans X).trans z.x)).cell 0;have t1:∀z:Xt wr.drew,z.W.cell? ⟨gt,1,none⟩=some (.slice At nt ct):=fun z=>(BT.out.ext ((HP.out.ext.trans X).trans z.x)).cell 1;have P0:∀z:Xt wr.drew,z.W.cell? (ad.add (i*4))=some (.slice x.A nx x.c):=fun z=>(X.trans z.x).cell p0;have P1:∀z:Xt wr.drew,z.W.cell? ⟨(ad.add (i*4)).block,(ad.add (i*4)).off+1,none⟩=some (.int .u64 x.t.e):=fun z=>(X.trans z.x).cell p1;have P2:∀z:Xt wr.drew,z.W.cell? ⟨(ad.add (i*4)).block,(ad.add (i*4)).off+2,none⟩=some (.slice x.t.A tx x.t.c):=fun z=>(X.trans z.x).cell p2;have P3:∀z:Xt wr.drew,z.W.cell? ⟨(ad.add (i*4)).block,(ad.add (i*4)).off+3,none⟩=some (.int .i64 x.d):=fun z=>(X.trans z.x).cell p3;obtain⟨b,hb⟩:∃b,Iq x.t.e x.t.l e lt=b:=⟨_,rfl⟩;have HB:=hid hb;clear hil hm hx hnx htx hb XW p0 p1 p2 p3
   go_upto_region 5 with fail
   refine wro [0,0,3,7,15,0,63] (.flo [0,1,2,3,4,5] (.one 6 (.fin))) ?_
   (refine Aa (pks rfl) ?_;(repeat (go_big_quiet_step (fail)));refine oq ?_)
   refine Ac (pks rfl) ?_;intro K_ hK_;go_wp2_with (go_at_call 119;refine(qG x.t.e e x.t.A At tx nt x.t.c ct x.t.l lt _ HB (HTX.out _ X) (HT.out _ X)).mono ?_;rintro r w1 ⟨rfl,x1⟩)
   refine Ad ?_;cases b with
   | true =>
    have P0:∀z:Xt w1,z.W.cell? (ad.add (i*4))=some (.slice x.A nx x.c):=fun z=>P0 ⟨z.W,x1.trans z.x⟩;have P3:∀z:Xt w1,z.W.cell? ⟨(ad.add (i*4)).block,(ad.add (i*4)).off+3,none⟩=some (.int .i64 x.d):=fun z=>P3 ⟨z.W,x1.trans z.x⟩;have HP1:=hid ((HP.out.own.ext (X.trans x1)));have HE1:=hid (HP.out.ext.trans (X.trans x1));clear P1 P2 t0 t1 X;have X:Ext w1 w1.drew:=(Ext.refl w1).drew;have P0:∀z:Xt w1.drew,z.W.cell? (ad.add (i*4))=some (.slice x.A nx x.c):=fun z=>P0 ⟨z.W,X.trans z.x⟩;have P3:∀z:Xt w1.drew,z.W.cell? ⟨(ad.add (i*4)).block,(ad.add (i*4)).off+3,none⟩=some (.int .i64 x.d):=fun z=>P3 ⟨z.W,X.trans z.x⟩;have hw1:wb.heap.size<=w1.heap.size:=HE1.out.size
    go_upto_region 6 with fail
    refine wro [0,0,0,6,14,30,0,0,192,448,960,2046,4094,8191,16383] (.pur [0] (.flo [1,2,3,4,5,6,7,8,9,10,11] (.one 12 (.one 13 (.flo [14] (.fin)))))) ?_
    (refine Bv (pks rfl) ?_;(repeat (go_big_quiet_step (fail)));refine oq ?_)
    (refine Aa (pks rfl) ?_;(repeat (go_big_quiet_step (fail)));refine oq ?_)
    refine Ac (pks rfl) ?_;intro K_ hK_;go_wp2;refine Ac (pks rfl) ?_;intro K_ hK_;go_wp2_with (at_builtin;refine Ab _ Br wb.heap.size _ _ rfl rfl A3 m c3 (Bg (atU (L.take i) (e,lt))) rfl ((HP1.out.ext X).alloc _) (some ⟨w1.heap.size,0,none⟩) 1 1 [.slice x.A nx x.c,.int .i64 x.d] rfl (Mt _ _ _ _) (by intro u hu;simp at hu;rcases hu with rfl|rfl<;>rfl) (by omega) (by decide) (by simp;omega) ?_;intro A6 c6 w6 o6 g6 h6;clear h6;have HQ6:Hid (Nv wb w6 L (e,lt) (i+1) A6 (m+1) c6):=hid (HP.out.more HIL.out HX.out HB.out rfl (by have:=o6;rwa [HNX.out]at this) (((HE1.out.trans X).alloc _).grown g6 (fun k e=>(HP1.out.lt k e).1)));clear o6 g6)
    go_simp
    (refine Aa (pks rfl) ?_;(repeat (go_big_quiet_step (fail)));refine oq ?_)
    refine Ad ?_;go_wp2
    go_roundg (n-(i+1))
    case measure=>omega
    case rel=>exact⟨i+1,m+1,c6,A6,rfl,by omega,by omega,rfl,by go_num,HQ6⟩
   | false =>
    have HQ6:Hid (Nv wb w1 L (e,lt) (i+1) A3 m c3):=hid (HP.out.skip HIL.out HX.out HB.out (X.trans x1));go_wp2
    go_roundg (n-(i+1))
    case measure=>omega
    case rel=>exact⟨i+1,m,c3,A3,rfl,by omega,by omega,rfl,by go_num,HQ6⟩
  ·obtain rfl:i=n:=by omega
   have XW:=XB.out.trans HP.out.ext;have ea:atU (L.take i) (e,lt)=atU L (e,lt):=by rw[AT (by rw[<-hn.out];exact AD _)]
   have HC:Hid (Er wr A3 c3 (atU L (e,lt))):=hid ⟨by have:=HP.out.own.sl;have q:=HP.out.len;rw[ea]at this q;rwa [q]at this,fun y hy=>by
    obtain⟨x,hx,rfl⟩:=AW.1 hy;exact(h.out.ls x (BV.1 hx).1).r.ext XW⟩
   have HM:Hid (m=(atU L (e,lt)).length):=hid (by rw[<-ea];exact HP.out.len);have HV:Hid (sumV ((atU L (e,lt)).map Am)=U):=hid (by rw[kG];exact hU.out);have HXW:=hid XW;clear ea XW;go_wp2_with (go_at_call 120;refine(gT A3 c3 m (atU L (e,lt)) _ HM.out HC.out (by omega)).mono ?_;rintro r w2 hr;have HR:Hid (AtP w L U r w2):=hid (tT hr HXW.out HV.out);obtain⟨A2,m2,c2,R2,rfl,hr2⟩:=hr;clear hr2)
   go_ret;exact HR.out
def pW(w wr:World)(x z:Ud):Prop:=(z.t.A=x.t.A/\z.t.c=x.t.c/\z.t.l=x.t.l)\/Own wr w.heap.size 180 1 z.t.A z.t.l.length z.t.c (wds z.t.l)
def Dz(w wr:World)(x z:Ud):Prop:=z.A=x.A/\z.c=x.c/\z.l=x.l/\pW w wr x z
theorem Dz.ext{w wr w':World}{x z:Ud}(h:Dz w wr x z)(y:Ext wr w'):Dz w w' x z:=⟨h.1,h.2.1,h.2.2.1,h.2.2.2.imp id fun o=>o.ext y⟩
theorem Dz.udr{w wr:World}{x z:Ud}(h:Dz w wr x z)(u:UdR w x)(y:Ext w wr):UdR wr z:=by
 obtain⟨e1,e2,e3,q⟩:=h;refine⟨by rw[e1,e2,e3];exact u.r.ext y,?_⟩;rcases q with ⟨f1,f2,f3⟩|o
 ·rw[f1,f2,f3];exact u.t.ext y
 ·exact o.sl
theorem Dz.like{w wr:World}{x z y:Ud}(h:Dz w wr x z)(q:Jy y z):Dz w wr x y:=by
 obtain⟨e1,e2,e3,e4⟩:=h;obtain⟨f1,f2,f3,f4⟩:=q;exact⟨f1.trans e1,f2.trans e2,f3.trans e3,by unfold pW;rw[f4];exact e4⟩
def oP(w:World)(L:List Ud)(V:List UV)(e:Ending)(w':World):Prop:=∃A m c M,e=.returned (.slice A m c)/\m=M.length/\Own w' w.heap.size 95 4 A m c (Ah M)/\(∀y∈M,∃x∈L,Dz w w' x y)/\M.map Ud.uv=V/\Ext w w'
theorem oP.toU{w w':World}{L:List Ud}{V:List UV}{e:Ending}(h:oP w L V e w')(hL:∀x∈L,UdR w x):xZ w V e w':=by
 obtain⟨A,m,c,M,e1,e2,o,p,v,x⟩:=h;refine⟨A,m,c,M,e1,e2,⟨by rw[<-e2];exact o.sl,fun y hy=>?_⟩,v,x⟩;obtain⟨z,hz,q⟩:=p y hy;exact q.udr (hL z hz) x
structure Qf (w wr:World) (S:List TV) (L:List Ud) (i:Nat) (A:Option Addr) (m c:Nat) (K:List Ud):Prop where
 own:Own wr w.heap.size 95 4 A m c (Ah K)
 len:m=K.length
 ls:∀z∈K,∃x∈L,Dz w wr x z
 vals:K.map Ud.uv=((L.take i).map Ud.uv).map (Bp S)
 ext:Ext w wr
theorem Qf.udr{w wr:World}{S:List TV}{L K:List Ud}{i m c:Nat}{A:Option Addr}(h:Qf w wr S L i A m c K)(hL:∀x∈L,UdR w x):∀x∈K,UdR wr x:=fun z hz=>by
 obtain⟨x,hx,q⟩:=h.ls z hz;exact q.udr (hL x hx) h.ext
theorem oG{t x:TV}{acc:Option TV}(ht:U32 t.2)(hx:U32 x.2)(h:∀o,acc=some o->U32 o.2):∀o,Cv t acc x=some o->U32 o.2:=by
 intro o ho;unfold Cv at ho;split at ho
 ·cases acc with
  | none =>
   injection ho with ho;rw[<-ho];exact Rp ht hx
  | some q =>
   injection ho with ho;rw[<-ho];exact Ro (h q rfl) (Rp ht hx)
 ·exact h o ho
theorem pV{t:TV}(ht:U32 t.2):∀(a:List TV) (acc:Option TV),(∀v∈a,U32 v.2)->(∀o,acc=some o->U32 o.2)->∀o,a.foldl (Cv t) acc=some o->U32 o.2
 | [],acc,_,h,o,ho=>h o ho
 | x::a,acc,ha,h,o,ho=>pV ht a _ (fun v hv=>ha v (BN _ hv)) (oG ht (ha x (BE ..)) h) o ho
theorem wT{S:List TV}{t:TV}(hS:∀v∈S,U32 v.2)(ht:U32 t.2):U32 (Fg S t).2:=by
 unfold Fg;cases h:oN S t with
 | none=>exact ht
 | some o=>exact pV ht S none hS (fun _ h=>nomatch h) o h
theorem qH{v:TV}(AL:Option Addr)(cL m:Nat)(L:List Tm)(e:Int)(A:Option Addr)(n c:Nat)(l:List Int)(w:World)(hv:Hid (Fg (L.map Tm.v) (e,l)=v))(hm:Hid (m=L.length))(hL:Hid (Tin w AL cL L))(fL:Hid (Nx L))(ht:Hid (Sl w 1 A n c (wds l)))(u:U32 l)(h9:m<=1000000)(hn:n<=100000) :
  Calls Tryz.prog 121 #[.slice AL m cL,.agg #[.int .u64 e,.slice A n c]] w fun r w'=>∃A' c',r=.returned (.agg #[.int .u64 v.1,.slice A' n c'])/\((A'=A/\c'=c/\v=(e,l))\/Own w' w.heap.size 180 1 A' n c' (wds v.2))/\Ext w w':=hv.out▸lU AL cL m L e A n c l w hm hL fL ht u h9 hn
theorem Qf.more{w wr w2 w6:World}{S:List TV}{L K:List Ud}{i m c c6 m6:Nat}{A A6:Option Addr}{x z:Ud}{ob:Obj}(h:Qf w wr S L i A m c K)(hi:i<L.length)(hx:L.getD i Ud.zero=x)(hz:z.uv=Bp S x.uv)(hm:m6=m+1)(x2:Ext wr w2)(ht:Dz w w2 x z)
  (o:Own w6 w.heap.size 95 4 A6 m6 c6 (Ah K++udC z)) (g:(w2.alloc ob).grownBy w6 (blk A c)):Qf w w6 S L (i+1) A6 m6 c6 (K++[z]):=by
 have kept:∀{k0 s:Nat} {e:TypeId} {A':Option Addr} {n' c':Nat} {xs:List Value},e≠95->Own w2 k0 e s A' n' c' xs->Own w6 k0 e s A' n' c' xs:=fun {k0 s e A' n' c' xs} he o=>(o.alloc ob).kept g (by
  cases hb:blk A' c' with
  | none=>exact .inl rfl
  | some k=>exact .inr (fun q=>Cd o (h.own.ext x2) he hb q.symm))
 have old:∀x y,Dz w w2 x y->Dz w w6 x y:=fun x y hy=>⟨hy.1,hy.2.1,hy.2.2.1,hy.2.2.2.imp id fun o=>kept Cx o⟩;refine⟨by rw[Bb,show Ah [z]=udC z by simp[Ah]];exact o,by rw[AA,hm,h.len];rfl,fun y hy=>?_,?_,((h.ext.trans x2).alloc _).grown g (fun k e=>(h.own.lt k e).1)⟩
 ·rcases AR.1 hy with hy|hy
  ·obtain⟨q,hq,f⟩:=h.ls y hy;exact⟨q,hq,old q y (f.ext x2)⟩
  ·rw[AH.1 hy];exact⟨x,hx▸Ar hi,old x z ht⟩
 ·rw[Ig hi,hx,AO,AO,AO,h.vals,BZ,BZ,BZ,hz]
theorem oH{w wr w':World}{L K:List Ud}{V:List UV}{e:Ending}(h:kO wr K V e w')(x:Ext w wr)(hK:∀z∈K,∃x∈L,Dz w wr x z):oP w L V e w':=by
 obtain⟨A,m,c,M,e1,e2,o,p,v,x2⟩:=h;refine⟨A,m,c,M,e1,e2,o.mono x.size,fun y hy=>?_,v,x.trans x2⟩;obtain⟨z,hz,q⟩:=p y hy;obtain⟨x,hx,f⟩:=hK z hz;exact⟨x,hx,(f.like q).ext x2⟩
theorem Ox{V:List UV}(A:Option Addr)(c n:Nat)(L:List Ud)(AS:Option Addr)(cS nS:Nat)(S:List Tm)(w:World)(hV:Hid (UdS.sumV ((L.map Ud.uv).map (Bp (S.map Tm.v)))=V))(hn:Hid (n=L.length))(h:Hid (Uin w A c L))(h9:n<=1000000)(hin:Hid (∀x∈L,InU x))(hnS:Hid (nS=S.length))(hS:Hid (Tin w AS cS S))(fS:Hid (Nx S))(h9S:nS<=1000000) :
  Calls Tryz.prog 27 #[.slice A n c,.slice AS nS cS] w (oP w L V):=by
 have HP0:Hid (Qf w w (S.map Tm.v) L 0 none 0 0 []):=hid ⟨Own.nil _ _ _ _,rfl,fun x hx=>(nomatch hx),rfl,Ext.refl _⟩;go_enter Tryz.func27,Tryz.ntmps27;go_wp2
 go_loopg [5,6] n (fun z u v wr=>∃(i m c3:Nat) (A3:Option Addr) (K:List Ud),z=n-i/\i<=n/\m<=i/\u=.slice A3 m c3/\v=.int .i64 i/\Hid (Qf w wr (S.map Tm.v) L i A3 m c3 K))
 case atStart=>exact⟨0,0,0,none,[],rfl,AE _,AD _,rfl,rfl,HP0⟩
 case round =>
  clear HP0;obtain⟨i,m,c3,A3,K,rfl,hi,hmi,rfl,rfl,HP⟩:=hrel;by_cases hlt:i<n
  ·have hil:i<L.length:=by rw[<-hn.out];exact hlt
   obtain⟨ad,rfl,p0,p1,p2,p3⟩:=(h.out.ext HP.out.ext).at hil;have hm:=Ar hil;obtain⟨x,hx⟩:∃x,L.getD i Ud.zero=x:=⟨_,rfl⟩;rw[hx]at p0 p1 p2 p3 hm;obtain⟨nx,hnx⟩:∃nx,nx=x.l.length:=⟨_,rfl⟩;obtain⟨tx,htx⟩:∃tx,tx=x.t.l.length:=⟨_,rfl⟩;rw[<-hnx]at p0;rw[<-htx]at p2;have HX:=hid hx;have HIL:=hid hil;have HNX:=hid hnx;have HUX:Hid (∀W,Ext wr W->UdR W x):=hid (fun W q=>((h.out.ls x hm).ext HP.out.ext).ext q);have HTX:Hid (∀W,Ext wr W->Sl W 1 x.t.A tx x.t.c (wds x.t.l)):=hid (fun W q=>by rw[htx];exact(HUX.out W q).t);have HXT:Hid (Sl w 1 x.t.A x.t.l.length x.t.c (wds x.t.l)):=hid (h.out.ls x hm).t;have HXR:Hid (Rw w x.A x.c x.l):=hid (h.out.ls x hm).r;have htx9:tx<=100000:=by rw[htx];exact(hin.out x hm).tn
   have UX:=hid (hin.out x hm).tu;obtain⟨v,hv⟩:∃v,Fg (S.map Tm.v) (x.t.e,x.t.l)=v:=⟨_,rfl⟩;have HV:=hid hv;have HVL:Hid (tx=v.2.length):=hid (by rw[<-hv,Ln];exact htx);have XA:Ext wr (wr.alloc (.cells #[.slice x.A nx x.c,.int .u64 x.t.e,.slice x.t.A tx x.t.c,.int .i64 x.d] 95)):=(Ext.refl wr).alloc _;have BX:Hid (Bk (wr.alloc (.cells #[.slice x.A nx x.c,.int .u64 x.t.e,.slice x.t.A tx x.t.c,.int .i64 x.d] 95)) wr.heap.size 95 #[.slice x.A nx x.c,.int .u64 x.t.e,.slice x.t.A tx x.t.c,.int .i64 x.d]):=hid (Bk.new _ _ _);have HST:Hid (∀W,Ext wr W->Tin W AS cS S):=hid (fun W q=>(hS.out.ext HP.out.ext).ext q);have hww:w.heap.size<=wr.heap.size:=HP.out.ext.size;clear hil hm hx hnx htx hv
   go_upto_region 7 with (first
    | (go_at_call 121;refine(qH AS cS nS S x.t.e x.t.A tx x.t.c x.t.l _ HV hnS (hid (HST.out _ XA)) fS (hid (HTX.out _ XA)) UX.out h9S htx9).mono ?_;rintro r w1 ⟨A1,c1,rfl,s1,x1⟩;have HS1:=hid s1;have X1:=hid (XA.trans x1);have B1:=hid (BX.out.ext x1);have y1:=B1.out.cell 1;have y2:=B1.out.cell 2;have f1:=B1.out.free 1;have f2:=B1.out.free 2;clear s1 x1)
    | fail)
   obtain⟨w2,hw2⟩:∃w2,w2=(w1.setCell ⟨wr.heap.size,1,none⟩ (.int .u64 v.1)).setCell ⟨wr.heap.size,2,none⟩ (.slice A1 tx c1):=⟨_,rfl⟩;have B2:Hid (Bk w2 wr.heap.size 95 #[.slice x.A nx x.c,.int .u64 v.1,.slice A1 tx c1,.int .i64 x.d]):=hid (by rw[hw2];exact(B1.out.set 1 _).set 2 _);have X2:Hid (Ext wr w2):=hid (by rw[hw2];exact(X1.out.set (p:=⟨wr.heap.size,1,none⟩) (AD _) _).set (p:=⟨wr.heap.size,2,none⟩) (AD _) _);have HZ:Hid (Dz w w2 x ⟨x.A,x.c,x.l,⟨v.1,A1,c1,v.2⟩,x.d⟩):=hid (by
    rcases HS1.out with ⟨e1,e2,e3⟩|o1
    ·exact⟨rfl,rfl,rfl,.inl ⟨e1,e2,congrArg Prod.snd e3⟩⟩
    ·refine⟨rfl,rfl,rfl,.inr ?_⟩;show Own w2 w.heap.size _ 1 A1 v.2.length c1 (wds v.2);rw[<-HVL.out,hw2];exact((o1.far (o1.ne (k:=wr.heap.size) (by simp)) _).far (o1.ne (k:=wr.heap.size) (by simp)) _).mono (by simp;omega))
   rw[<-hw2];have d0:=B2.out.cell 0;have d1:=B2.out.cell 1;have d2:=B2.out.cell 2;have d3:=B2.out.cell 3;clear hw2 y1 y2 f1 f2 p0 p1 p2 p3;go_wp2_with (at_builtin;refine Ab _ Aw w.heap.size _ _ rfl rfl A3 m c3 (Ah K) rfl ((HP.out.own.ext X2.out).alloc _) (some ⟨w2.heap.size,0,none⟩) 1 1 [.slice x.A nx x.c,.int .u64 v.1,.slice A1 tx c1,.int .i64 x.d] rfl (Sl.one w2 #[.slice x.A nx x.c,.int .u64 v.1,.slice A1 tx c1,.int .i64 x.d] 95 4 rfl) (by intro u hu;simp at hu;rcases hu with rfl|rfl|rfl|rfl<;>rfl) (by omega) (by decide) (by have:=X2.out.size;simp;omega) ?_;intro A6 c6 w6 o6 g6 h6;clear h6;have HQ6:Hid (Qf w w6 (S.map Tm.v) L (i+1) A6 (m+1) c6 (K++[⟨x.A,x.c,x.l,⟨v.1,A1,c1,v.2⟩,x.d⟩])):=hid (HP.out.more HIL.out HX.out (by show(((x.l,(v.1,v.2)),x.d):UV)=((x.l,Fg (S.map Tm.v) x.t.v),x.d);rw[show Fg (S.map Tm.v) x.t.v=v from HV.out]) rfl X2.out HZ.out (by have:=o6;rw[HNX.out,HVL.out]at this;exact this) g6);clear o6 g6)
   go_roundg (n-(i+1))
   case measure=>omega
   case rel=>exact⟨i+1,m+1,c6,A6,_,rfl,by omega,by omega,rfl,by go_num,HQ6⟩
  ·obtain rfl:i=n:=by omega
   have hvals:K.map Ud.uv=(L.map Ud.uv).map (Bp (S.map Tm.v)):=by have:=HP.out.vals;rwa [AT (by rw[<-hn.out];exact AD _)]at this
   have HN:Hid (m=K.length):=hid HP.out.len;have HU:Hid (Uin wr A3 c3 K):=hid ⟨by have:=HP.out.own.sl;rwa [HP.out.len]at this,HP.out.udr h.out.ls⟩;have hpick:∀y∈K,∃x∈L,y.uv=Bp (S.map Tm.v) x.uv:=fun y hy=>by
    have:y.uv∈K.map Ud.uv:=AW.2 ⟨y,hy,rfl⟩;rw[hvals,DD]at this;obtain⟨x,hx,e⟩:=AW.1 this;exact⟨x,hx,e.symm⟩
   have HI:Hid (∀y∈K,UdS.InN y.uv):=hid (fun y hy=>by
    obtain⟨x,hx,e⟩:=hpick y hy;rw[e];exact(hin.out x hx).num)
   have HL:Hid (∀y∈K,U32 y.t.l/\y.t.l.length<=1000000):=hid (fun y hy=>by
    obtain⟨x,hx,e⟩:=hpick y hy;have e2:y.t.l=(Fg (S.map Tm.v) x.t.v).2:=congrArg (fun q:UV=>q.1.2.2) e;rw[e2];refine⟨wT (fun v hv=>?_) (hin.out x hx).tu,?_⟩
    ·obtain⟨t,ht,rfl⟩:=AW.1 hv;exact(fS.out t ht).1
    ·rw[Ln];exact AQ (hin.out x hx).tn (by decide))
   have HV:Hid (UdS.sumV (K.map Ud.uv)=V):=hid (by rw[hvals];exact hV.out);have HX:=hid HP.out.ext;have HLS:=hid HP.out.ls;clear hvals hpick HP;go_wp2_with (go_at_call 24;refine(Ov A3 c3 m K _ HV HN HU (by omega) HI HL).mono ?_;rintro r w2 hr;have HR:Hid (oP w L V r w2):=hid (oH hr HX.out HLS.out);obtain⟨A2,m2,c2,R2,rfl,hr2⟩:=hr;clear hr2)
   go_ret;exact HR.out
theorem Zk{V:List UV}(A:Option Addr)(c n:Nat)(L:List Ud)(AS:Option Addr)(cS nS:Nat)(S:List Tm)(w:World)(hV:Hid (UdS.sumV ((L.map Ud.uv).map (Bp (S.map Tm.v)))=V))(hn:Hid (n=L.length))(h:Hid (Uin w A c L))(h9:n<=1000000)(hin:Hid (∀x∈L,InU x))(hnS:Hid (nS=S.length))(hS:Hid (Tin w AS cS S))(fS:Hid (Nx S))(h9S:nS<=1000000) :
  Calls Tryz.prog 27 #[.slice A n c,.slice AS nS cS] w (xZ w V):=(Ox A c n L AS cS nS S w hV hn h h9 hin hnS hS fS h9S).mono fun _ _ q=>q.toU h.out.ls
theorem Zn{V:List TV}{k:Nat}(h:k<V.length)(t:TV):Aj (V.take (k+1)) t=(Aj (V.take k) t||Gp V[k] t):=by
 rw[BQ h,Wb]
theorem eD(AL:Option Addr)(cL m:Nat)(L:List Tm)(e:Int)(A:Option Addr)(n c:Nat)(l:List Int)(w:World)(hm:Hid (m=L.length))(hL:Hid (Tin w AL cL L))(ht:Hid (Sl w 1 A n c (wds l))) :
  Calls Tryz.prog 96 #[.slice AL m cL,.agg #[.int .u64 e,.slice A n c]] w fun r w'=>r=.returned (.bool (Aj (L.map Tm.v) (e,l)))/\Ext w w':=by
 obtain⟨b,hb⟩:∃b,Aj (L.map Tm.v) (e,l)=b:=⟨_,rfl⟩;rw[hb];have HB:=hid hb;clear hb;have hmax:m<=9223372036854775807:=by rw[hm.out];exact hL.out.sl.le
 go_enter Tryz.func96,Tryz.ntmps96;go_wp2;obtain⟨w0,hw0⟩:∃w0,w0=w.alloc (Obj.cells #[Value.int IntKind.u64 e,Value.slice A n c] 26):=⟨_,rfl⟩;have X0:Hid (Ext w w0):=hid (hw0▸(Ext.refl w).alloc _);have B0:Hid (Bk w0 w.heap.size 26 #[Value.int IntKind.u64 e,Value.slice A n c]):=hid (by subst hw0;exact Bk.new _ _ _);rw[<-hw0];clear hw0
 go_loopg [5] m (fun z v wr=>∃k:Nat,z=m-k/\k<=m/\v=.int .i64 k/\Hid (Aj ((L.map Tm.v).take k) (e,l)=false)/\Hid (Ext w0 wr))
 case atStart=>exact⟨0,rfl,AE _,rfl,hid rfl,hid (Ext.refl _)⟩
 case round =>
  obtain⟨k,rfl,hk,rfl,HF,HE⟩:=hrel;by_cases hlt:k<m
  ·have b0:∀y:Xt wr,y.W.cell? ⟨w.heap.size,0,none⟩=some (.int .u64 e):=fun y=>(B0.out.ext (HE.out.trans y.x)).cell 0;have b1:∀y:Xt wr,y.W.cell? ⟨w.heap.size,1,none⟩=some (.slice A n c):=fun y=>(B0.out.ext (HE.out.trans y.x)).cell 1;have hkL:k<L.length:=by rw[<-hm.out];exact hlt
   obtain⟨f,Ax,nx,cx,lx,ad,T,hx, -⟩:=(hL.out.ext (X0.out.trans HE.out)).tmAt hkL;have HKV:=hid (Xy hkL);rw[hx]at HKV;obtain⟨rfl,q0,q1,HXS⟩:=T;have STY:∀y:Xt wr,Hid (Sl y.W 1 A n c (wds l)):=fun y=>hid (ht.out.ext ((X0.out.trans HE.out).trans y.x));clear hx hkL;rcases hq:Gp (f,lx) (e,l)with _|_
   ·have HT1:=hid hq;clear hq;go_wp2
    (refine Ji (by kernel_rfl) (by kernel_rfl) ?_;(repeat (go_big_quiet_step ((go_at_call 119;with_reducible exact Tn (pB f e Ax A nx n cx c lx l _ HT1 (HXS _) (STY _))))));refine wpQuiet_nil ?_;rintro _ ⟨y,rfl⟩)
    go_wp2
    go_roundg (m-(k+1))
    case measure=>omega
    case rel=>exact⟨k+1,by omega,by omega,by go_num,hid (by obtain⟨h1,h2⟩:=HKV.out;rw[Zn h1,HF.out,h2];exact HT1.out),hid (HE.out.trans y.x)⟩
   ·have HT1:=hid hq;clear hq;go_wp2
    (refine Ji (by kernel_rfl) (by kernel_rfl) ?_;(repeat (go_big_quiet_step ((go_at_call 119;with_reducible exact Tn (pB f e Ax A nx n cx c lx l _ HT1 (HXS _) (STY _))))));refine wpQuiet_nil ?_;rintro _ ⟨y,rfl⟩)
    go_wp2;go_ret;refine⟨Cb ?_,(X0.out.trans HE.out).trans y.x⟩;rw[<-HB.out];obtain⟨h1,h2⟩:=HKV.out;exact(Ki.2 ⟨_,BP h1,by rw[h2];exact HT1.out⟩).symm
  ·obtain rfl:m=k:=by omega
   go_wp2;go_ret;refine⟨Cb ?_,X0.out.trans HE.out⟩;rw[<-HB.out];have:=HF.out;rw[AT (by rw[AN,hm.out];exact AD _)]at this;exact this.symm
theorem Ef{v:Bool}(AL:Option Addr)(cL m:Nat)(L:List Tm)(e:Int)(A:Option Addr)(n c:Nat)(l:List Int)(w:World)(hv:Hid (Aj (L.map Tm.v) (e,l)=v))(hm:Hid (m=L.length))(hL:Hid (Tin w AL cL L))(ht:Hid (Sl w 1 A n c (wds l))) :
  Calls Tryz.prog 96 #[.slice AL m cL,.agg #[.int .u64 e,.slice A n c]] w fun r w'=>r=.returned (.bool v)/\Ext w w':=hv.out▸eD AL cL m L e A n c l w hm hL ht
theorem gU(AL AM:Option Addr)(cL cM m n:Nat)(L M:List Tm)(w:World)(hm:Hid (m=L.length))(hn:Hid (n=M.length))(hL:Hid (Tin w AL cL L))(hM:Hid (Tin w AM cM M)) :
  Calls Tryz.prog 169 #[.slice AL m cL,.slice AM n cM] w fun r w'=>r=.returned (.bool (Ho (L.map Tm.v) (M.map Tm.v)))/\Ext w w':=by
 obtain⟨b,hb⟩:∃b,Ho (L.map Tm.v) (M.map Tm.v)=b:=⟨_,rfl⟩;rw[hb];have HB:=hid hb;clear hb;have hmax:n<=9223372036854775807:=by rw[hn.out];exact hM.out.sl.le
 go_enter Tryz.func169,Tryz.ntmps169;go_wp2
 go_loopg [5] n (fun z v wr=>∃k:Nat,z=n-k/\k<=n/\v=.int .i64 k/\Hid (∀j,j<k->Aj (L.map Tm.v) (M.getD j Tm.zero).v=true)/\Hid (Ext w wr))
 case atStart=>exact⟨0,rfl,AE _,rfl,hid (fun j hj=>absurd hj (by omega)),hid (Ext.refl _)⟩
 case round =>
  obtain⟨k,rfl,hk,rfl,HF,HE⟩:=hrel;by_cases hlt:k<n
  ·have hkM:k<M.length:=by rw[<-hn.out];exact hlt
   have HKM:=hid hkM;obtain⟨ad,rfl,q0,q1⟩:=(hM.out.ext HE.out).at (i:=k) hkM;have HXS:=hid ((hM.out.ext HE.out).ls _ (Bj hkM));obtain⟨x,hx⟩:∃x,M.getD k Tm.zero=x:=⟨_,rfl⟩;rw[hx]at q0 q1 HXS;have HX:=hid hx;clear hkM hx;obtain⟨f,Ax,cx,lx⟩:=x;obtain⟨nx,hnx⟩:∃nx,lx.length=nx:=⟨_,rfl⟩;replace q0:wr.cell? (ad.add (k*2))=some (.int .u64 f):=q0;replace q1:wr.cell? ⟨(ad.add (k*2)).block,(ad.add (k*2)).off+1,none⟩=some (.slice Ax lx.length cx):=q1;replace HXS:Hid (Sl wr 1 Ax lx.length cx (wds lx)):=HXS;rw[hnx]at q1 HXS;clear hnx;rcases hq:Aj (L.map Tm.v) (f,lx)with _|_
   ·have HT1:=hid hq;clear hq;go_wp2_with (go_at_call 96;refine(Ef (v:=false) AL cL m L f Ax nx cx lx _ HT1 hm (hid (hL.out.ext HE.out)) HXS).mono ?_;rintro r w1 ⟨rfl,x1⟩)
    go_ret;refine⟨Cb ?_,HE.out.trans x1⟩;rw[<-HB.out];refine Eq.symm (Bool.eq_false_iff.2 fun h=>?_);have:=On.1 h (f,lx) (AW.2 ⟨_,Bj HKM.out,by rw[HX.out];rfl⟩);rw[HT1.out]at this;exact absurd this (by decide)
   ·have HT1:=hid hq;clear hq;go_wp2_with (go_at_call 96;refine(Ef (v:=true) AL cL m L f Ax nx cx lx _ HT1 hm (hid (hL.out.ext HE.out)) HXS).mono ?_;rintro r w1 ⟨rfl,x1⟩)
    go_roundg (n-(k+1))
    case measure=>omega
    case rel=>exact⟨k+1,by omega,by omega,by go_num,hid (fun j hj=>by
      by_cases hjk:j<k
      ·exact HF.out j hjk
      ·obtain rfl:j=k:=by omega
       rw[HX.out];exact HT1.out),hid (HE.out.trans x1)⟩
  ·obtain rfl:n=k:=by omega
   go_wp2;go_ret;refine⟨Cb ?_,HE.out⟩;rw[<-HB.out];refine Eq.symm (On.2 fun v hv=>?_);obtain⟨x,hx,rfl⟩:=AW.1 hv;obtain⟨j,hj,rfl⟩:=DI hx;have:=HF.out j (by rw[hn.out];exact hj);rw[AB,AC hj]at this;exact this
theorem Mk{v:Bool}(AL AM:Option Addr)(cL cM m n:Nat)(L M:List Tm)(w:World)(hv:Hid (Ho (L.map Tm.v) (M.map Tm.v)=v))(hm:Hid (m=L.length))(hn:Hid (n=M.length))(hL:Hid (Tin w AL cL L))(hM:Hid (Tin w AM cM M)) :
  Calls Tryz.prog 169 #[.slice AL m cL,.slice AM n cM] w fun r w'=>r=.returned (.bool v)/\Ext w w':=hv.out▸gU AL AM cL cM m n L M w hm hn hL hM
def Eo(m b0 b1 b2 b3:Nat):Nat :=
 if b0<128 then 1
 else if b0<194 then 0
 else if b0<224 then (if m<2\/b1<128\/192<=b1 then 0 else 2)
 else if b0<240 then (if m<3\/b1<128\/192<=b1\/b2<128\/192<=b2 then 0 else
  if (b0-224)*4096+(b1-128)*64+(b2-128)<2048\/55296<=(b0-224)*4096+(b1-128)*64+(b2-128)/\(b0-224)*4096+(b1-128)*64+(b2-128)<57344 then 0 else 3)
 else if b0<245 then (if m<4\/b1<128\/192<=b1\/b2<128\/192<=b2\/b3<128\/192<=b3 then 0 else
  if (b0-240)*262144+(b1-128)*4096+(b2-128)*64+(b3-128)<65536\/1114111<(b0-240)*262144+(b1-128)*4096+(b2-128)*64+(b3-128) then 0 else 4)
 else 0
def Gk(l:List UInt8):Nat:=Eo l.length (l.getD 0 0).toNat (l.getD 1 0).toNat (l.getD 2 0).toNat (l.getD 3 0).toNat
def Se(k:Nat)(d:Nat×Nat):Prop:=(k=0/\d=(65533,1))\/(k≠0/\d.2=k/\¬(d.1=65533/\d.2=1))
theorem zC(n b0 b1 b2 b3:Nat)(h:b0<128):Se (Eo n b0 b1 b2 b3) (Lib.decodeN n b0 b1 b2 b3):=by
 unfold Eo Lib.decodeN;rw[if_pos h,if_pos h];right;refine⟨by omega,rfl,?_⟩;simp only;omega
theorem pU(n b0 b1 b2 b3:Nat)(h:(128<=b0/\b0<194)\/(245<=b0/\b0<256)):Se (Eo n b0 b1 b2 b3) (Lib.decodeN n b0 b1 b2 b3):=by
 rw[Lib.decodeN_bad n b0 b1 b2 b3 h];left;refine⟨?_,rfl⟩;unfold Eo
 repeat' split
 all_goals omega
theorem xP(n b0 b1 b2 b3:Nat)(h:194<=b0)(h':b0<224):Eo n b0 b1 b2 b3=if n<2\/b1<128\/192<=b1 then 0 else 2:=by
 unfold Eo;rw[if_neg (show ¬b0<128 by omega),if_neg (show ¬b0<194 by omega),if_pos h']
theorem a0h(n b0 b1 b2 b3:Nat)(h:194<=b0)(h':b0<224):Lib.decodeN n b0 b1 b2 b3=if 1<n/\b1 / 64=2 then (if b0 % 32*64+b1 % 64 >= 128 then (b0 % 32*64+b1 % 64,2) else (65533,1)) else (65533,1):=by
 unfold Lib.decodeN;rw[if_neg (show ¬b0<128 by omega),if_neg (show ¬(b0 / 16=14/\(1<n/\b1 / 64=2)/\2<n/\b2 / 64=2)by omega),if_neg (show ¬(b0 / 8=30/\(1<n/\b1 / 64=2)/\(2<n/\b2 / 64=2)/\3<n/\b3 / 64=2)by omega)];by_cases hh:1<n/\b1 / 64=2
 ·rw[if_pos ⟨by omega,hh⟩,if_pos hh]
 ·rw[if_neg (fun x=>hh x.2),if_neg hh]
theorem zB(n b0 b1 b2 b3:Nat)(h:194<=b0)(h':b0<224)(h1:b1<256):Se (Eo n b0 b1 b2 b3) (Lib.decodeN n b0 b1 b2 b3):=by
 rw[xP n b0 b1 b2 b3 h h',a0h n b0 b1 b2 b3 h h'];by_cases hh:1<n/\b1 / 64=2
 ·rw[if_neg (show ¬(n<2\/b1<128\/192<=b1)by omega),if_pos hh,if_pos (show b0 % 32*64+b1 % 64 >= 128 by omega)];exact .inr ⟨by omega,rfl,by simp⟩
 ·rw[if_pos (show n<2\/b1<128\/192<=b1 by omega),if_neg hh];exact .inl ⟨rfl,rfl⟩
theorem xO(n b0 b1 b2 b3:Nat)(h:224<=b0)(h':b0<240):Eo n b0 b1 b2 b3=if n<3\/b1<128\/192<=b1\/b2<128\/192<=b2 then 0 else
  if (b0-224)*4096+(b1-128)*64+(b2-128)<2048\/55296<=(b0-224)*4096+(b1-128)*64+(b2-128)/\(b0-224)*4096+(b1-128)*64+(b2-128)<57344 then 0 else 3:=by
 unfold Eo;rw[if_neg (show ¬b0<128 by omega),if_neg (show ¬b0<194 by omega),if_neg (show ¬b0<224 by omega),if_pos h']
theorem a0g(n b0 b1 b2 b3:Nat)(h:224<=b0)(h':b0<240):Lib.decodeN n b0 b1 b2 b3=if (1<n/\b1 / 64=2)/\(2<n/\b2 / 64=2) then
  (if b0 % 16*4096+b1 % 64*64+b2 % 64 >= 2048/\(b0 % 16*4096+b1 % 64*64+b2 % 64<55296\/(57344<=b0 % 16*4096+b1 % 64*64+b2 % 64/\b0 % 16*4096+b1 % 64*64+b2 % 64<=1114111))
   then (b0 % 16*4096+b1 % 64*64+b2 % 64,3) else (65533,1)) else (65533,1):=by
 unfold Lib.decodeN;rw[if_neg (show ¬b0<128 by omega),if_neg (show ¬(b0 / 32=6/\(1<n/\b1 / 64=2))by omega),if_neg (show ¬(b0 / 8=30/\(1<n/\b1 / 64=2)/\(2<n/\b2 / 64=2)/\3<n/\b3 / 64=2)by omega)];by_cases hh:(1<n/\b1 / 64=2)/\(2<n/\b2 / 64=2)
 ·rw[if_pos (show b0 / 16=14/\(1<n/\b1 / 64=2)/\2<n/\b2 / 64=2 from⟨by omega,hh⟩),if_pos hh]
 ·rw[if_neg (show ¬(b0 / 16=14/\(1<n/\b1 / 64=2)/\2<n/\b2 / 64=2)from fun x=>hh x.2),if_neg hh]
theorem zA(n b0 b1 b2 b3:Nat)(h:224<=b0)(h':b0<240)(h1:b1<256)(h2:b2<256):Se (Eo n b0 b1 b2 b3) (Lib.decodeN n b0 b1 b2 b3):=by
 rw[xO n b0 b1 b2 b3 h h',a0g n b0 b1 b2 b3 h h'];by_cases hh:(1<n/\b1 / 64=2)/\(2<n/\b2 / 64=2)
 ·rw[if_neg (show ¬(n<3\/b1<128\/192<=b1\/b2<128\/192<=b2)by omega),if_pos hh];have e:b0 % 16*4096+b1 % 64*64+b2 % 64=(b0-224)*4096+(b1-128)*64+(b2-128):=by omega
  rw[e];have hv:(b0-224)*4096+(b1-128)*64+(b2-128)<65536:=by omega
  obtain⟨v,e2⟩:∃v,(b0-224)*4096+(b1-128)*64+(b2-128)=v:=⟨_,rfl⟩;rw[e2]at hv ⊢;clear e e2;by_cases hg:v<2048\/55296<=v/\v<57344
  ·rw[if_pos hg,if_neg (by omega)];exact .inl ⟨rfl,rfl⟩
  ·rw[if_neg hg,if_pos (by omega)];exact .inr ⟨by omega,rfl,by simp⟩
 ·rw[if_pos (show n<3\/b1<128\/192<=b1\/b2<128\/192<=b2 by omega),if_neg hh];exact .inl ⟨rfl,rfl⟩
theorem xN(n b0 b1 b2 b3:Nat)(h:240<=b0)(h':b0<245):Eo n b0 b1 b2 b3=if n<4\/b1<128\/192<=b1\/b2<128\/192<=b2\/b3<128\/192<=b3 then 0 else
  if (b0-240)*262144+(b1-128)*4096+(b2-128)*64+(b3-128)<65536\/1114111<(b0-240)*262144+(b1-128)*4096+(b2-128)*64+(b3-128) then 0 else 4:=by
 unfold Eo;rw[if_neg (show ¬b0<128 by omega),if_neg (show ¬b0<194 by omega),if_neg (show ¬b0<224 by omega),if_neg (show ¬b0<240 by omega),if_pos h']
theorem a0f(n b0 b1 b2 b3:Nat)(h:240<=b0)(h':b0<248):Lib.decodeN n b0 b1 b2 b3=if (1<n/\b1 / 64=2)/\(2<n/\b2 / 64=2)/\(3<n/\b3 / 64=2) then
  (if b0 % 8*262144+b1 % 64*4096+b2 % 64*64+b3 % 64 >= 65536/\(b0 % 8*262144+b1 % 64*4096+b2 % 64*64+b3 % 64<55296\/(57344<=b0 % 8*262144+b1 % 64*4096+b2 % 64*64+b3 % 64/\b0 % 8*262144+b1 % 64*4096+b2 % 64*64+b3 % 64<=1114111))
   then (b0 % 8*262144+b1 % 64*4096+b2 % 64*64+b3 % 64,4) else (65533,1)) else (65533,1):=by
 unfold Lib.decodeN;rw[if_neg (show ¬b0<128 by omega),if_neg (show ¬(b0 / 32=6/\(1<n/\b1 / 64=2))by omega),if_neg (show ¬(b0 / 16=14/\(1<n/\b1 / 64=2)/\2<n/\b2 / 64=2)by omega)];by_cases hh:(1<n/\b1 / 64=2)/\(2<n/\b2 / 64=2)/\(3<n/\b3 / 64=2)
 ·rw[if_pos (show b0 / 8=30/\(1<n/\b1 / 64=2)/\(2<n/\b2 / 64=2)/\3<n/\b3 / 64=2 from⟨by omega,hh⟩),if_pos hh]
 ·rw[if_neg (show ¬(b0 / 8=30/\(1<n/\b1 / 64=2)/\(2<n/\b2 / 64=2)/\3<n/\b3 / 64=2)from fun x=>hh x.2),if_neg hh]
theorem yZ(n b0 b1 b2 b3:Nat)(h:240<=b0)(h':b0<245)(h1:b1<256)(h2:b2<256)(h3:b3<256):Se (Eo n b0 b1 b2 b3) (Lib.decodeN n b0 b1 b2 b3):=by
 rw[xN n b0 b1 b2 b3 h h',a0f n b0 b1 b2 b3 h (by omega)];by_cases hh:(1<n/\b1 / 64=2)/\(2<n/\b2 / 64=2)/\(3<n/\b3 / 64=2)
 ·rw[if_neg (show ¬(n<4\/b1<128\/192<=b1\/b2<128\/192<=b2\/b3<128\/192<=b3)by omega),if_pos hh];have e:b0 % 8*262144+b1 % 64*4096+b2 % 64*64+b3 % 64=(b0-240)*262144+(b1-128)*4096+(b2-128)*64+(b3-128):=by omega
  rw[e];obtain⟨v,e2⟩:∃v,(b0-240)*262144+(b1-128)*4096+(b2-128)*64+(b3-128)=v:=⟨_,rfl⟩;rw[e2];clear e e2;by_cases hg:v<65536\/1114111<v
  ·rw[if_pos hg,if_neg (by omega)];exact .inl ⟨rfl,rfl⟩
  ·rw[if_neg hg,if_pos (by omega)];exact .inr ⟨by omega,rfl,by simp⟩
 ·rw[if_pos (show n<4\/b1<128\/192<=b1\/b2<128\/192<=b2\/b3<128\/192<=b3 by omega),if_neg hh];exact .inl ⟨rfl,rfl⟩
theorem oE(n b0 b1 b2 b3:Nat)(h0:b0<256)(h1:b1<256)(h2:b2<256)(h3:b3<256):Se (Eo n b0 b1 b2 b3) (Lib.decodeN n b0 b1 b2 b3):=by
 by_cases c1:b0<128
 ·exact zC n b0 b1 b2 b3 c1
 by_cases c2:b0<194
 ·exact pU n b0 b1 b2 b3 (.inl ⟨by omega,c2⟩)
 by_cases c3:b0<224
 ·exact zB n b0 b1 b2 b3 (by omega) c3 h1
 by_cases c4:b0<240
 ·exact zA n b0 b1 b2 b3 (by omega) c4 h1 h2
 by_cases c5:b0<245
 ·exact yZ n b0 b1 b2 b3 (by omega) c5 h1 h2 h3
 ·exact pU n b0 b1 b2 b3 (.inr ⟨by omega,h0⟩)
theorem jC(l:List UInt8):Se (Gk l) (Lib.decodeL l):=by
 rw[Lib.decodeL_N];exact oE _ _ _ _ _ (l.getD 0 0).toNat_lt (l.getD 1 0).toNat_lt (l.getD 2 0).toNat_lt (l.getD 3 0).toNat_lt
def Ii:Nat->List UInt8->Option Nat
 | 0,_=>some 0
 | f+1,l=>if l=[] then some 0 else if Gk l=0 then none else (Ii f (l.drop (Gk l))).map (· + 1)
def Et(l:List UInt8):Option Nat:=Ii l.length l
theorem sB(l:List UInt8)(h:l≠[]):Gk l<=l.length:=by
 have hl:0<l.length:=EA.2 h;unfold Gk Eo
 repeat' split
 all_goals omega
theorem Ke:∀f,Ii f []=some 0
 | 0=>rfl
 | _+1=>by simp[Ii]
theorem Qp:∀(n m:Nat) (l:List UInt8),l.length<=n->l.length<=m->Ii n l=Ii m l
 | 0,m,l,hn,_=>by
  have:l=[]:=AG (by omega);subst this;rw[Ke,Ke]
 | n+1,0,l,_,hm=>by
  have:l=[]:=AG (by omega);subst this;rw[Ke,Ke]
 | n+1,m+1,l,hn,hm=>by
  unfold Ii;by_cases hne:l=[]
  ·simp[hne]
  ·have hl:0<l.length:=EA.2 hne;by_cases h0:Gk l=0
   ·simp[hne,h0]
   ·rw[if_neg hne,if_neg hne,if_neg h0,if_neg h0,Qp n m (l.drop (Gk l)) (by rw[CQ];omega) (by rw[CQ];omega)]
theorem gL:Et []=some 0:=rfl
theorem Ua{l:List UInt8}(hne:l≠[])(h:Gk l=0):Et l=none:=by
 obtain⟨n,hn⟩:∃n,l.length=n+1:=⟨l.length-1,by have:=EA.2 hne;omega⟩;unfold Et;rw[hn];unfold Ii;rw[if_neg hne,if_pos h]
theorem Qo{l:List UInt8}(hne:l≠[])(h:Gk l≠0):Et l=(Et (l.drop (Gk l))).map (· + 1):=by
 have hl:0<l.length:=EA.2 hne;obtain⟨n,hn⟩:∃n,l.length=n+1:=⟨l.length-1,by omega⟩;have e:Ii n (l.drop (Gk l))=Ii (l.drop (Gk l)).length (l.drop (Gk l)):=Qp n _ _ (by rw[CQ];omega) (AD _);unfold Et;rw[hn,<-e];show(if l=[] then some 0 else if Gk l=0 then none else (Ii n (l.drop (Gk l))).map (· + 1))=_;rw[if_neg hne,if_neg h]
theorem Ko:∀(f:Nat) (l:List UInt8),l.length<=f->(Et l).isSome=Lib.validD l
 | 0,l,h=>by
  have:l=[]:=AG (by omega);subst this;rfl
 | f+1,l,h=>by
  by_cases hne:l=[]
  ·subst hne;rfl
  ·have hl:0<l.length:=EA.2 hne;rw[Lib.validD_step l hne];rcases jC l with ⟨h0,hd⟩|⟨h0,hd,hn⟩
   ·rw[Ua hne h0,hd];rfl
   ·rw[Qo hne h0,if_neg hn,hd,Option.isSome_map,Ko f _ (by rw[CQ];omega)]
theorem dR(l:List UInt8):(Et l).isSome=Lib.validD l:=Ko _ l (AD _)
def Dv(s:ByteArray):Int:=match Et s.data.toList with|some n=>n|none => -1
theorem Tz(s:ByteArray):(Dv s<0)↔Ih s=false:=by
 unfold Dv Ih;rw[<-dR];cases Et s.data.toList with
 | none=>simp
 | some n=>simp
end Go.Proofs.YtdgbkpoickbidaaGreatDoor
