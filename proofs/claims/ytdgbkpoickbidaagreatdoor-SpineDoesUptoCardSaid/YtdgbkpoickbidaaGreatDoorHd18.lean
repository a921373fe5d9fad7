/- Parts of the proof, put together. Conditions: each theorem states its own. -/
import Derived.Test.YtdgbkpoickbidaaGreatDoorHd17
set_option maxRecDepth 100000
set_option maxHeartbeats 8000000
open Go.RowKit
namespace Go.Proofs.YtdgbkpoickbidaaGreatDoor
theorem Zv(w:World):Calls Tryz.prog 123 #[.slice none 0 0] w fun e w'=>e=.returned (.bool true)/\w=w':=by
 go_enter Tryz.func123,Tryz.ntmps123;go_wp2;refine wp_loop_rounds 1 ?_;rw[rounds_succ];go_wp2;refine wp_loop_rounds 1 ?_;rw[rounds_succ];go_wp2;refine wp_loop_rounds 1 ?_;rw[rounds_succ];go_wp2;go_ret;exact⟨rfl,rfl⟩
theorem Zr(w:World):Calls Tryz.prog 124 #[.slice none 0 0] w fun e w'=>e=.returned (.bool true)/\w=w':=by
 go_enter Tryz.func124,Tryz.ntmps124;go_wp2;refine wp_loop_rounds 1 ?_;rw[rounds_succ];go_wp2;refine wp_loop_rounds 1 ?_;rw[rounds_succ];go_wp2;refine wp_loop_rounds 1 ?_;rw[rounds_succ];go_wp2;go_ret;exact⟨rfl,rfl⟩
theorem eG(w:World):Calls Tryz.prog 125 #[.slice none 0 0] w fun e w'=>e=.returned (.bool true)/\w=w':=by
 go_enter Tryz.func125,Tryz.ntmps125;go_wp2;refine wp_loop_rounds 1 ?_;rw[rounds_succ];go_wp2;refine wp_loop_rounds 1 ?_;rw[rounds_succ];go_wp2;refine wp_loop_rounds 1 ?_;rw[rounds_succ];go_wp2;go_ret;exact⟨rfl,rfl⟩
theorem Zs(w:World):Calls Tryz.prog 128 #[.slice none 0 0] w fun e w'=>e=.returned (.bool true)/\w=w':=by
 go_enter Tryz.func128,Tryz.ntmps128;go_wp2;refine wp_loop_rounds 1 ?_;rw[rounds_succ];go_wp2;refine wp_loop_rounds 1 ?_;rw[rounds_succ];go_wp2;refine wp_loop_rounds 1 ?_;rw[rounds_succ];go_wp2;go_ret;exact⟨rfl,rfl⟩
theorem Zt(w:World):Calls Tryz.prog 129 #[.slice none 0 0] w fun e w'=>e=.returned (.bool true)/\w=w':=by
 go_enter Tryz.func129,Tryz.ntmps129;go_wp2;refine wp_loop_rounds 1 ?_;rw[rounds_succ];go_wp2;refine wp_loop_rounds 1 ?_;rw[rounds_succ];go_wp2;refine wp_loop_rounds 1 ?_;rw[rounds_succ];go_wp2;go_ret;exact⟨rfl,rfl⟩
theorem Vs(w:World):Calls Tryz.prog 130 #[.slice none 0 0] w fun e w'=>e=.returned (.bool true)/\w=w':=by
 go_enter Tryz.func130,Tryz.ntmps130;go_wp2;refine wp_loop_rounds 1 ?_;rw[rounds_succ];go_wp2;refine wp_loop_rounds 1 ?_;rw[rounds_succ];go_wp2;refine wp_loop_rounds 1 ?_;rw[rounds_succ];go_wp2;go_ret;exact⟨rfl,rfl⟩
theorem Vd(w:World):Calls Tryz.prog 131 #[.slice none 0 0] w fun e w'=>e=.returned (.bool true)/\w=w':=by
 go_enter Tryz.func131,Tryz.ntmps131;go_wp2;refine wp_loop_rounds 1 ?_;rw[rounds_succ];go_wp2;refine wp_loop_rounds 1 ?_;rw[rounds_succ];go_wp2;refine wp_loop_rounds 1 ?_;rw[rounds_succ];go_wp2;go_ret;exact⟨rfl,rfl⟩
theorem Zu(w:World):Calls Tryz.prog 135 #[.slice none 0 0] w fun e w'=>e=.returned (.bool true)/\w=w':=by
 go_enter Tryz.func135,Tryz.ntmps135;go_wp2;refine wp_loop_rounds 1 ?_;rw[rounds_succ];go_wp2;refine wp_loop_rounds 1 ?_;rw[rounds_succ];go_wp2;refine wp_loop_rounds 1 ?_;rw[rounds_succ];go_wp2;go_ret;exact⟨rfl,rfl⟩
theorem eF(w:World):Calls Tryz.prog 136 #[.slice none 0 0] w fun e w'=>e=.returned (.bool true)/\w=w':=by
 go_enter Tryz.func136,Tryz.ntmps136;go_wp2;refine wp_loop_rounds 1 ?_;rw[rounds_succ];go_wp2;refine wp_loop_rounds 1 ?_;rw[rounds_succ];go_wp2;refine wp_loop_rounds 1 ?_;rw[rounds_succ];go_wp2;go_ret;exact⟨rfl,rfl⟩
def Kz(w_ r_ c_ u_ t_:Value):Array Value:=#[.slice none 0 0,.slice none 0 0,.slice none 0 0,w_,r_,.slice none 0 0,.slice none 0 0,.slice none 0 0,.slice none 0 0,c_,u_,t_,.slice none 0 0,.slice none 0 0]
structure An (w:World) (gb:Nat) (R:Nat->Prop) (Lw Lr Lc Lu Lt:List En) (w_ r_ c_ u_ t_:En):Prop where
 bk:Bk w gb 52 (Kz w_.v r_.v c_.v u_.v t_.v)
 rg:R gb
 ow:Own w 0 24 1 w_.A w_.n w_.c (Di Lw)
 or:Own w 0 78 1 r_.A r_.n r_.c (Di Lr)
 oc:Own w 0 31 1 c_.A c_.n c_.c (Di Lc)
 ou:Own w 0 22 1 u_.A u_.n u_.c (Di Lu)
 ot:Own w 0 27 1 t_.A t_.n t_.c (Di Lt)
 rw:∀k,w_.b=some k->R k/\k≠gb
 rr:∀k,r_.b=some k->R k/\k≠gb
 rc:∀k,c_.b=some k->R k/\k≠gb
 ru:∀k,u_.b=some k->R k/\k≠gb
 rt:∀k,t_.b=some k->R k/\k≠gb
 nw:w_.n=Lw.length
 nr:r_.n=Lr.length
 nc:c_.n=Lc.length
 nu:u_.n=Lu.length
 nt:t_.n=Lt.length
 swr:∀k,w_.b=some k->r_.b≠some k
 swc:∀k,w_.b=some k->c_.b≠some k
 swu:∀k,w_.b=some k->u_.b≠some k
 swt:∀k,w_.b=some k->t_.b≠some k
 src:∀k,r_.b=some k->c_.b≠some k
 sru:∀k,r_.b=some k->u_.b≠some k
 srt:∀k,r_.b=some k->t_.b≠some k
 scu:∀k,c_.b=some k->u_.b≠some k
 sct:∀k,c_.b=some k->t_.b≠some k
 sut:∀k,u_.b=some k->t_.b≠some k
theorem An.ext{w w':World}{gb:Nat}{R:Nat->Prop}{Lw Lr Lc Lu Lt:List En}{w_ r_ c_ u_ t_:En}(h:An w gb R Lw Lr Lc Lu Lt w_ r_ c_ u_ t_)(x:Ext w w'):An w' gb R Lw Lr Lc Lu Lt w_ r_ c_ u_ t_ :=
 ⟨h.bk.ext x,h.rg,h.ow.ext x,h.or.ext x,h.oc.ext x,h.ou.ext x,h.ot.ext x,h.rw,h.rr,h.rc,h.ru,h.rt,h.nw,h.nr,h.nc,h.nu,h.nt,h.swr,h.swc,h.swu,h.swt,h.src,h.sru,h.srt,h.scu,h.sct,h.sut⟩
theorem An.upd{S:Nat->Prop}{w w':World}{gb:Nat}{R:Nat->Prop}{Lw Lr Lc Lu Lt:List En}{w_ r_ c_ u_ t_:En}(h:An w gb R Lw Lr Lc Lu Lt w_ r_ c_ u_ t_)(x:Upd S w w')(hS:∀k,R k->¬S k):An w' gb R Lw Lr Lc Lu Lt w_ r_ c_ u_ t_ :=
 ⟨(x.block gb (BJ.1 h.bk).1 (hS _ h.rg)).trans h.bk,h.rg,h.ow.upd x (fun k hk=>hS k (h.rw k hk).1),h.or.upd x (fun k hk=>hS k (h.rr k hk).1),h.oc.upd x (fun k hk=>hS k (h.rc k hk).1),h.ou.upd x (fun k hk=>hS k (h.ru k hk).1),h.ot.upd x (fun k hk=>hS k (h.rt k hk).1),h.rw,h.rr,h.rc,h.ru,h.rt,h.nw,h.nr,h.nc,h.nu,h.nt,h.swr,h.swc,h.swu,h.swt,h.src,h.sru,h.srt,h.scu,h.sct,h.sut⟩
theorem An.wide{R':Nat->Prop}{w:World}{gb:Nat}{R:Nat->Prop}{Lw Lr Lc Lu Lt:List En}{w_ r_ c_ u_ t_:En}(h:An w gb R Lw Lr Lc Lu Lt w_ r_ c_ u_ t_)(hR:∀k,k<w.heap.size->R k->R' k):An w gb R' Lw Lr Lc Lu Lt w_ r_ c_ u_ t_ :=
 ⟨h.bk,hR _ h.bk.lt h.rg,h.ow,h.or,h.oc,h.ou,h.ot,fun k hk=>⟨hR k (h.ow.lt k hk).2 (h.rw k hk).1,(h.rw k hk).2⟩,fun k hk=>⟨hR k (h.or.lt k hk).2 (h.rr k hk).1,(h.rr k hk).2⟩,fun k hk=>⟨hR k (h.oc.lt k hk).2 (h.rc k hk).1,(h.rc k hk).2⟩,fun k hk=>⟨hR k (h.ou.lt k hk).2 (h.ru k hk).1,(h.ru k hk).2⟩,fun k hk=>⟨hR k (h.ot.lt k hk).2 (h.rt k hk).1,(h.rt k hk).2⟩,h.nw,h.nr,h.nc,h.nu,h.nt,h.swr,h.swc,h.swu,h.swt,h.src,h.sru,h.srt,h.scu,h.sct,h.sut⟩
theorem oC{w:World}{gb:Nat}{R:Nat->Prop}(h:Bk w gb 52 #[.slice none 0 0,.slice none 0 0,.slice none 0 0,.slice none 0 0,.slice none 0 0,.slice none 0 0,.slice none 0 0,.slice none 0 0,.slice none 0 0,.slice none 0 0,.slice none 0 0,.slice none 0 0,.slice none 0 0,.slice none 0 0])(hR:R gb):An w gb R [] [] [] [] [] En.zero En.zero En.zero En.zero En.zero :=
 ⟨h,hR,Own.nil _ _ _ _,Own.nil _ _ _ _,Own.nil _ _ _ _,Own.nil _ _ _ _,Own.nil _ _ _ _,(fun k hk=>nomatch hk),(fun k hk=>nomatch hk),(fun k hk=>nomatch hk),(fun k hk=>nomatch hk),(fun k hk=>nomatch hk),rfl,rfl,rfl,rfl,rfl,(fun k hk=>nomatch hk),(fun k hk=>nomatch hk),(fun k hk=>nomatch hk),(fun k hk=>nomatch hk),(fun k hk=>nomatch hk),(fun k hk=>nomatch hk),(fun k hk=>nomatch hk),(fun k hk=>nomatch hk),(fun k hk=>nomatch hk),(fun k hk=>nomatch hk)⟩
def RN(R:Nat->Prop)(w w':World)(k:Nat):Prop:=R k\/(w.heap.size<=k/\k<w'.heap.size)
theorem RN.step{R:Nat->Prop}{a b c:World}(h:a.heap.size<=b.heap.size)(h2:b.heap.size<=c.heap.size):∀k,RN (RN R a b) b c k->RN R a c k:=fun k hk=>by
 rcases hk with (hk|⟨h3,h4⟩)|⟨h3,h4⟩
 ·exact .inl hk
 ·exact .inr ⟨h3,by omega⟩
 ·exact .inr ⟨by omega,h4⟩
theorem Ni{R:Nat->Prop}{a b c:World}(h:Upd R a b)(k:Upd (RN R a b) b c):Upd R a c :=
 ⟨k.os.trans h.os,k.tape.trans h.tape,k.output.trans h.output,AQ h.size k.size,fun q hq hn=>(k.block q (BF hq h.size) (fun e=>by
  rcases e with e|e
  ·exact hn e
  ·omega)).trans (h.block q hq hn)⟩
theorem An.put_w{w w3:World}{gb:Nat}{R:Nat->Prop}{Lw Lr Lc Lu Lt:List En}{w_ r_ c_ u_ t_:En}{x:En}(h:An w gb R Lw Lr Lc Lu Lt w_ r_ c_ u_ t_)(ob:Obj){A3:Option Addr}{c3:Nat}
  (o3:Own w3 0 24 1 A3 (w_.n+1) c3 (Di Lw++[x.v])) (g3:(w.alloc ob).grownBy w3 (blk w_.A w_.c)) (x3:(A3=w_.A/\c3=w_.c)\/(blk A3 c3=some (w.alloc ob).heap.size/\Ext (w.alloc ob) w3)) :
  An (w3.setCell ⟨gb,3,none⟩ (.slice A3 (w_.n+1) c3)) gb (RN R w (w3.setCell ⟨gb,3,none⟩ (.slice A3 (w_.n+1) c3))) (Lw++[x]) Lr Lc Lu Lt ⟨A3,w_.n+1,c3⟩ r_ c_ u_ t_/\Upd R w (w3.setCell ⟨gb,3,none⟩ (.slice A3 (w_.n+1) c3)):=by
 have hsz:=((Ext.refl w).alloc ob).size;have hgb:=(BJ.1 h.bk).1;have u3:Upd (fun k=>blk w_.A w_.c=some k) w w3:=((Upd.refl _ w).alloc ob).grown g3 (fun k hk=>.inl hk);have hnew:∀k,blk A3 c3=some k->blk w_.A w_.c=some k\/(w.heap.size<=k/\k<w3.heap.size):=fun k hk=>by
  rcases x3 with ⟨rfl,rfl⟩|⟨h1,_⟩
  ·exact .inl hk
  ·have h2:=(o3.lt k hk).2;rw[h1]at hk;injection hk with hk;exact .inr ⟨by omega,h2⟩
 have ngb:blk A3 c3≠some gb:=fun e=>by
  rcases hnew gb e with q|q
  ·exact(h.rw gb q).2 rfl
  ·omega
 have hR:∀k,R k->RN R w (w3.setCell ⟨gb,3,none⟩ (.slice A3 (w_.n+1) c3)) k:=fun k hk=>.inl hk;have kr:Own w3 0 _ 1 r_.A r_.n r_.c _:=h.or.upd u3 (fun k hk e=>h.swr k e hk);have kc:Own w3 0 _ 1 c_.A c_.n c_.c _:=h.oc.upd u3 (fun k hk e=>h.swc k e hk);have ku:Own w3 0 _ 1 u_.A u_.n u_.c _:=h.ou.upd u3 (fun k hk e=>h.swu k e hk);have kt:Own w3 0 _ 1 t_.A t_.n t_.c _:=h.ot.upd u3 (fun k hk e=>h.swt k e hk);have bk3:Bk w3 gb 52 (Kz w_.v r_.v c_.v u_.v t_.v):=(u3.block gb hgb (fun e=>(h.rw gb e).2 rfl)).trans h.bk;refine⟨⟨bk3.set 3 _,hR _ h.rg,?_,?_,?_,?_,?_,?_,?_,?_,?_,?_,?_,?_,?_,?_,?_,?_,?_,?_,?_,?_,?_,?_,?_,?_,?_⟩,?_⟩
 ·rw[Fo];exact o3.far ngb _
 ·exact kr.far (show blk r_.A r_.c≠some gb from fun e=>(h.rr gb e).2 rfl) _
 ·exact kc.far (show blk c_.A c_.c≠some gb from fun e=>(h.rc gb e).2 rfl) _
 ·exact ku.far (show blk u_.A u_.c≠some gb from fun e=>(h.ru gb e).2 rfl) _
 ·exact kt.far (show blk t_.A t_.c≠some gb from fun e=>(h.rt gb e).2 rfl) _
 ·intro k hk;rcases hnew k hk with q|q
  ·exact⟨hR k (h.rw k q).1,(h.rw k q).2⟩
  ·exact⟨.inr ⟨q.1,by simpa using q.2⟩,by omega⟩
 ·exact fun k hk=>⟨hR k (h.rr k hk).1,(h.rr k hk).2⟩
 ·exact fun k hk=>⟨hR k (h.rc k hk).1,(h.rc k hk).2⟩
 ·exact fun k hk=>⟨hR k (h.ru k hk).1,(h.ru k hk).2⟩
 ·exact fun k hk=>⟨hR k (h.rt k hk).1,(h.rt k hk).2⟩
 ·show w_.n+1=_;rw[AA,h.nw];rfl
 ·exact h.nr
 ·exact h.nc
 ·exact h.nu
 ·exact h.nt
 ·intro k hk e;rcases hnew k hk with q|q
  ·exact h.swr k q e
  ·have:=(h.or.lt k e).2;omega
 ·intro k hk e;rcases hnew k hk with q|q
  ·exact h.swc k q e
  ·have:=(h.oc.lt k e).2;omega
 ·intro k hk e;rcases hnew k hk with q|q
  ·exact h.swu k q e
  ·have:=(h.ou.lt k e).2;omega
 ·intro k hk e;rcases hnew k hk with q|q
  ·exact h.swt k q e
  ·have:=(h.ot.lt k e).2;omega
 ·exact h.src
 ·exact h.sru
 ·exact h.srt
 ·exact h.scu
 ·exact h.sct
 ·exact h.sut
 ·exact(u3.mono (fun k _ hk=>(h.rw k hk).1)).setCell (.inl h.rg) _
theorem Nd(gb n ac:Nat)(R:Nat->Prop)(A:Option Addr)(Lw Lr Lc Lu Lt:List En)(w_ r_ c_ u_ t_:En)(w:World)(h:Hid (An w gb R Lw Lr Lc Lu Lt w_ r_ c_ u_ t_))(hl:Lw.length<=100000) :
  Calls Tryz.prog 116 #[.pointer (some ⟨gb,0,none⟩),.slice A n ac] w fun e w'=>e=.returned (.tuple #[])/\∃x,An w' gb (RN R w w') (Lw++[⟨A,n,ac⟩]) Lr Lc Lu Lt x r_ c_ u_ t_/\Upd R w w':=by
 obtain⟨wA,wn,wc⟩:=w_;obtain⟨rA,rn,rc⟩:=r_;obtain⟨cA,cn,cc⟩:=c_;obtain⟨uA,un,uc⟩:=u_;obtain⟨tA,tn,tc⟩:=t_;have hn:wn<=100000:=by have:wn=Lw.length:=h.out.nw;omega
 have q:=h.out.bk.cell 3;have z:=h.out.bk.free 3;replace q:w.cell? ⟨gb,3,none⟩=some (.slice wA wn wc):=q;go_enter Tryz.func116,Tryz.ntmps116;go_wp2_with (at_builtin;refine Ab _ Ma 0 _ _ rfl rfl wA wn wc (Di Lw) rfl (h.out.ow.alloc _) (some ⟨w.heap.size,0,none⟩) 1 1 [.slice A n ac] rfl (Sl.one w #[.slice A n ac] 24 1 rfl) (Fa [⟨A,n,ac⟩]) (by omega) (by decide) (AE _) ?_;intro A3 c3 w3 o3 g3 x3;have HP:=hid (h.out.put_w (x:=⟨A,n,ac⟩) _ o3 g3 x3);have b3:Bk w3 gb 52 (Kz (.slice wA wn wc) (.slice rA rn rc) (.slice cA cn cc) (.slice uA un uc) (.slice tA tn tc)):=(((Upd.refl (fun k=>blk wA wc=some k) w).alloc _).grown g3 (fun k hk=>.inl hk)).block gb (BJ.1 h.out.bk).1 (fun e=>(h.out.rw gb e).2 rfl) |>.trans h.out.bk;have q3:=b3.cell 3;have z3:=b3.free 3;clear b3 o3 g3 x3)
 go_returns;exact⟨rfl,_,HP.out.1,HP.out.2⟩
theorem An.put_r{w w3:World}{gb:Nat}{R:Nat->Prop}{Lw Lr Lc Lu Lt:List En}{w_ r_ c_ u_ t_:En}{x:En}(h:An w gb R Lw Lr Lc Lu Lt w_ r_ c_ u_ t_)(ob:Obj){A3:Option Addr}{c3:Nat}
  (o3:Own w3 0 78 1 A3 (r_.n+1) c3 (Di Lr++[x.v])) (g3:(w.alloc ob).grownBy w3 (blk r_.A r_.c)) (x3:(A3=r_.A/\c3=r_.c)\/(blk A3 c3=some (w.alloc ob).heap.size/\Ext (w.alloc ob) w3)) :
  An (w3.setCell ⟨gb,4,none⟩ (.slice A3 (r_.n+1) c3)) gb (RN R w (w3.setCell ⟨gb,4,none⟩ (.slice A3 (r_.n+1) c3))) Lw (Lr++[x]) Lc Lu Lt w_ ⟨A3,r_.n+1,c3⟩ c_ u_ t_/\Upd R w (w3.setCell ⟨gb,4,none⟩ (.slice A3 (r_.n+1) c3)):=by
 have hsz:=((Ext.refl w).alloc ob).size;have hgb:=(BJ.1 h.bk).1;have u3:Upd (fun k=>blk r_.A r_.c=some k) w w3:=((Upd.refl _ w).alloc ob).grown g3 (fun k hk=>.inl hk);have hnew:∀k,blk A3 c3=some k->blk r_.A r_.c=some k\/(w.heap.size<=k/\k<w3.heap.size):=fun k hk=>by
  rcases x3 with ⟨rfl,rfl⟩|⟨h1,_⟩
  ·exact .inl hk
  ·have h2:=(o3.lt k hk).2;rw[h1]at hk;injection hk with hk;exact .inr ⟨by omega,h2⟩
 have ngb:blk A3 c3≠some gb:=fun e=>by
  rcases hnew gb e with q|q
  ·exact(h.rr gb q).2 rfl
  ·omega
 have hR:∀k,R k->RN R w (w3.setCell ⟨gb,4,none⟩ (.slice A3 (r_.n+1) c3)) k:=fun k hk=>.inl hk;have kw:Own w3 0 _ 1 w_.A w_.n w_.c _:=h.ow.upd u3 (fun k hk e=>h.swr k hk e);have kc:Own w3 0 _ 1 c_.A c_.n c_.c _:=h.oc.upd u3 (fun k hk e=>h.src k e hk);have ku:Own w3 0 _ 1 u_.A u_.n u_.c _:=h.ou.upd u3 (fun k hk e=>h.sru k e hk);have kt:Own w3 0 _ 1 t_.A t_.n t_.c _:=h.ot.upd u3 (fun k hk e=>h.srt k e hk);have bk3:Bk w3 gb 52 (Kz w_.v r_.v c_.v u_.v t_.v):=(u3.block gb hgb (fun e=>(h.rr gb e).2 rfl)).trans h.bk;refine⟨⟨bk3.set 4 _,hR _ h.rg,?_,?_,?_,?_,?_,?_,?_,?_,?_,?_,?_,?_,?_,?_,?_,?_,?_,?_,?_,?_,?_,?_,?_,?_,?_⟩,?_⟩
 ·exact kw.far (show blk w_.A w_.c≠some gb from fun e=>(h.rw gb e).2 rfl) _
 ·rw[Fo];exact o3.far ngb _
 ·exact kc.far (show blk c_.A c_.c≠some gb from fun e=>(h.rc gb e).2 rfl) _
 ·exact ku.far (show blk u_.A u_.c≠some gb from fun e=>(h.ru gb e).2 rfl) _
 ·exact kt.far (show blk t_.A t_.c≠some gb from fun e=>(h.rt gb e).2 rfl) _
 ·exact fun k hk=>⟨hR k (h.rw k hk).1,(h.rw k hk).2⟩
 ·intro k hk;rcases hnew k hk with q|q
  ·exact⟨hR k (h.rr k q).1,(h.rr k q).2⟩
  ·exact⟨.inr ⟨q.1,by simpa using q.2⟩,by omega⟩
 ·exact fun k hk=>⟨hR k (h.rc k hk).1,(h.rc k hk).2⟩
 ·exact fun k hk=>⟨hR k (h.ru k hk).1,(h.ru k hk).2⟩
 ·exact fun k hk=>⟨hR k (h.rt k hk).1,(h.rt k hk).2⟩
 ·exact h.nw
 ·show r_.n+1=_;rw[AA,h.nr];rfl
 ·exact h.nc
 ·exact h.nu
 ·exact h.nt
 ·intro k hk e;rcases hnew k e with q|q
  ·exact h.swr k hk q
  ·have:=(h.ow.lt k hk).2;omega
 ·exact h.swc
 ·exact h.swu
 ·exact h.swt
 ·intro k hk e;rcases hnew k hk with q|q
  ·exact h.src k q e
  ·have:=(h.oc.lt k e).2;omega
 ·intro k hk e;rcases hnew k hk with q|q
  ·exact h.sru k q e
  ·have:=(h.ou.lt k e).2;omega
 ·intro k hk e;rcases hnew k hk with q|q
  ·exact h.srt k q e
  ·have:=(h.ot.lt k e).2;omega
 ·exact h.scu
 ·exact h.sct
 ·exact h.sut
 ·exact(u3.mono (fun k _ hk=>(h.rr k hk).1)).setCell (.inl h.rg) _
theorem Rd(gb n ac:Nat)(R:Nat->Prop)(A:Option Addr)(Lw Lr Lc Lu Lt:List En)(w_ r_ c_ u_ t_:En)(w:World)(h:Hid (An w gb R Lw Lr Lc Lu Lt w_ r_ c_ u_ t_))(hl:Lr.length<=100000) :
  Calls Tryz.prog 115 #[.pointer (some ⟨gb,0,none⟩),.slice A n ac] w fun e w'=>e=.returned (.tuple #[])/\∃x,An w' gb (RN R w w') Lw (Lr++[⟨A,n,ac⟩]) Lc Lu Lt w_ x c_ u_ t_/\Upd R w w':=by
 obtain⟨wA,wn,wc⟩:=w_;obtain⟨rA,rn,rc⟩:=r_;obtain⟨cA,cn,cc⟩:=c_;obtain⟨uA,un,uc⟩:=u_;obtain⟨tA,tn,tc⟩:=t_;have hn:rn<=100000:=by have:rn=Lr.length:=h.out.nr;omega
 have q:=h.out.bk.cell 4;have z:=h.out.bk.free 4;replace q:w.cell? ⟨gb,4,none⟩=some (.slice rA rn rc):=q;go_enter Tryz.func115,Tryz.ntmps115;go_wp2_with (at_builtin;refine Ab _ Oz 0 _ _ rfl rfl rA rn rc (Di Lr) rfl (h.out.or.alloc _) (some ⟨w.heap.size,0,none⟩) 1 1 [.slice A n ac] rfl (Sl.one w #[.slice A n ac] 78 1 rfl) (Fa [⟨A,n,ac⟩]) (by omega) (by decide) (AE _) ?_;intro A3 c3 w3 o3 g3 x3;have HP:=hid (h.out.put_r (x:=⟨A,n,ac⟩) _ o3 g3 x3);have b3:Bk w3 gb 52 (Kz (.slice wA wn wc) (.slice rA rn rc) (.slice cA cn cc) (.slice uA un uc) (.slice tA tn tc)):=(((Upd.refl (fun k=>blk rA rc=some k) w).alloc _).grown g3 (fun k hk=>.inl hk)).block gb (BJ.1 h.out.bk).1 (fun e=>(h.out.rr gb e).2 rfl) |>.trans h.out.bk;have q3:=b3.cell 4;have z3:=b3.free 4;clear b3 o3 g3 x3)
 go_returns;exact⟨rfl,_,HP.out.1,HP.out.2⟩
theorem An.put_c{w w3:World}{gb:Nat}{R:Nat->Prop}{Lw Lr Lc Lu Lt:List En}{w_ r_ c_ u_ t_:En}{x:En}(h:An w gb R Lw Lr Lc Lu Lt w_ r_ c_ u_ t_)(ob:Obj){A3:Option Addr}{c3:Nat}
  (o3:Own w3 0 31 1 A3 (c_.n+1) c3 (Di Lc++[x.v])) (g3:(w.alloc ob).grownBy w3 (blk c_.A c_.c)) (x3:(A3=c_.A/\c3=c_.c)\/(blk A3 c3=some (w.alloc ob).heap.size/\Ext (w.alloc ob) w3)) :
  An (w3.setCell ⟨gb,9,none⟩ (.slice A3 (c_.n+1) c3)) gb (RN R w (w3.setCell ⟨gb,9,none⟩ (.slice A3 (c_.n+1) c3))) Lw Lr (Lc++[x]) Lu Lt w_ r_ ⟨A3,c_.n+1,c3⟩ u_ t_/\Upd R w (w3.setCell ⟨gb,9,none⟩ (.slice A3 (c_.n+1) c3)):=by
 have hsz:=((Ext.refl w).alloc ob).size;have hgb:=(BJ.1 h.bk).1;have u3:Upd (fun k=>blk c_.A c_.c=some k) w w3:=((Upd.refl _ w).alloc ob).grown g3 (fun k hk=>.inl hk);have hnew:∀k,blk A3 c3=some k->blk c_.A c_.c=some k\/(w.heap.size<=k/\k<w3.heap.size):=fun k hk=>by
  rcases x3 with ⟨rfl,rfl⟩|⟨h1,_⟩
  ·exact .inl hk
  ·have h2:=(o3.lt k hk).2;rw[h1]at hk;injection hk with hk;exact .inr ⟨by omega,h2⟩
 have ngb:blk A3 c3≠some gb:=fun e=>by
  rcases hnew gb e with q|q
  ·exact(h.rc gb q).2 rfl
  ·omega
 have hR:∀k,R k->RN R w (w3.setCell ⟨gb,9,none⟩ (.slice A3 (c_.n+1) c3)) k:=fun k hk=>.inl hk;have kw:Own w3 0 _ 1 w_.A w_.n w_.c _:=h.ow.upd u3 (fun k hk e=>h.swc k hk e);have kr:Own w3 0 _ 1 r_.A r_.n r_.c _:=h.or.upd u3 (fun k hk e=>h.src k hk e);have ku:Own w3 0 _ 1 u_.A u_.n u_.c _:=h.ou.upd u3 (fun k hk e=>h.scu k e hk);have kt:Own w3 0 _ 1 t_.A t_.n t_.c _:=h.ot.upd u3 (fun k hk e=>h.sct k e hk);have bk3:Bk w3 gb 52 (Kz w_.v r_.v c_.v u_.v t_.v):=(u3.block gb hgb (fun e=>(h.rc gb e).2 rfl)).trans h.bk;refine⟨⟨bk3.set 9 _,hR _ h.rg,?_,?_,?_,?_,?_,?_,?_,?_,?_,?_,?_,?_,?_,?_,?_,?_,?_,?_,?_,?_,?_,?_,?_,?_,?_⟩,?_⟩
 ·exact kw.far (show blk w_.A w_.c≠some gb from fun e=>(h.rw gb e).2 rfl) _
 ·exact kr.far (show blk r_.A r_.c≠some gb from fun e=>(h.rr gb e).2 rfl) _
 ·rw[Fo];exact o3.far ngb _
 ·exact ku.far (show blk u_.A u_.c≠some gb from fun e=>(h.ru gb e).2 rfl) _
 ·exact kt.far (show blk t_.A t_.c≠some gb from fun e=>(h.rt gb e).2 rfl) _
 ·exact fun k hk=>⟨hR k (h.rw k hk).1,(h.rw k hk).2⟩
 ·exact fun k hk=>⟨hR k (h.rr k hk).1,(h.rr k hk).2⟩
 ·intro k hk;rcases hnew k hk with q|q
  ·exact⟨hR k (h.rc k q).1,(h.rc k q).2⟩
  ·exact⟨.inr ⟨q.1,by simpa using q.2⟩,by omega⟩
 ·exact fun k hk=>⟨hR k (h.ru k hk).1,(h.ru k hk).2⟩
 ·exact fun k hk=>⟨hR k (h.rt k hk).1,(h.rt k hk).2⟩
 ·exact h.nw
 ·exact h.nr
 ·show c_.n+1=_;rw[AA,h.nc];rfl
 ·exact h.nu
 ·exact h.nt
 ·exact h.swr
 ·intro k hk e;rcases hnew k e with q|q
  ·exact h.swc k hk q
  ·have:=(h.ow.lt k hk).2;omega
 ·exact h.swu
 ·exact h.swt
 ·intro k hk e;rcases hnew k e with q|q
  ·exact h.src k hk q
  ·have:=(h.or.lt k hk).2;omega
 ·exact h.sru
 ·exact h.srt
 ·intro k hk e;rcases hnew k hk with q|q
  ·exact h.scu k q e
  ·have:=(h.ou.lt k e).2;omega
 ·intro k hk e;rcases hnew k hk with q|q
  ·exact h.sct k q e
  ·have:=(h.ot.lt k e).2;omega
 ·exact h.sut
 ·exact(u3.mono (fun k _ hk=>(h.rc k hk).1)).setCell (.inl h.rg) _
theorem An.put_u{w w3:World}{gb:Nat}{R:Nat->Prop}{Lw Lr Lc Lu Lt:List En}{w_ r_ c_ u_ t_:En}{x:En}(h:An w gb R Lw Lr Lc Lu Lt w_ r_ c_ u_ t_)(ob:Obj){A3:Option Addr}{c3:Nat}
  (o3:Own w3 0 22 1 A3 (u_.n+1) c3 (Di Lu++[x.v])) (g3:(w.alloc ob).grownBy w3 (blk u_.A u_.c)) (x3:(A3=u_.A/\c3=u_.c)\/(blk A3 c3=some (w.alloc ob).heap.size/\Ext (w.alloc ob) w3)) :
  An (w3.setCell ⟨gb,10,none⟩ (.slice A3 (u_.n+1) c3)) gb (RN R w (w3.setCell ⟨gb,10,none⟩ (.slice A3 (u_.n+1) c3))) Lw Lr Lc (Lu++[x]) Lt w_ r_ c_ ⟨A3,u_.n+1,c3⟩ t_/\Upd R w (w3.setCell ⟨gb,10,none⟩ (.slice A3 (u_.n+1) c3)):=by
 have hsz:=((Ext.refl w).alloc ob).size;have hgb:=(BJ.1 h.bk).1;have u3:Upd (fun k=>blk u_.A u_.c=some k) w w3:=((Upd.refl _ w).alloc ob).grown g3 (fun k hk=>.inl hk);have hnew:∀k,blk A3 c3=some k->blk u_.A u_.c=some k\/(w.heap.size<=k/\k<w3.heap.size):=fun k hk=>by
  rcases x3 with ⟨rfl,rfl⟩|⟨h1,_⟩
  ·exact .inl hk
  ·have h2:=(o3.lt k hk).2;rw[h1]at hk;injection hk with hk;exact .inr ⟨by omega,h2⟩
 have ngb:blk A3 c3≠some gb:=fun e=>by
  rcases hnew gb e with q|q
  ·exact(h.ru gb q).2 rfl
  ·omega
 have hR:∀k,R k->RN R w (w3.setCell ⟨gb,10,none⟩ (.slice A3 (u_.n+1) c3)) k:=fun k hk=>.inl hk;have kw:Own w3 0 _ 1 w_.A w_.n w_.c _:=h.ow.upd u3 (fun k hk e=>h.swu k hk e);have kr:Own w3 0 _ 1 r_.A r_.n r_.c _:=h.or.upd u3 (fun k hk e=>h.sru k hk e);have kc:Own w3 0 _ 1 c_.A c_.n c_.c _:=h.oc.upd u3 (fun k hk e=>h.scu k hk e);have kt:Own w3 0 _ 1 t_.A t_.n t_.c _:=h.ot.upd u3 (fun k hk e=>h.sut k e hk);have bk3:Bk w3 gb 52 (Kz w_.v r_.v c_.v u_.v t_.v):=(u3.block gb hgb (fun e=>(h.ru gb e).2 rfl)).trans h.bk;refine⟨⟨bk3.set 10 _,hR _ h.rg,?_,?_,?_,?_,?_,?_,?_,?_,?_,?_,?_,?_,?_,?_,?_,?_,?_,?_,?_,?_,?_,?_,?_,?_,?_⟩,?_⟩
 ·exact kw.far (show blk w_.A w_.c≠some gb from fun e=>(h.rw gb e).2 rfl) _
 ·exact kr.far (show blk r_.A r_.c≠some gb from fun e=>(h.rr gb e).2 rfl) _
 ·exact kc.far (show blk c_.A c_.c≠some gb from fun e=>(h.rc gb e).2 rfl) _
 ·rw[Fo];exact o3.far ngb _
 ·exact kt.far (show blk t_.A t_.c≠some gb from fun e=>(h.rt gb e).2 rfl) _
 ·exact fun k hk=>⟨hR k (h.rw k hk).1,(h.rw k hk).2⟩
 ·exact fun k hk=>⟨hR k (h.rr k hk).1,(h.rr k hk).2⟩
 ·exact fun k hk=>⟨hR k (h.rc k hk).1,(h.rc k hk).2⟩
 ·intro k hk;rcases hnew k hk with q|q
  ·exact⟨hR k (h.ru k q).1,(h.ru k q).2⟩
  ·exact⟨.inr ⟨q.1,by simpa using q.2⟩,by omega⟩
 ·exact fun k hk=>⟨hR k (h.rt k hk).1,(h.rt k hk).2⟩
 ·exact h.nw
 ·exact h.nr
 ·exact h.nc
 ·show u_.n+1=_;rw[AA,h.nu];rfl
 ·exact h.nt
 ·exact h.swr
 ·exact h.swc
 ·intro k hk e;rcases hnew k e with q|q
  ·exact h.swu k hk q
  ·have:=(h.ow.lt k hk).2;omega
 ·exact h.swt
 ·exact h.src
 ·intro k hk e;rcases hnew k e with q|q
  ·exact h.sru k hk q
  ·have:=(h.or.lt k hk).2;omega
 ·exact h.srt
 ·intro k hk e;rcases hnew k e with q|q
  ·exact h.scu k hk q
  ·have:=(h.oc.lt k hk).2;omega
 ·exact h.sct
 ·intro k hk e;rcases hnew k hk with q|q
  ·exact h.sut k q e
  ·have:=(h.ot.lt k e).2;omega
 ·exact(u3.mono (fun k _ hk=>(h.ru k hk).1)).setCell (.inl h.rg) _
theorem An.put_t{w w3:World}{gb:Nat}{R:Nat->Prop}{Lw Lr Lc Lu Lt:List En}{w_ r_ c_ u_ t_:En}{x:En}(h:An w gb R Lw Lr Lc Lu Lt w_ r_ c_ u_ t_)(ob:Obj){A3:Option Addr}{c3:Nat}
  (o3:Own w3 0 27 1 A3 (t_.n+1) c3 (Di Lt++[x.v])) (g3:(w.alloc ob).grownBy w3 (blk t_.A t_.c)) (x3:(A3=t_.A/\c3=t_.c)\/(blk A3 c3=some (w.alloc ob).heap.size/\Ext (w.alloc ob) w3)) :
  An (w3.setCell ⟨gb,11,none⟩ (.slice A3 (t_.n+1) c3)) gb (RN R w (w3.setCell ⟨gb,11,none⟩ (.slice A3 (t_.n+1) c3))) Lw Lr Lc Lu (Lt++[x]) w_ r_ c_ u_ ⟨A3,t_.n+1,c3⟩/\Upd R w (w3.setCell ⟨gb,11,none⟩ (.slice A3 (t_.n+1) c3)):=by
 have hsz:=((Ext.refl w).alloc ob).size;have hgb:=(BJ.1 h.bk).1;have u3:Upd (fun k=>blk t_.A t_.c=some k) w w3:=((Upd.refl _ w).alloc ob).grown g3 (fun k hk=>.inl hk);have hnew:∀k,blk A3 c3=some k->blk t_.A t_.c=some k\/(w.heap.size<=k/\k<w3.heap.size):=fun k hk=>by
  rcases x3 with ⟨rfl,rfl⟩|⟨h1,_⟩
  ·exact .inl hk
  ·have h2:=(o3.lt k hk).2;rw[h1]at hk;injection hk with hk;exact .inr ⟨by omega,h2⟩
 have ngb:blk A3 c3≠some gb:=fun e=>by
  rcases hnew gb e with q|q
  ·exact(h.rt gb q).2 rfl
  ·omega
 have hR:∀k,R k->RN R w (w3.setCell ⟨gb,11,none⟩ (.slice A3 (t_.n+1) c3)) k:=fun k hk=>.inl hk;have kw:Own w3 0 _ 1 w_.A w_.n w_.c _:=h.ow.upd u3 (fun k hk e=>h.swt k hk e);have kr:Own w3 0 _ 1 r_.A r_.n r_.c _:=h.or.upd u3 (fun k hk e=>h.srt k hk e);have kc:Own w3 0 _ 1 c_.A c_.n c_.c _:=h.oc.upd u3 (fun k hk e=>h.sct k hk e);have ku:Own w3 0 _ 1 u_.A u_.n u_.c _:=h.ou.upd u3 (fun k hk e=>h.sut k hk e);have bk3:Bk w3 gb 52 (Kz w_.v r_.v c_.v u_.v t_.v):=(u3.block gb hgb (fun e=>(h.rt gb e).2 rfl)).trans h.bk;refine⟨⟨bk3.set 11 _,hR _ h.rg,?_,?_,?_,?_,?_,?_,?_,?_,?_,?_,?_,?_,?_,?_,?_,?_,?_,?_,?_,?_,?_,?_,?_,?_,?_⟩,?_⟩
 ·exact kw.far (show blk w_.A w_.c≠some gb from fun e=>(h.rw gb e).2 rfl) _
 ·exact kr.far (show blk r_.A r_.c≠some gb from fun e=>(h.rr gb e).2 rfl) _
 ·exact kc.far (show blk c_.A c_.c≠some gb from fun e=>(h.rc gb e).2 rfl) _
 ·exact ku.far (show blk u_.A u_.c≠some gb from fun e=>(h.ru gb e).2 rfl) _
 ·rw[Fo];exact o3.far ngb _
 ·exact fun k hk=>⟨hR k (h.rw k hk).1,(h.rw k hk).2⟩
 ·exact fun k hk=>⟨hR k (h.rr k hk).1,(h.rr k hk).2⟩
 ·exact fun k hk=>⟨hR k (h.rc k hk).1,(h.rc k hk).2⟩
 ·exact fun k hk=>⟨hR k (h.ru k hk).1,(h.ru k hk).2⟩
 ·intro k hk;rcases hnew k hk with q|q
  ·exact⟨hR k (h.rt k q).1,(h.rt k q).2⟩
  ·exact⟨.inr ⟨q.1,by simpa using q.2⟩,by omega⟩
 ·exact h.nw
 ·exact h.nr
 ·exact h.nc
 ·exact h.nu
 ·show t_.n+1=_;rw[AA,h.nt];rfl
 ·exact h.swr
 ·exact h.swc
 ·exact h.swu
 ·intro k hk e;rcases hnew k e with q|q
  ·exact h.swt k hk q
  ·have:=(h.ow.lt k hk).2;omega
 ·exact h.src
 ·exact h.sru
 ·intro k hk e;rcases hnew k e with q|q
  ·exact h.srt k hk q
  ·have:=(h.or.lt k hk).2;omega
 ·exact h.scu
 ·intro k hk e;rcases hnew k e with q|q
  ·exact h.sct k hk q
  ·have:=(h.oc.lt k hk).2;omega
 ·intro k hk e;rcases hnew k e with q|q
  ·exact h.sut k hk q
  ·have:=(h.ou.lt k hk).2;omega
 ·exact(u3.mono (fun k _ hk=>(h.rt k hk).1)).setCell (.inl h.rg) _
def Xu(Lw Lr Lc Lu Lt:List En)(k:Nat):Prop:=Bm Lw k\/Bm Lr k\/Bm Lc k\/Bm Lu k\/Bm Lt k
def Few(L:List En):Prop:=L.length<=100000/\∀i,i<L.length->(ena L i).n<=1000000
theorem fH(gb B:Nat)(R:Nat->Prop)(Lw Lr Lc Lu Lt:List En)(w_ r_ c_ u_ t_:En)(fw fr fc fu ft:Nat->List Value)(w:World)(h:Hid (An w gb R Lw Lr Lc Lu Lt w_ r_ c_ u_ t_))(lsw:Hid (Ew w B 180 1 Lw fw))(lsr:Hid (Ew w B 204 4 Lr fr))(lsc:Hid (Ew w B 154 2 Lc fc))(lsu:Hid (Ew w B 95 4 Lu fu))(lst:Hid (Ew w B 26 2 Lt ft))
  (dwr:Hid (∀k,Bm Lw k->¬Bm Lr k)) (dwc:Hid (∀k,Bm Lw k->¬Bm Lc k)) (dwu:Hid (∀k,Bm Lw k->¬Bm Lu k)) (dwt:Hid (∀k,Bm Lw k->¬Bm Lt k)) (drc:Hid (∀k,Bm Lr k->¬Bm Lc k)) (dru:Hid (∀k,Bm Lr k->¬Bm Lu k)) (drt:Hid (∀k,Bm Lr k->¬Bm Lt k)) (dcu:Hid (∀k,Bm Lc k->¬Bm Lu k)) (dct:Hid (∀k,Bm Lc k->¬Bm Lt k)) (dut:Hid (∀k,Bm Lu k->¬Bm Lt k)) (hlt:Hid (∀k,Xu Lw Lr Lc Lu Lt k->¬R k)) (feww:Hid (Few Lw)) (fewr:Hid (Few Lr)) (fewc:Hid (Few Lc)) (fewu:Hid (Few Lu)) (fewt:Hid (Few Lt)) (hw:Hid (B<=w.heap.size)) :
  Calls Tryz.prog 29 #[.pointer (some ⟨gb,0,none⟩)] w fun e w'=>e=.returned (.bool true)/\Upd (Xu Lw Lr Lc Lu Lt) w w':=by
 have hnw:w_.n<=100000:=by rw[h.out.nw];exact feww.out.1
 have hnr:r_.n<=100000:=by rw[h.out.nr];exact fewr.out.1
 have hnc:c_.n<=100000:=by rw[h.out.nc];exact fewc.out.1
 have hnu:u_.n<=100000:=by rw[h.out.nu];exact fewu.out.1
 have hnt:t_.n<=100000:=by rw[h.out.nt];exact fewt.out.1
 have U0:Hid (Upd (Xu Lw Lr Lc Lu Lt) w w):=hid (Upd.refl _ _);have h0:=h;have hw0:=hw;have HBk:=hid h.out.bk;have q0:w.cell? ⟨gb,0,none⟩=some (.slice none 0 0):=HBk.out.cell 0;have q1:w.cell? ⟨gb,1,none⟩=some (.slice none 0 0):=HBk.out.cell 1;have q2:w.cell? ⟨gb,2,none⟩=some (.slice none 0 0):=HBk.out.cell 2;have q3:w.cell? ⟨gb,3,none⟩=some (.slice w_.A w_.n w_.c):=HBk.out.cell 3;have q4:w.cell? ⟨gb,4,none⟩=some (.slice r_.A r_.n r_.c):=HBk.out.cell 4;have q5:w.cell? ⟨gb,5,none⟩=some (.slice none 0 0):=HBk.out.cell 5;have q6:w.cell? ⟨gb,6,none⟩=some (.slice none 0 0):=HBk.out.cell 6;have q7:w.cell? ⟨gb,7,none⟩=some (.slice none 0 0):=HBk.out.cell 7;have q8:w.cell? ⟨gb,8,none⟩=some (.slice none 0 0):=HBk.out.cell 8;have q9:w.cell? ⟨gb,9,none⟩=some (.slice c_.A c_.n c_.c):=HBk.out.cell 9;have q10:w.cell? ⟨gb,10,none⟩=some (.slice u_.A u_.n u_.c):=HBk.out.cell 10;have q11:w.cell? ⟨gb,11,none⟩=some (.slice t_.A t_.n t_.c):=HBk.out.cell 11;have q12:w.cell? ⟨gb,12,none⟩=some (.slice none 0 0):=HBk.out.cell 12;have q13:w.cell? ⟨gb,13,none⟩=some (.slice none 0 0):=HBk.out.cell 13;go_enter Tryz.func29,Tryz.ntmps29;go_wp2_with (first
  | (go_at_call 126;refine(Zp w_.A w_.c w_.n B Lw _ _ (hid h0.out.nw) (hid h0.out.ow.sl) lsw (hid (fun k hk=>⟨fun q=>hlt.out k (.inl q) (h0.out.rw k hk).1,(h0.out.ow.lt k hk).2⟩)) hnw (hid feww.out.2) hw0).mono ?_;rintro e w1 ⟨rfl,up_⟩;have U1:Hid (Upd (Xu Lw Lr Lc Lu Lt) w w1):=hid (U0.out.trans (up_.mono (fun k _ hk=>(.inl hk))));have h1:Hid (An w1 gb R Lw Lr Lc Lu Lt w_ r_ c_ u_ t_):=hid (h0.out.upd up_ (fun k hk q=>hlt.out k (.inl q) hk));replace lsr:=hid (lsr.out.upd up_ (fun k hk q=>dwr.out k q hk));replace lsc:=hid (lsc.out.upd up_ (fun k hk q=>dwc.out k q hk));replace lsu:=hid (lsu.out.upd up_ (fun k hk q=>dwu.out k q hk));replace lst:=hid (lst.out.upd up_ (fun k hk q=>dwt.out k q hk));have HBk1:=hid h1.out.bk;have q4:w1.cell? ⟨gb,4,none⟩=some (.slice r_.A r_.n r_.c):=HBk1.out.cell 4;have q5:w1.cell? ⟨gb,5,none⟩=some (.slice none 0 0):=HBk1.out.cell 5;have q6:w1.cell? ⟨gb,6,none⟩=some (.slice none 0 0):=HBk1.out.cell 6;have q7:w1.cell? ⟨gb,7,none⟩=some (.slice none 0 0):=HBk1.out.cell 7;have q8:w1.cell? ⟨gb,8,none⟩=some (.slice none 0 0):=HBk1.out.cell 8;have q9:w1.cell? ⟨gb,9,none⟩=some (.slice c_.A c_.n c_.c):=HBk1.out.cell 9;have q10:w1.cell? ⟨gb,10,none⟩=some (.slice u_.A u_.n u_.c):=HBk1.out.cell 10;have q11:w1.cell? ⟨gb,11,none⟩=some (.slice t_.A t_.n t_.c):=HBk1.out.cell 11;have q12:w1.cell? ⟨gb,12,none⟩=some (.slice none 0 0):=HBk1.out.cell 12;have q13:w1.cell? ⟨gb,13,none⟩=some (.slice none 0 0):=HBk1.out.cell 13;have hw1:Hid (B<=w1.heap.size):=hid (AQ hw0.out up_.size);clear up_)
  | (go_at_call 127;refine(iD r_.A r_.c r_.n B Lr _ _ (hid h1.out.nr) (hid h1.out.or.sl) lsr (hid (fun k hk=>⟨fun q=>hlt.out k (.inr (.inl q)) (h1.out.rr k hk).1,(h1.out.or.lt k hk).2⟩)) hnr (hid fewr.out.2) hw1).mono ?_;rintro e w2 ⟨rfl,up_⟩;have U2:Hid (Upd (Xu Lw Lr Lc Lu Lt) w w2):=hid (U1.out.trans (up_.mono (fun k _ hk=>(.inr (.inl hk)))));have h2:Hid (An w2 gb R Lw Lr Lc Lu Lt w_ r_ c_ u_ t_):=hid (h1.out.upd up_ (fun k hk q=>hlt.out k (.inr (.inl q)) hk));replace lsc:=hid (lsc.out.upd up_ (fun k hk q=>drc.out k q hk));replace lsu:=hid (lsu.out.upd up_ (fun k hk q=>dru.out k q hk));replace lst:=hid (lst.out.upd up_ (fun k hk q=>drt.out k q hk));have HBk2:=hid h2.out.bk;have q5:w2.cell? ⟨gb,5,none⟩=some (.slice none 0 0):=HBk2.out.cell 5;have q6:w2.cell? ⟨gb,6,none⟩=some (.slice none 0 0):=HBk2.out.cell 6;have q7:w2.cell? ⟨gb,7,none⟩=some (.slice none 0 0):=HBk2.out.cell 7;have q8:w2.cell? ⟨gb,8,none⟩=some (.slice none 0 0):=HBk2.out.cell 8;have q9:w2.cell? ⟨gb,9,none⟩=some (.slice c_.A c_.n c_.c):=HBk2.out.cell 9;have q10:w2.cell? ⟨gb,10,none⟩=some (.slice u_.A u_.n u_.c):=HBk2.out.cell 10;have q11:w2.cell? ⟨gb,11,none⟩=some (.slice t_.A t_.n t_.c):=HBk2.out.cell 11;have q12:w2.cell? ⟨gb,12,none⟩=some (.slice none 0 0):=HBk2.out.cell 12;have q13:w2.cell? ⟨gb,13,none⟩=some (.slice none 0 0):=HBk2.out.cell 13;have hw2:Hid (B<=w2.heap.size):=hid (AQ hw1.out up_.size);clear up_)
  | (go_at_call 132;refine(iE c_.A c_.c c_.n B Lc _ _ (hid h2.out.nc) (hid h2.out.oc.sl) lsc (hid (fun k hk=>⟨fun q=>hlt.out k (.inr (.inr (.inl q))) (h2.out.rc k hk).1,(h2.out.oc.lt k hk).2⟩)) hnc (hid fewc.out.2) hw2).mono ?_;rintro e w3 ⟨rfl,up_⟩;have U3:Hid (Upd (Xu Lw Lr Lc Lu Lt) w w3):=hid (U2.out.trans (up_.mono (fun k _ hk=>(.inr (.inr (.inl hk))))));have h3:Hid (An w3 gb R Lw Lr Lc Lu Lt w_ r_ c_ u_ t_):=hid (h2.out.upd up_ (fun k hk q=>hlt.out k (.inr (.inr (.inl q))) hk));replace lsu:=hid (lsu.out.upd up_ (fun k hk q=>dcu.out k q hk));replace lst:=hid (lst.out.upd up_ (fun k hk q=>dct.out k q hk));have HBk3:=hid h3.out.bk;have q10:w3.cell? ⟨gb,10,none⟩=some (.slice u_.A u_.n u_.c):=HBk3.out.cell 10;have q11:w3.cell? ⟨gb,11,none⟩=some (.slice t_.A t_.n t_.c):=HBk3.out.cell 11;have q12:w3.cell? ⟨gb,12,none⟩=some (.slice none 0 0):=HBk3.out.cell 12;have q13:w3.cell? ⟨gb,13,none⟩=some (.slice none 0 0):=HBk3.out.cell 13;have hw3:Hid (B<=w3.heap.size):=hid (AQ hw2.out up_.size);clear up_)
  | (go_at_call 133;refine(eE u_.A u_.c u_.n B Lu _ _ (hid h3.out.nu) (hid h3.out.ou.sl) lsu (hid (fun k hk=>⟨fun q=>hlt.out k (.inr (.inr (.inr (.inl q)))) (h3.out.ru k hk).1,(h3.out.ou.lt k hk).2⟩)) hnu (hid fewu.out.2) hw3).mono ?_;rintro e w4 ⟨rfl,up_⟩;have U4:Hid (Upd (Xu Lw Lr Lc Lu Lt) w w4):=hid (U3.out.trans (up_.mono (fun k _ hk=>(.inr (.inr (.inr (.inl hk)))))));have h4:Hid (An w4 gb R Lw Lr Lc Lu Lt w_ r_ c_ u_ t_):=hid (h3.out.upd up_ (fun k hk q=>hlt.out k (.inr (.inr (.inr (.inl q)))) hk));replace lst:=hid (lst.out.upd up_ (fun k hk q=>dut.out k q hk));have HBk4:=hid h4.out.bk;have q11:w4.cell? ⟨gb,11,none⟩=some (.slice t_.A t_.n t_.c):=HBk4.out.cell 11;have q12:w4.cell? ⟨gb,12,none⟩=some (.slice none 0 0):=HBk4.out.cell 12;have q13:w4.cell? ⟨gb,13,none⟩=some (.slice none 0 0):=HBk4.out.cell 13;have hw4:Hid (B<=w4.heap.size):=hid (AQ hw3.out up_.size);clear up_)
  | (go_at_call 134;refine(Zq t_.A t_.c t_.n B Lt _ _ (hid h4.out.nt) (hid h4.out.ot.sl) lst (hid (fun k hk=>⟨fun q=>hlt.out k (.inr (.inr (.inr (.inr q)))) (h4.out.rt k hk).1,(h4.out.ot.lt k hk).2⟩)) hnt (hid fewt.out.2) hw4).mono ?_;rintro e w5 ⟨rfl,up_⟩;have U5:Hid (Upd (Xu Lw Lr Lc Lu Lt) w w5):=hid (U4.out.trans (up_.mono (fun k _ hk=>(.inr (.inr (.inr (.inr hk)))))));have h5:Hid (An w5 gb R Lw Lr Lc Lu Lt w_ r_ c_ u_ t_):=hid (h4.out.upd up_ (fun k hk q=>hlt.out k (.inr (.inr (.inr (.inr q)))) hk));have HBk5:=hid h5.out.bk;have q12:w5.cell? ⟨gb,12,none⟩=some (.slice none 0 0):=HBk5.out.cell 12;have q13:w5.cell? ⟨gb,13,none⟩=some (.slice none 0 0):=HBk5.out.cell 13;have hw5:Hid (B<=w5.heap.size):=hid (AQ hw4.out up_.size);clear up_)
  | (go_at_call 123;refine(Zv _).mono ?_;rintro e w_ ⟨rfl,rfl⟩)
  | (go_at_call 124;refine(Zr _).mono ?_;rintro e w_ ⟨rfl,rfl⟩)
  | (go_at_call 125;refine(eG _).mono ?_;rintro e w_ ⟨rfl,rfl⟩)
  | (go_at_call 128;refine(Zs _).mono ?_;rintro e w_ ⟨rfl,rfl⟩)
  | (go_at_call 129;refine(Zt _).mono ?_;rintro e w_ ⟨rfl,rfl⟩)
  | (go_at_call 130;refine(Vs _).mono ?_;rintro e w_ ⟨rfl,rfl⟩)
  | (go_at_call 131;refine(Vd _).mono ?_;rintro e w_ ⟨rfl,rfl⟩)
  | (go_at_call 135;refine(Zu _).mono ?_;rintro e w_ ⟨rfl,rfl⟩)
  | (go_at_call 136;refine(eF _).mono ?_;rintro e w_ ⟨rfl,rfl⟩)
  | fail)
 go_ret;exact⟨rfl,U5.out⟩
def enR(x:Ud):En:=⟨x.A,x.l.length,x.c⟩
def enW(x:Ud):En:=⟨x.t.A,x.t.l.length,x.t.c⟩
theorem Nu(gb n ac:Nat)(R:Nat->Prop)(A:Option Addr)(Lw Lr Lc Lu Lt:List En)(w_ r_ c_ u_ t_:En)(w:World)(h:Hid (An w gb R Lw Lr Lc Lu Lt w_ r_ c_ u_ t_))(hl:Lr.length<=100000) :
  Calls Tryz.prog 115 #[.pointer (some ⟨gb,0,none⟩),.slice A n ac] w fun e w'=>e=.returned (.tuple #[])/\∃x,An w' gb (RN R w w') Lw (Lr++[⟨A,n,ac⟩]) Lc Lu Lt w_ x c_ u_ t_/\Upd R w w':=Rd gb n ac R A Lw Lr Lc Lu Lt w_ r_ c_ u_ t_ w h hl
theorem Md(gb n ac:Nat)(R:Nat->Prop)(A:Option Addr)(Lw Lr Lc Lu Lt:List En)(w_ r_ c_ u_ t_:En)(w:World)(h:Hid (An w gb R Lw Lr Lc Lu Lt w_ r_ c_ u_ t_))(hl:Lw.length<=100000) :
  Calls Tryz.prog 116 #[.pointer (some ⟨gb,0,none⟩),.slice A n ac] w fun e w'=>e=.returned (.tuple #[])/\∃x,An w' gb (RN R w w') (Lw++[⟨A,n,ac⟩]) Lr Lc Lu Lt x r_ c_ u_ t_/\Upd R w w':=Nd gb n ac R A Lw Lr Lc Lu Lt w_ r_ c_ u_ t_ w h hl
theorem Rm(gb m ac:Nat)(R:Nat->Prop)(A:Option Addr)(Q:List Ud)(Lw Lr Lc Lu Lt:List En)(w_ r_ c_ u_ t_:En)(w:World)(h:Hid (An w gb R Lw Lr Lc Lu Lt w_ r_ c_ u_ t_))(hrr:Lr.length+m<=100000)(hrw:Lw.length+m<=100000)(hl:Lu.length<=100000)(hm:Hid (m=Q.length))(hs:Hid (Sl w 4 A m ac (Ah Q)))(hsep:Hid (∀k,blk A ac=some k->¬R k)) :
  Calls Tryz.prog 21 #[.pointer (some ⟨gb,0,none⟩),.slice A m ac] w fun e w'=>e=.returned (.tuple #[])/\∃vr vw vu,An w' gb (RN R w w') (Lw++Q.map enW) (Lr++Q.map enR) Lc (Lu++[⟨A,m,ac⟩]) Lt vw vr c_ vu t_/\Upd R w w':=by
 have HP0:Hid (An w gb (RN R w w) (Lw++(Q.take 0).map enW) (Lr++(Q.take 0).map enR) Lc Lu Lt w_ r_ c_ u_ t_/\Upd R w w):=hid ⟨by simp only[GN,EM,AP];exact h.out.wide (fun k _ hk=>.inl hk),Upd.refl _ _⟩;go_enter Tryz.func21,Tryz.ntmps21;go_wp2
 go_loopg [4] m (fun z v wr=>∃(i:Nat) (vr vw:En),z=m-i/\i<=m/\v=.int .i64 i/\Hid (An wr gb (RN R w wr) (Lw++(Q.take i).map enW) (Lr++(Q.take i).map enR) Lc Lu Lt vw vr c_ u_ t_/\Upd R w wr))
 case atStart=>exact⟨0,r_,w_,rfl,AE _,rfl,HP0⟩
 case round =>
  clear HP0;obtain⟨i,vr,vw,rfl,hi,rfl,HP⟩:=hrel;by_cases hlt:i<m
  ·have hil:i<Q.length:=by rw[<-hm.out];exact hlt
   have hat:∀W,Upd R w W->∃ad,A=some ad/\W.cell? (ad.add (i*4))=some (.slice (Q.getD i Ud.zero).A (Q.getD i Ud.zero).l.length (Q.getD i Ud.zero).c)/\W.cell? ⟨(ad.add (i*4)).block,(ad.add (i*4)).off+1,none⟩=some (.int .u64 (Q.getD i Ud.zero).t.e)/\W.cell? ⟨(ad.add (i*4)).block,(ad.add (i*4)).off+2,none⟩=some (.slice (Q.getD i Ud.zero).t.A (Q.getD i Ud.zero).t.l.length (Q.getD i Ud.zero).t.c)/\W.cell? ⟨(ad.add (i*4)).block,(ad.add (i*4)).off+3,none⟩=some (.int .i64 (Q.getD i Ud.zero).d):=fun W hW=>Iv (hs.out.upd hW hsep.out) hlt (show udC (Q.getD i Ud.zero)=[.slice (Q.getD i Ud.zero).A (Q.getD i Ud.zero).l.length (Q.getD i Ud.zero).c,.int .u64 (Q.getD i Ud.zero).t.e,.slice (Q.getD i Ud.zero).t.A (Q.getD i Ud.zero).t.l.length (Q.getD i Ud.zero).t.c,.int .i64 (Q.getD i Ud.zero).d]from rfl) (fun q hq=>Eg Q i q hil hq);have HT:Hid (Q.take (i+1)=Q.take i++[(Q.getD i Ud.zero)]):=hid (by rw[BQ hil,AB,AC hil];rfl);obtain⟨x,hx⟩:∃x,(Q.getD i Ud.zero)=x:=⟨_,rfl⟩;rw[hx]at hat HT;obtain⟨nr,hnr⟩:∃nr,x.l.length=nr:=⟨_,rfl⟩;obtain⟨nw,hnw⟩:∃nw,x.t.l.length=nw:=⟨_,rfl⟩;simp only[hnr,hnw]at hat;have HNr:=hid hnr;have HNw:=hid hnw;have HA:=hid hat;have HB:=hid HP.out.1;have HU:=hid HP.out.2;obtain⟨ad,rfl,p0,_,p1,_⟩:=hat wr HP.out.2;have hlr:(Lr++(Q.take i).map enR).length<=100000:=by rw[AA,AN,CA];omega
   have hlw:(Lw++(Q.take i).map enW).length<=100000:=by rw[AA,AN,CA];omega
   clear hat hx hnr hnw hil HP;have p1:True:=trivial;go_wp2_with (first
    | (go_at_call 115;have mk:=p1;clear p1 mk;refine(Nu gb nr x.c _ x.A (Lw++(Q.take i).map enW) (Lr++(Q.take i).map enR) Lc Lu Lt vw vr c_ u_ t_ _ HB hlr).mono ?_;rintro e w1 ⟨rfl,yr,b1,u1⟩;replace HB:Hid (An w1 gb (RN R w w1) (Lw++(Q.take i).map enW) ((Lr++(Q.take i).map enR)++[⟨x.A,nr,x.c⟩]) Lc Lu Lt vw yr c_ u_ t_):=hid (b1.wide (fun k _ hk=>RN.step HU.out.size u1.size k hk));replace HU:Hid (Upd R w w1):=hid (Ni HU.out u1);clear b1 u1;have p2:True:=trivial;obtain⟨ad_,ea_,p0,_,p1,_⟩:=HA.out w1 HU.out;cases ea_)
    | (go_at_call 116;have mk:=p2;clear p2 mk;refine(Md gb nw x.t.c _ x.t.A (Lw++(Q.take i).map enW) ((Lr++(Q.take i).map enR)++[⟨x.A,nr,x.c⟩]) Lc Lu Lt vw yr c_ u_ t_ _ HB hlw).mono ?_;rintro e w2 ⟨rfl,yw,b1,u1⟩;replace HB:Hid (An w2 gb (RN R w w2) ((Lw++(Q.take i).map enW)++[⟨x.t.A,nw,x.t.c⟩]) ((Lr++(Q.take i).map enR)++[⟨x.A,nr,x.c⟩]) Lc Lu Lt yw yr c_ u_ t_):=hid (b1.wide (fun k _ hk=>RN.step HU.out.size u1.size k hk));replace HU:Hid (Upd R w w2):=hid (Ni HU.out u1);clear b1 u1;have p3:True:=trivial)
    | fail)
   go_roundg (m-(i+1))
   case measure=>omega
   case rel=>exact⟨i+1,yr,yw,rfl,by omega,by go_num,hid ⟨by have:=HB.out;rw[HT.out];simp only[AO,<-AJ];rw[<-HNr.out]at this;rw[<-HNw.out]at this;exact this,HU.out⟩⟩
  ·obtain rfl:i=m:=by omega
   have hb:=HP.out.1;rw[show Q.take i=Q from AT (by rw[<-hm.out];exact AD _)]at hb;have hn:u_.n<=100000:=by have:=hb.nu;omega
   have HB:=hid hb;have HU:=hid HP.out.2;have hq:=hb.bk.cell 10;have hz:=hb.bk.free 10;obtain⟨uA,un,uc⟩:=u_;replace hq:wr.cell? ⟨gb,10,none⟩=some (.slice uA un uc):=hq;replace hn:un<=100000:=hn;clear hb HP;go_wp2_with (at_builtin;refine Ab _ Nc 0 _ _ rfl rfl uA un uc (Di Lu) rfl (HB.out.ou.alloc _) (some ⟨wr.heap.size,0,none⟩) 1 1 [.slice A i ac] rfl (Sl.one wr #[.slice A i ac] 22 1 rfl) (Fa [⟨A,i,ac⟩]) (by omega) (by decide) (AE _) ?_;intro A3 c3 w3 o3 g3 x3;have HP:=hid (HB.out.put_u (x:=⟨A,i,ac⟩) _ o3 g3 x3);have b3:Bk w3 gb 52 (Kz vw.v vr.v c_.v (.slice uA un uc) t_.v):=(((Upd.refl (fun k=>blk uA uc=some k) wr).alloc _).grown g3 (fun k hk=>.inl hk)).block gb (BJ.1 HB.out.bk).1 (fun e=>(HB.out.ru gb e).2 rfl) |>.trans HB.out.bk;have q3:=b3.cell 10;have z3:=b3.free 10;clear b3 o3 g3 x3)
   go_returns;exact⟨rfl,_,_,_,HP.out.1.wide (fun k _ hk=>RN.step HU.out.size HP.out.2.size k hk),Ni HU.out HP.out.2⟩
def enC(x:Ct):En:=⟨x.A,x.l.length,x.c⟩
theorem Ms(gb n ac:Nat)(R:Nat->Prop)(A:Option Addr)(Lw Lr Lc Lu Lt:List En)(w_ r_ c_ u_ t_:En)(w:World)(h:Hid (An w gb R Lw Lr Lc Lu Lt w_ r_ c_ u_ t_))(hl:Lr.length<=100000) :
  Calls Tryz.prog 115 #[.pointer (some ⟨gb,0,none⟩),.slice A n ac] w fun e w'=>e=.returned (.tuple #[])/\∃x,An w' gb (RN R w w') Lw (Lr++[⟨A,n,ac⟩]) Lc Lu Lt w_ x c_ u_ t_/\Upd R w w':=Rd gb n ac R A Lw Lr Lc Lu Lt w_ r_ c_ u_ t_ w h hl
theorem Qd(gb m ac:Nat)(R:Nat->Prop)(A:Option Addr)(Q:List Ct)(Lw Lr Lc Lu Lt:List En)(w_ r_ c_ u_ t_:En)(w:World)(h:Hid (An w gb R Lw Lr Lc Lu Lt w_ r_ c_ u_ t_))(hrr:Lr.length+m<=100000)(hl:Lc.length<=100000)(hm:Hid (m=Q.length))(hs:Hid (Sl w 2 A m ac (Bg Q)))(hsep:Hid (∀k,blk A ac=some k->¬R k)) :
  Calls Tryz.prog 22 #[.pointer (some ⟨gb,0,none⟩),.slice A m ac] w fun e w'=>e=.returned (.tuple #[])/\∃vr vc,An w' gb (RN R w w') Lw (Lr++Q.map enC) (Lc++[⟨A,m,ac⟩]) Lu Lt w_ vr vc u_ t_/\Upd R w w':=by
 have HP0:Hid (An w gb (RN R w w) Lw (Lr++(Q.take 0).map enC) Lc Lu Lt w_ r_ c_ u_ t_/\Upd R w w):=hid ⟨by simp only[GN,EM,AP];exact h.out.wide (fun k _ hk=>.inl hk),Upd.refl _ _⟩;go_enter Tryz.func22,Tryz.ntmps22;go_wp2
 go_loopg [4] m (fun z v wr=>∃(i:Nat) (vr:En),z=m-i/\i<=m/\v=.int .i64 i/\Hid (An wr gb (RN R w wr) Lw (Lr++(Q.take i).map enC) Lc Lu Lt w_ vr c_ u_ t_/\Upd R w wr))
 case atStart=>exact⟨0,r_,rfl,AE _,rfl,HP0⟩
 case round =>
  clear HP0;obtain⟨i,vr,rfl,hi,rfl,HP⟩:=hrel;by_cases hlt:i<m
  ·have hil:i<Q.length:=by rw[<-hm.out];exact hlt
   have hat:∀W,Upd R w W->∃ad,A=some ad/\W.cell? (ad.add (i*2))=some (.slice (Q.getD i Ct.zero).A (Q.getD i Ct.zero).l.length (Q.getD i Ct.zero).c)/\W.cell? ⟨(ad.add (i*2)).block,(ad.add (i*2)).off+1,none⟩=some (.int .i64 (Q.getD i Ct.zero).k):=fun W hW=>Hw (hs.out.upd hW hsep.out) hlt (show ctC (Q.getD i Ct.zero)=[.slice (Q.getD i Ct.zero).A (Q.getD i Ct.zero).l.length (Q.getD i Ct.zero).c,.int .i64 (Q.getD i Ct.zero).k]from rfl) (fun q hq=>Iy Q i q hil hq);have HT:Hid (Q.take (i+1)=Q.take i++[(Q.getD i Ct.zero)]):=hid (by rw[BQ hil,AB,AC hil];rfl);obtain⟨x,hx⟩:∃x,(Q.getD i Ct.zero)=x:=⟨_,rfl⟩;rw[hx]at hat HT;obtain⟨nr,hnr⟩:∃nr,x.l.length=nr:=⟨_,rfl⟩;simp only[hnr]at hat;have HNr:=hid hnr;have HA:=hid hat;have HB:=hid HP.out.1;have HU:=hid HP.out.2;obtain⟨ad,rfl,p0,_⟩:=hat wr HP.out.2;have hlr:(Lr++(Q.take i).map enC).length<=100000:=by rw[AA,AN,CA];omega
   clear hat hx hnr hil HP;have p1:True:=trivial;go_wp2_with (first
    | (go_at_call 115;have mk:=p1;clear p1 mk;refine(Ms gb nr x.c _ x.A Lw (Lr++(Q.take i).map enC) Lc Lu Lt w_ vr c_ u_ t_ _ HB hlr).mono ?_;rintro e w1 ⟨rfl,yr,b1,u1⟩;replace HB:Hid (An w1 gb (RN R w w1) Lw ((Lr++(Q.take i).map enC)++[⟨x.A,nr,x.c⟩]) Lc Lu Lt w_ yr c_ u_ t_):=hid (b1.wide (fun k _ hk=>RN.step HU.out.size u1.size k hk));replace HU:Hid (Upd R w w1):=hid (Ni HU.out u1);clear b1 u1;have p2:True:=trivial)
    | fail)
   go_roundg (m-(i+1))
   case measure=>omega
   case rel=>exact⟨i+1,yr,rfl,by omega,by go_num,hid ⟨by have:=HB.out;rw[HT.out];simp only[AO,<-AJ];rw[<-HNr.out]at this;exact this,HU.out⟩⟩
  ·obtain rfl:i=m:=by omega
   have hb:=HP.out.1;rw[show Q.take i=Q from AT (by rw[<-hm.out];exact AD _)]at hb;have hn:c_.n<=100000:=by have:=hb.nc;omega
   have HB:=hid hb;have HU:=hid HP.out.2;have hq:=hb.bk.cell 9;have hz:=hb.bk.free 9;obtain⟨cA,cn,cc⟩:=c_;replace hq:wr.cell? ⟨gb,9,none⟩=some (.slice cA cn cc):=hq;replace hn:cn<=100000:=hn;clear hb HP;go_wp2_with (at_builtin;refine Ab _ Pa 0 _ _ rfl rfl cA cn cc (Di Lc) rfl (HB.out.oc.alloc _) (some ⟨wr.heap.size,0,none⟩) 1 1 [.slice A i ac] rfl (Sl.one wr #[.slice A i ac] 31 1 rfl) (Fa [⟨A,i,ac⟩]) (by omega) (by decide) (AE _) ?_;intro A3 c3 w3 o3 g3 x3;have HP:=hid (HB.out.put_c (x:=⟨A,i,ac⟩) _ o3 g3 x3);have b3:Bk w3 gb 52 (Kz w_.v vr.v (.slice cA cn cc) u_.v t_.v):=(((Upd.refl (fun k=>blk cA cc=some k) wr).alloc _).grown g3 (fun k hk=>.inl hk)).block gb (BJ.1 HB.out.bk).1 (fun e=>(HB.out.rc gb e).2 rfl) |>.trans HB.out.bk;have q3:=b3.cell 9;have z3:=b3.free 9;clear b3 o3 g3 x3)
   go_returns;exact⟨rfl,_,_,HP.out.1.wide (fun k _ hk=>RN.step HU.out.size HP.out.2.size k hk),Ni HU.out HP.out.2⟩
def enT(x:Tm):En:=⟨x.A,x.l.length,x.c⟩
theorem Nt(gb n ac:Nat)(R:Nat->Prop)(A:Option Addr)(Lw Lr Lc Lu Lt:List En)(w_ r_ c_ u_ t_:En)(w:World)(h:Hid (An w gb R Lw Lr Lc Lu Lt w_ r_ c_ u_ t_))(hl:Lw.length<=100000) :
  Calls Tryz.prog 116 #[.pointer (some ⟨gb,0,none⟩),.slice A n ac] w fun e w'=>e=.returned (.tuple #[])/\∃x,An w' gb (RN R w w') (Lw++[⟨A,n,ac⟩]) Lr Lc Lu Lt x r_ c_ u_ t_/\Upd R w w':=Nd gb n ac R A Lw Lr Lc Lu Lt w_ r_ c_ u_ t_ w h hl
theorem Nf(gb m ac:Nat)(R:Nat->Prop)(A:Option Addr)(Q:List Tm)(Lw Lr Lc Lu Lt:List En)(w_ r_ c_ u_ t_:En)(w:World)(h:Hid (An w gb R Lw Lr Lc Lu Lt w_ r_ c_ u_ t_))(hrw:Lw.length+m<=100000)(hl:Lt.length<=100000)(hm:Hid (m=Q.length))(hs:Hid (Sl w 2 A m ac (Db Q)))(hsep:Hid (∀k,blk A ac=some k->¬R k)) :
  Calls Tryz.prog 35 #[.pointer (some ⟨gb,0,none⟩),.slice A m ac] w fun e w'=>e=.returned (.tuple #[])/\∃vw vt,An w' gb (RN R w w') (Lw++Q.map enT) Lr Lc Lu (Lt++[⟨A,m,ac⟩]) vw r_ c_ u_ vt/\Upd R w w':=by
 have HP0:Hid (An w gb (RN R w w) (Lw++(Q.take 0).map enT) Lr Lc Lu Lt w_ r_ c_ u_ t_/\Upd R w w):=hid ⟨by simp only[GN,EM,AP];exact h.out.wide (fun k _ hk=>.inl hk),Upd.refl _ _⟩;go_enter Tryz.func35,Tryz.ntmps35;go_wp2
 go_loopg [4] m (fun z v wr=>∃(i:Nat) (vw:En),z=m-i/\i<=m/\v=.int .i64 i/\Hid (An wr gb (RN R w wr) (Lw++(Q.take i).map enT) Lr Lc Lu Lt vw r_ c_ u_ t_/\Upd R w wr))
 case atStart=>exact⟨0,w_,rfl,AE _,rfl,HP0⟩
 case round =>
  clear HP0;obtain⟨i,vw,rfl,hi,rfl,HP⟩:=hrel;by_cases hlt:i<m
  ·have hil:i<Q.length:=by rw[<-hm.out];exact hlt
   have hat:∀W,Upd R w W->∃ad,A=some ad/\W.cell? (ad.add (i*2))=some (.int .u64 (Q.getD i Tm.zero).e)/\W.cell? ⟨(ad.add (i*2)).block,(ad.add (i*2)).off+1,none⟩=some (.slice (Q.getD i Tm.zero).A (Q.getD i Tm.zero).l.length (Q.getD i Tm.zero).c):=fun W hW=>Hw (hs.out.upd hW hsep.out) hlt (show tmC (Q.getD i Tm.zero)=[.int .u64 (Q.getD i Tm.zero).e,.slice (Q.getD i Tm.zero).A (Q.getD i Tm.zero).l.length (Q.getD i Tm.zero).c]from rfl) (fun q hq=>Me Q i q hil hq);have HT:Hid (Q.take (i+1)=Q.take i++[(Q.getD i Tm.zero)]):=hid (by rw[BQ hil,AB,AC hil];rfl);obtain⟨x,hx⟩:∃x,(Q.getD i Tm.zero)=x:=⟨_,rfl⟩;rw[hx]at hat HT;obtain⟨nw,hnw⟩:∃nw,x.l.length=nw:=⟨_,rfl⟩;simp only[hnw]at hat;have HNw:=hid hnw;have HA:=hid hat;have HB:=hid HP.out.1;have HU:=hid HP.out.2;obtain⟨ad,rfl,_,p0⟩:=hat wr HP.out.2;have hlw:(Lw++(Q.take i).map enT).length<=100000:=by rw[AA,AN,CA];omega
   clear hat hx hnw hil HP;have p1:True:=trivial;go_wp2_with (first
    | (go_at_call 116;have mk:=p1;clear p1 mk;refine(Nt gb nw x.c _ x.A (Lw++(Q.take i).map enT) Lr Lc Lu Lt vw r_ c_ u_ t_ _ HB hlw).mono ?_;rintro e w1 ⟨rfl,yw,b1,u1⟩;replace HB:Hid (An w1 gb (RN R w w1) ((Lw++(Q.take i).map enT)++[⟨x.A,nw,x.c⟩]) Lr Lc Lu Lt yw r_ c_ u_ t_):=hid (b1.wide (fun k _ hk=>RN.step HU.out.size u1.size k hk));replace HU:Hid (Upd R w w1):=hid (Ni HU.out u1);clear b1 u1;have p2:True:=trivial)
    | fail)
   go_roundg (m-(i+1))
   case measure=>omega
   case rel=>exact⟨i+1,yw,rfl,by omega,by go_num,hid ⟨by have:=HB.out;rw[HT.out];simp only[AO,<-AJ];rw[<-HNw.out]at this;exact this,HU.out⟩⟩
  ·obtain rfl:i=m:=by omega
   have hb:=HP.out.1;rw[show Q.take i=Q from AT (by rw[<-hm.out];exact AD _)]at hb;have hn:t_.n<=100000:=by have:=hb.nt;omega
   have HB:=hid hb;have HU:=hid HP.out.2;have hq:=hb.bk.cell 11;have hz:=hb.bk.free 11;obtain⟨tA,tn,tc⟩:=t_;replace hq:wr.cell? ⟨gb,11,none⟩=some (.slice tA tn tc):=hq;replace hn:tn<=100000:=hn;clear hb HP;go_wp2_with (at_builtin;refine Ab _ Mb 0 _ _ rfl rfl tA tn tc (Di Lt) rfl (HB.out.ot.alloc _) (some ⟨wr.heap.size,0,none⟩) 1 1 [.slice A i ac] rfl (Sl.one wr #[.slice A i ac] 27 1 rfl) (Fa [⟨A,i,ac⟩]) (by omega) (by decide) (AE _) ?_;intro A3 c3 w3 o3 g3 x3;have HP:=hid (HB.out.put_t (x:=⟨A,i,ac⟩) _ o3 g3 x3);have b3:Bk w3 gb 52 (Kz vw.v r_.v c_.v u_.v (.slice tA tn tc)):=(((Upd.refl (fun k=>blk tA tc=some k) wr).alloc _).grown g3 (fun k hk=>.inl hk)).block gb (BJ.1 HB.out.bk).1 (fun e=>(HB.out.rt gb e).2 rfl) |>.trans HB.out.bk;have q3:=b3.cell 11;have z3:=b3.free 11;clear b3 o3 g3 x3)
   go_returns;exact⟨rfl,_,_,HP.out.1.wide (fun k _ hk=>RN.step HU.out.size HP.out.2.size k hk),Ni HU.out HP.out.2⟩
structure Cr (w:World) (B:Nat) (e:TypeId) (size:Nat) (P:List (En×List Value)):Prop where
 hold:kK w B e size P
 far:Far P
section
variable{w w':World}{B:Nat}{e:TypeId}{size:Nat}{P Q:List (En×List Value)}
theorem Cr.nil(w:World)(B:Nat)(e:TypeId)(size:Nat):Cr w B e size []:=⟨fun p hp=>(nomatch hp),List.Pairwise.nil⟩
theorem Cr.ext(h:Cr w B e size P)(x:Ext w w'):Cr w' B e size P:=⟨fun p hp=>(h.hold p hp).ext x,h.far⟩
theorem Cr.add(h:Cr w B e size P)(x:Ext w w')(hB:B<=w.heap.size)(k:Cr w' w.heap.size e size Q):Cr w' B e size (P++Q):=by
 refine⟨fun p hp=>?_,BG.2 ⟨h.far,k.far,fun p hp q hq z e1 e2=>?_⟩⟩
 ·rcases AR.1 hp with hp|hp
  ·exact(h.hold p hp).ext x
  ·exact(k.hold p hp).mono hB
 ·have:=((h.hold p hp).lt z e1).2;have:=((k.hold q hq).lt z e2).1;omega
theorem Cr.foot(h:Cr w B e size P){k:Nat}(hk:Bm (P.map (·.1)) k):∃p∈P,p.1.b=some k/\B<=k/\k<w.heap.size:=by
 obtain⟨x,hx,hb⟩:=cH hk;obtain⟨p,hp,rfl⟩:=AW.1 hx;exact⟨p,hp,hb,(h.hold p hp).lt k hb⟩
theorem Cr.apart{B' size':Nat}{e':TypeId}(h:Cr w B e size P)(k:Cr w B' e' size' Q)(he:e≠e'):∀q,Bm (P.map (·.1)) q->¬Bm (Q.map (·.1)) q:=fun q h1 h2=>by
 obtain⟨p,hp,b1,_⟩:=h.foot h1;obtain⟨r,hr,b2,_⟩:=k.foot h2;exact Cd (h.hold p hp) (k.hold r hr) he b1 b2
end
theorem aW{P:List (En×List Value)}(h1:P.length<=100000)(h2:∀p∈P,p.1.n<=1000000):Few (P.map (·.1)):=by
 refine⟨by rw[AN];exact h1,fun i hi=>?_⟩;have hm:ena (P.map (·.1)) i∈P.map (·.1):=by
  unfold ena;rw[AB,AC hi];exact BP hi
 obtain⟨p,hp,e⟩:=AW.1 hm;rw[<-e];exact h2 p hp
structure Hi (w:World) (B:Nat) (Pw Pr Pc Pu Pt:List (En×List Value)):Prop where
 pw:Cr w B 180 1 Pw
 pr:Cr w B 204 4 Pr
 pc:Cr w B 154 2 Pc
 pu:Cr w B 95 4 Pu
 pt:Cr w B 26 2 Pt
def eW(R:List Ud):List (En×List Value):=R.map fun x=>(enW x,wds x.t.l)
def eR(R:List Ud):List (En×List Value):=R.map fun x=>(enR x,Dc x.l)
def eC(R:List Ct):List (En×List Value):=R.map fun x=>(enC x,Dc x.l)
def eT(R:List Tm):List (En×List Value):=R.map fun x=>(enT x,wds x.l)
theorem yR(R:List Ud):(eW R).map (·.1)=R.map enW:=by unfold eW;rw[DD];rfl
theorem yS(R:List Ud):(eR R).map (·.1)=R.map enR:=by unfold eR;rw[DD];rfl
theorem yT(R:List Ct):(eC R).map (·.1)=R.map enC:=by unfold eC;rw[DD];rfl
theorem pO(R:List Tm):(eT R).map (·.1)=R.map enT:=by unfold eT;rw[DD];rfl
section
variable{w w':World}{B c m:Nat}{A:Option Addr}{Pw Pr Pc Pu Pt:List (En×List Value)}
theorem Hi.nil(w:World)(B:Nat):Hi w B [] [] [] [] []:=⟨Cr.nil _ _ _ _,Cr.nil _ _ _ _,Cr.nil _ _ _ _,Cr.nil _ _ _ _,Cr.nil _ _ _ _⟩
theorem Hi.ext(h:Hi w B Pw Pr Pc Pu Pt)(x:Ext w w'):Hi w' B Pw Pr Pc Pu Pt:=⟨h.pw.ext x,h.pr.ext x,h.pc.ext x,h.pu.ext x,h.pt.ext x⟩
theorem Cl.kinds{L:List Ud}(h:Cl w B A c L)(hm:m=L.length):Cr w B 180 1 (eW L)/\Cr w B 204 4 (eR L)/\Cr w B 95 4 [(⟨A,m,c⟩,Ah L)]:=by
 subst hm;refine⟨⟨fun p hp=>?_,DL.2 h.ta⟩,⟨fun p hp=>?_,DL.2 h.ra⟩,⟨fun p hp=>?_,BL _ _⟩⟩
 ·obtain⟨x,hx,rfl⟩:=AW.1 hp;exact h.ts x hx
 ·obtain⟨x,hx,rfl⟩:=AW.1 hp;exact h.rw x hx
 ·rw[AH.1 hp];exact h.own
theorem Hi.addU{L:List Ud}(h:Hi w B Pw Pr Pc Pu Pt)(x:Ext w w')(hB:B<=w.heap.size)(u:Cl w' w.heap.size A c L)(hm:m=L.length):Hi w' B (Pw++eW L) (Pr++eR L) Pc (Pu++[(⟨A,m,c⟩,Ah L)]) Pt:=by
 obtain⟨k1,k2,k3⟩:=u.kinds hm;exact⟨h.pw.add x hB k1,h.pr.add x hB k2,h.pc.ext x,h.pu.add x hB k3,h.pt.ext x⟩
theorem Hi.addC{L:List Ct}(h:Hi w B Pw Pr Pc Pu Pt)(x:Ext w w')(hB:B<=w.heap.size)(o:Own w' w.heap.size 154 2 A m c (Bg L))(r:∀y∈L,RwO w' y.A y.c y.l/\∀ad,y.A=some ad->w.heap.size<=ad.block/\blk A c≠some ad.block)(ap:Iu L):Hi w' B Pw (Pr++eC L) (Pc++[(⟨A,m,c⟩,Bg L)]) Pu Pt:=by
 refine⟨h.pw.ext x,h.pr.add x hB ⟨fun p hp=>?_,DL.2 ?_⟩,h.pc.add x hB ⟨fun p hp=>?_,BL _ _⟩,h.pu.ext x,h.pt.ext x⟩
 ·obtain⟨y,hy,rfl⟩:=AW.1 hp;exact Own.base (r y hy).1 (fun k hk=>by
   obtain⟨ad,e1,e2⟩:=Gg hk;have:=((r y hy).2 ad e1).1;omega)
 ·refine(DL.1 ap).imp fun {a b} q k e1 e2=>?_;obtain⟨a1,h1,h2⟩:=Gg e1;obtain⟨a2,h3,h4⟩:=Gg e2;exact q a1 a2 h1 h3 (by omega)
 ·rw[AH.1 hp];exact o
theorem Hi.addT{L:List Tm}(h:Hi w B Pw Pr Pc Pu Pt)(x:Ext w w')(hB:B<=w.heap.size)(t:Ev w' w.heap.size A c L)(hm:m=L.length):Hi w' B (Pw++eT L) Pr Pc Pu (Pt++[(⟨A,m,c⟩,Db L)]):=by
 subst hm;refine⟨h.pw.add x hB ⟨fun p hp=>?_,DL.2 t.apart⟩,h.pr.ext x,h.pc.ext x,h.pu.ext x,h.pt.add x hB ⟨fun p hp=>?_,BL _ _⟩⟩
 ·obtain⟨y,hy,rfl⟩:=AW.1 hp;exact(t.ls y hy).1
 ·rw[AH.1 hp];exact t.own
end
theorem dP(A1 A2:Option Addr)(c1 c2 n m:Nat)(l:List Dat)(w:World)(hn:n=l.length)(hm:m=n)(h1:Rw w A1 c1 l)(h2:Rw w A2 c2 l) :
  Calls Tryz.prog 117 #[.slice A1 n c1,.slice A2 m c2] w fun e w'=>e=.returned (.bool true)/\Ext w w':=by
 subst hm;have hnm:=h1.le;rw[<-hn]at hnm;have HN:=hid hn;have H1:=hid h1;have H2:=hid h2;clear hn h1 h2;go_enter Tryz.func117,Tryz.ntmps117;go_wp2
 go_loopw [5] (fun v wr=>∃i:Nat,i<=m/\v=.int .i64 i/\Ext w wr) (fun v _=>m-(intOf v).toNat)
 case atStart=>exact⟨0,AE _,rfl,Ext.refl _⟩
 case round =>
  obtain⟨i,hi,rfl,er⟩:=hrel;by_cases hlt:i<m
  ·have hil:i<l.length:=by rw[<-HN.out];exact hlt
   obtain⟨ad,rfl,p0,p1,p2,p3⟩:=(H1.out.ext er).at hil;obtain⟨bd,rfl,q0,q1,q2,q3⟩:=(H2.out.ext er).at hil;obtain⟨d,hd⟩:∃d,l.getD i Dat.zero=d:=⟨_,rfl⟩;rw[hd]at p0 p1 p2 p3 q0 q1 q2 q3;have XE:Ext wr wr.drew:=(Ext.refl wr).drew;have P0:∀z:Xt wr.drew,z.W.cell? (ad.add (i*4))=some (.int .u8 d.k):=fun z=>(XE.trans z.x).cell p0;have P1:∀z:Xt wr.drew,z.W.cell? ⟨(ad.add (i*4)).block,(ad.add (i*4)).off+1,none⟩=some (.bool d.b):=fun z=>(XE.trans z.x).cell p1;have P2:∀z:Xt wr.drew,z.W.cell? ⟨(ad.add (i*4)).block,(ad.add (i*4)).off+2,none⟩=some (.int .i64 d.n):=fun z=>(XE.trans z.x).cell p2;have P3:∀z:Xt wr.drew,z.W.cell? ⟨(ad.add (i*4)).block,(ad.add (i*4)).off+3,none⟩=some (.string d.s):=fun z=>(XE.trans z.x).cell p3;have Q0:∀z:Xt wr.drew,z.W.cell? (bd.add (i*4))=some (.int .u8 d.k):=fun z=>(XE.trans z.x).cell q0;have Q1:∀z:Xt wr.drew,z.W.cell? ⟨(bd.add (i*4)).block,(bd.add (i*4)).off+1,none⟩=some (.bool d.b):=fun z=>(XE.trans z.x).cell q1;have Q2:∀z:Xt wr.drew,z.W.cell? ⟨(bd.add (i*4)).block,(bd.add (i*4)).off+2,none⟩=some (.int .i64 d.n):=fun z=>(XE.trans z.x).cell q2;have Q3:∀z:Xt wr.drew,z.W.cell? ⟨(bd.add (i*4)).block,(bd.add (i*4)).off+3,none⟩=some (.string d.s):=fun z=>(XE.trans z.x).cell q3;clear hil hd
   go_upto_region 6 with fail
   refine wro [0,0,3,7,0,0,48,112,255] (.flo [0,1,2,3,4,5,6,7,8] (.fin)) ?_
   (refine Aa (pks rfl) ?_;(repeat (go_big_quiet_step (fail)));refine oq ?_)
   refine Ad ?_;go_wp2
   go_roundw
   case rel=>exact⟨i+1,by omega,by go_num,er.trans XE⟩
   case measure=>simp[intOf];omega
  ·go_wp2;go_ret;exact⟨rfl,er⟩
theorem Lq(A1 A2:Option Addr)(c1 c2 n m:Nat)(l:List Dat)(w:World)(hn:Hid (n=l.length))(hm:Hid (m=n))(h1:Hid (Rw w A1 c1 l))(h2:Hid (Rw w A2 c2 l)) :
  Calls Tryz.prog 117 #[.slice A1 n c1,.slice A2 m c2] w fun e w'=>e=.returned (.bool true)/\Ext w w':=dP A1 A2 c1 c2 n m l w hn.out hm.out h1.out h2.out
theorem yD{L M:List Ct}(h:L.map Am=M.map Am){i:Nat}(hi:i<L.length):(M.getD i Ct.zero).l=(L.getD i Ct.zero).l/\(M.getD i Ct.zero).k=(L.getD i Ct.zero).k:=by
 have hl:=congrArg List.length h;rw[AN,AN]at hl;have e:=congrArg (fun l:List V=>l[i]?) h;simp only[CI]at e;rw[AC hi,AC (by omega)]at e;simp only[FC,ER]at e;rw[AB,AB,AC hi,AC (by omega)];exact⟨(congrArg Prod.fst e).symm,(congrArg Prod.snd e).symm⟩
theorem dQ(A1 A2:Option Addr)(c1 c2 n m:Nat)(L M:List Ct)(w:World)(hn:n=L.length)(hm:m=M.length)(h1:Er w A1 c1 L)(h2:Er w A2 c2 M)(he:L.map Am=M.map Am) :
  Calls Tryz.prog 25 #[.slice A1 n c1,.slice A2 m c2] w fun e w'=>e=.returned (.bool true)/\Ext w w':=by
 have hl:=congrArg List.length he;rw[AN,AN]at hl;obtain rfl:m=n:=by omega
 have hnm:=h1.sl.le;rw[<-hn]at hnm;have HN:=hid hn;have H1:=hid h1;have H2:=hid h2;have HE:=hid he;have HM:=hid hm;clear hn h1 h2 he hm hl;go_enter Tryz.func25,Tryz.ntmps25;go_wp2
 go_loopw [5] (fun v wr=>∃i:Nat,i<=m/\v=.int .i64 i/\Ext w wr) (fun v _=>m-(intOf v).toNat)
 case atStart=>exact⟨0,AE _,rfl,Ext.refl _⟩
 case round =>
  obtain⟨i,hi,rfl,er⟩:=hrel;by_cases hlt:i<m
  ·have hil:i<L.length:=by rw[<-HN.out];exact hlt
   have him:i<M.length:=by rw[<-HM.out];exact hlt
   obtain⟨ad,rfl,p0,p1⟩:=(H1.out.ext er).at hil;obtain⟨bd,rfl,q0,q1⟩:=(H2.out.ext er).at him;have hr1:=H1.out.rows _ (Dr hil);have hr2:=H2.out.rows _ (Dr him);obtain⟨e1,e2⟩:=yD HE.out hil;rw[e1]at q0 hr2;rw[e2]at q1;obtain⟨x,hx⟩:∃x,L.getD i Ct.zero=x:=⟨_,rfl⟩;obtain⟨y,hy⟩:∃y,M.getD i Ct.zero=y:=⟨_,rfl⟩;rw[hx]at p0 p1 hr1 q0 q1 hr2;rw[hy]at q0 hr2;obtain⟨nx,hnx⟩:∃nx,nx=x.l.length:=⟨_,rfl⟩;rw[<-hnx]at p0 q0;have HNX:=hid hnx;have HEQ:Hid (nx=nx):=hid rfl;have XE:Ext wr wr.drew:=(Ext.refl wr).drew;have HR1:=hid ((hr1.ext er).ext XE);have HR2:=hid ((hr2.ext er).ext XE);have P0:∀z:Xt wr.drew,z.W.cell? (ad.add (i*2))=some (.slice x.A nx x.c):=fun z=>(XE.trans z.x).cell p0;have P1:∀z:Xt wr.drew,z.W.cell? ⟨(ad.add (i*2)).block,(ad.add (i*2)).off+1,none⟩=some (.int .i64 x.k):=fun z=>(XE.trans z.x).cell p1;have Q0:∀z:Xt wr.drew,z.W.cell? (bd.add (i*2))=some (.slice y.A nx y.c):=fun z=>(XE.trans z.x).cell q0;have Q1:∀z:Xt wr.drew,z.W.cell? ⟨(bd.add (i*2)).block,(bd.add (i*2)).off+1,none⟩=some (.int .i64 x.k):=fun z=>(XE.trans z.x).cell q1;clear hil him hr1 hr2 e1 e2 hx hy hnx
   go_upto_region 6 with fail
   refine wro [0,0,3,7,15,0,0,96,224,480,1023,2047,4095,4095,16383,32767,65535,4095,4095,397311,921599,1970175,4194303,8388607,16777215] (.flo [0,1,2,3,4,5,6,7,8,9,10,11,12,13,14,15,16,17,18,19,20,21] (.one 22 (.flo [23,24] (.fin)))) ?_
   (refine Aa (pks rfl) ?_;(repeat (go_big_quiet_step (fail)));refine oq ?_)
   refine Ac (pks rfl) ?_;intro K_ hK_;go_wp2_with (go_at_call 117;refine(Lq x.A y.A x.c y.c nx nx x.l _ HNX HEQ HR1 HR2).mono ?_;rintro e w1 ⟨rfl,x1⟩)
   (refine Aa (pks rfl) ?_;(repeat (go_big_quiet_step (fail)));refine oq ?_)
   refine Ad ?_;go_wp2
   go_roundw
   case rel=>exact⟨i+1,by omega,by go_num,er.trans (XE.trans x1)⟩
   case measure=>simp[intOf];omega
  ·go_wp2;go_ret;exact⟨rfl,er⟩
theorem Ou(e1 e2:Int)(A1 A2:Option Addr)(n1 n2 c1 c2:Nat)(l1 l2:List Int)(w:World)(h1:Sl w 1 A1 n1 c1 (wds l1))(h2:Sl w 1 A2 n2 c2 (wds l2)) :
  Calls Tryz.prog 54 #[.agg #[.int .u64 e1,.slice A1 n1 c1],.agg #[.int .u64 e2,.slice A2 n2 c2]] w fun e w'=>e=.returned (.bool (decide (e1=e2/\l1=l2)))/\Ext w w':=by
 by_cases k1:e1=e2
 ·have q1:(e1==e2)=true:=by simpa using k1
  go_enter Tryz.func54,Tryz.ntmps54;go_wp2_with (go_at_call 166;refine(Mx A1 A2 n1 n2 c1 c2 l1 l2 _ (h1.ext (((Ext.refl w).alloc _).alloc _)) (h2.ext (((Ext.refl w).alloc _).alloc _))).mono ?_;rintro r w1 ⟨rfl,x1⟩)
  refine bodyPost_ret (v:=.bool (decide (l1=l2))) (by simp only[results,Tryz.results54];go_simp) rfl ?_;exact⟨by simp[k1],(((Ext.refl w).alloc _).alloc _).trans x1⟩
 ·have q1:(e1==e2)=false:=by simpa using k1
  go_enter Tryz.func54,Tryz.ntmps54;go_wp2;refine bodyPost_ret (v:=.bool false) (by simp only[results,Tryz.results54];go_simp) rfl ?_;exact⟨by simp[k1],(((Ext.refl w).alloc _).alloc _)⟩
theorem jF{L M:List Ud}(h:L.map Ud.uv=M.map Ud.uv){i:Nat}(hi:i<L.length):(M.getD i Ud.zero).l=(L.getD i Ud.zero).l/\(M.getD i Ud.zero).t.e=(L.getD i Ud.zero).t.e/\(M.getD i Ud.zero).t.l=(L.getD i Ud.zero).t.l/\(M.getD i Ud.zero).d=(L.getD i Ud.zero).d:=by
 have hl:=congrArg List.length h;rw[AN,AN]at hl;have e:=congrArg (fun l:List UV=>l[i]?) h;simp only[CI]at e;rw[AC hi,AC (by omega)]at e;simp only[FC,ER]at e;rw[AB,AB,AC hi,AC (by omega)];exact⟨(congrArg (fun q:UV=>q.1.1) e).symm,(congrArg (fun q:UV=>q.1.2.1) e).symm,(congrArg (fun q:UV=>q.1.2.2) e).symm,(congrArg Prod.snd e).symm⟩
theorem Zd{b:Bool}(e1 e2:Int)(A1 A2:Option Addr)(n1 n2 c1 c2:Nat)(l1 l2:List Int)(w:World)(hb:Hid (decide (e1=e2/\l1=l2)=b))(h1:Hid (Sl w 1 A1 n1 c1 (wds l1)))(h2:Hid (Sl w 1 A2 n2 c2 (wds l2))) :
  Calls Tryz.prog 54 #[.agg #[.int .u64 e1,.slice A1 n1 c1],.agg #[.int .u64 e2,.slice A2 n2 c2]] w fun e w'=>e=.returned (.bool b)/\Ext w w':=hb.out▸Ou e1 e2 A1 A2 n1 n2 c1 c2 l1 l2 w h1.out h2.out
theorem Qm(A1 A2:Option Addr)(c1 c2 n m:Nat)(L M:List Ud)(w:World)(hn:Hid (n=L.length))(hm:Hid (m=M.length))(h1:Hid (Uin w A1 c1 L))(h2:Hid (Uin w A2 c2 M))(he:Hid (L.map Ud.uv=M.map Ud.uv)) :
  Calls Tryz.prog 23 #[.slice A1 n c1,.slice A2 m c2] w fun e w'=>e=.returned (.bool true)/\Ext w w':=by
 have hl:=congrArg List.length he.out;rw[AN,AN]at hl;obtain rfl:m=n:=by rw[hn.out,hm.out,hl]
 have hnm:m<=9223372036854775807:=by rw[hn.out];exact h1.out.sl.le
 clear hl;go_enter Tryz.func23,Tryz.ntmps23;go_wp2
 go_loopw [5] (fun v wr=>∃i:Nat,i<=m/\v=.int .i64 i/\Ext w wr) (fun v _=>m-(intOf v).toNat)
 case atStart=>exact⟨0,AE _,rfl,Ext.refl _⟩
 case round =>
  obtain⟨i,hi,rfl,er⟩:=hrel;by_cases hlt:i<m
  ·have hil:i<L.length:=by rw[<-hn.out];exact hlt
   have him:i<M.length:=by rw[<-hm.out];exact hlt
   obtain⟨ad,rfl,p0,p1,p2,p3⟩:=(h1.out.ext er).at hil;obtain⟨bd,rfl,q0,q1,q2,q3⟩:=(h2.out.ext er).at him;have hr1:=h1.out.ls _ (Ar hil);have hr2:=h2.out.ls _ (Ar him);obtain⟨e1,e2,e3,e4⟩:=jF he.out hil;obtain⟨x,hx⟩:∃x,L.getD i Ud.zero=x:=⟨_,rfl⟩;obtain⟨y,hy⟩:∃y,M.getD i Ud.zero=y:=⟨_,rfl⟩;rw[hx]at p0 p1 p2 p3 hr1 e1 e2 e3 e4;rw[hy]at q0 q1 q2 q3 hr2 e1 e2 e3 e4;obtain⟨xA,xc,xl,⟨xe,xtA,xtc,xtl⟩,xd⟩:=x;obtain⟨yA,yc,yl,⟨ye,ytA,ytc,ytl⟩,yd⟩:=y;dsimp only at p0 p1 p2 p3 q0 q1 q2 q3 hr1 hr2 e1 e2 e3 e4;subst e1 e2 e3 e4;obtain⟨nx,hnx⟩:∃nx,nx=yl.length:=⟨_,rfl⟩;obtain⟨tx,htx⟩:∃tx,tx=ytl.length:=⟨_,rfl⟩;rw[<-hnx]at p0 q0;rw[<-htx]at p2 q2;have HNX:=hid hnx;have HEQ:Hid (nx=nx):=hid rfl;have HR1:Hid (∀W,Ext wr W->Rw W xA xc yl):=hid (fun W q=>(hr1.r.ext er).ext q);have HR2:Hid (∀W,Ext wr W->Rw W yA yc yl):=hid (fun W q=>(hr2.r.ext er).ext q);have HT1:Hid (∀W,Ext wr W->Sl W 1 xtA tx xtc (wds ytl)):=hid (fun W q=>by rw[htx];exact(hr1.t.ext er).ext q);have HT2:Hid (∀W,Ext wr W->Sl W 1 ytA tx ytc (wds ytl)):=hid (fun W q=>by rw[htx];exact(hr2.t.ext er).ext q);have X:Ext wr wr.drew:=(Ext.refl wr).drew;have P0:∀z:Xt wr.drew,z.W.cell? (ad.add (i*4))=some (.slice xA nx xc):=fun z=>(X.trans z.x).cell p0;have P1:∀z:Xt wr.drew,z.W.cell? ⟨(ad.add (i*4)).block,(ad.add (i*4)).off+1,none⟩=some (.int .u64 ye):=fun z=>(X.trans z.x).cell p1;have P2:∀z:Xt wr.drew,z.W.cell? ⟨(ad.add (i*4)).block,(ad.add (i*4)).off+2,none⟩=some (.slice xtA tx xtc):=fun z=>(X.trans z.x).cell p2;have P3:∀z:Xt wr.drew,z.W.cell? ⟨(ad.add (i*4)).block,(ad.add (i*4)).off+3,none⟩=some (.int .i64 yd):=fun z=>(X.trans z.x).cell p3;have Q0:∀z:Xt wr.drew,z.W.cell? (bd.add (i*4))=some (.slice yA nx yc):=fun z=>(X.trans z.x).cell q0;have Q1:∀z:Xt wr.drew,z.W.cell? ⟨(bd.add (i*4)).block,(bd.add (i*4)).off+1,none⟩=some (.int .u64 ye):=fun z=>(X.trans z.x).cell q1;have Q2:∀z:Xt wr.drew,z.W.cell? ⟨(bd.add (i*4)).block,(bd.add (i*4)).off+2,none⟩=some (.slice ytA tx ytc):=fun z=>(X.trans z.x).cell q2;have Q3:∀z:Xt wr.drew,z.W.cell? ⟨(bd.add (i*4)).block,(bd.add (i*4)).off+3,none⟩=some (.int .i64 yd):=fun z=>(X.trans z.x).cell q3;clear hil him hr1 hr2 hx hy hnx htx
   go_upto_region 6 with fail
   clear p0 p1 p2 p3 q0 q1 q2 q3;refine wro [0,0,3,7,15,0,0,96,224,480,1023,2047,4095,4095,16383,32767,65535,4095,4095,397311,921599,1970175,4194303,8388607,16777215,33554431,67108863,67108863,268435455,536870911,1073741823,67108863,67108863,6509559807,15099494399,32279363583,68719476735,137438953471,274877906943] (.flo [0,1,2,3,4,5,6,7,8,9,10,11,12,13,14,15,16,17,18,19,20,21] (.one 22 (.flo [23,24,25,26,27,28,29,30,31,32,33,34,35] (.one 36 (.flo [37,38] (.fin)))))) ?_
   (refine Aa (pks rfl) ?_;(repeat (go_big_quiet_step (fail)));refine oq ?_)
   refine Ac (pks rfl) ?_;intro K_ hK_;go_wp2_with (go_at_call 117;refine(Lq xA yA xc yc nx nx yl _ HNX HEQ (hid (HR1.out _ X)) (hid (HR2.out _ X))).mono ?_;rintro e w1 ⟨rfl,x1⟩)
   have P1:∀z:Xt w1,z.W.cell? ⟨(ad.add (i*4)).block,(ad.add (i*4)).off+1,none⟩=some (.int .u64 ye):=fun z=>P1 ⟨z.W,x1.trans z.x⟩;have P2:∀z:Xt w1,z.W.cell? ⟨(ad.add (i*4)).block,(ad.add (i*4)).off+2,none⟩=some (.slice xtA tx xtc):=fun z=>P2 ⟨z.W,x1.trans z.x⟩;have Q1:∀z:Xt w1,z.W.cell? ⟨(bd.add (i*4)).block,(bd.add (i*4)).off+1,none⟩=some (.int .u64 ye):=fun z=>Q1 ⟨z.W,x1.trans z.x⟩;have Q2:∀z:Xt w1,z.W.cell? ⟨(bd.add (i*4)).block,(bd.add (i*4)).off+2,none⟩=some (.slice ytA tx ytc):=fun z=>Q2 ⟨z.W,x1.trans z.x⟩;clear P0 P3 Q0 Q3
   (refine Aa (pks rfl) ?_;(repeat (go_big_quiet_step (fail)));refine oq ?_)
   refine Ac (pks rfl) ?_;intro K_ hK_;go_wp2_with (go_at_call 54;refine(Zd (b:=true) ye ye xtA ytA tx tx xtc ytc ytl ytl _ (hid (by simp)) (hid (HT1.out _ (X.trans x1))) (hid (HT2.out _ (X.trans x1)))).mono ?_;rintro e w2 ⟨rfl,x2⟩)
   (refine Aa (pks rfl) ?_;(repeat (go_big_quiet_step (fail)));refine oq ?_)
   refine Ad ?_;go_wp2
   go_roundw
   case rel=>exact⟨i+1,by omega,by go_num,er.trans ((X.trans x1).trans x2)⟩
   case measure=>simp[intOf];omega
  ·go_wp2;go_ret;exact⟨rfl,er⟩
theorem rU(l:List Dat){n:Nat}(hn:n=l.length):(l++Hu).getD n Dat.zero=aU 91/\(l++Hu).getD (n+1) Dat.zero=aU 92:=by
 subst hn;rw[AB,AB,BD (AD _),BD (by omega),DG,show l.length+1-l.length=1 by omega];exact⟨rfl,rfl⟩
theorem jM{w:World}{A:Option Addr}{c:Nat}{l m:List Dat}(h:Rw w A c (l++m)):Rw w A c l:=by
 have:=Sl.take (k:=l.length) (show Sl w 4 A (l++m).length c (Dc (l++m))from h) (by rw[AA];omega);rw[Wp,DS]at this;exact this
theorem Zc(A1 A2:Option Addr)(c1 c2 n m:Nat)(l:List Dat)(w:World)(hn:n=l.length)(hm:m=n)(hs:n<=1000000000)(h1:Rw w A1 c1 (l++Hu))(h2:Rw w A2 c2 l) :
  Calls Tryz.prog 111 #[.slice A1 n c1,.slice A2 m c2] w fun e w'=>e=.returned (.bool true)/\Ext w w':=by
 subst hm;have hc:m+2<=c1:=by have:=(Sl.cap (show Sl w 4 A1 (l++Hu).length c1 (Dc (l++Hu))from h1)).1;rw[AA,<-hn]at this;exact this
 have hc9:=(Sl.cap (show Sl w 4 A1 (l++Hu).length c1 (Dc (l++Hu))from h1)).2;obtain⟨e1,e2⟩:=rU l hn;obtain⟨ad,rfl,p0,p1,p2,p3⟩:=h1.at (i:=m) (by rw[AA,<-hn];show m<m+2;omega);obtain⟨ad',e3,q0,q1,q2,q3⟩:=h1.at (i:=m+1) (by rw[AA,<-hn];show m+1<m+2;omega);obtain rfl:ad=ad':=by injection e3
 rw[e1]at p0 p1 p2 p3;rw[e2]at q0 q1 q2 q3;simp only[aU]at p0 p1 p2 p3 q0 q1 q2 q3;have HN:=hid hn;have HM:Hid (m=m):=hid rfl;have H1:=hid (jM h1);have H2:=hid h2;have hcd:¬c1<m+2:=by omega
 clear hn h1 h2 e1 e2 e3;go_enter Tryz.func111,Tryz.ntmps111;go_wp2_with (go_at_call 117;refine(Lq (some ad) A2 c1 c2 m m l _ HN HM H1 H2).mono ?_;rintro e w1 ⟨rfl,x1⟩)
 go_ret;exact⟨rfl,x1⟩
theorem Zb(A1 A2:Option Addr)(c1 c2 n m:Nat)(l:List Dat)(w:World)(hn:Hid (n=l.length))(hm:Hid (m=n))(hs:n<=1000000000)(h1:Hid (Rw w A1 c1 (l++Hu)))(h2:Hid (Rw w A2 c2 l)) :
  Calls Tryz.prog 111 #[.slice A1 n c1,.slice A2 m c2] w fun e w'=>e=.returned (.bool true)/\Ext w w':=Zc A1 A2 c1 c2 n m l w hn.out hm.out hs h1.out h2.out
def Ps(n:Nat):Obj:=.cells (madeCells #[.int .u32 0] (n*1)) 180
theorem iI(n:Nat)(hn:n<=1000000000)(W:World):(Instr.makeSlice 24 (.int .i64 0) (.int .i64 (n:Int))).run Tryz.prog W=.ok (.slice (some ⟨W.heap.size,0,none⟩) 0 n) (W.alloc (Ps n)):=by
 obtain⟨i,hi,hz,hs,hb⟩:=info_parts Ei.info;have:=run_make (P:=Tryz.prog) (w:=W) 24 180 i _ Ei.under hi hz .i64 .i64 0 (n:Int) (EL _) (by omega) (by rw[hb];omega) (by omega);rw[hs]at this;exact this
theorem lW(W:World)(n:Nat)(hn:n<=1000000000):Own (W.alloc (Ps n)) W.heap.size 180 1 (some ⟨W.heap.size,0,none⟩) 0 n []:=
 ⟨rfl,.inr ⟨W.heap.size,_,rfl,AD _,heap_alloc_new W _,AE _,by unfold maxLen;omega,EF (size_madeCells _ _).symm,rfl⟩⟩
def Dl:List Int:=[771,772]
def zF(w:World)(n:Nat)(l:List Int)(e:Ending)(w':World):Prop:=∃g,e=.returned (.slice (some ⟨g,0,none⟩) n (n+2))/\Own w' w.heap.size 180 1 (some ⟨g,0,none⟩) (n+2) (n+2) (wds (l++Dl))/\Ext w w'
theorem Vu(A:Option Addr)(c n:Nat)(l:List Int)(w:World)(hn:Hid (n=l.length))(h:Hid (Sl w 1 A n c (wds l)))(hs:n<=1000000) :
  Calls Tryz.prog 180 #[.slice A n c] w (zF w n l):=by
 have hmk2:∀W:World,(Instr.makeSlice 24 (.int .i64 0) (.int .i64 ((n:Int)+2))).run Tryz.prog W=.ok (.slice (some ⟨W.heap.size,0,none⟩) 0 (n+2)) (W.alloc (Ps (n+2))):=iI (n+2) (by omega);have m1:True:=trivial;go_enter Tryz.func180,Tryz.ntmps180;go_wp2_with (first
  | (at_builtin;have mk:=m1;clear m1;refine Bd _ Ei w.heap.size _ _ rfl rfl w.heap.size 0 (n+2) [] rfl (lW w (n+2) (by omega)) (by omega) A n c (wds l) rfl (h.out.ext ((Ext.refl w).alloc _)) (Rn l) (by omega) ?_;intro w1 o1 g1;have O1:=hid o1;have X1:Ext w w1:=((Ext.refl w).alloc _).grown g1 (fun k e=>by cases e;exact AD _);have m2:True:=trivial;clear o1 g1)
  | (at_builtin;have mk:=m2;refine Bd _ Ei w.heap.size _ _ rfl rfl w.heap.size n (n+2) (wds l) rfl (by have:=O1.out.alloc (.cells (#[.int .u32 771,.int .u32 772]:Array Value) 180);rwa [BC,BR]at this) (by omega) (some ⟨w1.heap.size,0,none⟩) 2 2 (wds Dl) rfl (Ea w1 _ _ _ 1 2 rfl rfl (by decide)) (Rn Dl) (by omega) ?_;intro w2 o2 g2;have O2:=hid o2;have X2:Ext w w2:=(X1.alloc _).grown g2 (fun k e=>by cases e;exact AD _);clear o2 g2))
 go_ret;exact⟨w.heap.size,by simp,by have:=O2.out;rwa [In]at this,X2⟩
theorem Tr{w:World}{A:Option Addr}{n m c:Nat}{l k:List Int}(h:Sl w 1 A m c (wds (l++k)))(hn:n=l.length)(hm:n<=m):Sl w 1 A n c (wds l):=by
 have:=Sl.take (k:=n) h hm;rw[EU,qF,hn,DS]at this;rw[hn];exact this
theorem Uu(A1 A2:Option Addr)(c1 c2 n m:Nat)(l:List Int)(w:World)(hn:Hid (n=l.length))(hm:Hid (m=n))(hs:n<=1000000000)(h1:Hid (Sl w 1 A1 (n+2) c1 (wds (l++Dl))))(h2:Hid (Sl w 1 A2 m c2 (wds l))) :
  Calls Tryz.prog 193 #[.slice A1 n c1,.slice A2 m c2] w fun e w'=>e=.returned (.bool true)/\Ext w w':=by
 have hmn:=hm.out;subst hmn;have hc:=h1.out.cap;have hlen:∀q:Nat,(wds (l++Dl))[m+q]?=(wds Dl)[q]?:=fun q=>by rw[<-In,BD (by rw[jE,<-hn.out];omega),jE,<-hn.out,CR]
 obtain⟨ad,e1,hcl⟩:=h1.out.2.2.2.2 (by omega);subst e1;have p0:w.cell? (ad.add m)=some (.int .u32 771):=hcl m _ (hlen 0);have q0:w.cell? (ad.add (m+1))=some (.int .u32 772):=hcl (m+1) _ (hlen 1);have q0':w.cell? ⟨ad.block,ad.off+(m+1),none⟩=some (.int .u32 772):=by
  have:=q0;unfold Addr.add at this
  rwa [if_neg (by omega)]at this
 have H1:=hid (Tr h1.out hn.out (by omega));have hcd:¬c1<m+2:=by omega
 clear hlen hcl;go_enter Tryz.func193,Tryz.ntmps193;go_wp2_with (go_at_call 166;refine(Mx (some ad) A2 m m c1 c2 l l _ H1.out h2.out).mono ?_;rintro e w1 ⟨rfl,x1⟩)
 go_ret;exact⟨by simp,x1⟩
theorem Own.fullW{w:World}{B s n c:Nat}{e:TypeId}{A:Option Addr}{xs:List Value}(h:Own w B e s A n c xs):∃ys,Own w B e s A c c ys:=by
 rcases h.2 with ⟨rfl,rfl⟩|⟨g,cur,rfl,hb,hg,hnc,hcm,hcs,_⟩
 ·exact⟨[],Own.empty _ _ _ _ _⟩
 ·refine⟨cur.toList.take (c*s),?_,.inr ⟨g,cur,rfl,hb,hg,AD _,hcm,hcs,rfl⟩⟩;rw[CA];have:c*s<=cur.toList.length:=by simpa using hcs
  omega
theorem Lv(A:Option Addr)(n nn c B:Nat)(xs:List Value)(w:World)(h:Hid (Own w B 180 1 A nn c xs))(hn:n<=c) :
  Calls Tryz.prog 114 #[.slice A n c] w fun e w'=>e=.returned (.tuple #[])/\Upd (fun k=>blk A c=some k) w w':=by
 have hc9:=h.out.le.2;obtain⟨ys,hy⟩:=h.out.fullW;have HY:=hid hy;clear hy;go_enter Tryz.func114,Tryz.ntmps114;go_wp2
 go_loopg [3] c (fun z v wr=>∃(i:Nat) (ys:List Value),z=c-i/\i<=c/\v=.int .i64 i/\Hid (Own wr B 180 1 A c c ys)/\Hid (Upd (fun k=>blk A c=some k) w wr))
 case atStart=>exact⟨0,ys,rfl,AE _,rfl,HY,hid (Upd.refl _ _)⟩
 case round =>
  clear HY;obtain⟨i,ys,rfl,hi,rfl,HY,HU⟩:=hrel;by_cases hlt:i<c
  ·obtain⟨g,eA,hb,_,_,hcl,hfz⟩:=HY.out.form (by omega);have hl:ys.length=c*1:=HY.out.1;subst eA;have q0:wr.cell? ⟨g,i,none⟩=some (ys[i]'(by omega)):=hcl _ _ (AC (by omega));have z0:=hfz i;have HB:=hid hb;clear hcl hfz hb;go_wp2
   go_roundg (c-(i+1))
   case measure=>omega
   case rel=>exact⟨i+1,_,rfl,by omega,by go_num,hid (HY.out.put i (.int .u32 77)),hid (HU.out.setCell (p:=⟨g,i,none⟩) (.inl HB.out) _)⟩
  ·go_wp2;go_returns;exact⟨rfl,HU.out⟩
def zG(w:World)(v:Int)(n:Nat)(l:List Int)(e:Ending)(w':World):Prop:=∃g,e=.returned (.agg #[.int .u64 v,.slice (some ⟨g,0,none⟩) n (n+2)])/\Own w' w.heap.size 180 1 (some ⟨g,0,none⟩) (n+2) (n+2) (wds (l++Dl))/\Ext w w'
theorem Oy(v:Int)(A:Option Addr)(c n:Nat)(l:List Int)(w:World)(hn:Hid (n=l.length))(h:Hid (Sl w 1 A n c (wds l)))(hs:n<=1000000) :
  Calls Tryz.prog 100 #[.agg #[.int .u64 v,.slice A n c]] w (zG w v n l):=by
 go_enter Tryz.func100,Tryz.ntmps100
 go_upto_region 1 with fail
 obtain⟨w0,hw0⟩:∃w0,w0=(w.alloc (Obj.cells #[Value.int IntKind.u64 v,Value.slice A n c] 26)).alloc (Obj.cells #[Value.int IntKind.u64 0,Value.slice none 0 0] 26):=⟨_,rfl⟩;have x0:Ext w w0:=hw0▸((Ext.refl w).alloc _).alloc _;have s0:w0.heap.size=w.heap.size+2:=by subst hw0;simp
 have a0:Bk w0 w.heap.size 26 #[Value.int IntKind.u64 v,Value.slice A n c]:=by subst hw0;exact(Bk.new _ _ _).alloc _
 have r0:Bk w0 (w.heap.size+1) 26 #[Value.int IntKind.u64 0,Value.slice none 0 0]:=by subst hw0;exact Bk.at (by simp)
 rw[<-hw0];clear hw0;have X:Ext w0 w0.drew:=(Ext.refl w0).drew;have q1:∀y:Xt w0.drew,y.W.cell? ⟨w.heap.size,0,none⟩=some (.int .u64 v):=fun y=>(a0.ext (X.trans y.x)).cell 0;have q2:∀y:Xt w0.drew,y.W.cell? ⟨w.heap.size,1,none⟩=some (.slice A n c):=fun y=>(a0.ext (X.trans y.x)).cell 1;refine wro [0,1,0,4,12,31,63] (.flo [0,1,2,3] (.ext 4 (.flo [5] (.one 6 (.fin))))) ?_
 (refine Aa (pks rfl) ?_;(repeat (go_big_quiet_step (fail)));refine oq ?_)
 refine Bi (pks rfl) ?_;intro K_ hK_;go_wp2_with (go_at_call 180;refine(Vu A c n l _ hn (hid (h.out.ext (x0.trans X))) hs).mono ?_;rintro r w1 ⟨g,rfl,o1,x1⟩)
 refine Aq.mk x1 ?_;have R:=r0.ext (X.trans x1);have z0:=R.cell 0;have z1:=R.cell 1;have f0:=R.free 0;have f1:=R.free 1
 (refine Aa (pks rfl) ?_;(repeat (go_big_quiet_step (fail)));refine oq ?_)
 refine Ac (pks rfl) ?_;intro K_ hK_;go_wp2;refine Ad ?_;go_wp2;have q:=R.set2 (.int .u64 v) (.slice (some ⟨g,0,none⟩) n (n+2));refine bodyPost_ret (v:=.agg #[.int .u64 v,.slice (some ⟨g,0,none⟩) n (n+2)]) (by simp[results,Tryz.results100,go_sem,q.1,q.2]) rfl ?_;have e1:=(x0.trans X).trans x1;have hsx:=X.size;have O1:Own w1 w.heap.size 180 1 (some ⟨g,0,none⟩) (n+2) (n+2) (wds (l++Dl)):=o1.mono (by omega);have hg:∀k,k<w.heap.size+2->blk (some ⟨g,0,none⟩:Option Addr) (n+2)≠some k:=fun k hk=>o1.ne (by omega);refine⟨g,rfl,?_,?_⟩
 ·exact((O1.far (hg _ (by simp)) _).far (hg _ (by simp)) _)
 ·(repeat' (first|with_reducible exact e1|with_reducible refine Ext.drew ?_|with_reducible refine Ext.drewN ?_ _|with_reducible refine Ext.alloc ?_ _|with_reducible refine Ext.set ?_ ?_ _|omega|(simp;done)|(simp;omega)))
theorem Mw(v:Int)(A1 A2:Option Addr)(c1 c2 n:Nat)(l:List Int)(w:World)(hn:Hid (n=l.length))(hs:n<=1000000000)(h1:Hid (Sl w 1 A1 (n+2) c1 (wds (l++Dl))))(h2:Hid (Sl w 1 A2 n c2 (wds l))) :
  Calls Tryz.prog 112 #[.agg #[.int .u64 v,.slice A1 n c1],.agg #[.int .u64 v,.slice A2 n c2]] w fun e w'=>e=.returned (.bool true)/\Ext w w':=by
 go_enter Tryz.func112,Tryz.ntmps112;go_wp2_with (go_at_call 193;refine(Uu A1 A2 c1 c2 n n l _ hn (hid rfl) hs (hid (h1.out.ext (((Ext.refl w).alloc _).alloc _))) (hid (h2.out.ext (((Ext.refl w).alloc _).alloc _)))).mono ?_;rintro r w1 ⟨rfl,x1⟩)
 go_ret;exact⟨rfl,(((Ext.refl w).alloc _).alloc _).trans x1⟩
def Fx(w:World)(B:Nat)(x:Tm):Prop:=Own w B 180 1 x.A (x.l.length+2) x.c (wds (x.l++Dl))
theorem Kg{w w':World}(x:Ext w w')(g:Nat):w.grownBy w' (some g):=⟨x.os,x.tape,x.output,x.size,fun k hk _=>x.block k hk⟩
theorem Fx.full{w:World}{B:Nat}{x:Tm}(h:Fx w B x):Sl w 1 x.A (x.l.length+2) x.c (wds (x.l++Dl)):=Own.sl h
theorem Fx.sl{w:World}{B:Nat}{x:Tm}(h:Fx w B x):Sl w 1 x.A x.l.length x.c (wds x.l):=Tr h.full rfl (by omega)
end Go.Proofs.YtdgbkpoickbidaaGreatDoor
