/- ChainBeyond: the walk. Conditions: what comes in is as readings give it; the library's table stands. -/
import Derived.Test.YtmdakaflmheidaaDoorChPlain5
import Derived.Test.YtmdakaflmheidaaDoorRefLeq
import Derived.Test.YtmdakaflmheidaaDoorTmsCome
import Derived.Test.YtmdakaflmheidaaDoorTimeSize
namespace Go.Proofs.YtmdakaflmheidaaDoor
open Go.RowKit

theorem tq_at {v : Bool} (e1 e2 : Int) (A1 A2 : Option Addr) (n1 n2 c1 c2 : Nat) (l1 l2 : List Int) (w : World) (hr : Hid (tleq (e1, l1) (e2, l2) = v)) (h1 : Hid (Sl w 1 A1 n1 c1 (wds l1))) (h2 : Hid (Sl w 1 A2 n2 c2 (wds l2))) :
    Calls Tryd.prog 8 #[.agg #[.int .u64 e1, .slice A1 n1 c1], .agg #[.int .u64 e2, .slice A2 n2 c2]] w fun e w' => e = .returned (.bool v) ∧ Ext w w' := hr.out ▸ rleq_any e1 e2 A1 A2 n1 n2 c1 c2 l1 l2 w h1.out h2.out
theorem beyond_take {V : List TV} {k : Nat} (h : k < V.length) (t : TV) : beyondV (V.take (k + 1)) t = (beyondV (V.take k) t || tleq V[k] t) := by
  rw [List.take_succ_eq_append_getElem h, beyond_append]
theorem of_apart_at {V : List TV} {M : List Tm} (e : M.map Tm.v = ofV V) {i k : Nat} (hi : i < M.length) (hk : k < M.length) (hik : i ≠ k) : tleq (M.getD i Tm.zero).v (M.getD k Tm.zero).v = false := by
  have h1 := getT_v hi
  have h2 := getT_v hk
  have hl : (ofV V).length = M.length := by rw [← e, List.length_map]
  have := of_apart (L := V) (i := i) (k := k) (by omega) (by omega) hik
  simp only [← e] at this
  rwa [h1, h2] at this
theorem adv_len9 {V : List TV} {e : Int} {l : List Int} {n : Nat} (h : n = (advV V (e, l)).2.length) : n = l.length := h.trans (advV_len V (e, l))

set_option maxRecDepth 100000 in
set_option maxHeartbeats 2000000 in
theorem beyl_ma (et es : Int) (Aa Ab At As : Option Addr) (na nb nt ns ca cb ct cs : Nat) (La Lb : List Tm) (lt ls : List Int) (w : World) (G : Pow w) (HNa : Hid (na = La.length)) (HNb : Hid (nb = Lb.length))
    (TA : Hid (Tin w Aa ca La)) (TB : Hid (Tin w Ab cb Lb)) (ST : Hid (Sl w 1 At nt ct (wds lt))) (SS : Hid (Sl w 1 As ns cs (wds ls))) (zt : nt ≤ 140737488355328) (zs : ns ≤ 140737488355328) (HMa : Hid (muchV (La.map Tm.v) = true)) :
    Calls Tryd.prog 3 #[.slice Aa na ca, .slice Ab nb cb, .agg #[.int .u64 et, .slice At nt ct], .agg #[.int .u64 es, .slice As ns cs]] w fun e w' => e = .returned (.bool true) ∧ Ext w w' := by
  have XX : Hid (Ext w ((w.alloc (.cells #[.int .u64 et, .slice At nt ct] 26)).alloc (.cells #[.int .u64 es, .slice As ns cs] 26))) := Lib.hid (((Ext.refl w).alloc _).alloc _)
  have tb : Hid (Bk ((w.alloc (.cells #[.int .u64 et, .slice At nt ct] 26)).alloc (.cells #[.int .u64 es, .slice As ns cs] 26)) w.heap.size 26 #[.int .u64 et, .slice At nt ct]) := Lib.hid ((Bk.new w _ _).alloc _)
  have sb : Hid (Bk ((w.alloc (.cells #[.int .u64 et, .slice At nt ct] 26)).alloc (.cells #[.int .u64 es, .slice As ns cs] 26)) (w.heap.size + 1) 26 #[.int .u64 es, .slice As ns cs]) := Lib.hid (Bk.at (by simp))
  have m1 : True := trivial
  go_enter Tryd.func3, Tryd.ntmps3
  go_wp2_with (first
    | (go_at_call 5; have mk := m1; clear m1 mk; go_loud (refine (much5_at (v := true) Aa ca na La _ HMa HNa (Lib.hid (TA.out.ext XX.out))).mono ?_); rintro e w1 ⟨rfl, x1⟩; go_loud (have Z1 : Hid (w.heap.size + 1 + 1 ≤ w1.heap.size) := Lib.hid (by have q := (x1.size); simpa using q); have y1 : Ext ((w.alloc (.cells #[.int .u64 et, .slice At nt ct] 26)).alloc (.cells #[.int .u64 es, .slice As ns cs] 26)) (w1) := x1; have tb := Lib.hid (tb.out.ext y1); have sb := Lib.hid (sb.out.ext y1); have XX := Lib.hid (XX.out.trans y1); clear y1; have c1_tb_0 : (w1).cell? ⟨w.heap.size, 0, none⟩ = some (.int .u64 et) := tb.out.cell 0; have c1_tb_1 : (w1).cell? ⟨w.heap.size, 1, none⟩ = some (.slice At nt ct) := tb.out.cell 1; have c1_sb_0 : (w1).cell? ⟨(w.heap.size + 1), 0, none⟩ = some (.int .u64 es) := sb.out.cell 0; have c1_sb_1 : (w1).cell? ⟨(w.heap.size + 1), 1, none⟩ = some (.slice As ns cs) := sb.out.cell 1; have m2 : True := trivial))
    | (go_at_call 6; have mk := m2; clear m2 mk; go_loud (refine (known_true _ (G.ext XX.out)).mono ?_); rintro e w2 ⟨rfl, x2⟩; go_loud (clear c1_tb_0 c1_tb_1 c1_sb_0 c1_sb_1; have Z2 : Hid (w1.heap.size ≤ w2.heap.size) := Lib.hid (by have q := (x2.size); simpa using q); have y2 : Ext (w1) (w2) := x2; have tb := Lib.hid (tb.out.ext y2); have sb := Lib.hid (sb.out.ext y2); have XX := Lib.hid (XX.out.trans y2); clear y2; have c2_tb_0 : (w2).cell? ⟨w.heap.size, 0, none⟩ = some (.int .u64 et) := tb.out.cell 0; have c2_tb_1 : (w2).cell? ⟨w.heap.size, 1, none⟩ = some (.slice At nt ct) := tb.out.cell 1; have c2_sb_0 : (w2).cell? ⟨(w.heap.size + 1), 0, none⟩ = some (.int .u64 es) := sb.out.cell 0; have c2_sb_1 : (w2).cell? ⟨(w.heap.size + 1), 1, none⟩ = some (.slice As ns cs) := sb.out.cell 1; have m3 : True := trivial))
    | fail)
  go_ret
  exact ⟨rfl, XX.out⟩
set_option maxRecDepth 100000 in
set_option maxHeartbeats 2000000 in
theorem beyl_mb (et es : Int) (Aa Ab At As : Option Addr) (na nb nt ns ca cb ct cs : Nat) (La Lb : List Tm) (lt ls : List Int) (w : World) (G : Pow w) (HNa : Hid (na = La.length)) (HNb : Hid (nb = Lb.length))
    (TA : Hid (Tin w Aa ca La)) (TB : Hid (Tin w Ab cb Lb)) (ST : Hid (Sl w 1 At nt ct (wds lt))) (SS : Hid (Sl w 1 As ns cs (wds ls))) (zt : nt ≤ 140737488355328) (zs : ns ≤ 140737488355328) (HMa : Hid (muchV (La.map Tm.v) = false)) (HMb : Hid (muchV (Lb.map Tm.v) = true)) :
    Calls Tryd.prog 3 #[.slice Aa na ca, .slice Ab nb cb, .agg #[.int .u64 et, .slice At nt ct], .agg #[.int .u64 es, .slice As ns cs]] w fun e w' => e = .returned (.bool true) ∧ Ext w w' := by
  have XX : Hid (Ext w ((w.alloc (.cells #[.int .u64 et, .slice At nt ct] 26)).alloc (.cells #[.int .u64 es, .slice As ns cs] 26))) := Lib.hid (((Ext.refl w).alloc _).alloc _)
  have tb : Hid (Bk ((w.alloc (.cells #[.int .u64 et, .slice At nt ct] 26)).alloc (.cells #[.int .u64 es, .slice As ns cs] 26)) w.heap.size 26 #[.int .u64 et, .slice At nt ct]) := Lib.hid ((Bk.new w _ _).alloc _)
  have sb : Hid (Bk ((w.alloc (.cells #[.int .u64 et, .slice At nt ct] 26)).alloc (.cells #[.int .u64 es, .slice As ns cs] 26)) (w.heap.size + 1) 26 #[.int .u64 es, .slice As ns cs]) := Lib.hid (Bk.at (by simp))
  have m1 : True := trivial
  go_enter Tryd.func3, Tryd.ntmps3
  go_wp2_with (first
    | (go_at_call 5; have mk := m1; clear m1 mk; go_loud (refine (much5_at (v := false) Aa ca na La _ HMa HNa (Lib.hid (TA.out.ext XX.out))).mono ?_); rintro e w1 ⟨rfl, x1⟩; go_loud (have Z1 : Hid (w.heap.size + 1 + 1 ≤ w1.heap.size) := Lib.hid (by have q := (x1.size); simpa using q); have y1 : Ext ((w.alloc (.cells #[.int .u64 et, .slice At nt ct] 26)).alloc (.cells #[.int .u64 es, .slice As ns cs] 26)) (w1) := x1; have tb := Lib.hid (tb.out.ext y1); have sb := Lib.hid (sb.out.ext y1); have XX := Lib.hid (XX.out.trans y1); clear y1; have c1_tb_0 : (w1).cell? ⟨w.heap.size, 0, none⟩ = some (.int .u64 et) := tb.out.cell 0; have c1_tb_1 : (w1).cell? ⟨w.heap.size, 1, none⟩ = some (.slice At nt ct) := tb.out.cell 1; have c1_sb_0 : (w1).cell? ⟨(w.heap.size + 1), 0, none⟩ = some (.int .u64 es) := sb.out.cell 0; have c1_sb_1 : (w1).cell? ⟨(w.heap.size + 1), 1, none⟩ = some (.slice As ns cs) := sb.out.cell 1; have m2 : True := trivial))
    | (go_at_call 5; have mk := m2; clear m2 mk; go_loud (refine (much5_at (v := true) Ab cb nb Lb _ HMb HNb (Lib.hid (TB.out.ext XX.out))).mono ?_); rintro e w2 ⟨rfl, x2⟩; go_loud (clear c1_tb_0 c1_tb_1 c1_sb_0 c1_sb_1; have Z2 : Hid (w1.heap.size ≤ w2.heap.size) := Lib.hid (by have q := (x2.size); simpa using q); have y2 : Ext (w1) (w2) := x2; have tb := Lib.hid (tb.out.ext y2); have sb := Lib.hid (sb.out.ext y2); have XX := Lib.hid (XX.out.trans y2); clear y2; have c2_tb_0 : (w2).cell? ⟨w.heap.size, 0, none⟩ = some (.int .u64 et) := tb.out.cell 0; have c2_tb_1 : (w2).cell? ⟨w.heap.size, 1, none⟩ = some (.slice At nt ct) := tb.out.cell 1; have c2_sb_0 : (w2).cell? ⟨(w.heap.size + 1), 0, none⟩ = some (.int .u64 es) := sb.out.cell 0; have c2_sb_1 : (w2).cell? ⟨(w.heap.size + 1), 1, none⟩ = some (.slice As ns cs) := sb.out.cell 1; have m3 : True := trivial))
    | (go_at_call 6; have mk := m3; clear m3 mk; go_loud (refine (known_true _ (G.ext XX.out)).mono ?_); rintro e w3 ⟨rfl, x3⟩; go_loud (clear c2_tb_0 c2_tb_1 c2_sb_0 c2_sb_1; have Z3 : Hid (w2.heap.size ≤ w3.heap.size) := Lib.hid (by have q := (x3.size); simpa using q); have y3 : Ext (w2) (w3) := x3; have tb := Lib.hid (tb.out.ext y3); have sb := Lib.hid (sb.out.ext y3); have XX := Lib.hid (XX.out.trans y3); clear y3; have c3_tb_0 : (w3).cell? ⟨w.heap.size, 0, none⟩ = some (.int .u64 et) := tb.out.cell 0; have c3_tb_1 : (w3).cell? ⟨w.heap.size, 1, none⟩ = some (.slice At nt ct) := tb.out.cell 1; have c3_sb_0 : (w3).cell? ⟨(w.heap.size + 1), 0, none⟩ = some (.int .u64 es) := sb.out.cell 0; have c3_sb_1 : (w3).cell? ⟨(w.heap.size + 1), 1, none⟩ = some (.slice As ns cs) := sb.out.cell 1; have m4 : True := trivial))
    | fail)
  go_ret
  exact ⟨rfl, XX.out⟩
set_option maxRecDepth 100000 in
set_option maxHeartbeats 2000000 in
theorem beyl_nt (et es : Int) (Aa Ab At As : Option Addr) (na nb nt ns ca cb ct cs : Nat) (La Lb : List Tm) (lt ls : List Int) (w : World) (G : Pow w) (HNa : Hid (na = La.length)) (HNb : Hid (nb = Lb.length))
    (TA : Hid (Tin w Aa ca La)) (TB : Hid (Tin w Ab cb Lb)) (ST : Hid (Sl w 1 At nt ct (wds lt))) (SS : Hid (Sl w 1 As ns cs (wds ls))) (zt : nt ≤ 140737488355328) (zs : ns ≤ 140737488355328) (HMa : Hid (muchV (La.map Tm.v) = false)) (HMb : Hid (muchV (Lb.map Tm.v) = false)) (hnt : 60 < nt + ns) :
    Calls Tryd.prog 3 #[.slice Aa na ca, .slice Ab nb cb, .agg #[.int .u64 et, .slice At nt ct], .agg #[.int .u64 es, .slice As ns cs]] w fun e w' => e = .returned (.bool true) ∧ Ext w w' := by
  have XX : Hid (Ext w ((w.alloc (.cells #[.int .u64 et, .slice At nt ct] 26)).alloc (.cells #[.int .u64 es, .slice As ns cs] 26))) := Lib.hid (((Ext.refl w).alloc _).alloc _)
  have tb : Hid (Bk ((w.alloc (.cells #[.int .u64 et, .slice At nt ct] 26)).alloc (.cells #[.int .u64 es, .slice As ns cs] 26)) w.heap.size 26 #[.int .u64 et, .slice At nt ct]) := Lib.hid ((Bk.new w _ _).alloc _)
  have sb : Hid (Bk ((w.alloc (.cells #[.int .u64 et, .slice At nt ct] 26)).alloc (.cells #[.int .u64 es, .slice As ns cs] 26)) (w.heap.size + 1) 26 #[.int .u64 es, .slice As ns cs]) := Lib.hid (Bk.at (by simp))
  have m1 : True := trivial
  go_enter Tryd.func3, Tryd.ntmps3
  go_wp2_with (first
    | (go_at_call 5; have mk := m1; clear m1 mk; go_loud (refine (much5_at (v := false) Aa ca na La _ HMa HNa (Lib.hid (TA.out.ext XX.out))).mono ?_); rintro e w1 ⟨rfl, x1⟩; go_loud (have Z1 : Hid (w.heap.size + 1 + 1 ≤ w1.heap.size) := Lib.hid (by have q := (x1.size); simpa using q); have y1 : Ext ((w.alloc (.cells #[.int .u64 et, .slice At nt ct] 26)).alloc (.cells #[.int .u64 es, .slice As ns cs] 26)) (w1) := x1; have tb := Lib.hid (tb.out.ext y1); have sb := Lib.hid (sb.out.ext y1); have XX := Lib.hid (XX.out.trans y1); clear y1; have c1_tb_0 : (w1).cell? ⟨w.heap.size, 0, none⟩ = some (.int .u64 et) := tb.out.cell 0; have c1_tb_1 : (w1).cell? ⟨w.heap.size, 1, none⟩ = some (.slice At nt ct) := tb.out.cell 1; have c1_sb_0 : (w1).cell? ⟨(w.heap.size + 1), 0, none⟩ = some (.int .u64 es) := sb.out.cell 0; have c1_sb_1 : (w1).cell? ⟨(w.heap.size + 1), 1, none⟩ = some (.slice As ns cs) := sb.out.cell 1; have m2 : True := trivial))
    | (go_at_call 5; have mk := m2; clear m2 mk; go_loud (refine (much5_at (v := false) Ab cb nb Lb _ HMb HNb (Lib.hid (TB.out.ext XX.out))).mono ?_); rintro e w2 ⟨rfl, x2⟩; go_loud (clear c1_tb_0 c1_tb_1 c1_sb_0 c1_sb_1; have Z2 : Hid (w1.heap.size ≤ w2.heap.size) := Lib.hid (by have q := (x2.size); simpa using q); have y2 : Ext (w1) (w2) := x2; have tb := Lib.hid (tb.out.ext y2); have sb := Lib.hid (sb.out.ext y2); have XX := Lib.hid (XX.out.trans y2); clear y2; have c2_tb_0 : (w2).cell? ⟨w.heap.size, 0, none⟩ = some (.int .u64 et) := tb.out.cell 0; have c2_tb_1 : (w2).cell? ⟨w.heap.size, 1, none⟩ = some (.slice At nt ct) := tb.out.cell 1; have c2_sb_0 : (w2).cell? ⟨(w.heap.size + 1), 0, none⟩ = some (.int .u64 es) := sb.out.cell 0; have c2_sb_1 : (w2).cell? ⟨(w.heap.size + 1), 1, none⟩ = some (.slice As ns cs) := sb.out.cell 1; have m3 : True := trivial))
    | (go_at_call 6; have mk := m3; clear m3 mk; go_loud (refine (known_true _ (G.ext XX.out)).mono ?_); rintro e w3 ⟨rfl, x3⟩; go_loud (clear c2_tb_0 c2_tb_1 c2_sb_0 c2_sb_1; have Z3 : Hid (w2.heap.size ≤ w3.heap.size) := Lib.hid (by have q := (x3.size); simpa using q); have y3 : Ext (w2) (w3) := x3; have tb := Lib.hid (tb.out.ext y3); have sb := Lib.hid (sb.out.ext y3); have XX := Lib.hid (XX.out.trans y3); clear y3; have c3_tb_0 : (w3).cell? ⟨w.heap.size, 0, none⟩ = some (.int .u64 et) := tb.out.cell 0; have c3_tb_1 : (w3).cell? ⟨w.heap.size, 1, none⟩ = some (.slice At nt ct) := tb.out.cell 1; have c3_sb_0 : (w3).cell? ⟨(w.heap.size + 1), 0, none⟩ = some (.int .u64 es) := sb.out.cell 0; have c3_sb_1 : (w3).cell? ⟨(w.heap.size + 1), 1, none⟩ = some (.slice As ns cs) := sb.out.cell 1; have m4 : True := trivial))
    | fail)
  go_ret
  exact ⟨rfl, XX.out⟩
set_option maxRecDepth 100000 in
set_option maxHeartbeats 16000000 in
theorem beyl_true (et es : Int) (Aa Ab At As : Option Addr) (na nb nt ns ca cb ct cs : Nat) (La Lb : List Tm) (lt ls : List Int) (w : World) (G : Pow w) (HNa : Hid (na = La.length)) (HNb : Hid (nb = Lb.length))
    (TA : Hid (Tin w Aa ca La)) (TB : Hid (Tin w Ab cb Lb)) (ST : Hid (Sl w 1 At nt ct (wds lt))) (SS : Hid (Sl w 1 As ns cs (wds ls))) (zt : nt ≤ 140737488355328) (zs : ns ≤ 140737488355328) (HMa : Hid (muchV (La.map Tm.v) = false)) (HMb : Hid (muchV (Lb.map Tm.v) = false)) (ha : na ≤ 60) (hb : nb ≤ 60) (hnt : nt + ns ≤ 60) (us : U32 ls) (FA : Hid (Fine La)) (FB : Hid (Fine Lb)) (HQA : Hid (beyondV (La.map Tm.v) (et, lt) = true)) :
    Calls Tryd.prog 3 #[.slice Aa na ca, .slice Ab nb cb, .agg #[.int .u64 et, .slice At nt ct], .agg #[.int .u64 es, .slice As ns cs]] w fun e w' => e = .returned (.bool true) ∧ Ext w w' := by
  have XX : Hid (Ext w ((w.alloc (.cells #[.int .u64 et, .slice At nt ct] 26)).alloc (.cells #[.int .u64 es, .slice As ns cs] 26))) := Lib.hid (((Ext.refl w).alloc _).alloc _)
  have tb : Hid (Bk ((w.alloc (.cells #[.int .u64 et, .slice At nt ct] 26)).alloc (.cells #[.int .u64 es, .slice As ns cs] 26)) w.heap.size 26 #[.int .u64 et, .slice At nt ct]) := Lib.hid ((Bk.new w _ _).alloc _)
  have sb : Hid (Bk ((w.alloc (.cells #[.int .u64 et, .slice At nt ct] 26)).alloc (.cells #[.int .u64 es, .slice As ns cs] 26)) (w.heap.size + 1) 26 #[.int .u64 es, .slice As ns cs]) := Lib.hid (Bk.at (by simp))
  have m1 : True := trivial
  have HZ0 : nt ≤ 60 := by omega
  obtain ⟨vv, hvv⟩ : ∃ vv, advV (La.map Tm.v) (es, ls) = vv := ⟨_, rfl⟩
  obtain ⟨ve, vl⟩ := vv
  have HVV := Lib.hid hvv
  clear hvv
  go_enter Tryd.func3, Tryd.ntmps3
  go_wp2_with (first
    | (go_at_call 5; have mk := m1; clear m1 mk; go_loud (refine (much5_at (v := false) Aa ca na La _ HMa HNa (Lib.hid (TA.out.ext XX.out))).mono ?_); rintro e w1 ⟨rfl, x1⟩; go_loud (have Z1 : Hid (w.heap.size + 1 + 1 ≤ w1.heap.size) := Lib.hid (by have q := (x1.size); simpa using q); have y1 : Ext ((w.alloc (.cells #[.int .u64 et, .slice At nt ct] 26)).alloc (.cells #[.int .u64 es, .slice As ns cs] 26)) (w1) := x1; have tb := Lib.hid (tb.out.ext y1); have sb := Lib.hid (sb.out.ext y1); have XX := Lib.hid (XX.out.trans y1); clear y1; have c1_tb_0 : (w1).cell? ⟨w.heap.size, 0, none⟩ = some (.int .u64 et) := tb.out.cell 0; have c1_tb_1 : (w1).cell? ⟨w.heap.size, 1, none⟩ = some (.slice At nt ct) := tb.out.cell 1; have c1_sb_0 : (w1).cell? ⟨(w.heap.size + 1), 0, none⟩ = some (.int .u64 es) := sb.out.cell 0; have c1_sb_1 : (w1).cell? ⟨(w.heap.size + 1), 1, none⟩ = some (.slice As ns cs) := sb.out.cell 1; have m2 : True := trivial))
    | (go_at_call 5; have mk := m2; clear m2 mk; go_loud (refine (much5_at (v := false) Ab cb nb Lb _ HMb HNb (Lib.hid (TB.out.ext XX.out))).mono ?_); rintro e w2 ⟨rfl, x2⟩; go_loud (clear c1_tb_0 c1_tb_1 c1_sb_0 c1_sb_1; have Z2 : Hid (w1.heap.size ≤ w2.heap.size) := Lib.hid (by have q := (x2.size); simpa using q); have y2 : Ext (w1) (w2) := x2; have tb := Lib.hid (tb.out.ext y2); have sb := Lib.hid (sb.out.ext y2); have XX := Lib.hid (XX.out.trans y2); clear y2; have c2_tb_0 : (w2).cell? ⟨w.heap.size, 0, none⟩ = some (.int .u64 et) := tb.out.cell 0; have c2_tb_1 : (w2).cell? ⟨w.heap.size, 1, none⟩ = some (.slice At nt ct) := tb.out.cell 1; have c2_sb_0 : (w2).cell? ⟨(w.heap.size + 1), 0, none⟩ = some (.int .u64 es) := sb.out.cell 0; have c2_sb_1 : (w2).cell? ⟨(w.heap.size + 1), 1, none⟩ = some (.slice As ns cs) := sb.out.cell 1; have m3 : True := trivial))
    | (go_at_call 6; have mk := m3; clear m3 mk; go_loud (refine (known_true _ (G.ext XX.out)).mono ?_); rintro e w3 ⟨rfl, x3⟩; go_loud (clear c2_tb_0 c2_tb_1 c2_sb_0 c2_sb_1; have Z3 : Hid (w2.heap.size ≤ w3.heap.size) := Lib.hid (by have q := (x3.size); simpa using q); have y3 : Ext (w2) (w3) := x3; have tb := Lib.hid (tb.out.ext y3); have sb := Lib.hid (sb.out.ext y3); have XX := Lib.hid (XX.out.trans y3); clear y3; have c3_tb_0 : (w3).cell? ⟨w.heap.size, 0, none⟩ = some (.int .u64 et) := tb.out.cell 0; have c3_tb_1 : (w3).cell? ⟨w.heap.size, 1, none⟩ = some (.slice At nt ct) := tb.out.cell 1; have c3_sb_0 : (w3).cell? ⟨(w.heap.size + 1), 0, none⟩ = some (.int .u64 es) := sb.out.cell 0; have c3_sb_1 : (w3).cell? ⟨(w.heap.size + 1), 1, none⟩ = some (.slice As ns cs) := sb.out.cell 1; have m4 : True := trivial))
    | (go_at_call 7; have mk := m4; clear m4 mk; go_loud (refine (of_at (V := ofV (La.map Tm.v)) Aa ca na La _ (Lib.hid rfl) HNa (Lib.hid (TA.out.ext XX.out)) (Lib.hid (fine_len FA.out)) (by omega)).mono ?_); rintro e w4 ⟨A4, c4, n4, M4, rfl, h4, t4, v4, x4⟩; go_loud (clear c3_tb_0 c3_tb_1 c3_sb_0 c3_sb_1; have Z4 : Hid (w3.heap.size ≤ w4.heap.size) := Lib.hid (by have q := (x4.size); simpa using q); have y4 : Ext (w3) (w4) := x4; have tb := Lib.hid (tb.out.ext y4); have sb := Lib.hid (sb.out.ext y4); have XX := Lib.hid (XX.out.trans y4); clear y4; have T4 := Lib.hid (t4.tin); have HN4 := Lib.hid h4; have HV4 := Lib.hid v4; clear h4 t4 v4; have c4_tb_0 : (w4).cell? ⟨w.heap.size, 0, none⟩ = some (.int .u64 et) := tb.out.cell 0; have c4_tb_1 : (w4).cell? ⟨w.heap.size, 1, none⟩ = some (.slice At nt ct) := tb.out.cell 1; have c4_sb_0 : (w4).cell? ⟨(w.heap.size + 1), 0, none⟩ = some (.int .u64 es) := sb.out.cell 0; have c4_sb_1 : (w4).cell? ⟨(w.heap.size + 1), 1, none⟩ = some (.slice As ns cs) := sb.out.cell 1; have m5 : True := trivial))
    | fail)
  clear c4_tb_0 c4_tb_1 c4_sb_0 c4_sb_1
  have HQO : Hid (beyondV (M4.map Tm.v) (et, lt) = true) := Lib.hid (by rw [HV4.out, beyond_ofV]; exact HQA.out)
  go_loopg [10, 11] na (fun z v10 v11 wr => ∃ (k : Nat) (b : Bool), z = na - k ∧ k ≤ na ∧ v11 = .int .i64 k ∧ v10 = .bool b ∧ Hid (beyondV ((La.map Tm.v).take k) (et, lt) = b) ∧ Hid (Ext w4 wr))
  case atStart => exact ⟨0, false, rfl, Nat.zero_le _, rfl, rfl, Lib.hid rfl, Lib.hid (Ext.refl _)⟩
  case round =>
    obtain ⟨k, b, rfl, hk, rfl, rfl, HB, HE⟩ := hrel
    by_cases hlt : k < na
    · have b0 : ∀ y : Xt wr, y.W.cell? ⟨w.heap.size, 0, none⟩ = some (.int .u64 et) := fun y => (tb.out.ext (HE.out.trans y.x)).cell 0
      have b1 : ∀ y : Xt wr, y.W.cell? ⟨w.heap.size, 1, none⟩ = some (.slice At nt ct) := fun y => (tb.out.ext (HE.out.trans y.x)).cell 1
      have hkL : k < La.length := by rw [← HNa.out]; exact hlt
      obtain ⟨ad, rfl, q0, q1⟩ := (TA.out.ext (XX.out.trans HE.out)).at (i := k) hkL
      have qq0 : ∀ y : Xt wr, y.W.cell? (ad.add (k * 2)) = some (.int .u64 (La.getD k Tm.zero).e) := fun y => y.x.cell q0
      have qq1 : ∀ y : Xt wr, y.W.cell? ⟨(ad.add (k * 2)).block, (ad.add (k * 2)).off + 1, none⟩ = some (.slice (La.getD k Tm.zero).A (La.getD k Tm.zero).l.length (La.getD k Tm.zero).c) := fun y => y.x.cell q1
      have HXS : ∀ y : Xt wr, Hid (Sl y.W 1 (La.getD k Tm.zero).A (La.getD k Tm.zero).l.length (La.getD k Tm.zero).c (wds (La.getD k Tm.zero).l)) := fun y => Lib.hid ((TA.out.ext ((XX.out.trans HE.out).trans y.x)).ls _ (getT_mem hkL))
      have STY : ∀ y : Xt wr, Hid (Sl y.W 1 At nt ct (wds lt)) := fun y => Lib.hid (ST.out.ext ((XX.out.trans HE.out).trans y.x))
      have HKV := Lib.hid (map_at hkL)
      clear q0 q1
      obtain ⟨x, hx⟩ : ∃ x, La.getD k Tm.zero = x := ⟨_, rfl⟩
      rw [hx] at HKV
      simp only [hx] at qq0 qq1 HXS
      clear hx hkL
      obtain ⟨f, Ax, cx, lx⟩ := x
      obtain ⟨nx, hnx⟩ : ∃ nx, lx.length = nx := ⟨_, rfl⟩
      dsimp only at qq0 qq1 HXS
      simp only [hnx] at qq1 HXS
      clear hnx
      cases b with
      | true =>
        go_wp2
        (refine wp_region_ext (by kernel_rfl) (by kernel_rfl) ?_; (repeat (go_big_quiet_step (fail))); refine wpQuiet_nil ?_; rintro _ ⟨y, rfl⟩)
        go_wp2
        go_roundg (na - (k + 1))
        case measure => omega
        case rel =>
          exact ⟨k + 1, true, by omega, by omega, by go_num, rfl, Lib.hid (by obtain ⟨h1, h2⟩ := HKV.out; rw [beyond_take h1, HB.out]; rfl), Lib.hid (HE.out.trans y.x)⟩
      | false =>
        rcases hq : tleq (f, lx) (et, lt) with _ | _
        all_goals
          have HT1 := Lib.hid hq
          clear hq
          go_wp2
          (refine wp_region_ext (by kernel_rfl) (by kernel_rfl) ?_; (repeat (go_big_quiet_step ((go_at_call 8; exact call_ext (tq_at f et Ax At nx nt cx ct lx lt _ HT1 (HXS _) (STY _)))))); refine wpQuiet_nil ?_; rintro _ ⟨y, rfl⟩)
          go_wp2
          go_roundg (na - (k + 1))
          case measure => omega
          case rel =>
            exact ⟨k + 1, _, by omega, by omega, by go_num, rfl, Lib.hid (by obtain ⟨h1, h2⟩ := HKV.out; rw [beyond_take h1, HB.out, h2]; exact HT1.out), Lib.hid (HE.out.trans y.x)⟩
    · obtain rfl : na = k := by omega
      obtain rfl : b = true := by
        have := HB.out
        rw [show (La.map Tm.v).take na = (La.map Tm.v) from List.take_of_length_le (by rw [List.length_map, HNa.out]; exact Nat.le_refl _), HQA.out] at this
        exact this.symm
      clear HB
      obtain ⟨u5, hu5⟩ : ∃ u5 : World, u5 = wr := ⟨_, rfl⟩
      rw [← hu5] at HE ⊢
      clear hu5
      have XX := Lib.hid (XX.out.trans HE.out)
      have tb := Lib.hid (tb.out.ext HE.out)
      have sb := Lib.hid (sb.out.ext HE.out)
      have T4 := Lib.hid (T4.out.ext HE.out)
      clear HE
      have h4m : n4 ≤ 9223372036854775807 := by rw [HN4.out]; exact T4.out.sl.le
      go_wp2
      go_loopg [12] n4 (fun z v12 wr => ∃ (i : Nat), z = n4 - i ∧ i ≤ n4 ∧ v12 = .int .i64 i ∧ Hid (Ext u5 wr))
      case atStart => exact ⟨0, rfl, Nat.zero_le _, rfl, Lib.hid (Ext.refl _)⟩
      case round =>
        obtain ⟨i, rfl, hi, rfl, HE⟩ := hrel
        by_cases hli : i < n4
        · obtain ⟨u6, hu6⟩ : ∃ u6 : World, u6 = wr := ⟨_, rfl⟩
          rw [← hu6] at HE ⊢
          clear hu6
          go_wp2
          go_loopg [13] n4 (fun z v13 wr => ∃ (j : Nat), z = n4 - j ∧ j ≤ n4 ∧ v13 = .int .i64 j ∧ Hid (Ext u5 wr))
          case atStart => exact ⟨0, rfl, Nat.zero_le _, rfl, HE⟩
          case round =>
            obtain ⟨j, rfl, hj, rfl, HE⟩ := hrel
            by_cases hlj : j < n4
            · by_cases hij : i = j
              · subst hij
                go_wp2
                (refine wp_region_ext (by kernel_rfl) (by kernel_rfl) ?_; (repeat (go_big_quiet_step (fail))); refine wpQuiet_nil ?_; rintro _ ⟨y, rfl⟩)
                go_wp2
                go_roundg (n4 - (i + 1))
                case measure => omega
                case rel => exact ⟨i + 1, by omega, by omega, by go_num, Lib.hid (HE.out.trans y.x)⟩
              · have hi4 : i < M4.length := by rw [← HN4.out]; exact hli
                have hj4 : j < M4.length := by rw [← HN4.out]; exact hlj
                have HT1 : Hid (tleq (M4.getD i Tm.zero).v (M4.getD j Tm.zero).v = false) := Lib.hid (of_apart_at HV4.out hi4 hj4 hij)
                obtain ⟨ad, e4, q0, q1⟩ := (T4.out.ext HE.out).at (i := i) hi4
                obtain ⟨ad', e4', r0, r1⟩ := (T4.out.ext HE.out).at (i := j) hj4
                obtain rfl : ad = ad' := by rw [e4] at e4'; injection e4'
                clear e4'
                have HIS : ∀ y : Xt wr, Hid (Sl y.W 1 (M4.getD i Tm.zero).A (M4.getD i Tm.zero).l.length (M4.getD i Tm.zero).c (wds (M4.getD i Tm.zero).l)) := fun y => Lib.hid ((T4.out.ext (HE.out.trans y.x)).ls _ (getT_mem hi4))
                have HJS : ∀ y : Xt wr, Hid (Sl y.W 1 (M4.getD j Tm.zero).A (M4.getD j Tm.zero).l.length (M4.getD j Tm.zero).c (wds (M4.getD j Tm.zero).l)) := fun y => Lib.hid ((T4.out.ext (HE.out.trans y.x)).ls _ (getT_mem hj4))
                have HIJ := Lib.hid hij
                have hne : ((i : Int) != (j : Int)) = true := by simp; omega
                have hne2 : ((i : Int) = (j : Int)) = False := by simp; omega
                obtain ⟨x, hx⟩ : ∃ x, M4.getD i Tm.zero = x := ⟨_, rfl⟩
                obtain ⟨u, hu⟩ : ∃ u, M4.getD j Tm.zero = u := ⟨_, rfl⟩
                rw [hx] at q0 q1
                rw [hu] at r0 r1
                rw [hx, hu] at HT1
                simp only [hx] at HIS
                simp only [hu] at HJS
                clear hx hu hi4 hj4
                obtain ⟨f, Ax, cx, lx⟩ := x
                obtain ⟨h, Au, cu, lu⟩ := u
                obtain ⟨nx, hnx⟩ : ∃ nx, lx.length = nx := ⟨_, rfl⟩
                obtain ⟨nu, hnu⟩ : ∃ nu, lu.length = nu := ⟨_, rfl⟩
                dsimp only at q0 q1 r0 r1 HIS HJS
                rw [hnx] at q1
                rw [hnu] at r1
                simp only [hnx] at HIS
                simp only [hnu] at HJS
                clear hnx hnu
                have qq0 : ∀ y : Xt wr, y.W.cell? (ad.add (i * 2)) = some (.int .u64 f) := fun y => y.x.cell q0
                have qq1 : ∀ y : Xt wr, y.W.cell? ⟨(ad.add (i * 2)).block, (ad.add (i * 2)).off + 1, none⟩ = some (.slice Ax nx cx) := fun y => y.x.cell q1
                have rr0 : ∀ y : Xt wr, y.W.cell? (ad.add (j * 2)) = some (.int .u64 h) := fun y => y.x.cell r0
                have rr1 : ∀ y : Xt wr, y.W.cell? ⟨(ad.add (j * 2)).block, (ad.add (j * 2)).off + 1, none⟩ = some (.slice Au nu cu) := fun y => y.x.cell r1
                clear q0 q1 r0 r1
                subst e4
                go_wp2
                (refine wp_region_ext (by kernel_rfl) (by kernel_rfl) ?_; (repeat (go_big_quiet_step ((go_at_call 8; exact call_ext (tq_at f h Ax Au nx nu cx cu lx lu _ HT1 (HIS _) (HJS _)))))); refine wpQuiet_nil ?_; rintro _ ⟨y, rfl⟩)
                go_wp2
                go_roundg (n4 - (j + 1))
                case measure => omega
                case rel => exact ⟨j + 1, by omega, by omega, by go_num, Lib.hid (HE.out.trans y.x)⟩
            · obtain rfl : n4 = j := by omega
              go_wp2
              go_roundg (n4 - (i + 1))
              case measure => omega
              case rel => exact ⟨i + 1, by omega, by omega, by go_num, HE⟩
        · obtain rfl : n4 = i := by omega
          rcases hqb : beyondV (Lb.map Tm.v) (et, lt) with _ | _
          · have HQB := Lib.hid hqb
            clear hqb
            have XX := Lib.hid (XX.out.trans HE.out)
            have tb := Lib.hid (tb.out.ext HE.out)
            have sb := Lib.hid (sb.out.ext HE.out)
            have T4 := Lib.hid (T4.out.ext HE.out)
            have c5_tb_0 : (wr).cell? ⟨w.heap.size, 0, none⟩ = some (.int .u64 et) := tb.out.cell 0; have c5_tb_1 : (wr).cell? ⟨w.heap.size, 1, none⟩ = some (.slice At nt ct) := tb.out.cell 1; have c5_sb_0 : (wr).cell? ⟨(w.heap.size + 1), 0, none⟩ = some (.int .u64 es) := sb.out.cell 0; have c5_sb_1 : (wr).cell? ⟨(w.heap.size + 1), 1, none⟩ = some (.slice As ns cs) := sb.out.cell 1
            go_wp2_with (first
              | (go_at_call 9; have mk := m5; clear m5 mk; go_loud (refine (beyond_at (v := true) Aa ca na La et At nt ct lt _ HQA HNa (Lib.hid (TA.out.ext XX.out)) (Lib.hid (ST.out.ext XX.out))).mono ?_); rintro e w5 ⟨rfl, x5⟩; go_loud (clear c5_tb_0 c5_tb_1 c5_sb_0 c5_sb_1; have Z5 : Hid (wr.heap.size ≤ w5.heap.size) := Lib.hid (by have q := (x5.size); simpa using q); have y5 : Ext (wr) (w5) := x5; have tb := Lib.hid (tb.out.ext y5); have sb := Lib.hid (sb.out.ext y5); have T4 := Lib.hid (T4.out.ext y5); have XX := Lib.hid (XX.out.trans y5); clear y5; have c6_tb_0 : (w5).cell? ⟨w.heap.size, 0, none⟩ = some (.int .u64 et) := tb.out.cell 0; have c6_tb_1 : (w5).cell? ⟨w.heap.size, 1, none⟩ = some (.slice At nt ct) := tb.out.cell 1; have c6_sb_0 : (w5).cell? ⟨(w.heap.size + 1), 0, none⟩ = some (.int .u64 es) := sb.out.cell 0; have c6_sb_1 : (w5).cell? ⟨(w.heap.size + 1), 1, none⟩ = some (.slice As ns cs) := sb.out.cell 1; have m6 : True := trivial))
              | (go_at_call 9; have mk := m6; clear m6 mk; go_loud (refine (beyond_at (v := false) Ab cb nb Lb et At nt ct lt _ HQB HNb (Lib.hid (TB.out.ext XX.out)) (Lib.hid (ST.out.ext XX.out))).mono ?_); rintro e w6 ⟨rfl, x6⟩; go_loud (clear c6_tb_0 c6_tb_1 c6_sb_0 c6_sb_1; have Z6 : Hid (w5.heap.size ≤ w6.heap.size) := Lib.hid (by have q := (x6.size); simpa using q); have y6 : Ext (w5) (w6) := x6; have tb := Lib.hid (tb.out.ext y6); have sb := Lib.hid (sb.out.ext y6); have T4 := Lib.hid (T4.out.ext y6); have XX := Lib.hid (XX.out.trans y6); clear y6; have c7_tb_0 : (w6).cell? ⟨w.heap.size, 0, none⟩ = some (.int .u64 et) := tb.out.cell 0; have c7_tb_1 : (w6).cell? ⟨w.heap.size, 1, none⟩ = some (.slice At nt ct) := tb.out.cell 1; have c7_sb_0 : (w6).cell? ⟨(w.heap.size + 1), 0, none⟩ = some (.int .u64 es) := sb.out.cell 0; have c7_sb_1 : (w6).cell? ⟨(w.heap.size + 1), 1, none⟩ = some (.slice As ns cs) := sb.out.cell 1; have m7 : True := trivial))
              | fail)
            have XD : Ext w6 w6.drew := (Ext.refl _).drew
            clear c7_tb_0 c7_tb_1 c7_sb_0 c7_sb_1
            have XX := Lib.hid (XX.out.trans XD); have tb := Lib.hid (tb.out.ext XD); have sb := Lib.hid (sb.out.ext XD); have T4 := Lib.hid (T4.out.ext XD)
            have tba0 : ∀ y : Xt (w6.drew), y.W.cell? ⟨w.heap.size, 0, none⟩ = some (.int .u64 et) := fun y => (tb.out.ext y.x).cell 0
            have tba1 : ∀ y : Xt (w6.drew), y.W.cell? ⟨w.heap.size, 1, none⟩ = some (.slice At nt ct) := fun y => (tb.out.ext y.x).cell 1
            refine wp_region_ord [0,0,3,0,15,31,63,63,255,63,1023,63,4095,8191,16383,32767,32767,131071,262143,524287,1048575,1048575,4194303,8388607,16777215] (.flo [0,1] (.pur [3] (.one 2 (.flo [4,5,6,7,9] (.pur [11] (.ext 8 (.one 10 (.flo [12,13,14,15,16] (.one 17 (.flo [18,19,20,21] (.one 22 (.flo [23,24] (.fin))))))))))))) (by kernel_rfl) (by kernel_rfl) (by intro _ _ d _ _ h; cases d <;> exact h) ?_
            (refine ord_flo (pick_cons rfl (pick_cons rfl pick_nil)) ?_; (repeat (go_big_quiet_step (fail))); refine wpQuiet_nil ?_; show ordWalk _ _ _ _ _ _ _)
            (refine ord_pur (pick_cons rfl pick_nil) ?_; (repeat (go_big_quiet_step (fail))); refine wpQuiet_nil ?_; show ordWalk _ _ _ _ _ _ _)
            refine ord_one (pick_cons rfl pick_nil) ?_; intro K_ hK_
            go_wp2_with (first
              | (go_at_call 9; have mk := m7; clear m7 mk; go_loud (refine (beyond_at (v := true) A4 c4 n4 M4 et At nt ct lt _ HQO HN4 T4 (Lib.hid (ST.out.ext XX.out))).mono ?_); rintro e w7 ⟨rfl, x7⟩; go_loud (have Z7 : Hid (w6.drew.heap.size ≤ w7.heap.size) := Lib.hid (by have q := (x7.size); simpa using q); have y7 : Ext (w6.drew) (w7) := x7; have tb := Lib.hid (tb.out.ext y7); have sb := Lib.hid (sb.out.ext y7); have T4 := Lib.hid (T4.out.ext y7); have XX := Lib.hid (XX.out.trans y7); clear y7; have c8_tb_0 : (w7).cell? ⟨w.heap.size, 0, none⟩ = some (.int .u64 et) := tb.out.cell 0; have c8_tb_1 : (w7).cell? ⟨w.heap.size, 1, none⟩ = some (.slice At nt ct) := tb.out.cell 1; have c8_sb_0 : (w7).cell? ⟨(w.heap.size + 1), 0, none⟩ = some (.int .u64 es) := sb.out.cell 0; have c8_sb_1 : (w7).cell? ⟨(w.heap.size + 1), 1, none⟩ = some (.slice As ns cs) := sb.out.cell 1; have m8 : True := trivial))
              | fail)
            clear c8_tb_0 c8_tb_1 c8_sb_0 c8_sb_1
            have tbb0 : ∀ y : Xt (w7), y.W.cell? ⟨w.heap.size, 0, none⟩ = some (.int .u64 et) := fun y => (tb.out.ext y.x).cell 0
            have tbb1 : ∀ y : Xt (w7), y.W.cell? ⟨w.heap.size, 1, none⟩ = some (.slice At nt ct) := fun y => (tb.out.ext y.x).cell 1
            (refine ord_flo (pick_cons rfl (pick_cons rfl (pick_cons rfl (pick_cons rfl (pick_cons rfl pick_nil))))) ?_; (repeat (go_big_quiet_step (fail))); refine wpQuiet_nil ?_; show ordWalk _ _ _ _ _ _ _)
            (refine ord_pur (pick_cons rfl pick_nil) ?_; (repeat (go_big_quiet_step (fail))); refine wpQuiet_nil ?_; show ordWalk _ _ _ _ _ _ _)
            refine ord_ext (pick_cons rfl pick_nil) ?_; intro K_ hK_
            go_wp2_with (first
              | (go_at_call 10; have mk := m8; clear m8 mk; go_loud (refine (chjoin_at (V := joinV (La.map Tm.v) (Lb.map Tm.v)) Aa Ab ca cb na nb La Lb _ (Lib.hid rfl) HNa HNb (Lib.hid (TA.out.ext XX.out)) (Lib.hid (TB.out.ext XX.out)) FA FB (by omega) (by omega)).mono ?_); rintro e w8 ⟨A8, c8, n8, M8, rfl, h8, t8, v8, x8⟩; go_loud (have Z8 : Hid (w7.heap.size ≤ w8.heap.size) := Lib.hid (by have q := (x8.size); simpa using q); have y8 : Ext (w7) (w8) := x8; have tb := Lib.hid (tb.out.ext y8); have sb := Lib.hid (sb.out.ext y8); have T4 := Lib.hid (T4.out.ext y8); have XX := Lib.hid (XX.out.trans y8); clear y8; have T8 := Lib.hid (t8.tin); have HN8 := Lib.hid h8; have HV8 := Lib.hid v8; clear h8 t8 v8; have c9_tb_0 : (w8).cell? ⟨w.heap.size, 0, none⟩ = some (.int .u64 et) := tb.out.cell 0; have c9_tb_1 : (w8).cell? ⟨w.heap.size, 1, none⟩ = some (.slice At nt ct) := tb.out.cell 1; have c9_sb_0 : (w8).cell? ⟨(w.heap.size + 1), 0, none⟩ = some (.int .u64 es) := sb.out.cell 0; have c9_sb_1 : (w8).cell? ⟨(w.heap.size + 1), 1, none⟩ = some (.slice As ns cs) := sb.out.cell 1; have m9 : True := trivial))
              | fail)
            clear c9_tb_0 c9_tb_1 c9_sb_0 c9_sb_1
            refine ordNext.mk x8 ?_
            refine ord_one (pick_cons rfl pick_nil) ?_; intro K_ hK_
            go_wp2_with (first
              | (go_at_call 9; have mk := m9; clear m9 mk; go_loud (refine (beyond_at (v := false) A8 c8 n8 M8 et At nt ct lt _ (Lib.hid (by rw [HV8.out, beyond_join, HQA.out, HQB.out]; rfl)) HN8 T8 (Lib.hid (ST.out.ext XX.out))).mono ?_); rintro e w9 ⟨rfl, x9⟩; go_loud (have Z9 : Hid (w8.heap.size ≤ w9.heap.size) := Lib.hid (by have q := (x9.size); simpa using q); have y9 : Ext (w8) (w9) := x9; have tb := Lib.hid (tb.out.ext y9); have sb := Lib.hid (sb.out.ext y9); have T4 := Lib.hid (T4.out.ext y9); have T8 := Lib.hid (T8.out.ext y9); have XX := Lib.hid (XX.out.trans y9); clear y9; have c10_tb_0 : (w9).cell? ⟨w.heap.size, 0, none⟩ = some (.int .u64 et) := tb.out.cell 0; have c10_tb_1 : (w9).cell? ⟨w.heap.size, 1, none⟩ = some (.slice At nt ct) := tb.out.cell 1; have c10_sb_0 : (w9).cell? ⟨(w.heap.size + 1), 0, none⟩ = some (.int .u64 es) := sb.out.cell 0; have c10_sb_1 : (w9).cell? ⟨(w.heap.size + 1), 1, none⟩ = some (.slice As ns cs) := sb.out.cell 1; have m10 : True := trivial))
              | fail)
            clear c10_tb_0 c10_tb_1 c10_sb_0 c10_sb_1
            (refine ord_flo (pick_cons rfl (pick_cons rfl (pick_cons rfl (pick_cons rfl (pick_cons rfl pick_nil))))) ?_; (repeat (go_big_quiet_step (fail))); refine wpQuiet_nil ?_; show ordWalk _ _ _ _ _ _ _)
            refine ord_one (pick_cons rfl pick_nil) ?_; intro K_ hK_
            go_wp2_with (first
              | (go_at_call 11; have mk := m10; clear m10 mk; go_loud (refine (chleq_at (v := true) A4 Aa c4 ca n4 na M4 La _ (Lib.hid (by rw [HV4.out]; exact leqV_of1 _)) HN4 HNa T4 (Lib.hid (TA.out.ext XX.out))).mono ?_); rintro e w10 ⟨rfl, x10⟩; go_loud (have Z10 : Hid (w9.heap.size ≤ w10.heap.size) := Lib.hid (by have q := (x10.size); simpa using q); have y10 : Ext (w9) (w10) := x10; have tb := Lib.hid (tb.out.ext y10); have sb := Lib.hid (sb.out.ext y10); have T4 := Lib.hid (T4.out.ext y10); have XX := Lib.hid (XX.out.trans y10); clear y10; have c11_tb_0 : (w10).cell? ⟨w.heap.size, 0, none⟩ = some (.int .u64 et) := tb.out.cell 0; have c11_tb_1 : (w10).cell? ⟨w.heap.size, 1, none⟩ = some (.slice At nt ct) := tb.out.cell 1; have c11_sb_0 : (w10).cell? ⟨(w.heap.size + 1), 0, none⟩ = some (.int .u64 es) := sb.out.cell 0; have c11_sb_1 : (w10).cell? ⟨(w.heap.size + 1), 1, none⟩ = some (.slice As ns cs) := sb.out.cell 1; have m11 : True := trivial))
              | fail)
            clear c11_tb_0 c11_tb_1 c11_sb_0 c11_sb_1
            (refine ord_flo (pick_cons rfl (pick_cons rfl (pick_cons rfl (pick_cons rfl pick_nil)))) ?_; (repeat (go_big_quiet_step (fail))); refine wpQuiet_nil ?_; show ordWalk _ _ _ _ _ _ _)
            refine ord_one (pick_cons rfl pick_nil) ?_; intro K_ hK_
            go_wp2_with (first
              | (go_at_call 11; have mk := m11; clear m11 mk; go_loud (refine (chleq_at (v := true) Aa A4 ca c4 na n4 La M4 _ (Lib.hid (by rw [HV4.out]; exact leqV_of2 _)) HNa HN4 (Lib.hid (TA.out.ext XX.out)) T4).mono ?_); rintro e w11 ⟨rfl, x11⟩; go_loud (have Z11 : Hid (w10.heap.size ≤ w11.heap.size) := Lib.hid (by have q := (x11.size); simpa using q); have y11 : Ext (w10) (w11) := x11; have tb := Lib.hid (tb.out.ext y11); have sb := Lib.hid (sb.out.ext y11); have T4 := Lib.hid (T4.out.ext y11); have XX := Lib.hid (XX.out.trans y11); clear y11; have c12_tb_0 : (w11).cell? ⟨w.heap.size, 0, none⟩ = some (.int .u64 et) := tb.out.cell 0; have c12_tb_1 : (w11).cell? ⟨w.heap.size, 1, none⟩ = some (.slice At nt ct) := tb.out.cell 1; have c12_sb_0 : (w11).cell? ⟨(w.heap.size + 1), 0, none⟩ = some (.int .u64 es) := sb.out.cell 0; have c12_sb_1 : (w11).cell? ⟨(w.heap.size + 1), 1, none⟩ = some (.slice As ns cs) := sb.out.cell 1; have m12 : True := trivial))
              | fail)
            clear c12_tb_0 c12_tb_1 c12_sb_0 c12_sb_1
            (refine ord_flo (pick_cons rfl (pick_cons rfl pick_nil)) ?_; (repeat (go_big_quiet_step (fail))); refine wpQuiet_nil ?_; show ordWalk _ _ _ _ _ _ _)
            refine ord_fin ?_
            have c13_tb_0 : (w11).cell? ⟨w.heap.size, 0, none⟩ = some (.int .u64 et) := tb.out.cell 0; have c13_tb_1 : (w11).cell? ⟨w.heap.size, 1, none⟩ = some (.slice At nt ct) := tb.out.cell 1; have c13_sb_0 : (w11).cell? ⟨(w.heap.size + 1), 0, none⟩ = some (.int .u64 es) := sb.out.cell 0; have c13_sb_1 : (w11).cell? ⟨(w.heap.size + 1), 1, none⟩ = some (.slice As ns cs) := sb.out.cell 1
            go_wp2_with (first
              | (go_at_call 12; have mk := m12; clear m12 mk; go_loud (refine (advance_at (v := (ve, vl)) Aa ca na La es As ns cs ls _ HVV HNa (Lib.hid (TA.out.ext XX.out)) FA (Lib.hid (SS.out.ext XX.out)) us (by omega) (by omega)).mono ?_); rintro e w12 ⟨A12, n12, c12, rfl, h12, s12, x12⟩; go_loud (clear c13_tb_0 c13_tb_1 c13_sb_0 c13_sb_1; have Z12 : Hid (w11.heap.size ≤ w12.heap.size) := Lib.hid (by have q := (x12.size); simpa using q); have y12 : Ext (w11) (w12) := x12; have tb := Lib.hid (tb.out.ext y12); have sb := Lib.hid (sb.out.ext y12); have T4 := Lib.hid (T4.out.ext y12); have XX := Lib.hid (XX.out.trans y12); clear y12; dsimp only at s12 h12; have HS12 := Lib.hid s12; have HL12 := Lib.hid h12; clear s12 h12; have c14_tb_0 : (w12).cell? ⟨w.heap.size, 0, none⟩ = some (.int .u64 et) := tb.out.cell 0; have c14_tb_1 : (w12).cell? ⟨w.heap.size, 1, none⟩ = some (.slice At nt ct) := tb.out.cell 1; have c14_sb_0 : (w12).cell? ⟨(w.heap.size + 1), 0, none⟩ = some (.int .u64 es) := sb.out.cell 0; have c14_sb_1 : (w12).cell? ⟨(w.heap.size + 1), 1, none⟩ = some (.slice As ns cs) := sb.out.cell 1; have m13 : True := trivial))
              | fail)
            clear c14_tb_0 c14_tb_1 c14_sb_0 c14_sb_1
            obtain ⟨w30, hw30⟩ : ∃ w30, w30 = w12.alloc (Obj.cells #[Value.int .u64 ve, Value.slice A12 n12 c12] 26) := ⟨_, rfl⟩
            have X30 : Ext w12 w30 := hw30 ▸ (Ext.refl _).alloc _
            have vb : Hid (Bk w30 w12.heap.size 26 #[.int .u64 ve, .slice A12 n12 c12]) := Lib.hid (by subst hw30; exact Bk.new _ _ _)
            have SV : Hid (Sl w30 1 A12 n12 c12 (wds vl)) := Lib.hid (HS12.out.sl.ext X30)
            rw [← hw30]
            clear hw30
            have XX := Lib.hid (XX.out.trans X30); have tb := Lib.hid (tb.out.ext X30); have sb := Lib.hid (sb.out.ext X30); have T4 := Lib.hid (T4.out.ext X30)
            have tbc0 : ∀ y : Xt (w30), y.W.cell? ⟨w.heap.size, 0, none⟩ = some (.int .u64 et) := fun y => (tb.out.ext y.x).cell 0
            have tbc1 : ∀ y : Xt (w30), y.W.cell? ⟨w.heap.size, 1, none⟩ = some (.slice At nt ct) := fun y => (tb.out.ext y.x).cell 1
            have sbc0 : ∀ y : Xt (w30), y.W.cell? ⟨w.heap.size + 1, 0, none⟩ = some (.int .u64 es) := fun y => (sb.out.ext y.x).cell 0
            have sbc1 : ∀ y : Xt (w30), y.W.cell? ⟨w.heap.size + 1, 1, none⟩ = some (.slice As ns cs) := fun y => (sb.out.ext y.x).cell 1
            have vbc0 : ∀ y : Xt (w30), y.W.cell? ⟨w12.heap.size, 0, none⟩ = some (.int .u64 ve) := fun y => (vb.out.ext y.x).cell 0
            have vbc1 : ∀ y : Xt (w30), y.W.cell? ⟨w12.heap.size, 1, none⟩ = some (.slice A12 n12 c12) := fun y => (vb.out.ext y.x).cell 1
            have TAY : ∀ y : Xt w30, Hid (Tin y.W Aa ca La) := fun y => Lib.hid (TA.out.ext (XX.out.trans y.x))
            have STY : ∀ y : Xt w30, Hid (Sl y.W 1 At nt ct (wds lt)) := fun y => Lib.hid (ST.out.ext (XX.out.trans y.x))
            have SSY : ∀ y : Xt w30, Hid (Sl y.W 1 As ns cs (wds ls)) := fun y => Lib.hid (SS.out.ext (XX.out.trans y.x))
            have SVY : ∀ y : Xt w30, Hid (Sl y.W 1 A12 n12 c12 (wds vl)) := fun y => Lib.hid (SV.out.ext y.x)
            have XF := Lib.hid XX.out
            by_cases hns : nt = ns
            · have HA : Hid (tleq (es, ls) (et, lt) = tleq (ve, vl) (et, lt)) := Lib.hid (by rw [← HVV.out]; exact adv_law HQA.out (by have a := ST.out.wlen; have b := SS.out.wlen; show ls.length = lt.length; omega))
              subst hns
              rcases h1 : tleq (es, ls) (et, lt) with _ | _
              · have HT1 := Lib.hid h1
                have HT2 := Lib.hid (HA.out.symm.trans h1)
                clear h1
                (refine wp_region_ext (by kernel_rfl) (by kernel_rfl) ?_; (repeat (go_big_quiet_step (first | (go_at_call 9; exact call_ext (beyond_at (v := true) Aa ca na La et At nt ct lt _ HQA HNa (TAY _) (STY _))) | (go_at_call 8; with_reducible exact call_ext (tq_at es et As At nt nt cs ct ls lt _ HT1 (SSY _) (STY _))) | (go_at_call 8; with_reducible exact call_ext (tq_at ve et A12 At n12 nt c12 ct vl lt _ HT2 (SVY _) (STY _)))))); refine wpQuiet_nil ?_; rintro _ ⟨y, rfl⟩)
                go_wp2
                go_ret
                exact ⟨rfl, XF.out.trans y.x⟩
              · have HT1 := Lib.hid h1
                have HT2 := Lib.hid (HA.out.symm.trans h1)
                clear h1
                (refine wp_region_ext (by kernel_rfl) (by kernel_rfl) ?_; (repeat (go_big_quiet_step (first | (go_at_call 9; exact call_ext (beyond_at (v := true) Aa ca na La et At nt ct lt _ HQA HNa (TAY _) (STY _))) | (go_at_call 8; with_reducible exact call_ext (tq_at es et As At nt nt cs ct ls lt _ HT1 (SSY _) (STY _))) | (go_at_call 8; with_reducible exact call_ext (tq_at ve et A12 At n12 nt c12 ct vl lt _ HT2 (SVY _) (STY _)))))); refine wpQuiet_nil ?_; rintro _ ⟨y, rfl⟩)
                go_wp2
                go_ret
                exact ⟨rfl, XF.out.trans y.x⟩
            · have hq9 : ((ns : Int) == (nt : Int)) = false := by simp; omega
              (refine wp_region_ext (by kernel_rfl) (by kernel_rfl) ?_; (repeat (go_big_quiet_step ((go_at_call 9; exact call_ext (beyond_at (v := true) Aa ca na La et At nt ct lt _ HQA HNa (TAY _) (STY _)))))); refine wpQuiet_nil ?_; rintro _ ⟨y, rfl⟩)
              go_wp2
              go_ret
              exact ⟨rfl, XX.out.trans y.x⟩
          · have HQB := Lib.hid hqb
            clear hqb
            have XX := Lib.hid (XX.out.trans HE.out)
            have tb := Lib.hid (tb.out.ext HE.out)
            have sb := Lib.hid (sb.out.ext HE.out)
            have T4 := Lib.hid (T4.out.ext HE.out)
            have c5_tb_0 : (wr).cell? ⟨w.heap.size, 0, none⟩ = some (.int .u64 et) := tb.out.cell 0; have c5_tb_1 : (wr).cell? ⟨w.heap.size, 1, none⟩ = some (.slice At nt ct) := tb.out.cell 1; have c5_sb_0 : (wr).cell? ⟨(w.heap.size + 1), 0, none⟩ = some (.int .u64 es) := sb.out.cell 0; have c5_sb_1 : (wr).cell? ⟨(w.heap.size + 1), 1, none⟩ = some (.slice As ns cs) := sb.out.cell 1
            go_wp2_with (first
              | (go_at_call 9; have mk := m5; clear m5 mk; go_loud (refine (beyond_at (v := true) Aa ca na La et At nt ct lt _ HQA HNa (Lib.hid (TA.out.ext XX.out)) (Lib.hid (ST.out.ext XX.out))).mono ?_); rintro e w5 ⟨rfl, x5⟩; go_loud (clear c5_tb_0 c5_tb_1 c5_sb_0 c5_sb_1; have Z5 : Hid (wr.heap.size ≤ w5.heap.size) := Lib.hid (by have q := (x5.size); simpa using q); have y5 : Ext (wr) (w5) := x5; have tb := Lib.hid (tb.out.ext y5); have sb := Lib.hid (sb.out.ext y5); have T4 := Lib.hid (T4.out.ext y5); have XX := Lib.hid (XX.out.trans y5); clear y5; have c6_tb_0 : (w5).cell? ⟨w.heap.size, 0, none⟩ = some (.int .u64 et) := tb.out.cell 0; have c6_tb_1 : (w5).cell? ⟨w.heap.size, 1, none⟩ = some (.slice At nt ct) := tb.out.cell 1; have c6_sb_0 : (w5).cell? ⟨(w.heap.size + 1), 0, none⟩ = some (.int .u64 es) := sb.out.cell 0; have c6_sb_1 : (w5).cell? ⟨(w.heap.size + 1), 1, none⟩ = some (.slice As ns cs) := sb.out.cell 1; have m6 : True := trivial))
              | (go_at_call 9; have mk := m6; clear m6 mk; go_loud (refine (beyond_at (v := true) Ab cb nb Lb et At nt ct lt _ HQB HNb (Lib.hid (TB.out.ext XX.out)) (Lib.hid (ST.out.ext XX.out))).mono ?_); rintro e w6 ⟨rfl, x6⟩; go_loud (clear c6_tb_0 c6_tb_1 c6_sb_0 c6_sb_1; have Z6 : Hid (w5.heap.size ≤ w6.heap.size) := Lib.hid (by have q := (x6.size); simpa using q); have y6 : Ext (w5) (w6) := x6; have tb := Lib.hid (tb.out.ext y6); have sb := Lib.hid (sb.out.ext y6); have T4 := Lib.hid (T4.out.ext y6); have XX := Lib.hid (XX.out.trans y6); clear y6; have c7_tb_0 : (w6).cell? ⟨w.heap.size, 0, none⟩ = some (.int .u64 et) := tb.out.cell 0; have c7_tb_1 : (w6).cell? ⟨w.heap.size, 1, none⟩ = some (.slice At nt ct) := tb.out.cell 1; have c7_sb_0 : (w6).cell? ⟨(w.heap.size + 1), 0, none⟩ = some (.int .u64 es) := sb.out.cell 0; have c7_sb_1 : (w6).cell? ⟨(w.heap.size + 1), 1, none⟩ = some (.slice As ns cs) := sb.out.cell 1; have m7 : True := trivial))
              | fail)
            have XD : Ext w6 w6.drew := (Ext.refl _).drew
            clear c7_tb_0 c7_tb_1 c7_sb_0 c7_sb_1
            have XX := Lib.hid (XX.out.trans XD); have tb := Lib.hid (tb.out.ext XD); have sb := Lib.hid (sb.out.ext XD); have T4 := Lib.hid (T4.out.ext XD)
            have tba0 : ∀ y : Xt (w6.drew), y.W.cell? ⟨w.heap.size, 0, none⟩ = some (.int .u64 et) := fun y => (tb.out.ext y.x).cell 0
            have tba1 : ∀ y : Xt (w6.drew), y.W.cell? ⟨w.heap.size, 1, none⟩ = some (.slice At nt ct) := fun y => (tb.out.ext y.x).cell 1
            refine wp_region_ord [0,0,3,0,15,31,63,63,255,63,1023,63,4095,8191,16383,32767,32767,131071,262143,524287,1048575,1048575,4194303,8388607,16777215] (.flo [0,1] (.pur [3] (.one 2 (.flo [4,5,6,7,9] (.pur [11] (.ext 8 (.one 10 (.flo [12,13,14,15,16] (.one 17 (.flo [18,19,20,21] (.one 22 (.flo [23,24] (.fin))))))))))))) (by kernel_rfl) (by kernel_rfl) (by intro _ _ d _ _ h; cases d <;> exact h) ?_
            (refine ord_flo (pick_cons rfl (pick_cons rfl pick_nil)) ?_; (repeat (go_big_quiet_step (fail))); refine wpQuiet_nil ?_; show ordWalk _ _ _ _ _ _ _)
            (refine ord_pur (pick_cons rfl pick_nil) ?_; (repeat (go_big_quiet_step (fail))); refine wpQuiet_nil ?_; show ordWalk _ _ _ _ _ _ _)
            refine ord_one (pick_cons rfl pick_nil) ?_; intro K_ hK_
            go_wp2_with (first
              | (go_at_call 9; have mk := m7; clear m7 mk; go_loud (refine (beyond_at (v := true) A4 c4 n4 M4 et At nt ct lt _ HQO HN4 T4 (Lib.hid (ST.out.ext XX.out))).mono ?_); rintro e w7 ⟨rfl, x7⟩; go_loud (have Z7 : Hid (w6.drew.heap.size ≤ w7.heap.size) := Lib.hid (by have q := (x7.size); simpa using q); have y7 : Ext (w6.drew) (w7) := x7; have tb := Lib.hid (tb.out.ext y7); have sb := Lib.hid (sb.out.ext y7); have T4 := Lib.hid (T4.out.ext y7); have XX := Lib.hid (XX.out.trans y7); clear y7; have c8_tb_0 : (w7).cell? ⟨w.heap.size, 0, none⟩ = some (.int .u64 et) := tb.out.cell 0; have c8_tb_1 : (w7).cell? ⟨w.heap.size, 1, none⟩ = some (.slice At nt ct) := tb.out.cell 1; have c8_sb_0 : (w7).cell? ⟨(w.heap.size + 1), 0, none⟩ = some (.int .u64 es) := sb.out.cell 0; have c8_sb_1 : (w7).cell? ⟨(w.heap.size + 1), 1, none⟩ = some (.slice As ns cs) := sb.out.cell 1; have m8 : True := trivial))
              | fail)
            clear c8_tb_0 c8_tb_1 c8_sb_0 c8_sb_1
            have tbb0 : ∀ y : Xt (w7), y.W.cell? ⟨w.heap.size, 0, none⟩ = some (.int .u64 et) := fun y => (tb.out.ext y.x).cell 0
            have tbb1 : ∀ y : Xt (w7), y.W.cell? ⟨w.heap.size, 1, none⟩ = some (.slice At nt ct) := fun y => (tb.out.ext y.x).cell 1
            (refine ord_flo (pick_cons rfl (pick_cons rfl (pick_cons rfl (pick_cons rfl (pick_cons rfl pick_nil))))) ?_; (repeat (go_big_quiet_step (fail))); refine wpQuiet_nil ?_; show ordWalk _ _ _ _ _ _ _)
            (refine ord_pur (pick_cons rfl pick_nil) ?_; (repeat (go_big_quiet_step (fail))); refine wpQuiet_nil ?_; show ordWalk _ _ _ _ _ _ _)
            refine ord_ext (pick_cons rfl pick_nil) ?_; intro K_ hK_
            go_wp2_with (first
              | (go_at_call 10; have mk := m8; clear m8 mk; go_loud (refine (chjoin_at (V := joinV (La.map Tm.v) (Lb.map Tm.v)) Aa Ab ca cb na nb La Lb _ (Lib.hid rfl) HNa HNb (Lib.hid (TA.out.ext XX.out)) (Lib.hid (TB.out.ext XX.out)) FA FB (by omega) (by omega)).mono ?_); rintro e w8 ⟨A8, c8, n8, M8, rfl, h8, t8, v8, x8⟩; go_loud (have Z8 : Hid (w7.heap.size ≤ w8.heap.size) := Lib.hid (by have q := (x8.size); simpa using q); have y8 : Ext (w7) (w8) := x8; have tb := Lib.hid (tb.out.ext y8); have sb := Lib.hid (sb.out.ext y8); have T4 := Lib.hid (T4.out.ext y8); have XX := Lib.hid (XX.out.trans y8); clear y8; have T8 := Lib.hid (t8.tin); have HN8 := Lib.hid h8; have HV8 := Lib.hid v8; clear h8 t8 v8; have c9_tb_0 : (w8).cell? ⟨w.heap.size, 0, none⟩ = some (.int .u64 et) := tb.out.cell 0; have c9_tb_1 : (w8).cell? ⟨w.heap.size, 1, none⟩ = some (.slice At nt ct) := tb.out.cell 1; have c9_sb_0 : (w8).cell? ⟨(w.heap.size + 1), 0, none⟩ = some (.int .u64 es) := sb.out.cell 0; have c9_sb_1 : (w8).cell? ⟨(w.heap.size + 1), 1, none⟩ = some (.slice As ns cs) := sb.out.cell 1; have m9 : True := trivial))
              | fail)
            clear c9_tb_0 c9_tb_1 c9_sb_0 c9_sb_1
            refine ordNext.mk x8 ?_
            refine ord_one (pick_cons rfl pick_nil) ?_; intro K_ hK_
            go_wp2_with (first
              | (go_at_call 9; have mk := m9; clear m9 mk; go_loud (refine (beyond_at (v := true) A8 c8 n8 M8 et At nt ct lt _ (Lib.hid (by rw [HV8.out, beyond_join, HQA.out, HQB.out]; rfl)) HN8 T8 (Lib.hid (ST.out.ext XX.out))).mono ?_); rintro e w9 ⟨rfl, x9⟩; go_loud (have Z9 : Hid (w8.heap.size ≤ w9.heap.size) := Lib.hid (by have q := (x9.size); simpa using q); have y9 : Ext (w8) (w9) := x9; have tb := Lib.hid (tb.out.ext y9); have sb := Lib.hid (sb.out.ext y9); have T4 := Lib.hid (T4.out.ext y9); have T8 := Lib.hid (T8.out.ext y9); have XX := Lib.hid (XX.out.trans y9); clear y9; have c10_tb_0 : (w9).cell? ⟨w.heap.size, 0, none⟩ = some (.int .u64 et) := tb.out.cell 0; have c10_tb_1 : (w9).cell? ⟨w.heap.size, 1, none⟩ = some (.slice At nt ct) := tb.out.cell 1; have c10_sb_0 : (w9).cell? ⟨(w.heap.size + 1), 0, none⟩ = some (.int .u64 es) := sb.out.cell 0; have c10_sb_1 : (w9).cell? ⟨(w.heap.size + 1), 1, none⟩ = some (.slice As ns cs) := sb.out.cell 1; have m10 : True := trivial))
              | fail)
            clear c10_tb_0 c10_tb_1 c10_sb_0 c10_sb_1
            (refine ord_flo (pick_cons rfl (pick_cons rfl (pick_cons rfl (pick_cons rfl (pick_cons rfl pick_nil))))) ?_; (repeat (go_big_quiet_step (fail))); refine wpQuiet_nil ?_; show ordWalk _ _ _ _ _ _ _)
            refine ord_one (pick_cons rfl pick_nil) ?_; intro K_ hK_
            go_wp2_with (first
              | (go_at_call 11; have mk := m10; clear m10 mk; go_loud (refine (chleq_at (v := true) A4 Aa c4 ca n4 na M4 La _ (Lib.hid (by rw [HV4.out]; exact leqV_of1 _)) HN4 HNa T4 (Lib.hid (TA.out.ext XX.out))).mono ?_); rintro e w10 ⟨rfl, x10⟩; go_loud (have Z10 : Hid (w9.heap.size ≤ w10.heap.size) := Lib.hid (by have q := (x10.size); simpa using q); have y10 : Ext (w9) (w10) := x10; have tb := Lib.hid (tb.out.ext y10); have sb := Lib.hid (sb.out.ext y10); have T4 := Lib.hid (T4.out.ext y10); have XX := Lib.hid (XX.out.trans y10); clear y10; have c11_tb_0 : (w10).cell? ⟨w.heap.size, 0, none⟩ = some (.int .u64 et) := tb.out.cell 0; have c11_tb_1 : (w10).cell? ⟨w.heap.size, 1, none⟩ = some (.slice At nt ct) := tb.out.cell 1; have c11_sb_0 : (w10).cell? ⟨(w.heap.size + 1), 0, none⟩ = some (.int .u64 es) := sb.out.cell 0; have c11_sb_1 : (w10).cell? ⟨(w.heap.size + 1), 1, none⟩ = some (.slice As ns cs) := sb.out.cell 1; have m11 : True := trivial))
              | fail)
            clear c11_tb_0 c11_tb_1 c11_sb_0 c11_sb_1
            (refine ord_flo (pick_cons rfl (pick_cons rfl (pick_cons rfl (pick_cons rfl pick_nil)))) ?_; (repeat (go_big_quiet_step (fail))); refine wpQuiet_nil ?_; show ordWalk _ _ _ _ _ _ _)
            refine ord_one (pick_cons rfl pick_nil) ?_; intro K_ hK_
            go_wp2_with (first
              | (go_at_call 11; have mk := m11; clear m11 mk; go_loud (refine (chleq_at (v := true) Aa A4 ca c4 na n4 La M4 _ (Lib.hid (by rw [HV4.out]; exact leqV_of2 _)) HNa HN4 (Lib.hid (TA.out.ext XX.out)) T4).mono ?_); rintro e w11 ⟨rfl, x11⟩; go_loud (have Z11 : Hid (w10.heap.size ≤ w11.heap.size) := Lib.hid (by have q := (x11.size); simpa using q); have y11 : Ext (w10) (w11) := x11; have tb := Lib.hid (tb.out.ext y11); have sb := Lib.hid (sb.out.ext y11); have T4 := Lib.hid (T4.out.ext y11); have XX := Lib.hid (XX.out.trans y11); clear y11; have c12_tb_0 : (w11).cell? ⟨w.heap.size, 0, none⟩ = some (.int .u64 et) := tb.out.cell 0; have c12_tb_1 : (w11).cell? ⟨w.heap.size, 1, none⟩ = some (.slice At nt ct) := tb.out.cell 1; have c12_sb_0 : (w11).cell? ⟨(w.heap.size + 1), 0, none⟩ = some (.int .u64 es) := sb.out.cell 0; have c12_sb_1 : (w11).cell? ⟨(w.heap.size + 1), 1, none⟩ = some (.slice As ns cs) := sb.out.cell 1; have m12 : True := trivial))
              | fail)
            clear c12_tb_0 c12_tb_1 c12_sb_0 c12_sb_1
            (refine ord_flo (pick_cons rfl (pick_cons rfl pick_nil)) ?_; (repeat (go_big_quiet_step (fail))); refine wpQuiet_nil ?_; show ordWalk _ _ _ _ _ _ _)
            refine ord_fin ?_
            have c13_tb_0 : (w11).cell? ⟨w.heap.size, 0, none⟩ = some (.int .u64 et) := tb.out.cell 0; have c13_tb_1 : (w11).cell? ⟨w.heap.size, 1, none⟩ = some (.slice At nt ct) := tb.out.cell 1; have c13_sb_0 : (w11).cell? ⟨(w.heap.size + 1), 0, none⟩ = some (.int .u64 es) := sb.out.cell 0; have c13_sb_1 : (w11).cell? ⟨(w.heap.size + 1), 1, none⟩ = some (.slice As ns cs) := sb.out.cell 1
            go_wp2_with (first
              | (go_at_call 12; have mk := m12; clear m12 mk; go_loud (refine (advance_at (v := (ve, vl)) Aa ca na La es As ns cs ls _ HVV HNa (Lib.hid (TA.out.ext XX.out)) FA (Lib.hid (SS.out.ext XX.out)) us (by omega) (by omega)).mono ?_); rintro e w12 ⟨A12, n12, c12, rfl, h12, s12, x12⟩; go_loud (clear c13_tb_0 c13_tb_1 c13_sb_0 c13_sb_1; have Z12 : Hid (w11.heap.size ≤ w12.heap.size) := Lib.hid (by have q := (x12.size); simpa using q); have y12 : Ext (w11) (w12) := x12; have tb := Lib.hid (tb.out.ext y12); have sb := Lib.hid (sb.out.ext y12); have T4 := Lib.hid (T4.out.ext y12); have XX := Lib.hid (XX.out.trans y12); clear y12; dsimp only at s12 h12; have HS12 := Lib.hid s12; have HL12 := Lib.hid h12; clear s12 h12; have c14_tb_0 : (w12).cell? ⟨w.heap.size, 0, none⟩ = some (.int .u64 et) := tb.out.cell 0; have c14_tb_1 : (w12).cell? ⟨w.heap.size, 1, none⟩ = some (.slice At nt ct) := tb.out.cell 1; have c14_sb_0 : (w12).cell? ⟨(w.heap.size + 1), 0, none⟩ = some (.int .u64 es) := sb.out.cell 0; have c14_sb_1 : (w12).cell? ⟨(w.heap.size + 1), 1, none⟩ = some (.slice As ns cs) := sb.out.cell 1; have m13 : True := trivial))
              | fail)
            clear c14_tb_0 c14_tb_1 c14_sb_0 c14_sb_1
            obtain ⟨w30, hw30⟩ : ∃ w30, w30 = w12.alloc (Obj.cells #[Value.int .u64 ve, Value.slice A12 n12 c12] 26) := ⟨_, rfl⟩
            have X30 : Ext w12 w30 := hw30 ▸ (Ext.refl _).alloc _
            have vb : Hid (Bk w30 w12.heap.size 26 #[.int .u64 ve, .slice A12 n12 c12]) := Lib.hid (by subst hw30; exact Bk.new _ _ _)
            have SV : Hid (Sl w30 1 A12 n12 c12 (wds vl)) := Lib.hid (HS12.out.sl.ext X30)
            rw [← hw30]
            clear hw30
            have XX := Lib.hid (XX.out.trans X30); have tb := Lib.hid (tb.out.ext X30); have sb := Lib.hid (sb.out.ext X30); have T4 := Lib.hid (T4.out.ext X30)
            have tbc0 : ∀ y : Xt (w30), y.W.cell? ⟨w.heap.size, 0, none⟩ = some (.int .u64 et) := fun y => (tb.out.ext y.x).cell 0
            have tbc1 : ∀ y : Xt (w30), y.W.cell? ⟨w.heap.size, 1, none⟩ = some (.slice At nt ct) := fun y => (tb.out.ext y.x).cell 1
            have sbc0 : ∀ y : Xt (w30), y.W.cell? ⟨w.heap.size + 1, 0, none⟩ = some (.int .u64 es) := fun y => (sb.out.ext y.x).cell 0
            have sbc1 : ∀ y : Xt (w30), y.W.cell? ⟨w.heap.size + 1, 1, none⟩ = some (.slice As ns cs) := fun y => (sb.out.ext y.x).cell 1
            have vbc0 : ∀ y : Xt (w30), y.W.cell? ⟨w12.heap.size, 0, none⟩ = some (.int .u64 ve) := fun y => (vb.out.ext y.x).cell 0
            have vbc1 : ∀ y : Xt (w30), y.W.cell? ⟨w12.heap.size, 1, none⟩ = some (.slice A12 n12 c12) := fun y => (vb.out.ext y.x).cell 1
            have TAY : ∀ y : Xt w30, Hid (Tin y.W Aa ca La) := fun y => Lib.hid (TA.out.ext (XX.out.trans y.x))
            have STY : ∀ y : Xt w30, Hid (Sl y.W 1 At nt ct (wds lt)) := fun y => Lib.hid (ST.out.ext (XX.out.trans y.x))
            have SSY : ∀ y : Xt w30, Hid (Sl y.W 1 As ns cs (wds ls)) := fun y => Lib.hid (SS.out.ext (XX.out.trans y.x))
            have SVY : ∀ y : Xt w30, Hid (Sl y.W 1 A12 n12 c12 (wds vl)) := fun y => Lib.hid (SV.out.ext y.x)
            have XF := Lib.hid XX.out
            by_cases hns : nt = ns
            · have HA : Hid (tleq (es, ls) (et, lt) = tleq (ve, vl) (et, lt)) := Lib.hid (by rw [← HVV.out]; exact adv_law HQA.out (by have a := ST.out.wlen; have b := SS.out.wlen; show ls.length = lt.length; omega))
              subst hns
              rcases h1 : tleq (es, ls) (et, lt) with _ | _
              · have HT1 := Lib.hid h1
                have HT2 := Lib.hid (HA.out.symm.trans h1)
                clear h1
                (refine wp_region_ext (by kernel_rfl) (by kernel_rfl) ?_; (repeat (go_big_quiet_step (first | (go_at_call 9; exact call_ext (beyond_at (v := true) Aa ca na La et At nt ct lt _ HQA HNa (TAY _) (STY _))) | (go_at_call 8; with_reducible exact call_ext (tq_at es et As At nt nt cs ct ls lt _ HT1 (SSY _) (STY _))) | (go_at_call 8; with_reducible exact call_ext (tq_at ve et A12 At n12 nt c12 ct vl lt _ HT2 (SVY _) (STY _)))))); refine wpQuiet_nil ?_; rintro _ ⟨y, rfl⟩)
                go_wp2
                go_ret
                exact ⟨rfl, XF.out.trans y.x⟩
              · have HT1 := Lib.hid h1
                have HT2 := Lib.hid (HA.out.symm.trans h1)
                clear h1
                (refine wp_region_ext (by kernel_rfl) (by kernel_rfl) ?_; (repeat (go_big_quiet_step (first | (go_at_call 9; exact call_ext (beyond_at (v := true) Aa ca na La et At nt ct lt _ HQA HNa (TAY _) (STY _))) | (go_at_call 8; with_reducible exact call_ext (tq_at es et As At nt nt cs ct ls lt _ HT1 (SSY _) (STY _))) | (go_at_call 8; with_reducible exact call_ext (tq_at ve et A12 At n12 nt c12 ct vl lt _ HT2 (SVY _) (STY _)))))); refine wpQuiet_nil ?_; rintro _ ⟨y, rfl⟩)
                go_wp2
                go_ret
                exact ⟨rfl, XF.out.trans y.x⟩
            · have hq9 : ((ns : Int) == (nt : Int)) = false := by simp; omega
              (refine wp_region_ext (by kernel_rfl) (by kernel_rfl) ?_; (repeat (go_big_quiet_step ((go_at_call 9; exact call_ext (beyond_at (v := true) Aa ca na La et At nt ct lt _ HQA HNa (TAY _) (STY _)))))); refine wpQuiet_nil ?_; rintro _ ⟨y, rfl⟩)
              go_wp2
              go_ret
              exact ⟨rfl, XX.out.trans y.x⟩

set_option maxRecDepth 100000 in
set_option maxHeartbeats 16000000 in
theorem beyl_false (et es : Int) (Aa Ab At As : Option Addr) (na nb nt ns ca cb ct cs : Nat) (La Lb : List Tm) (lt ls : List Int) (w : World) (G : Pow w) (HNa : Hid (na = La.length)) (HNb : Hid (nb = Lb.length))
    (TA : Hid (Tin w Aa ca La)) (TB : Hid (Tin w Ab cb Lb)) (ST : Hid (Sl w 1 At nt ct (wds lt))) (SS : Hid (Sl w 1 As ns cs (wds ls))) (zt : nt ≤ 140737488355328) (zs : ns ≤ 140737488355328) (HMa : Hid (muchV (La.map Tm.v) = false)) (HMb : Hid (muchV (Lb.map Tm.v) = false)) (ha : na ≤ 60) (hb : nb ≤ 60) (hnt : nt + ns ≤ 60) (us : U32 ls) (FA : Hid (Fine La)) (FB : Hid (Fine Lb)) (HQA : Hid (beyondV (La.map Tm.v) (et, lt) = false)) :
    Calls Tryd.prog 3 #[.slice Aa na ca, .slice Ab nb cb, .agg #[.int .u64 et, .slice At nt ct], .agg #[.int .u64 es, .slice As ns cs]] w fun e w' => e = .returned (.bool true) ∧ Ext w w' := by
  have XX : Hid (Ext w ((w.alloc (.cells #[.int .u64 et, .slice At nt ct] 26)).alloc (.cells #[.int .u64 es, .slice As ns cs] 26))) := Lib.hid (((Ext.refl w).alloc _).alloc _)
  have tb : Hid (Bk ((w.alloc (.cells #[.int .u64 et, .slice At nt ct] 26)).alloc (.cells #[.int .u64 es, .slice As ns cs] 26)) w.heap.size 26 #[.int .u64 et, .slice At nt ct]) := Lib.hid ((Bk.new w _ _).alloc _)
  have sb : Hid (Bk ((w.alloc (.cells #[.int .u64 et, .slice At nt ct] 26)).alloc (.cells #[.int .u64 es, .slice As ns cs] 26)) (w.heap.size + 1) 26 #[.int .u64 es, .slice As ns cs]) := Lib.hid (Bk.at (by simp))
  have m1 : True := trivial
  have HZ0 : nt ≤ 60 := by omega
  obtain ⟨vv, hvv⟩ : ∃ vv, advV (La.map Tm.v) (es, ls) = vv := ⟨_, rfl⟩
  obtain ⟨ve, vl⟩ := vv
  have HVV := Lib.hid hvv
  clear hvv
  go_enter Tryd.func3, Tryd.ntmps3
  go_wp2_with (first
    | (go_at_call 5; have mk := m1; clear m1 mk; go_loud (refine (much5_at (v := false) Aa ca na La _ HMa HNa (Lib.hid (TA.out.ext XX.out))).mono ?_); rintro e w1 ⟨rfl, x1⟩; go_loud (have Z1 : Hid (w.heap.size + 1 + 1 ≤ w1.heap.size) := Lib.hid (by have q := (x1.size); simpa using q); have y1 : Ext ((w.alloc (.cells #[.int .u64 et, .slice At nt ct] 26)).alloc (.cells #[.int .u64 es, .slice As ns cs] 26)) (w1) := x1; have tb := Lib.hid (tb.out.ext y1); have sb := Lib.hid (sb.out.ext y1); have XX := Lib.hid (XX.out.trans y1); clear y1; have c1_tb_0 : (w1).cell? ⟨w.heap.size, 0, none⟩ = some (.int .u64 et) := tb.out.cell 0; have c1_tb_1 : (w1).cell? ⟨w.heap.size, 1, none⟩ = some (.slice At nt ct) := tb.out.cell 1; have c1_sb_0 : (w1).cell? ⟨(w.heap.size + 1), 0, none⟩ = some (.int .u64 es) := sb.out.cell 0; have c1_sb_1 : (w1).cell? ⟨(w.heap.size + 1), 1, none⟩ = some (.slice As ns cs) := sb.out.cell 1; have m2 : True := trivial))
    | (go_at_call 5; have mk := m2; clear m2 mk; go_loud (refine (much5_at (v := false) Ab cb nb Lb _ HMb HNb (Lib.hid (TB.out.ext XX.out))).mono ?_); rintro e w2 ⟨rfl, x2⟩; go_loud (clear c1_tb_0 c1_tb_1 c1_sb_0 c1_sb_1; have Z2 : Hid (w1.heap.size ≤ w2.heap.size) := Lib.hid (by have q := (x2.size); simpa using q); have y2 : Ext (w1) (w2) := x2; have tb := Lib.hid (tb.out.ext y2); have sb := Lib.hid (sb.out.ext y2); have XX := Lib.hid (XX.out.trans y2); clear y2; have c2_tb_0 : (w2).cell? ⟨w.heap.size, 0, none⟩ = some (.int .u64 et) := tb.out.cell 0; have c2_tb_1 : (w2).cell? ⟨w.heap.size, 1, none⟩ = some (.slice At nt ct) := tb.out.cell 1; have c2_sb_0 : (w2).cell? ⟨(w.heap.size + 1), 0, none⟩ = some (.int .u64 es) := sb.out.cell 0; have c2_sb_1 : (w2).cell? ⟨(w.heap.size + 1), 1, none⟩ = some (.slice As ns cs) := sb.out.cell 1; have m3 : True := trivial))
    | (go_at_call 6; have mk := m3; clear m3 mk; go_loud (refine (known_true _ (G.ext XX.out)).mono ?_); rintro e w3 ⟨rfl, x3⟩; go_loud (clear c2_tb_0 c2_tb_1 c2_sb_0 c2_sb_1; have Z3 : Hid (w2.heap.size ≤ w3.heap.size) := Lib.hid (by have q := (x3.size); simpa using q); have y3 : Ext (w2) (w3) := x3; have tb := Lib.hid (tb.out.ext y3); have sb := Lib.hid (sb.out.ext y3); have XX := Lib.hid (XX.out.trans y3); clear y3; have c3_tb_0 : (w3).cell? ⟨w.heap.size, 0, none⟩ = some (.int .u64 et) := tb.out.cell 0; have c3_tb_1 : (w3).cell? ⟨w.heap.size, 1, none⟩ = some (.slice At nt ct) := tb.out.cell 1; have c3_sb_0 : (w3).cell? ⟨(w.heap.size + 1), 0, none⟩ = some (.int .u64 es) := sb.out.cell 0; have c3_sb_1 : (w3).cell? ⟨(w.heap.size + 1), 1, none⟩ = some (.slice As ns cs) := sb.out.cell 1; have m4 : True := trivial))
    | (go_at_call 7; have mk := m4; clear m4 mk; go_loud (refine (of_at (V := ofV (La.map Tm.v)) Aa ca na La _ (Lib.hid rfl) HNa (Lib.hid (TA.out.ext XX.out)) (Lib.hid (fine_len FA.out)) (by omega)).mono ?_); rintro e w4 ⟨A4, c4, n4, M4, rfl, h4, t4, v4, x4⟩; go_loud (clear c3_tb_0 c3_tb_1 c3_sb_0 c3_sb_1; have Z4 : Hid (w3.heap.size ≤ w4.heap.size) := Lib.hid (by have q := (x4.size); simpa using q); have y4 : Ext (w3) (w4) := x4; have tb := Lib.hid (tb.out.ext y4); have sb := Lib.hid (sb.out.ext y4); have XX := Lib.hid (XX.out.trans y4); clear y4; have T4 := Lib.hid (t4.tin); have HN4 := Lib.hid h4; have HV4 := Lib.hid v4; clear h4 t4 v4; have c4_tb_0 : (w4).cell? ⟨w.heap.size, 0, none⟩ = some (.int .u64 et) := tb.out.cell 0; have c4_tb_1 : (w4).cell? ⟨w.heap.size, 1, none⟩ = some (.slice At nt ct) := tb.out.cell 1; have c4_sb_0 : (w4).cell? ⟨(w.heap.size + 1), 0, none⟩ = some (.int .u64 es) := sb.out.cell 0; have c4_sb_1 : (w4).cell? ⟨(w.heap.size + 1), 1, none⟩ = some (.slice As ns cs) := sb.out.cell 1; have m5 : True := trivial))
    | fail)
  clear c4_tb_0 c4_tb_1 c4_sb_0 c4_sb_1
  have HQO : Hid (beyondV (M4.map Tm.v) (et, lt) = false) := Lib.hid (by rw [HV4.out, beyond_ofV]; exact HQA.out)
  go_loopg [10, 11] na (fun z v10 v11 wr => ∃ (k : Nat) (b : Bool), z = na - k ∧ k ≤ na ∧ v11 = .int .i64 k ∧ v10 = .bool b ∧ Hid (beyondV ((La.map Tm.v).take k) (et, lt) = b) ∧ Hid (Ext w4 wr))
  case atStart => exact ⟨0, false, rfl, Nat.zero_le _, rfl, rfl, Lib.hid rfl, Lib.hid (Ext.refl _)⟩
  case round =>
    obtain ⟨k, b, rfl, hk, rfl, rfl, HB, HE⟩ := hrel
    by_cases hlt : k < na
    · have b0 : ∀ y : Xt wr, y.W.cell? ⟨w.heap.size, 0, none⟩ = some (.int .u64 et) := fun y => (tb.out.ext (HE.out.trans y.x)).cell 0
      have b1 : ∀ y : Xt wr, y.W.cell? ⟨w.heap.size, 1, none⟩ = some (.slice At nt ct) := fun y => (tb.out.ext (HE.out.trans y.x)).cell 1
      have hkL : k < La.length := by rw [← HNa.out]; exact hlt
      obtain ⟨ad, rfl, q0, q1⟩ := (TA.out.ext (XX.out.trans HE.out)).at (i := k) hkL
      have qq0 : ∀ y : Xt wr, y.W.cell? (ad.add (k * 2)) = some (.int .u64 (La.getD k Tm.zero).e) := fun y => y.x.cell q0
      have qq1 : ∀ y : Xt wr, y.W.cell? ⟨(ad.add (k * 2)).block, (ad.add (k * 2)).off + 1, none⟩ = some (.slice (La.getD k Tm.zero).A (La.getD k Tm.zero).l.length (La.getD k Tm.zero).c) := fun y => y.x.cell q1
      have HXS : ∀ y : Xt wr, Hid (Sl y.W 1 (La.getD k Tm.zero).A (La.getD k Tm.zero).l.length (La.getD k Tm.zero).c (wds (La.getD k Tm.zero).l)) := fun y => Lib.hid ((TA.out.ext ((XX.out.trans HE.out).trans y.x)).ls _ (getT_mem hkL))
      have STY : ∀ y : Xt wr, Hid (Sl y.W 1 At nt ct (wds lt)) := fun y => Lib.hid (ST.out.ext ((XX.out.trans HE.out).trans y.x))
      have HKV := Lib.hid (map_at hkL)
      clear q0 q1
      obtain ⟨x, hx⟩ : ∃ x, La.getD k Tm.zero = x := ⟨_, rfl⟩
      rw [hx] at HKV
      simp only [hx] at qq0 qq1 HXS
      clear hx hkL
      obtain ⟨f, Ax, cx, lx⟩ := x
      obtain ⟨nx, hnx⟩ : ∃ nx, lx.length = nx := ⟨_, rfl⟩
      dsimp only at qq0 qq1 HXS
      simp only [hnx] at qq1 HXS
      clear hnx
      cases b with
      | true =>
        go_wp2
        (refine wp_region_ext (by kernel_rfl) (by kernel_rfl) ?_; (repeat (go_big_quiet_step (fail))); refine wpQuiet_nil ?_; rintro _ ⟨y, rfl⟩)
        go_wp2
        go_roundg (na - (k + 1))
        case measure => omega
        case rel =>
          exact ⟨k + 1, true, by omega, by omega, by go_num, rfl, Lib.hid (by obtain ⟨h1, h2⟩ := HKV.out; rw [beyond_take h1, HB.out]; rfl), Lib.hid (HE.out.trans y.x)⟩
      | false =>
        rcases hq : tleq (f, lx) (et, lt) with _ | _
        all_goals
          have HT1 := Lib.hid hq
          clear hq
          go_wp2
          (refine wp_region_ext (by kernel_rfl) (by kernel_rfl) ?_; (repeat (go_big_quiet_step ((go_at_call 8; exact call_ext (tq_at f et Ax At nx nt cx ct lx lt _ HT1 (HXS _) (STY _)))))); refine wpQuiet_nil ?_; rintro _ ⟨y, rfl⟩)
          go_wp2
          go_roundg (na - (k + 1))
          case measure => omega
          case rel =>
            exact ⟨k + 1, _, by omega, by omega, by go_num, rfl, Lib.hid (by obtain ⟨h1, h2⟩ := HKV.out; rw [beyond_take h1, HB.out, h2]; exact HT1.out), Lib.hid (HE.out.trans y.x)⟩
    · obtain rfl : na = k := by omega
      obtain rfl : b = false := by
        have := HB.out
        rw [show (La.map Tm.v).take na = (La.map Tm.v) from List.take_of_length_le (by rw [List.length_map, HNa.out]; exact Nat.le_refl _), HQA.out] at this
        exact this.symm
      clear HB
      obtain ⟨u5, hu5⟩ : ∃ u5 : World, u5 = wr := ⟨_, rfl⟩
      rw [← hu5] at HE ⊢
      clear hu5
      have XX := Lib.hid (XX.out.trans HE.out)
      have tb := Lib.hid (tb.out.ext HE.out)
      have sb := Lib.hid (sb.out.ext HE.out)
      have T4 := Lib.hid (T4.out.ext HE.out)
      clear HE
      have h4m : n4 ≤ 9223372036854775807 := by rw [HN4.out]; exact T4.out.sl.le
      go_wp2
      go_loopg [12] n4 (fun z v12 wr => ∃ (i : Nat), z = n4 - i ∧ i ≤ n4 ∧ v12 = .int .i64 i ∧ Hid (Ext u5 wr))
      case atStart => exact ⟨0, rfl, Nat.zero_le _, rfl, Lib.hid (Ext.refl _)⟩
      case round =>
        obtain ⟨i, rfl, hi, rfl, HE⟩ := hrel
        by_cases hli : i < n4
        · obtain ⟨u6, hu6⟩ : ∃ u6 : World, u6 = wr := ⟨_, rfl⟩
          rw [← hu6] at HE ⊢
          clear hu6
          go_wp2
          go_loopg [13] n4 (fun z v13 wr => ∃ (j : Nat), z = n4 - j ∧ j ≤ n4 ∧ v13 = .int .i64 j ∧ Hid (Ext u5 wr))
          case atStart => exact ⟨0, rfl, Nat.zero_le _, rfl, HE⟩
          case round =>
            obtain ⟨j, rfl, hj, rfl, HE⟩ := hrel
            by_cases hlj : j < n4
            · by_cases hij : i = j
              · subst hij
                go_wp2
                (refine wp_region_ext (by kernel_rfl) (by kernel_rfl) ?_; (repeat (go_big_quiet_step (fail))); refine wpQuiet_nil ?_; rintro _ ⟨y, rfl⟩)
                go_wp2
                go_roundg (n4 - (i + 1))
                case measure => omega
                case rel => exact ⟨i + 1, by omega, by omega, by go_num, Lib.hid (HE.out.trans y.x)⟩
              · have hi4 : i < M4.length := by rw [← HN4.out]; exact hli
                have hj4 : j < M4.length := by rw [← HN4.out]; exact hlj
                have HT1 : Hid (tleq (M4.getD i Tm.zero).v (M4.getD j Tm.zero).v = false) := Lib.hid (of_apart_at HV4.out hi4 hj4 hij)
                obtain ⟨ad, e4, q0, q1⟩ := (T4.out.ext HE.out).at (i := i) hi4
                obtain ⟨ad', e4', r0, r1⟩ := (T4.out.ext HE.out).at (i := j) hj4
                obtain rfl : ad = ad' := by rw [e4] at e4'; injection e4'
                clear e4'
                have HIS : ∀ y : Xt wr, Hid (Sl y.W 1 (M4.getD i Tm.zero).A (M4.getD i Tm.zero).l.length (M4.getD i Tm.zero).c (wds (M4.getD i Tm.zero).l)) := fun y => Lib.hid ((T4.out.ext (HE.out.trans y.x)).ls _ (getT_mem hi4))
                have HJS : ∀ y : Xt wr, Hid (Sl y.W 1 (M4.getD j Tm.zero).A (M4.getD j Tm.zero).l.length (M4.getD j Tm.zero).c (wds (M4.getD j Tm.zero).l)) := fun y => Lib.hid ((T4.out.ext (HE.out.trans y.x)).ls _ (getT_mem hj4))
                have HIJ := Lib.hid hij
                have hne : ((i : Int) != (j : Int)) = true := by simp; omega
                have hne2 : ((i : Int) = (j : Int)) = False := by simp; omega
                obtain ⟨x, hx⟩ : ∃ x, M4.getD i Tm.zero = x := ⟨_, rfl⟩
                obtain ⟨u, hu⟩ : ∃ u, M4.getD j Tm.zero = u := ⟨_, rfl⟩
                rw [hx] at q0 q1
                rw [hu] at r0 r1
                rw [hx, hu] at HT1
                simp only [hx] at HIS
                simp only [hu] at HJS
                clear hx hu hi4 hj4
                obtain ⟨f, Ax, cx, lx⟩ := x
                obtain ⟨h, Au, cu, lu⟩ := u
                obtain ⟨nx, hnx⟩ : ∃ nx, lx.length = nx := ⟨_, rfl⟩
                obtain ⟨nu, hnu⟩ : ∃ nu, lu.length = nu := ⟨_, rfl⟩
                dsimp only at q0 q1 r0 r1 HIS HJS
                rw [hnx] at q1
                rw [hnu] at r1
                simp only [hnx] at HIS
                simp only [hnu] at HJS
                clear hnx hnu
                have qq0 : ∀ y : Xt wr, y.W.cell? (ad.add (i * 2)) = some (.int .u64 f) := fun y => y.x.cell q0
                have qq1 : ∀ y : Xt wr, y.W.cell? ⟨(ad.add (i * 2)).block, (ad.add (i * 2)).off + 1, none⟩ = some (.slice Ax nx cx) := fun y => y.x.cell q1
                have rr0 : ∀ y : Xt wr, y.W.cell? (ad.add (j * 2)) = some (.int .u64 h) := fun y => y.x.cell r0
                have rr1 : ∀ y : Xt wr, y.W.cell? ⟨(ad.add (j * 2)).block, (ad.add (j * 2)).off + 1, none⟩ = some (.slice Au nu cu) := fun y => y.x.cell r1
                clear q0 q1 r0 r1
                subst e4
                go_wp2
                (refine wp_region_ext (by kernel_rfl) (by kernel_rfl) ?_; (repeat (go_big_quiet_step ((go_at_call 8; exact call_ext (tq_at f h Ax Au nx nu cx cu lx lu _ HT1 (HIS _) (HJS _)))))); refine wpQuiet_nil ?_; rintro _ ⟨y, rfl⟩)
                go_wp2
                go_roundg (n4 - (j + 1))
                case measure => omega
                case rel => exact ⟨j + 1, by omega, by omega, by go_num, Lib.hid (HE.out.trans y.x)⟩
            · obtain rfl : n4 = j := by omega
              go_wp2
              go_roundg (n4 - (i + 1))
              case measure => omega
              case rel => exact ⟨i + 1, by omega, by omega, by go_num, HE⟩
        · obtain rfl : n4 = i := by omega
          have XX := Lib.hid (XX.out.trans HE.out)
          have tb := Lib.hid (tb.out.ext HE.out)
          have sb := Lib.hid (sb.out.ext HE.out)
          have T4 := Lib.hid (T4.out.ext HE.out)
          have c5_tb_0 : (wr).cell? ⟨w.heap.size, 0, none⟩ = some (.int .u64 et) := tb.out.cell 0; have c5_tb_1 : (wr).cell? ⟨w.heap.size, 1, none⟩ = some (.slice At nt ct) := tb.out.cell 1; have c5_sb_0 : (wr).cell? ⟨(w.heap.size + 1), 0, none⟩ = some (.int .u64 es) := sb.out.cell 0; have c5_sb_1 : (wr).cell? ⟨(w.heap.size + 1), 1, none⟩ = some (.slice As ns cs) := sb.out.cell 1
          go_wp2_with (first
            | (go_at_call 9; have mk := m5; clear m5 mk; go_loud (refine (beyond_at (v := false) Aa ca na La et At nt ct lt _ HQA HNa (Lib.hid (TA.out.ext XX.out)) (Lib.hid (ST.out.ext XX.out))).mono ?_); rintro e w5 ⟨rfl, x5⟩; go_loud (clear c5_tb_0 c5_tb_1 c5_sb_0 c5_sb_1; have Z5 : Hid (wr.heap.size ≤ w5.heap.size) := Lib.hid (by have q := (x5.size); simpa using q); have y5 : Ext (wr) (w5) := x5; have tb := Lib.hid (tb.out.ext y5); have sb := Lib.hid (sb.out.ext y5); have T4 := Lib.hid (T4.out.ext y5); have XX := Lib.hid (XX.out.trans y5); clear y5; have c6_tb_0 : (w5).cell? ⟨w.heap.size, 0, none⟩ = some (.int .u64 et) := tb.out.cell 0; have c6_tb_1 : (w5).cell? ⟨w.heap.size, 1, none⟩ = some (.slice At nt ct) := tb.out.cell 1; have c6_sb_0 : (w5).cell? ⟨(w.heap.size + 1), 0, none⟩ = some (.int .u64 es) := sb.out.cell 0; have c6_sb_1 : (w5).cell? ⟨(w.heap.size + 1), 1, none⟩ = some (.slice As ns cs) := sb.out.cell 1; have m6 : True := trivial))
            | fail)
          have XD : Ext w5 w5.drew := (Ext.refl _).drew
          clear c6_tb_0 c6_tb_1 c6_sb_0 c6_sb_1
          have XX := Lib.hid (XX.out.trans XD); have tb := Lib.hid (tb.out.ext XD); have sb := Lib.hid (sb.out.ext XD); have T4 := Lib.hid (T4.out.ext XD)
          have tba0 : ∀ y : Xt (w5.drew), y.W.cell? ⟨w.heap.size, 0, none⟩ = some (.int .u64 et) := fun y => (tb.out.ext y.x).cell 0
          have tba1 : ∀ y : Xt (w5.drew), y.W.cell? ⟨w.heap.size, 1, none⟩ = some (.slice At nt ct) := fun y => (tb.out.ext y.x).cell 1
          refine wp_region_ord [0,0,3,0,15,31,63,63,255,63,1023,63,4095,8191,16383,32767,32767,131071,262143,524287,1048575,1048575,4194303,8388607,16777215] (.flo [0,1] (.pur [3] (.one 2 (.flo [4,5,6,7,9] (.pur [11] (.ext 8 (.one 10 (.flo [12,13,14,15,16] (.one 17 (.flo [18,19,20,21] (.one 22 (.flo [23,24] (.fin))))))))))))) (by kernel_rfl) (by kernel_rfl) (by intro _ _ d _ _ h; cases d <;> exact h) ?_
          (refine ord_flo (pick_cons rfl (pick_cons rfl pick_nil)) ?_; (repeat (go_big_quiet_step (fail))); refine wpQuiet_nil ?_; show ordWalk _ _ _ _ _ _ _)
          (refine ord_pur (pick_cons rfl pick_nil) ?_; (repeat (go_big_quiet_step (fail))); refine wpQuiet_nil ?_; show ordWalk _ _ _ _ _ _ _)
          refine ord_one (pick_cons rfl pick_nil) ?_; intro K_ hK_
          go_wp2_with (first
            | (go_at_call 9; have mk := m6; clear m6 mk; go_loud (refine (beyond_at (v := false) A4 c4 n4 M4 et At nt ct lt _ HQO HN4 T4 (Lib.hid (ST.out.ext XX.out))).mono ?_); rintro e w6 ⟨rfl, x6⟩; go_loud (have Z6 : Hid (w5.drew.heap.size ≤ w6.heap.size) := Lib.hid (by have q := (x6.size); simpa using q); have y6 : Ext (w5.drew) (w6) := x6; have tb := Lib.hid (tb.out.ext y6); have sb := Lib.hid (sb.out.ext y6); have T4 := Lib.hid (T4.out.ext y6); have XX := Lib.hid (XX.out.trans y6); clear y6; have c7_tb_0 : (w6).cell? ⟨w.heap.size, 0, none⟩ = some (.int .u64 et) := tb.out.cell 0; have c7_tb_1 : (w6).cell? ⟨w.heap.size, 1, none⟩ = some (.slice At nt ct) := tb.out.cell 1; have c7_sb_0 : (w6).cell? ⟨(w.heap.size + 1), 0, none⟩ = some (.int .u64 es) := sb.out.cell 0; have c7_sb_1 : (w6).cell? ⟨(w.heap.size + 1), 1, none⟩ = some (.slice As ns cs) := sb.out.cell 1; have m7 : True := trivial))
            | fail)
          clear c7_tb_0 c7_tb_1 c7_sb_0 c7_sb_1
          have tbb0 : ∀ y : Xt (w6), y.W.cell? ⟨w.heap.size, 0, none⟩ = some (.int .u64 et) := fun y => (tb.out.ext y.x).cell 0
          have tbb1 : ∀ y : Xt (w6), y.W.cell? ⟨w.heap.size, 1, none⟩ = some (.slice At nt ct) := fun y => (tb.out.ext y.x).cell 1
          (refine ord_flo (pick_cons rfl (pick_cons rfl (pick_cons rfl (pick_cons rfl (pick_cons rfl pick_nil))))) ?_; (repeat (go_big_quiet_step (fail))); refine wpQuiet_nil ?_; show ordWalk _ _ _ _ _ _ _)
          (refine ord_pur (pick_cons rfl pick_nil) ?_; (repeat (go_big_quiet_step (fail))); refine wpQuiet_nil ?_; show ordWalk _ _ _ _ _ _ _)
          refine ord_ext (pick_cons rfl pick_nil) ?_; intro K_ hK_
          go_wp2_with (first
            | (go_at_call 10; have mk := m7; clear m7 mk; go_loud (refine (chjoin_at (V := joinV (La.map Tm.v) (Lb.map Tm.v)) Aa Ab ca cb na nb La Lb _ (Lib.hid rfl) HNa HNb (Lib.hid (TA.out.ext XX.out)) (Lib.hid (TB.out.ext XX.out)) FA FB (by omega) (by omega)).mono ?_); rintro e w7 ⟨A7, c7, n7, M7, rfl, h7, t7, v7, x7⟩; go_loud (have Z7 : Hid (w6.heap.size ≤ w7.heap.size) := Lib.hid (by have q := (x7.size); simpa using q); have y7 : Ext (w6) (w7) := x7; have tb := Lib.hid (tb.out.ext y7); have sb := Lib.hid (sb.out.ext y7); have T4 := Lib.hid (T4.out.ext y7); have XX := Lib.hid (XX.out.trans y7); clear y7; have T7 := Lib.hid (t7.tin); have HN7 := Lib.hid h7; have HV7 := Lib.hid v7; clear h7 t7 v7; have c8_tb_0 : (w7).cell? ⟨w.heap.size, 0, none⟩ = some (.int .u64 et) := tb.out.cell 0; have c8_tb_1 : (w7).cell? ⟨w.heap.size, 1, none⟩ = some (.slice At nt ct) := tb.out.cell 1; have c8_sb_0 : (w7).cell? ⟨(w.heap.size + 1), 0, none⟩ = some (.int .u64 es) := sb.out.cell 0; have c8_sb_1 : (w7).cell? ⟨(w.heap.size + 1), 1, none⟩ = some (.slice As ns cs) := sb.out.cell 1; have m8 : True := trivial))
            | fail)
          clear c8_tb_0 c8_tb_1 c8_sb_0 c8_sb_1
          refine ordNext.mk x7 ?_
          refine ord_one (pick_cons rfl pick_nil) ?_; intro K_ hK_
          go_wp2_with (first
            | (go_at_call 9; have mk := m8; clear m8 mk; go_loud (refine (beyond_at (v := false) A7 c7 n7 M7 et At nt ct lt _ (Lib.hid (by rw [HV7.out, beyond_join, HQA.out]; rfl)) HN7 T7 (Lib.hid (ST.out.ext XX.out))).mono ?_); rintro e w8 ⟨rfl, x8⟩; go_loud (have Z8 : Hid (w7.heap.size ≤ w8.heap.size) := Lib.hid (by have q := (x8.size); simpa using q); have y8 : Ext (w7) (w8) := x8; have tb := Lib.hid (tb.out.ext y8); have sb := Lib.hid (sb.out.ext y8); have T4 := Lib.hid (T4.out.ext y8); have T7 := Lib.hid (T7.out.ext y8); have XX := Lib.hid (XX.out.trans y8); clear y8; have c9_tb_0 : (w8).cell? ⟨w.heap.size, 0, none⟩ = some (.int .u64 et) := tb.out.cell 0; have c9_tb_1 : (w8).cell? ⟨w.heap.size, 1, none⟩ = some (.slice At nt ct) := tb.out.cell 1; have c9_sb_0 : (w8).cell? ⟨(w.heap.size + 1), 0, none⟩ = some (.int .u64 es) := sb.out.cell 0; have c9_sb_1 : (w8).cell? ⟨(w.heap.size + 1), 1, none⟩ = some (.slice As ns cs) := sb.out.cell 1; have m9 : True := trivial))
            | fail)
          clear c9_tb_0 c9_tb_1 c9_sb_0 c9_sb_1
          (refine ord_flo (pick_cons rfl (pick_cons rfl (pick_cons rfl (pick_cons rfl (pick_cons rfl pick_nil))))) ?_; (repeat (go_big_quiet_step (fail))); refine wpQuiet_nil ?_; show ordWalk _ _ _ _ _ _ _)
          refine ord_one (pick_cons rfl pick_nil) ?_; intro K_ hK_
          go_wp2_with (first
            | (go_at_call 11; have mk := m9; clear m9 mk; go_loud (refine (chleq_at (v := true) A4 Aa c4 ca n4 na M4 La _ (Lib.hid (by rw [HV4.out]; exact leqV_of1 _)) HN4 HNa T4 (Lib.hid (TA.out.ext XX.out))).mono ?_); rintro e w9 ⟨rfl, x9⟩; go_loud (have Z9 : Hid (w8.heap.size ≤ w9.heap.size) := Lib.hid (by have q := (x9.size); simpa using q); have y9 : Ext (w8) (w9) := x9; have tb := Lib.hid (tb.out.ext y9); have sb := Lib.hid (sb.out.ext y9); have T4 := Lib.hid (T4.out.ext y9); have XX := Lib.hid (XX.out.trans y9); clear y9; have c10_tb_0 : (w9).cell? ⟨w.heap.size, 0, none⟩ = some (.int .u64 et) := tb.out.cell 0; have c10_tb_1 : (w9).cell? ⟨w.heap.size, 1, none⟩ = some (.slice At nt ct) := tb.out.cell 1; have c10_sb_0 : (w9).cell? ⟨(w.heap.size + 1), 0, none⟩ = some (.int .u64 es) := sb.out.cell 0; have c10_sb_1 : (w9).cell? ⟨(w.heap.size + 1), 1, none⟩ = some (.slice As ns cs) := sb.out.cell 1; have m10 : True := trivial))
            | fail)
          clear c10_tb_0 c10_tb_1 c10_sb_0 c10_sb_1
          (refine ord_flo (pick_cons rfl (pick_cons rfl (pick_cons rfl (pick_cons rfl pick_nil)))) ?_; (repeat (go_big_quiet_step (fail))); refine wpQuiet_nil ?_; show ordWalk _ _ _ _ _ _ _)
          refine ord_one (pick_cons rfl pick_nil) ?_; intro K_ hK_
          go_wp2_with (first
            | (go_at_call 11; have mk := m10; clear m10 mk; go_loud (refine (chleq_at (v := true) Aa A4 ca c4 na n4 La M4 _ (Lib.hid (by rw [HV4.out]; exact leqV_of2 _)) HNa HN4 (Lib.hid (TA.out.ext XX.out)) T4).mono ?_); rintro e w10 ⟨rfl, x10⟩; go_loud (have Z10 : Hid (w9.heap.size ≤ w10.heap.size) := Lib.hid (by have q := (x10.size); simpa using q); have y10 : Ext (w9) (w10) := x10; have tb := Lib.hid (tb.out.ext y10); have sb := Lib.hid (sb.out.ext y10); have T4 := Lib.hid (T4.out.ext y10); have XX := Lib.hid (XX.out.trans y10); clear y10; have c11_tb_0 : (w10).cell? ⟨w.heap.size, 0, none⟩ = some (.int .u64 et) := tb.out.cell 0; have c11_tb_1 : (w10).cell? ⟨w.heap.size, 1, none⟩ = some (.slice At nt ct) := tb.out.cell 1; have c11_sb_0 : (w10).cell? ⟨(w.heap.size + 1), 0, none⟩ = some (.int .u64 es) := sb.out.cell 0; have c11_sb_1 : (w10).cell? ⟨(w.heap.size + 1), 1, none⟩ = some (.slice As ns cs) := sb.out.cell 1; have m11 : True := trivial))
            | fail)
          clear c11_tb_0 c11_tb_1 c11_sb_0 c11_sb_1
          (refine ord_flo (pick_cons rfl (pick_cons rfl pick_nil)) ?_; (repeat (go_big_quiet_step (fail))); refine wpQuiet_nil ?_; show ordWalk _ _ _ _ _ _ _)
          refine ord_fin ?_
          have c12_tb_0 : (w10).cell? ⟨w.heap.size, 0, none⟩ = some (.int .u64 et) := tb.out.cell 0; have c12_tb_1 : (w10).cell? ⟨w.heap.size, 1, none⟩ = some (.slice At nt ct) := tb.out.cell 1; have c12_sb_0 : (w10).cell? ⟨(w.heap.size + 1), 0, none⟩ = some (.int .u64 es) := sb.out.cell 0; have c12_sb_1 : (w10).cell? ⟨(w.heap.size + 1), 1, none⟩ = some (.slice As ns cs) := sb.out.cell 1
          go_wp2_with (first
            | (go_at_call 12; have mk := m11; clear m11 mk; go_loud (refine (advance_at (v := (ve, vl)) Aa ca na La es As ns cs ls _ HVV HNa (Lib.hid (TA.out.ext XX.out)) FA (Lib.hid (SS.out.ext XX.out)) us (by omega) (by omega)).mono ?_); rintro e w11 ⟨A11, n11, c11, rfl, h11, s11, x11⟩; go_loud (clear c12_tb_0 c12_tb_1 c12_sb_0 c12_sb_1; have Z11 : Hid (w10.heap.size ≤ w11.heap.size) := Lib.hid (by have q := (x11.size); simpa using q); have y11 : Ext (w10) (w11) := x11; have tb := Lib.hid (tb.out.ext y11); have sb := Lib.hid (sb.out.ext y11); have T4 := Lib.hid (T4.out.ext y11); have XX := Lib.hid (XX.out.trans y11); clear y11; dsimp only at s11 h11; have HS11 := Lib.hid s11; have HL11 := Lib.hid h11; clear s11 h11; have c13_tb_0 : (w11).cell? ⟨w.heap.size, 0, none⟩ = some (.int .u64 et) := tb.out.cell 0; have c13_tb_1 : (w11).cell? ⟨w.heap.size, 1, none⟩ = some (.slice At nt ct) := tb.out.cell 1; have c13_sb_0 : (w11).cell? ⟨(w.heap.size + 1), 0, none⟩ = some (.int .u64 es) := sb.out.cell 0; have c13_sb_1 : (w11).cell? ⟨(w.heap.size + 1), 1, none⟩ = some (.slice As ns cs) := sb.out.cell 1; have m12 : True := trivial))
            | fail)
          clear c13_tb_0 c13_tb_1 c13_sb_0 c13_sb_1
          obtain ⟨w30, hw30⟩ : ∃ w30, w30 = w11.alloc (Obj.cells #[Value.int .u64 ve, Value.slice A11 n11 c11] 26) := ⟨_, rfl⟩
          have X30 : Ext w11 w30 := hw30 ▸ (Ext.refl _).alloc _
          have vb : Hid (Bk w30 w11.heap.size 26 #[.int .u64 ve, .slice A11 n11 c11]) := Lib.hid (by subst hw30; exact Bk.new _ _ _)
          have SV : Hid (Sl w30 1 A11 n11 c11 (wds vl)) := Lib.hid (HS11.out.sl.ext X30)
          rw [← hw30]
          clear hw30
          have XX := Lib.hid (XX.out.trans X30); have tb := Lib.hid (tb.out.ext X30); have sb := Lib.hid (sb.out.ext X30); have T4 := Lib.hid (T4.out.ext X30)
          have tbc0 : ∀ y : Xt (w30), y.W.cell? ⟨w.heap.size, 0, none⟩ = some (.int .u64 et) := fun y => (tb.out.ext y.x).cell 0
          have tbc1 : ∀ y : Xt (w30), y.W.cell? ⟨w.heap.size, 1, none⟩ = some (.slice At nt ct) := fun y => (tb.out.ext y.x).cell 1
          have sbc0 : ∀ y : Xt (w30), y.W.cell? ⟨w.heap.size + 1, 0, none⟩ = some (.int .u64 es) := fun y => (sb.out.ext y.x).cell 0
          have sbc1 : ∀ y : Xt (w30), y.W.cell? ⟨w.heap.size + 1, 1, none⟩ = some (.slice As ns cs) := fun y => (sb.out.ext y.x).cell 1
          have vbc0 : ∀ y : Xt (w30), y.W.cell? ⟨w11.heap.size, 0, none⟩ = some (.int .u64 ve) := fun y => (vb.out.ext y.x).cell 0
          have vbc1 : ∀ y : Xt (w30), y.W.cell? ⟨w11.heap.size, 1, none⟩ = some (.slice A11 n11 c11) := fun y => (vb.out.ext y.x).cell 1
          have TAY : ∀ y : Xt w30, Hid (Tin y.W Aa ca La) := fun y => Lib.hid (TA.out.ext (XX.out.trans y.x))
          have STY : ∀ y : Xt w30, Hid (Sl y.W 1 At nt ct (wds lt)) := fun y => Lib.hid (ST.out.ext (XX.out.trans y.x))
          have SSY : ∀ y : Xt w30, Hid (Sl y.W 1 As ns cs (wds ls)) := fun y => Lib.hid (SS.out.ext (XX.out.trans y.x))
          have SVY : ∀ y : Xt w30, Hid (Sl y.W 1 A11 n11 c11 (wds vl)) := fun y => Lib.hid (SV.out.ext y.x)
          (refine wp_region_ext (by kernel_rfl) (by kernel_rfl) ?_; (repeat (go_big_quiet_step ((go_at_call 9; exact call_ext (beyond_at (v := false) Aa ca na La et At nt ct lt _ HQA HNa (TAY _) (STY _)))))); refine wpQuiet_nil ?_; rintro _ ⟨y, rfl⟩)
          go_wp2
          go_ret
          exact ⟨rfl, XX.out.trans y.x⟩
theorem beyl_any (et es : Int) (Aa Ab At As : Option Addr) (na nb nt ns ca cb ct cs : Nat) (La Lb : List Tm) (lt ls : List Int) (w : World) (G : Pow w) (HNa : Hid (na = La.length)) (HNb : Hid (nb = Lb.length))
    (TA : Hid (Tin w Aa ca La)) (TB : Hid (Tin w Ab cb Lb)) (ST : Hid (Sl w 1 At nt ct (wds lt))) (SS : Hid (Sl w 1 As ns cs (wds ls))) (zt : nt ≤ 140737488355328) (zs : ns ≤ 140737488355328) (iA : ∀ x ∈ La, TmIn x) (iB : ∀ x ∈ Lb, TmIn x) (us : U32 ls) :
    Calls Tryd.prog 3 #[.slice Aa na ca, .slice Ab nb cb, .agg #[.int .u64 et, .slice At nt ct], .agg #[.int .u64 es, .slice As ns cs]] w fun e w' => e = .returned (.bool true) ∧ Ext w w' := by
  rcases hma : muchV (La.map Tm.v) with _ | _
  case true => exact beyl_ma et es Aa Ab At As na nb nt ns ca cb ct cs La Lb lt ls w G HNa HNb TA TB ST SS zt zs (Lib.hid hma)
  rcases hmb : muchV (Lb.map Tm.v) with _ | _
  case true => exact beyl_mb et es Aa Ab At As na nb nt ns ca cb ct cs La Lb lt ls w G HNa HNb TA TB ST SS zt zs (Lib.hid hma) (Lib.hid hmb)
  by_cases k4 : 60 < nt + ns
  · exact beyl_nt et es Aa Ab At As na nb nt ns ca cb ct cs La Lb lt ls w G HNa HNb TA TB ST SS zt zs (Lib.hid hma) (Lib.hid hmb) k4
  have fA := fine_of_much hma (fun x hx => (iA x hx).u)
  have fB := fine_of_much hmb (fun x hx => (iB x hx).u)
  have l1 := (much_small hma).1
  have l2 := (much_small hmb).1
  have a := HNa.out
  have b := HNb.out
  rcases hb : beyondV (La.map Tm.v) (et, lt) with _ | _
  · exact beyl_false et es Aa Ab At As na nb nt ns ca cb ct cs La Lb lt ls w G HNa HNb TA TB ST SS zt zs (Lib.hid hma) (Lib.hid hmb) (by omega) (by omega) (by omega) us (Lib.hid fA) (Lib.hid fB) (Lib.hid hb)
  · exact beyl_true et es Aa Ab At As na nb nt ns ca cb ct cs La Lb lt ls w G HNa HNb TA TB ST SS zt zs (Lib.hid hma) (Lib.hid hmb) (by omega) (by omega) (by omega) us (Lib.hid fA) (Lib.hid fB) (Lib.hid hb)
end Go.Proofs.YtmdakaflmheidaaDoor
