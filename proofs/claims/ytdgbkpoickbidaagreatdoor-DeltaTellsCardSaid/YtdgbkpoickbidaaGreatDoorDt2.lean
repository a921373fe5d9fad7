/- row.Cmp: what it answers of any two rows. The plain law of a stable sort. The plain law of DatumOrder: the order of texts, of data. Rows with counts in memory. The plain law of a row's bytes: they compare as rows do. What comes in at chapter 02: rows. What comes in: times, lists of counters, integers. stamp.each, Join, Meet: what they answer of any two times. stamp.Join, Meet: what they answer of any two times. slices.Clone at counters, SameWords, stamp.Leq: what they answer. cmp.Compare, cmp.Or, slices.Compare at counters, stamp.Cmp: what they answer. The plain law of StampOrder: times of one depth are ordered in part, with least and greatest bounds. Times as values; antichains: which lists they are. Plain. The Book's lists: what it means that each has memory of its own; what stays under writes to some blocks. What is new memory, from where to where; lists of lists out of such. Lists of times in memory. What comes in: lists of times. Conditions: each theorem states its own. -/
import Derived.Test.YtdgbkpoickbidaaGreatDoorDt1
import Derived.Test.YtdgbkpoickbidaaGreatDoorChecked
import Derived.Deep.Slices
namespace Go.Proofs.YtdgbkpoickbidaaGreatDoor
open Go.RowKit

/-- the order of rows -/
def cmpR : List Dat → List Dat → Int
  | [], [] => 0
  | [], _ :: _ => -1
  | _ :: _, [] => 1
  | a :: l, b :: m => if cmpD a b = 0 then cmpR l m else cmpD a b
theorem cmpR_drop {l m : List Dat} {i : Nat} (h1 : i < l.length) (h2 : i < m.length) : cmpR (l.drop i) (m.drop i) = if cmpD (l.getD i Dat.zero) (m.getD i Dat.zero) = 0 then cmpR (l.drop (i + 1)) (m.drop (i + 1)) else cmpD (l.getD i Dat.zero) (m.getD i Dat.zero) := by
  rw [List.drop_eq_getElem_cons h1, List.drop_eq_getElem_cons h2, List.getD_eq_getElem?_getD, List.getD_eq_getElem?_getD, List.getElem?_eq_getElem h1, List.getElem?_eq_getElem h2]
  rfl
theorem cmpR_end {l m : List Dat} {i : Nat} (h : l.length ≤ i) : cmpR (l.drop i) (m.drop i) = if i < m.length then -1 else 0 := by
  rw [List.drop_eq_nil_of_le h]
  by_cases h2 : i < m.length
  · rw [if_pos h2, List.drop_eq_getElem_cons h2]; rfl
  · rw [if_neg h2, List.drop_eq_nil_of_le (by omega)]; rfl
theorem cmpR_more {l m : List Dat} {i : Nat} (h1 : i < l.length) (h2 : m.length ≤ i) : cmpR (l.drop i) (m.drop i) = 1 := by
  rw [List.drop_eq_nil_of_le h2, List.drop_eq_getElem_cons h1]
  rfl
theorem cmpD_lit {v : Int} (ka na kb nb : Int) (ba bb : Bool) (sa sb : ByteArray) (w : World) (h : Hid (cmpD ⟨ka, ba, na, sa⟩ ⟨kb, bb, nb, sb⟩ = v)) :
    Calls Tryz.prog 218 #[.agg #[.int .u8 ka, .bool ba, .int .i64 na, .string sa], .agg #[.int .u8 kb, .bool bb, .int .i64 nb, .string sb]] w fun e w' => e = .returned (.int .i64 v) ∧ Ext w w' := h.out ▸ dcmp_any ⟨ka, ba, na, sa⟩ ⟨kb, bb, nb, sb⟩ w
def DT_ : TypeId := 204
set_option maxRecDepth 100000 in
set_option maxHeartbeats 4000000 in
theorem compareFunc_any (A1 A2 : Option Addr) (c1 c2 n1 n2 : Nat) (l m : List Dat) (w : World) (e1 : n1 = l.length) (e2 : n2 = m.length) (h1 : Rw w A1 c1 l) (h2 : Rw w A2 c2 m) :
    Calls Tryz.prog 217 #[.slice A1 n1 c1, .slice A2 n2 c2, .func (.func 218) #[] #[]] w fun e w' => e = .returned (.int .i64 (cmpR l m)) ∧ Ext w w' := by
  have E1 := Lib.hid e1
  have E2 := Lib.hid e2
  have hl1 := h1.le
  have hl2 := h2.le
  rw [← e1] at hl1
  rw [← e2] at hl2
  have H1 := Lib.hid h1
  have H2 := Lib.hid h2
  clear e1 e2 h1 h2
  go_enter Tryz.func217, Tryz.ntmps217
  go_wp2
  go_loopw [13] (fun v wr => ∃ i : Nat, i ≤ n1 ∧ v = .int .i64 i ∧ Hid (i ≤ m.length ∧ cmpR (l.drop i) (m.drop i) = cmpR l m) ∧ Ext w wr) (fun v _ => n1 - (intOf v).toNat)
  case atStart => exact ⟨0, Nat.zero_le _, rfl, Lib.hid ⟨Nat.zero_le _, rfl⟩, Ext.refl _⟩
  case round =>
    obtain ⟨i, hi, rfl, hr, er⟩ := hrel
    have hsz := er.size
    by_cases hlt : i < n1
    · obtain ⟨a1, rfl, p0, p1, p2, p3⟩ := (H1.out.ext er).at (show i < l.length by rw [← E1.out]; exact hlt)
      obtain ⟨d, hd⟩ : ∃ d, l.getD i Dat.zero = d := ⟨_, rfl⟩
      rw [hd] at p0 p1 p2 p3
      by_cases hlt2 : i < n2
      · obtain ⟨a2, rfl, q0, q1, q2, q3⟩ := (H2.out.ext er).at (show i < m.length by rw [← E2.out]; exact hlt2)
        obtain ⟨d2, hd2⟩ : ∃ d, m.getD i Dat.zero = d := ⟨_, rfl⟩
        rw [hd2] at q0 q1 q2 q3
        obtain ⟨v, hv⟩ : ∃ v, cmpD d d2 = v := ⟨_, rfl⟩
        have HS : Hid (cmpR l m = if v = 0 then cmpR (l.drop (i + 1)) (m.drop (i + 1)) else v) := Lib.hid (by rw [← hr.out.2, cmpR_drop (by rw [← E1.out]; exact hlt) (by rw [← E2.out]; exact hlt2), hd, hd2, hv])
        have HB : Hid (i + 1 ≤ m.length) := Lib.hid (by rw [← E2.out]; exact hlt2)
        clear hd hd2 hr
        obtain ⟨ka, ba, na, sa⟩ := d
        obtain ⟨kb, bb, nb, sb⟩ := d2
        simp only at p0 p1 p2 p3 q0 q1 q2 q3
        have HV := Lib.hid hv
        clear hv
        have r0 := ((Ext.refl wr).alloc (.cells #[.int .u8 ka, .bool ba, .int .i64 na, .string sa] 204)).cell q0
        have r1 := ((Ext.refl wr).alloc (.cells #[.int .u8 ka, .bool ba, .int .i64 na, .string sa] 204)).cell q1
        have r2 := ((Ext.refl wr).alloc (.cells #[.int .u8 ka, .bool ba, .int .i64 na, .string sa] 204)).cell q2
        have r3 := ((Ext.refl wr).alloc (.cells #[.int .u8 ka, .bool ba, .int .i64 na, .string sa] 204)).cell q3
        clear q0 q1 q2 q3
        by_cases hv0 : v = 0
        · subst hv0
          go_wp2_with (go_at_call 218; refine (cmpD_lit _ _ _ _ _ _ _ _ _ HV).mono ?_; rintro e w1 ⟨rfl, x1⟩)
          go_roundw
          case rel => exact ⟨i + 1, by omega, by go_num, Lib.hid ⟨HB.out, by rw [HS.out]; simp⟩, ((er.alloc _).alloc _).trans x1⟩
          case measure => simp [intOf]; omega
        · have z : (v != 0) = true := by simpa using hv0
          have HZ := Lib.hid hv0
          clear hv0
          go_wp2_with (go_at_call 218; refine (cmpD_lit _ _ _ _ _ _ _ _ _ HV).mono ?_; rintro e w1 ⟨rfl, x1⟩)
          go_ret
          exact ⟨(by rw [HS.out, if_neg HZ.out]; rfl), ((er.alloc _).alloc _).trans x1⟩
      · have HS : Hid (cmpR l m = 1) := Lib.hid (by rw [← hr.out.2]; exact cmpR_more (by rw [← E1.out]; exact hlt) (by rw [← E2.out]; omega))
        clear hr hd
        go_wp2
        go_ret
        exact ⟨(by rw [HS.out]; rfl), er.alloc _⟩
    · have HS : Hid (cmpR l m = if i < m.length then -1 else 0) := Lib.hid (by rw [← hr.out.2]; exact cmpR_end (by rw [← E1.out]; omega))
      obtain rfl : i = n1 := by omega
      by_cases h2 : i < n2
      · have HT : Hid (cmpR l m = -1) := Lib.hid (by rw [HS.out, if_pos (by rw [← E2.out]; exact h2)])
        clear HS hr
        go_wp2
        go_ret
        exact ⟨(by rw [HT.out]; rfl), er⟩
      · have HT : Hid (cmpR l m = 0) := Lib.hid (by rw [HS.out, if_neg (by rw [← E2.out]; exact h2)])
        clear HS hr
        go_wp2
        go_ret
        exact ⟨(by rw [HT.out]; rfl), er⟩
set_option maxRecDepth 100000 in
set_option maxHeartbeats 1000000 in
theorem rowCmp_any (A1 A2 : Option Addr) (c1 c2 n1 n2 : Nat) (l m : List Dat) (w : World) (e1 : n1 = l.length) (e2 : n2 = m.length) (h1 : Rw w A1 c1 l) (h2 : Rw w A2 c2 m) :
    Calls Tryz.prog 164 #[.slice A1 n1 c1, .slice A2 n2 c2] w fun e w' => e = .returned (.int .i64 (cmpR l m)) ∧ Ext w w' := by
  have H1 := Lib.hid h1
  have H2 := Lib.hid h2
  have E1 := Lib.hid e1
  have E2 := Lib.hid e2
  clear h1 h2 e1 e2
  go_enter Tryz.func164, Tryz.ntmps164
  go_wp2_with fail
  refine (compareFunc_any A1 A2 c1 c2 n1 n2 l m w E1.out E2.out H1.out H2.out).mono ?_
  rintro e w1 ⟨rfl, x1⟩
  go_wp2
  go_ret
  exact ⟨rfl, x1⟩
end Go.Proofs.YtdgbkpoickbidaaGreatDoor
namespace Go.Proofs.YtdgbkpoickbidaaGreatDoor
open Go.RowKit

structure TotPre {α : Type} (cmp : α → α → Int) : Prop where
  neg : ∀ x y, cmp x y = -cmp y x
  trans : ∀ x y z, cmp x y ≤ 0 → cmp y z ≤ 0 → cmp x z ≤ 0
section
variable {α : Type} {cmp : α → α → Int}
theorem TotPre.refl (h : TotPre cmp) (x : α) : cmp x x = 0 := by have := h.neg x x; omega
theorem TotPre.lt_of_lt_le (h : TotPre cmp) {x y z : α} (h1 : cmp x y < 0) (h2 : cmp y z ≤ 0) : cmp x z < 0 := by
  have a := h.trans x y z (by omega) h2
  rcases Int.lt_or_eq_of_le a with q | q
  · exact q
  · have b := h.trans y z x h2 (by rw [h.neg, q]; decide)
    rw [h.neg] at b
    omega
theorem TotPre.lt_of_le_lt (h : TotPre cmp) {x y z : α} (h1 : cmp x y ≤ 0) (h2 : cmp y z < 0) : cmp x z < 0 := by
  have a := h.trans x y z h1 (by omega)
  rcases Int.lt_or_eq_of_le a with q | q
  · exact q
  · have b := h.trans z x y (by rw [h.neg, q]; decide) h1
    rw [h.neg] at b
    omega
theorem TotPre.eq_trans (h : TotPre cmp) {x y z : α} (h1 : cmp x y = 0) (h2 : cmp y z = 0) : cmp x z = 0 := by
  have a := h.trans x y z (by omega) (by omega)
  have b := h.trans z y x (by rw [h.neg, h2]; decide) (by rw [h.neg, h1]; decide)
  rw [h.neg] at b
  omega
theorem TotPre.eq_left (h : TotPre cmp) {x y z : α} (h1 : cmp x y = 0) : cmp x z = 0 ↔ cmp y z = 0 :=
  ⟨fun q => h.eq_trans (by rw [h.neg, h1]; rfl) q, fun q => h.eq_trans h1 q⟩
/-- those alike x -/
def alike (cmp : α → α → Int) (x : α) (l : List α) : List α := l.filter fun y => cmp x y == 0
/-- m is l, sorted, those that are alike in their order -/
structure Stable (cmp : α → α → Int) (l m : List α) : Prop where
  sorted : m.Pairwise fun x y => cmp x y ≤ 0
  same : ∀ x, alike cmp x m = alike cmp x l
theorem Stable.nil : Stable cmp [] ([] : List α) := ⟨List.Pairwise.nil, fun _ => rfl⟩
theorem Stable.one (x : α) : Stable cmp [x] [x] := ⟨List.pairwise_singleton _ _, fun _ => rfl⟩
theorem alike_append (x : α) (l m : List α) : alike cmp x (l ++ m) = alike cmp x l ++ alike cmp x m := List.filter_append _ _
/-- what is sorted twice -/
theorem Stable.trans {l m n : List α} (h : Stable cmp l m) (k : Stable cmp m n) : Stable cmp l n := ⟨k.sorted, fun x => (k.same x).trans (h.same x)⟩
/-- parts that are sorted by themselves, then together -/
theorem Stable.join {l1 l2 m1 m2 n : List α} (h1 : Stable cmp l1 m1) (h2 : Stable cmp l2 m2) (h : Stable cmp (m1 ++ m2) n) : Stable cmp (l1 ++ l2) n :=
  ⟨h.sorted, fun x => by rw [h.same, alike_append, alike_append, h1.same, h2.same]⟩
theorem Stable.mem (T : TotPre cmp) {l m : List α} (h : Stable cmp l m) (x : α) : x ∈ m ↔ x ∈ l := by
  have e := h.same x
  have key : ∀ n : List α, x ∈ alike cmp x n ↔ x ∈ n := fun n => by
    unfold alike
    rw [List.mem_filter]
    exact ⟨fun q => q.1, fun q => ⟨q, by rw [beq_iff_eq]; exact T.refl x⟩⟩
  rw [← key m, ← key l, e]
/-- one more, put into its place -/
theorem Stable.insert (T : TotPre cmp) {l s1 s2 : List α} {x : α} (h : Stable cmp l (s1 ++ s2)) (h2 : ∀ y ∈ s2, cmp x y < 0) (h1 : ∀ y, s1.getLast? = some y → ¬ cmp x y < 0) : Stable cmp (l ++ [x]) (s1 ++ x :: s2) := by
  have hs := List.pairwise_append.1 h.sorted
  have hx : ∀ y ∈ s1, cmp y x ≤ 0 := by
    intro y hy
    rcases List.eq_nil_or_concat s1 with rfl | ⟨t, z, rfl⟩
    · cases hy
    · rw [List.concat_eq_append] at hy hs h1
      have hz : cmp z x ≤ 0 := by
        have := h1 z (by simp)
        rw [T.neg]
        omega
      rcases List.mem_append.1 hy with q | q
      · exact T.trans y z x ((List.pairwise_append.1 hs.1).2.2 y q z (by simp)) hz
      · simp only [List.mem_singleton] at q
        subst q
        exact hz
  refine ⟨List.pairwise_append.2 ⟨hs.1, List.pairwise_cons.2 ⟨fun y hy => Int.le_of_lt (h2 y hy), hs.2.1⟩, fun y hy z hz => ?_⟩, fun c => ?_⟩
  · rcases List.mem_cons.1 hz with rfl | hz
    · exact hx y hy
    · exact hs.2.2 y hy z hz
  · have e0 : alike cmp c (l ++ [x]) = (alike cmp c s1 ++ alike cmp c s2) ++ alike cmp c [x] := by rw [alike_append, ← h.same c, alike_append]
    rw [e0, alike_append]
    by_cases hc : cmp c x = 0
    · have e2 : alike cmp c s2 = [] := by
        unfold alike
        rw [List.filter_eq_nil_iff]
        intro y hy q
        have q' : cmp c y = 0 := by simpa using q
        have := h2 y hy
        have := (T.eq_left hc).1 q'
        omega
      have e3 : alike cmp c (x :: s2) = [x] := by
        show List.filter _ (x :: s2) = _
        rw [List.filter_cons_of_pos (by simpa using hc)]
        show x :: alike cmp c s2 = _
        rw [e2]
      have e4 : alike cmp c [x] = [x] := by
        show List.filter _ [x] = _
        rw [List.filter_cons_of_pos (by simpa using hc)]
        rfl
      rw [e3, e2, e4, List.append_nil]
    · have e3 : ∀ t : List α, alike cmp c (x :: t) = alike cmp c t := fun t => by
        show List.filter _ (x :: t) = _
        rw [List.filter_cons_of_neg (by simpa using hc)]
        rfl
      rw [e3, e3]
      show _ = _ ++ []
      rw [List.append_nil]
/-- there is one such list alone -/
theorem Stable.unique (T : TotPre cmp) : ∀ {m n l : List α}, Stable cmp l m → Stable cmp l n → m = n
  | [], [], _, _, _ => rfl
  | [], y :: n, l, h, k => absurd ((h.mem T y).2 ((k.mem T y).1 (List.mem_cons_self ..))) (List.not_mem_nil)
  | x :: m, [], l, h, k => absurd ((k.mem T x).2 ((h.mem T x).1 (List.mem_cons_self ..))) (List.not_mem_nil)
  | x :: m, y :: n, l, h, k => by
    have hxy : cmp x y ≤ 0 := by
      have : y ∈ x :: m := (h.mem T y).2 ((k.mem T y).1 (List.mem_cons_self ..))
      rcases List.mem_cons.1 this with rfl | q
      · rw [T.refl]; decide
      · exact (List.pairwise_cons.1 h.sorted).1 y q
    have hyx : cmp y x ≤ 0 := by
      have : x ∈ y :: n := (k.mem T x).2 ((h.mem T x).1 (List.mem_cons_self ..))
      rcases List.mem_cons.1 this with rfl | q
      · rw [T.refl]; decide
      · exact (List.pairwise_cons.1 k.sorted).1 x q
    have h0 : cmp x y = 0 := by rw [T.neg] at hyx; omega
    have e : alike cmp x (x :: m) = alike cmp x (y :: n) := (h.same x).trans (k.same x).symm
    have e1 : alike cmp x (x :: m) = x :: alike cmp x m := by
      show List.filter _ (x :: m) = _
      rw [List.filter_cons_of_pos (by simpa using T.refl x)]
      rfl
    have e2 : alike cmp x (y :: n) = y :: alike cmp x n := by
      show List.filter _ (y :: n) = _
      rw [List.filter_cons_of_pos (by simpa using h0)]
      rfl
    rw [e1, e2] at e
    injection e with e3 _
    subst e3
    have hm : Stable cmp m m := ⟨(List.pairwise_cons.1 h.sorted).2, fun _ => rfl⟩
    have hn : Stable cmp m n := ⟨(List.pairwise_cons.1 k.sorted).2, fun c => by
      have q : alike cmp c (x :: m) = alike cmp c (x :: n) := (h.same c).trans (k.same c).symm
      unfold alike at q ⊢
      by_cases hc : cmp c x = 0
      · rw [List.filter_cons_of_pos (by simpa using hc), List.filter_cons_of_pos (by simpa using hc)] at q
        injection q with _ q
        exact q.symm
      · rw [List.filter_cons_of_neg (by simpa using hc), List.filter_cons_of_neg (by simpa using hc)] at q
        exact q.symm⟩
    rw [Stable.unique T hm hn]
end
end Go.Proofs.YtdgbkpoickbidaaGreatDoor
namespace Go.Proofs.YtdgbkpoickbidaaGreatDoor
open Go.RowKit

theorem less_irrefl : ∀ x : List UInt8, Op.bytesLess x x = false
  | [] => rfl
  | a :: x => by simp [Op.bytesLess, less_irrefl x]
theorem less_asymm : ∀ x y : List UInt8, Op.bytesLess x y = true → Op.bytesLess y x = false
  | [], [], h => by simp [Op.bytesLess] at h
  | [], _ :: _, _ => by simp [Op.bytesLess]
  | _ :: _, [], h => by simp [Op.bytesLess] at h
  | a :: x, b :: y, h => by
    simp only [Op.bytesLess, Bool.or_eq_true, decide_eq_true_eq, Bool.and_eq_true, beq_iff_eq] at h
    rcases h with h | ⟨rfl, h⟩
    · have h1 : ¬ b < a := fun h2 => by rw [UInt8.lt_iff_toNat_lt] at h h2; omega
      have h2 : ¬ b = a := fun e => by subst e; rw [UInt8.lt_iff_toNat_lt] at h; omega
      simp [Op.bytesLess, h1, h2]
    · simp [Op.bytesLess, less_asymm x y h]
theorem less_total : ∀ x y : List UInt8, Op.bytesLess x y = false → Op.bytesLess y x = false → x = y
  | [], [], _, _ => rfl
  | [], _ :: _, h, _ => by simp [Op.bytesLess] at h
  | _ :: _, [], _, h => by simp [Op.bytesLess] at h
  | a :: x, b :: y, h, k => by
    simp only [Op.bytesLess, Bool.or_eq_false_iff, decide_eq_false_iff_not, Bool.and_eq_false_iff, beq_eq_false_iff_ne] at h k
    have e : a = b := by
      apply UInt8.toNat_inj.1
      have h1 := h.1
      have k1 := k.1
      rw [UInt8.lt_iff_toNat_lt] at h1 k1
      omega
    subst e
    rw [less_total x y (by simpa using h.2) (by simpa using k.2)]
theorem less_trans : ∀ x y z : List UInt8, Op.bytesLess x y = true → Op.bytesLess y z = true → Op.bytesLess x z = true
  | _, _, [], _, k => by simp [Op.bytesLess] at k
  | [], _, _ :: _, _, _ => by simp [Op.bytesLess]
  | _ :: _, [], _ :: _, h, _ => by simp [Op.bytesLess] at h
  | a :: x, b :: y, c :: z, h, k => by
    simp only [Op.bytesLess, Bool.or_eq_true, decide_eq_true_eq, Bool.and_eq_true, beq_iff_eq] at h k ⊢
    rcases h with h | ⟨rfl, h⟩ <;> rcases k with k | ⟨rfl, k⟩
    · left; rw [UInt8.lt_iff_toNat_lt] at *; omega
    · exact Or.inl h
    · exact Or.inl k
    · exact Or.inr ⟨rfl, less_trans x y z h k⟩

theorem cmpS_eq (x y : ByteArray) : cmpS x y = if Op.bytesLess x.toList y.toList then -1 else if Op.bytesLess y.toList x.toList then 1 else 0 := by
  unfold cmpS
  cases h1 : Op.bytesLess x.toList y.toList
  · cases h2 : Op.bytesLess y.toList x.toList
    · simp [less_total _ _ h1 h2]
    · have : ¬ x.toList = y.toList := fun e => by rw [e, less_irrefl] at h2; cases h2
      simp [this]
  · rfl
theorem cmpS_neg (x y : ByteArray) : cmpS x y = -cmpS y x := by
  rw [cmpS_eq, cmpS_eq]
  cases h1 : Op.bytesLess x.toList y.toList
  · cases h2 : Op.bytesLess y.toList x.toList <;> simp
  · simp [less_asymm _ _ h1]
theorem cmpS_trans {x y z : ByteArray} (h : cmpS x y ≤ 0) (k : cmpS y z ≤ 0) : cmpS x z ≤ 0 := by
  rw [cmpS_eq] at *
  by_cases h1 : Op.bytesLess x.toList z.toList = true
  · simp [h1]
  · by_cases h2 : Op.bytesLess z.toList x.toList = true
    · exfalso
      by_cases a1 : Op.bytesLess x.toList y.toList = true
      · have a2 := less_trans _ _ _ h2 a1
        have a3 := less_asymm _ _ a2
        simp [a3, a2] at k
      · by_cases b1 : Op.bytesLess y.toList x.toList = true
        · simp [a1, b1] at h
        · have e := less_total _ _ (by simpa using a1) (by simpa using b1)
          rw [← e] at k
          simp [h1, h2] at k
    · simp [h1, h2]
theorem cmpI_neg (x y : Int) : cmpI x y = -cmpI y x := by
  rcases Int.lt_trichotomy x y with h | h | h
  · rw [cmpI_lt h, cmpI_gt h]
  · subst h; rw [cmpI_self]; rfl
  · rw [cmpI_gt h, cmpI_lt h]; rfl
theorem cmpT_le {x y : Int} : cmpI x y ≤ 0 ↔ x ≤ y := by
  rcases Int.lt_trichotomy x y with h | h | h
  · rw [cmpI_lt h]; omega
  · subst h; rw [cmpI_self]; omega
  · rw [cmpI_gt h]; omega
/-! ### data -/
theorem cmpS_self (x : ByteArray) : cmpS x x = 0 := by have := cmpS_neg x x; omega
theorem cmpS_zero {x y : ByteArray} (h : cmpS x y = 0) : x = y := by
  rw [cmpS_eq] at h
  by_cases h1 : Op.bytesLess x.toList y.toList = true
  · simp [h1] at h
  · by_cases h2 : Op.bytesLess y.toList x.toList = true
    · simp [h1, h2] at h
    · have e := less_total _ _ (by simpa using h1) (by simpa using h2)
      rw [Lib.toList_data, Lib.toList_data] at e
      obtain ⟨⟨x⟩⟩ := x
      obtain ⟨⟨y⟩⟩ := y
      simp at e
      rw [e]
theorem cmpI_zero {x y : Int} (h : cmpI x y = 0) : x = y := by
  rcases Int.lt_trichotomy x y with k | k | k
  · rw [cmpI_lt k] at h; omega
  · exact k
  · rw [cmpI_gt k] at h; omega
theorem cmpD_off {a b : Dat} (h : ¬ a.k = b.k) : cmpD a b = cmpI a.k b.k := by unfold cmpD; rw [if_neg h]
theorem cmpD_on {a b : Dat} (h : a.k = b.k) : cmpD a b = if a.k = 2 then cmpI (rankT a.b) (rankT b.b) else if a.k = 3 then cmpI a.n b.n else if a.k = 4 then cmpS a.s b.s else 0 := by unfold cmpD; rw [if_pos h]
theorem cmpD_neg (a b : Dat) : cmpD a b = -cmpD b a := by
  by_cases h : a.k = b.k
  · rw [cmpD_on h, cmpD_on h.symm, ← h]
    by_cases h2 : a.k = 2
    · rw [if_pos h2, if_pos h2]; exact cmpI_neg _ _
    · rw [if_neg h2, if_neg h2]
      by_cases h3 : a.k = 3
      · rw [if_pos h3, if_pos h3]; exact cmpI_neg _ _
      · rw [if_neg h3, if_neg h3]
        by_cases h4 : a.k = 4
        · rw [if_pos h4, if_pos h4]; exact cmpS_neg _ _
        · rw [if_neg h4, if_neg h4]; rfl
  · rw [cmpD_off h, cmpD_off (Ne.symm h)]; exact cmpI_neg _ _
theorem cmpD_self (a : Dat) : cmpD a a = 0 := by have := cmpD_neg a a; omega
theorem cmpT_trans {x y z : Int} (h : cmpI x y ≤ 0) (k : cmpI y z ≤ 0) : cmpI x z ≤ 0 := by rw [cmpT_le] at *; omega
theorem cmpD_trans {a b c : Dat} (h : cmpD a b ≤ 0) (k : cmpD b c ≤ 0) : cmpD a c ≤ 0 := by
  by_cases e1 : a.k = b.k
  · by_cases e2 : b.k = c.k
    · rw [cmpD_on e1] at h
      rw [cmpD_on e2] at k
      rw [cmpD_on (e1.trans e2)]
      rw [← e1] at k
      by_cases h2 : a.k = 2
      · rw [if_pos h2] at *; exact cmpT_trans h k
      · rw [if_neg h2] at *
        by_cases h3 : a.k = 3
        · rw [if_pos h3] at *; exact cmpT_trans h k
        · rw [if_neg h3] at *
          by_cases h4 : a.k = 4
          · rw [if_pos h4] at *; exact cmpS_trans h k
          · rw [if_neg h4]; omega
    · rw [cmpD_off e2] at k
      rw [cmpD_off (by rw [e1]; exact e2), e1]
      exact k
  · by_cases e2 : b.k = c.k
    · rw [cmpD_off e1] at h
      rw [cmpD_off (by rw [← e2]; exact e1), ← e2]
      exact h
    · rw [cmpD_off e1, cmpT_le] at h
      rw [cmpD_off e2, cmpT_le] at k
      rw [cmpD_off (by omega), cmpT_le]
      omega
theorem form_of {k n : Int} {b : Bool} {s : ByteArray} (h : checkT k b n s = 0) : (k = 1 ∨ k = 2 ∨ k = 3 ∨ k = 4) ∧ (k ≠ 2 → b = false) ∧ (k ≠ 3 → n = 0) ∧ (k ≠ 4 → s = ⟨#[]⟩) := by
  by_cases hf : (k = 1 ∨ k = 2 ∨ k = 3 ∨ k = 4) ∧ (k ≠ 2 → b = false) ∧ (k ≠ 3 → n = 0) ∧ (k ≠ 4 → s = ⟨#[]⟩)
  · exact hf
  · rw [checkT_off hf] at h; cases h
theorem rankT_inj {a b : Bool} (h : rankT a = rankT b) : a = b := by cases a <;> cases b <;> first | rfl | (simp [rankT] at h)
theorem cmpD_zero {a b : Dat} (ha : a.check = 0) (hb : b.check = 0) : cmpD a b = 0 ↔ a = b := by
  constructor
  · intro h
    by_cases e : a.k = b.k
    · rw [cmpD_on e] at h
      obtain ⟨ka, ba, na, sa⟩ := a
      obtain ⟨kb, bb, nb, sb⟩ := b
      simp only at e h
      subst e
      obtain ⟨hk, a1, a2, a3⟩ := form_of (show checkT ka ba na sa = 0 from ha)
      obtain ⟨_, b1, b2, b3⟩ := form_of (show checkT ka bb nb sb = 0 from hb)
      have hbb : ba = bb := by
        by_cases h2 : ka = 2
        · rw [if_pos h2] at h; exact rankT_inj (cmpI_zero h)
        · rw [a1 h2, b1 h2]
      have hnn : na = nb := by
        by_cases h2 : ka = 3
        · rw [if_neg (by omega), if_pos h2] at h; exact cmpI_zero h
        · rw [a2 h2, b2 h2]
      have hss : sa = sb := by
        by_cases h2 : ka = 4
        · rw [if_neg (by omega), if_neg (by omega), if_pos h2] at h; exact cmpS_zero h
        · rw [a3 h2, b3 h2]
      rw [hbb, hnn, hss]
    · rw [cmpD_off e] at h
      exact absurd (cmpI_zero h) e
  · rintro rfl; exact cmpD_self a
theorem cmpT_tri (x y : Int) : cmpI x y = -1 ∨ cmpI x y = 0 ∨ cmpI x y = 1 := by
  unfold cmpI
  split
  · exact .inl rfl
  · split
    · exact .inr (.inr rfl)
    · exact .inr (.inl rfl)
theorem cmpS_tri (x y : ByteArray) : cmpS x y = -1 ∨ cmpS x y = 0 ∨ cmpS x y = 1 := by
  unfold cmpS
  split
  · exact .inl rfl
  · split
    · exact .inr (.inl rfl)
    · exact .inr (.inr rfl)
theorem cmpD_tri (a b : Dat) : cmpD a b = -1 ∨ cmpD a b = 0 ∨ cmpD a b = 1 := by
  unfold cmpD
  repeat' split
  all_goals first | exact cmpT_tri _ _ | exact cmpS_tri _ _ | exact .inr (.inl rfl)
theorem toList_inj {x y : ByteArray} (h : x.toList = y.toList) : x = y := by
  rw [Lib.toList_data, Lib.toList_data] at h
  obtain ⟨⟨x⟩⟩ := x
  obtain ⟨⟨y⟩⟩ := y
  simp at h
  rw [h]
theorem datum_parts {ka kb na nb : Int} {ba bb : Bool} {sa sb : ByteArray} (h : ¬ (⟨ka, ba, na, sa⟩ : Dat) = ⟨kb, bb, nb, sb⟩) :
    (ka == kb) = false ∨ (ka = kb ∧ (ba == bb) = false) ∨ (ka = kb ∧ ba = bb ∧ (na == nb) = false) ∨ (ka = kb ∧ ba = bb ∧ na = nb ∧ ¬ sa.toList = sb.toList) := by
  by_cases h1 : ka = kb
  · by_cases h2 : ba = bb
    · by_cases h3 : na = nb
      · by_cases h4 : sa.toList = sb.toList
        · exact absurd (by rw [h1, h2, h3, toList_inj h4]) h
        · exact .inr (.inr (.inr ⟨h1, h2, h3, h4⟩))
      · exact .inr (.inr (.inl ⟨h1, h2, by simpa using h3⟩))
    · exact .inr (.inl ⟨h1, by simpa using h2⟩)
  · exact .inl (by simpa using h1)
theorem cmp_at {c : Int} (ka na kb nb : Int) (ba bb : Bool) (sa sb : ByteArray) (w : World) (h : Hid (cmpD ⟨ka, ba, na, sa⟩ ⟨kb, bb, nb, sb⟩ = c)) : Calls Tryz.prog 218 #[.agg #[.int .u8 (ka), .bool (ba), .int .i64 (na), .string (sa)], .agg #[.int .u8 (kb), .bool (bb), .int .i64 (nb), .string (sb)]] w fun e w' => e = .returned (.int .i64 c) ∧ Ext w w' := h.out ▸ dcmp_any ⟨ka, ba, na, sa⟩ ⟨kb, bb, nb, sb⟩ w
end Go.Proofs.YtdgbkpoickbidaaGreatDoor
namespace Go.Proofs.YtdgbkpoickbidaaGreatDoor
open Go.RowKit

theorem cmpR_neg : ∀ l m : List Dat, cmpR l m = -cmpR m l
  | [], [] => rfl
  | [], _ :: _ => rfl
  | _ :: _, [] => rfl
  | a :: l, b :: m => by
    unfold cmpR
    have h := cmpD_neg a b
    by_cases q : cmpD a b = 0
    · rw [if_pos q, if_pos (by omega), cmpR_neg l m]
    · rw [if_neg q, if_neg (by omega), h]
theorem cmpD_tot : TotPre cmpD := ⟨cmpD_neg, fun _ _ _ => cmpD_trans⟩
theorem cmpR_trans : ∀ l m n : List Dat, cmpR l m ≤ 0 → cmpR m n ≤ 0 → cmpR l n ≤ 0
  | [], _, [], _, _ => Int.le_refl _
  | [], _, _ :: _, _, _ => by unfold cmpR; decide
  | _ :: _, [], _, h, _ => by unfold cmpR at h; exact absurd h (by decide)
  | _ :: _, _ :: _, [], _, k => by unfold cmpR at k; exact absurd k (by decide)
  | a :: l, b :: m, c :: n, h, k => by
    unfold cmpR at h k ⊢
    by_cases q1 : cmpD a b = 0
    · rw [if_pos q1] at h
      by_cases q2 : cmpD b c = 0
      · rw [if_pos q2] at k
        rw [if_pos (cmpD_tot.eq_trans q1 q2)]
        exact cmpR_trans l m n h k
      · rw [if_neg q2] at k
        have := cmpD_tot.lt_of_le_lt (show cmpD a b ≤ 0 by omega) (show cmpD b c < 0 by omega)
        rw [if_neg (by omega)]
        omega
    · rw [if_neg q1] at h
      have hbc : cmpD b c ≤ 0 := by
        by_cases q2 : cmpD b c = 0
        · omega
        · rw [if_neg q2] at k; exact k
      have := cmpD_tot.lt_of_lt_le (show cmpD a b < 0 by omega) hbc
      rw [if_neg (by omega)]
      omega
/-- a row that lies in memory, so many times -/
structure Ct where
  A : Option Addr
  c : Nat
  l : List Dat
  k : Int
def Ct.zero : Ct := ⟨none, 0, [], 0⟩
def cmpC (x y : Ct) : Int := cmpR x.l y.l
theorem cmpC_tot : TotPre cmpC := ⟨fun x y => cmpR_neg x.l y.l, fun x y z => cmpR_trans x.l y.l z.l⟩
def ctC (x : Ct) : List Value := [.slice x.A x.l.length x.c, .int .i64 x.k]
def ctsC (L : List Ct) : List Value := L.flatMap ctC
theorem ctsC_len (L : List Ct) : (ctsC L).length = L.length * 2 := by
  unfold ctsC
  induction L with
  | nil => rfl
  | cons d l ih => rw [List.flatMap_cons, List.length_append, ih, List.length_cons, show (ctC d).length = 2 from rfl]; omega
theorem ctsC_at : ∀ (L : List Ct) (i j : Nat), i < L.length → j < 2 → (ctsC L)[i * 2 + j]? = (ctC (L.getD i Ct.zero))[j]?
  | [], i, j, h, _ => absurd h (Nat.not_lt_zero _)
  | d :: l, 0, j, _, hj => by
    unfold ctsC
    rw [List.flatMap_cons, Nat.zero_mul, Nat.zero_add, List.getElem?_append_left (by rw [show (ctC d).length = 2 from rfl]; exact hj)]
    rfl
  | d :: l, i + 1, j, h, hj => by
    unfold ctsC
    rw [List.flatMap_cons, List.getElem?_append_right (by rw [show (ctC d).length = 2 from rfl]; omega), show (i + 1) * 2 + j - (ctC d).length = i * 2 + j by rw [show (ctC d).length = 2 from rfl]; omega]
    exact ctsC_at l i j (Nat.lt_of_succ_lt_succ h) hj
theorem ctsC_append (L M : List Ct) : ctsC (L ++ M) = ctsC L ++ ctsC M := List.flatMap_append
theorem ctsC_set : ∀ (L : List Ct) (i : Nat) (x : Ct), ((ctsC L).set (i * 2) (.slice x.A x.l.length x.c)).set (i * 2 + 1) (.int .i64 x.k) = ctsC (L.set i x)
  | [], i, x => rfl
  | d :: l, 0, x => rfl
  | d :: l, i + 1, x => by
    have ih := ctsC_set l i x
    show ((ctC d ++ ctsC l).set ((i + 1) * 2) _).set ((i + 1) * 2 + 1) _ = ctC d ++ ctsC (l.set i x)
    rw [← ih, List.set_append_right _ _ (by show 2 ≤ _; omega), List.set_append_right _ _ (by show 2 ≤ _; omega), show (i + 1) * 2 - (ctC d).length = i * 2 by show _ - 2 = _; omega, show (i + 1) * 2 + 1 - (ctC d).length = i * 2 + 1 by show _ - 2 = _; omega]
theorem ctsC_one (L : List Ct) : ∀ u ∈ ctsC L, u.oneCell' = true := by
  intro u hu
  obtain ⟨d, _, h⟩ := List.mem_flatMap.1 hu
  simp only [ctC, List.mem_cons, List.not_mem_nil, or_false] at h
  rcases h with rfl | rfl <;> rfl
/-- the rows of such a list lie in memory, none of them in block g -/
def Rws (w : World) (g : Nat) (L : List Ct) : Prop := ∀ x ∈ L, Rw w x.A x.c x.l ∧ ∀ ad, x.A = some ad → ad.block ≠ g
/-- the block g holds the list, from its head on; it was made from block B on -/
def Arr (w : World) (B g c : Nat) (L : List Ct) : Prop := Own w B 154 2 (some ⟨g, 0, none⟩) L.length c (ctsC L) ∧ 0 < c
section
variable {w w' : World} {B g c : Nat} {L : List Ct}
theorem Arr.ext (h : Arr w B g c L) (x : Ext w w') : Arr w' B g c L := ⟨h.1.ext x, h.2⟩
theorem Rws.ext (h : Rws w g L) (x : Ext w w') : Rws w' g L := fun y hy => ⟨(h y hy).1.ext x, (h y hy).2⟩
theorem Rw.upd {A : Option Addr} {l : List Dat} (h : Rw w A c l) (hx : w.grownBy w' (some g)) (ha : ∀ ad, A = some ad → ad.block ≠ g) : Rw w' A c l :=
  ⟨h.1, h.2.1, h.2.2.1, h.2.2.2.1, fun hn => by
    obtain ⟨ad, e, hc⟩ := h.2.2.2.2 hn
    exact ⟨ad, e, fun j u hu => hx.cell (hc j u hu) (by rw [block_add]; intro q; injection q with q; exact ha ad e q)⟩⟩
theorem Rws.upd (h : Rws w g L) (hx : w.grownBy w' (some g)) : Rws w' g L := fun y hy => ⟨(h y hy).1.upd hx (h y hy).2, (h y hy).2⟩
theorem Rws.sub {M : List Ct} (h : Rws w g L) (hs : ∀ x ∈ M, x ∈ L) : Rws w g M := fun x hx => h x (hs x hx)
theorem Arr.lt (h : Arr w B g c L) : B ≤ g ∧ g < w.heap.size := by
  have := h.1.lt g (by obtain ⟨k, hk⟩ : ∃ k, c = k + 1 := ⟨c - 1, by have := h.2; omega⟩
                       rw [hk]; rfl)
  exact this
theorem Arr.le (h : Arr w B g c L) : L.length ≤ 9223372036854775807 := by have := h.1.le; omega
/-- an element's two cells; they may be written -/
theorem Arr.at (h : Arr w B g c L) {i : Nat} (hi : i < L.length) : w.cell? ⟨g, i * 2, none⟩ = some (.slice (L.getD i Ct.zero).A (L.getD i Ct.zero).l.length (L.getD i Ct.zero).c) ∧ w.cell? ⟨g, i * 2 + 1, none⟩ = some (.int .i64 (L.getD i Ct.zero).k) := by
  obtain ⟨g', e, _, _, _, hc, _⟩ := h.1.form (by omega)
  cases e
  exact ⟨hc _ _ (by rw [← Nat.add_zero (i * 2), ctsC_at L i 0 hi (by omega)]; rfl), hc _ _ (by rw [ctsC_at L i 1 hi (by omega)]; rfl)⟩
theorem Arr.free (h : Arr w B g c L) (j : Nat) : w.frozen? ⟨g, j, none⟩ = false := by
  rcases h.1.2 with ⟨h1, h2⟩ | ⟨g', cur, e, hb, hg, _⟩
  · have := h.2; omega
  · cases e
    simp [World.frozen?, hg]
/-- an element that is stored -/
theorem Arr.set (h : Arr w B g c L) (i : Nat) (x : Ct) : Arr ((w.setCell ⟨g, i * 2, none⟩ (.slice x.A x.l.length x.c)).setCell ⟨g, i * 2 + 1, none⟩ (.int .i64 x.k)) B g c (L.set i x) := by
  have := (h.1.put (i * 2) (.slice x.A x.l.length x.c)).put (i * 2 + 1) (.int .i64 x.k)
  rw [ctsC_set] at this
  refine ⟨?_, h.2⟩
  rw [List.length_set]
  exact this
theorem upd_set (w : World) (g i : Nat) (u : Value) : w.grownBy (w.setCell ⟨g, i, none⟩ u) (some g) :=
  ⟨rfl, rfl, rfl, by rw [World.size_setCell]; exact Nat.le_refl _, fun k _ hk => Below.heap_setCell w ⟨g, i, none⟩ u k (fun e => hk (by rw [e]))⟩
theorem upd_ext (x : Ext w w') (g : Nat) : w.grownBy w' (some g) := ⟨x.os, x.tape, x.output, x.size, fun k hk _ => x.block k hk⟩
theorem upd_below (x : w.grownBy w' (some g)) {B : Nat} (hb : B ≤ w.heap.size) (hg : B ≤ g) : Below B w w' := Below.grown (Below.refl B w) x hb (fun k e => by cases e; exact hg)
end
end Go.Proofs.YtdgbkpoickbidaaGreatDoor
namespace Go.Proofs.YtdgbkpoickbidaaGreatDoor
open Go.RowKit

/-- the order of bytes -/
def lexB : List UInt8 → List UInt8 → Int
  | [], [] => 0
  | [], _ :: _ => -1
  | _ :: _, [] => 1
  | a :: x, b :: y => if a.toNat < b.toNat then -1 else if b.toNat < a.toNat then 1 else lexB x y
theorem lexB_same : ∀ p s t : List UInt8, lexB (p ++ s) (p ++ t) = lexB s t
  | [], _, _ => rfl
  | a :: p, s, t => by
    show (if a.toNat < a.toNat then -1 else if a.toNat < a.toNat then 1 else lexB (p ++ s) (p ++ t)) = _
    rw [if_neg (by omega), if_neg (by omega)]
    exact lexB_same p s t
theorem lexB_lt {a b : UInt8} (x y : List UInt8) (h : a.toNat < b.toNat) : lexB (a :: x) (b :: y) = -1 := if_pos h
theorem lexB_gt {a b : UInt8} (x y : List UInt8) (h : b.toNat < a.toNat) : lexB (a :: x) (b :: y) = 1 := by
  show (if a.toNat < b.toNat then -1 else if b.toNat < a.toNat then 1 else lexB x y) = 1
  rw [if_neg (by omega), if_pos h]
theorem lexB_eq (a : UInt8) (x y : List UInt8) : lexB (a :: x) (a :: y) = lexB x y := lexB_same [a] x y
theorem lexB_refl (p : List UInt8) : lexB p p = 0 := by
  have := lexB_same p [] []
  rwa [List.append_nil] at this
theorem lexB_zero : ∀ x y : List UInt8, lexB x y = 0 → x = y
  | [], [], _ => rfl
  | [], _ :: _, h => absurd h (by show ¬ (-1 : Int) = 0; decide)
  | _ :: _, [], h => absurd h (by show ¬ (1 : Int) = 0; decide)
  | a :: x, b :: y, h => by
    unfold lexB at h
    split at h
    · exact absurd h (by decide)
    · split at h
      · exact absurd h (by decide)
      · have e : a = b := UInt8.toNat_inj.1 (by omega)
        rw [e, lexB_zero x y h]
/-! ### numbers -/
def be : Nat → Nat → List UInt8
  | 0, _ => []
  | k + 1, m => UInt8.ofNat (m / 256 ^ k) :: be k (m % 256 ^ k)
theorem be8_is (m : Nat) (_h : m < 18446744073709551616) : be8 m = be 8 m := by
  have q : ∀ a b : Nat, a % 256 = b % 256 → UInt8.ofNat a = UInt8.ofNat b := fun a b e => UInt8.toNat_inj.1 (by rw [UInt8.toNat_ofNat', UInt8.toNat_ofNat']; exact e)
  unfold be8
  simp only [be]
  rw [show (2 : Nat) ^ 56 = 72057594037927936 by decide, show (2 : Nat) ^ 48 = 281474976710656 by decide, show (2 : Nat) ^ 40 = 1099511627776 by decide, show (2 : Nat) ^ 32 = 4294967296 by decide, show (2 : Nat) ^ 24 = 16777216 by decide, show (2 : Nat) ^ 16 = 65536 by decide, show (2 : Nat) ^ 8 = 256 by decide]
  simp only [Nat.pow_zero, Nat.div_one]
  refine congr (congrArg _ (q _ _ (by omega))) (congr (congrArg _ (q _ _ (by omega))) (congr (congrArg _ (q _ _ (by omega))) (congr (congrArg _ (q _ _ (by omega))) (congr (congrArg _ (q _ _ (by omega))) (congr (congrArg _ (q _ _ (by omega))) (congr (congrArg _ (q _ _ (by omega))) (congr (congrArg _ (q _ _ (by omega))) rfl)))))))
theorem be_lt : ∀ (k a b : Nat) (s t : List UInt8), a < 256 ^ k → b < 256 ^ k → a < b → lexB (be k a ++ s) (be k b ++ t) = -1 ∧ lexB (be k b ++ t) (be k a ++ s) = 1
  | 0, a, b, _, _, ha, hb, h => by rw [Nat.pow_zero] at ha hb; omega
  | k + 1, a, b, s, t, ha, hb, h => by
    have hp : 0 < 256 ^ k := Nat.pow_pos (by decide)
    rw [Nat.pow_succ] at ha hb
    have qa : a / 256 ^ k < 256 := Nat.div_lt_of_lt_mul ha
    have qb : b / 256 ^ k < 256 := Nat.div_lt_of_lt_mul hb
    have tx : ∀ x : Nat, x < 256 → (UInt8.ofNat x).toNat = x := fun x hx => by rw [UInt8.toNat_ofNat']; omega
    have ta := tx _ qa
    have tb := tx _ qb
    unfold be
    rw [List.cons_append, List.cons_append]
    rcases Nat.lt_trichotomy (a / 256 ^ k) (b / 256 ^ k) with q | q | q
    · exact ⟨lexB_lt _ _ (by rw [ta, tb]; exact q), lexB_gt _ _ (by rw [ta, tb]; exact q)⟩
    · rw [q, lexB_eq, lexB_eq]
      refine be_lt k _ _ s t (Nat.mod_lt _ hp) (Nat.mod_lt _ hp) ?_
      have e1 := Nat.div_add_mod a (256 ^ k)
      have e2 := Nat.div_add_mod b (256 ^ k)
      rw [q] at e1
      omega
    · have : b ≤ a := by
        rcases Nat.lt_or_ge a b with h1 | h1
        · have := Nat.div_le_div_right (c := 256 ^ k) (Nat.le_of_lt h1)
          omega
        · exact h1
      omega
/-! ### texts -/
theorem escZ_zero : escZ 0 = [0, 255] := rfl
theorem escZ_some {c : UInt8} (h : ¬ c = 0) : escZ c = [c] := if_neg h
theorem pos_of_ne {c : UInt8} (h : ¬ c = 0) : 0 < c.toNat := by
  rcases Nat.eq_zero_or_pos c.toNat with q | q
  · exact absurd (UInt8.toNat_inj.1 q) h
  · exact q
theorem txt_lt : ∀ (x y : List UInt8) (s t : List UInt8), Op.bytesLess x y = true → lexB (x.flatMap escZ ++ (0 :: 1 :: s)) (y.flatMap escZ ++ (0 :: 1 :: t)) = -1 ∧ lexB (y.flatMap escZ ++ (0 :: 1 :: t)) (x.flatMap escZ ++ (0 :: 1 :: s)) = 1
  | [], [], _, _, h => by simp [Op.bytesLess] at h
  | _ :: _, [], _, _, h => by simp [Op.bytesLess] at h
  | [], c :: y, s, t, _ => by
    rw [List.flatMap_cons]
    by_cases hc : c = 0
    · subst hc
      rw [escZ_zero]
      show lexB (0 :: 1 :: s) (0 :: 255 :: (y.flatMap escZ ++ 0 :: 1 :: t)) = -1 ∧ lexB (0 :: 255 :: (y.flatMap escZ ++ 0 :: 1 :: t)) (0 :: 1 :: s) = 1
      rw [lexB_eq, lexB_eq]
      exact ⟨lexB_lt _ _ (by decide), lexB_gt _ _ (by decide)⟩
    · rw [escZ_some hc]
      exact ⟨lexB_lt _ _ (pos_of_ne hc), lexB_gt _ _ (pos_of_ne hc)⟩
  | c :: x, d :: y, s, t, h => by
    simp only [Op.bytesLess, Bool.or_eq_true, decide_eq_true_eq, Bool.and_eq_true, beq_iff_eq] at h
    rw [List.flatMap_cons, List.flatMap_cons, List.append_assoc, List.append_assoc]
    rcases h with h | ⟨rfl, h⟩
    · have h' := UInt8.lt_iff_toNat_lt.1 h
      have hd : ¬ d = 0 := fun e => by rw [e] at h'; exact absurd h' (by simp)
      rw [escZ_some hd]
      by_cases hc : c = 0
      · subst hc
        rw [escZ_zero]
        exact ⟨lexB_lt _ _ (pos_of_ne hd), lexB_gt _ _ (pos_of_ne hd)⟩
      · rw [escZ_some hc]
        exact ⟨lexB_lt _ _ h', lexB_gt _ _ h'⟩
    · rw [lexB_same, lexB_same]
      exact txt_lt x y s t h
/-! ### data -/
theorem datum_form {d : Dat} (h : d.check = 0) : (d.k = 1 ∨ d.k = 2 ∨ d.k = 3 ∨ d.k = 4) ∧ (d.k ≠ 2 → d.b = false) ∧ (d.k ≠ 3 → d.n = 0) ∧ (d.k ≠ 4 → d.s = ⟨#[]⟩) := form_of h
def InD (d : Dat) : Prop := -9223372036854775808 ≤ d.n ∧ d.n ≤ 9223372036854775807
theorem put_lt {a b : Dat} (ha : a.check = 0) (hb : b.check = 0) (ia : InD a) (ib : InD b) (h : cmpD a b < 0) (s t : List UInt8) : lexB (putT a ++ s) (putT b ++ t) = -1 ∧ lexB (putT b ++ t) (putT a ++ s) = 1 ∧ cmpD a b = -1 := by
  obtain ⟨ka, _⟩ := datum_form ha
  obtain ⟨kb, _⟩ := datum_form hb
  obtain ⟨k1, b1, n1, s1⟩ := a
  obtain ⟨k2, b2, n2, s2⟩ := b
  simp only at ka kb
  unfold InD at ia ib
  simp only at ia ib
  clear ha hb
  unfold cmpD at h ⊢
  simp only at h ⊢
  by_cases hk : k1 = k2
  · subst hk
    rw [if_pos rfl] at h ⊢
    rcases ka with rfl | rfl | rfl | rfl
    · exact absurd h (by simp)
    · cases b1 <;> cases b2
      · exact absurd h (by simp [cmpI])
      · exact ⟨lexB_lt _ _ (show (32 : UInt8).toNat < (33 : UInt8).toNat by decide), lexB_gt _ _ (show (32 : UInt8).toNat < (33 : UInt8).toNat by decide), rfl⟩
      · exact absurd h (by simp [cmpI, rankT])
      · exact absurd h (by simp [cmpI])
    · rw [if_neg (by decide), if_pos rfl] at h ⊢
      have hlt : n1 < n2 := by
        unfold cmpI at h
        split at h
        · assumption
        · split at h <;> exact absurd h (by decide)
      have e1 := be8_is (n1 + 9223372036854775808).toNat (by omega)
      have e2 := be8_is (n2 + 9223372036854775808).toNat (by omega)
      have := be_lt 8 (n1 + 9223372036854775808).toNat (n2 + 9223372036854775808).toNat s t (by rw [show (256 : Nat) ^ 8 = 18446744073709551616 by decide]; omega) (by rw [show (256 : Nat) ^ 8 = 18446744073709551616 by decide]; omega) (by omega)
      show lexB (48 :: be8 _ ++ s) (48 :: be8 _ ++ t) = -1 ∧ lexB (48 :: be8 _ ++ t) (48 :: be8 _ ++ s) = 1 ∧ cmpI n1 n2 = -1
      rw [e1, e2, List.cons_append, List.cons_append, lexB_eq, lexB_eq]
      exact ⟨this.1, this.2, cmpI_lt hlt⟩
    · rw [if_neg (by decide), if_neg (by decide), if_pos rfl] at h ⊢
      have hlt : Op.bytesLess s1.toList s2.toList = true := by
        rw [cmpS_eq] at h
        split at h
        · assumption
        · split at h <;> exact absurd h (by decide)
      have := txt_lt s1.data.toList s2.data.toList s t (by rw [Lib.toList_data, Lib.toList_data] at hlt; exact hlt)
      show lexB (64 :: (s1.data.toList.flatMap escZ ++ [0, 1]) ++ s) (64 :: (s2.data.toList.flatMap escZ ++ [0, 1]) ++ t) = -1 ∧ lexB (64 :: (s2.data.toList.flatMap escZ ++ [0, 1]) ++ t) (64 :: (s1.data.toList.flatMap escZ ++ [0, 1]) ++ s) = 1 ∧ cmpS s1 s2 = -1
      rw [List.cons_append, List.cons_append, lexB_eq, lexB_eq, List.append_assoc, List.append_assoc]
      exact ⟨this.1, this.2, by rw [cmpS_eq, if_pos hlt]⟩
  · rw [if_neg hk] at h ⊢
    have hlt : k1 < k2 := by
      unfold cmpI at h
      split at h
      · assumption
      · split at h <;> exact absurd h (by decide)
    refine and_assoc.1 ⟨?_, cmpI_lt hlt⟩
    rcases ka with rfl | rfl | rfl | rfl <;> rcases kb with rfl | rfl | rfl | rfl <;> first | exact absurd hlt (by decide) | skip
    · cases b2
      · exact ⟨lexB_lt _ _ (show (16 : UInt8).toNat < (32 : UInt8).toNat by decide), lexB_gt _ _ (show (16 : UInt8).toNat < (32 : UInt8).toNat by decide)⟩
      · exact ⟨lexB_lt _ _ (show (16 : UInt8).toNat < (33 : UInt8).toNat by decide), lexB_gt _ _ (show (16 : UInt8).toNat < (33 : UInt8).toNat by decide)⟩
    · exact ⟨lexB_lt _ _ (show (16 : UInt8).toNat < (48 : UInt8).toNat by decide), lexB_gt _ _ (show (16 : UInt8).toNat < (48 : UInt8).toNat by decide)⟩
    · exact ⟨lexB_lt _ _ (show (16 : UInt8).toNat < (64 : UInt8).toNat by decide), lexB_gt _ _ (show (16 : UInt8).toNat < (64 : UInt8).toNat by decide)⟩
    · cases b1
      · exact ⟨lexB_lt _ _ (show (32 : UInt8).toNat < (48 : UInt8).toNat by decide), lexB_gt _ _ (show (32 : UInt8).toNat < (48 : UInt8).toNat by decide)⟩
      · exact ⟨lexB_lt _ _ (show (33 : UInt8).toNat < (48 : UInt8).toNat by decide), lexB_gt _ _ (show (33 : UInt8).toNat < (48 : UInt8).toNat by decide)⟩
    · cases b1
      · exact ⟨lexB_lt _ _ (show (32 : UInt8).toNat < (64 : UInt8).toNat by decide), lexB_gt _ _ (show (32 : UInt8).toNat < (64 : UInt8).toNat by decide)⟩
      · exact ⟨lexB_lt _ _ (show (33 : UInt8).toNat < (64 : UInt8).toNat by decide), lexB_gt _ _ (show (33 : UInt8).toNat < (64 : UInt8).toNat by decide)⟩
    · exact ⟨lexB_lt _ _ (show (48 : UInt8).toNat < (64 : UInt8).toNat by decide), lexB_gt _ _ (show (48 : UInt8).toNat < (64 : UInt8).toNat by decide)⟩
theorem put_ne {d : Dat} (h : d.check = 0) : putT d ≠ [] := by
  obtain ⟨hk, _⟩ := datum_form h
  unfold putT
  rcases hk with q | q | q | q <;> rw [q] <;> simp
theorem key_ord : ∀ l m : List Dat, (∀ d ∈ l, d.check = 0 ∧ InD d) → (∀ d ∈ m, d.check = 0 ∧ InD d) → lexB (rkeyT l) (rkeyT m) = cmpR l m
  | [], [], _, _ => rfl
  | [], b :: m, _, hm => by
    unfold rkeyT
    rw [List.flatMap_cons]
    obtain ⟨c, x, e⟩ := List.exists_cons_of_ne_nil (put_ne (hm b (List.mem_cons_self ..)).1)
    rw [e]
    rfl
  | a :: l, [], hl, _ => by
    unfold rkeyT
    rw [List.flatMap_cons]
    obtain ⟨c, x, e⟩ := List.exists_cons_of_ne_nil (put_ne (hl a (List.mem_cons_self ..)).1)
    rw [e]
    rfl
  | a :: l, b :: m, hl, hm => by
    have ha := hl a (List.mem_cons_self ..)
    have hb := hm b (List.mem_cons_self ..)
    have ih := key_ord l m (fun d hd => hl d (List.mem_cons_of_mem _ hd)) (fun d hd => hm d (List.mem_cons_of_mem _ hd))
    unfold rkeyT at ih ⊢
    rw [List.flatMap_cons, List.flatMap_cons]
    unfold cmpR
    by_cases h : cmpD a b = 0
    · rw [if_pos h]
      have e : a = b := (cmpD_zero ha.1 hb.1).1 h
      rw [e, lexB_same]
      exact ih
    · rw [if_neg h]
      rcases Int.lt_or_gt_of_ne h with q | q
      · obtain ⟨h1, _, h3⟩ := put_lt ha.1 hb.1 ha.2 hb.2 q (l.flatMap putT) (m.flatMap putT)
        rw [h1, h3]
      · have q' : cmpD b a < 0 := by rw [cmpD_neg]; omega
        obtain ⟨_, h2, h3⟩ := put_lt hb.1 ha.1 hb.2 ha.2 q' (m.flatMap putT) (l.flatMap putT)
        rw [h2, cmpD_neg, h3]
        rfl
theorem row_zero : ∀ l m : List Dat, (∀ d ∈ l, d.check = 0 ∧ InD d) → (∀ d ∈ m, d.check = 0 ∧ InD d) → cmpR l m = 0 → l = m
  | [], [], _, _, _ => rfl
  | [], _ :: _, _, _, h => absurd h (by unfold cmpR; decide)
  | _ :: _, [], _, _, h => absurd h (by unfold cmpR; decide)
  | a :: l, b :: m, hl, hm, h => by
    unfold cmpR at h
    by_cases q : cmpD a b = 0
    · rw [if_pos q] at h
      rw [(cmpD_zero (hl a (List.mem_cons_self ..)).1 (hm b (List.mem_cons_self ..)).1).1 q, row_zero l m (fun d hd => hl d (List.mem_cons_of_mem _ hd)) (fun d hd => hm d (List.mem_cons_of_mem _ hd)) h]
    · rw [if_neg q] at h
      exact absurd h q
theorem key_inj {l m : List Dat} (hl : ∀ d ∈ l, d.check = 0 ∧ InD d) (hm : ∀ d ∈ m, d.check = 0 ∧ InD d) (h : rkeyT l = rkeyT m) : l = m :=
  row_zero l m hl hm (by rw [← key_ord l m hl hm, h]; exact lexB_refl _)
end Go.Proofs.YtdgbkpoickbidaaGreatDoor
namespace Go.Proofs.YtdgbkpoickbidaaGreatDoor
open Go.ChangeShapes Go.WideShapes Go.ChangeAt Go.RowKit Go.WideElems

instance : Inhabited Dat := ⟨Dat.zero⟩
section
variable {H : Type} {enc : TypeId × Value → H} {W : World}
theorem list4 {α : Type} {l : List α} (h : l.length = 4) : ∃ a b c d, l = [a, b, c, d] := by
  match l, h with
  | [a, b, c, d], _ => exact ⟨a, b, c, d, rfl⟩
theorem one_kind : Tryz.prog.cellsOf 202 = 1 := by kernel_rfl
theorem one_bool : Tryz.prog.cellsOf 4 = 1 := by kernel_rfl
theorem one_i64 : Tryz.prog.cellsOf 2 = 1 := by kernel_rfl
theorem one_str : Tryz.prog.cellsOf 9 = 1 := by kernel_rfl
theorem four_dat : Tryz.prog.cellsOf 204 = 4 := by kernel_rfl
/-- a datum's cells, read -/
theorem come_datC {sp : Nat → Bool} {held : Bool} {fuel : Nat} {cs : List Value} {y : DataW H × List MemPlace} (h : DataW.trod enc Tryz.prog W 0 sp held fuel 204 cs = some y) :
    ∃ d : Dat, cs = datC d ∧ InD d ∧ d.s.size ≤ 9223372036854775807 ∧ (0 ≤ d.k ∧ d.k ≤ 255) := by
  obtain ⟨y0, y1, y2, y3, n, _, hl, h0, h1, h2, h3⟩ := Go.Joins.trod_struct4 Tryz.underlying204 h
  rw [four_dat] at hl
  obtain ⟨c0, c1, c2, c3, rfl⟩ := list4 hl
  have g0 : DataW.trod enc Tryz.prog W 0 sp held n 202 [c0] = some y0 := by
    have : DataW.trod enc Tryz.prog W 0 sp held n 202 (([c0, c1, c2, c3].drop 0).take (Tryz.prog.cellsOf 202)) = some y0 := h0
    rw [one_kind] at this
    exact this
  have g1 : DataW.trod enc Tryz.prog W 0 sp held n 4 [c1] = some y1 := by
    have : DataW.trod enc Tryz.prog W 0 sp held n 4 (([c0, c1, c2, c3].drop 1).take (Tryz.prog.cellsOf 4)) = some y1 := h1
    rw [one_bool] at this
    exact this
  have g2 : DataW.trod enc Tryz.prog W 0 sp held n 2 [c2] = some y2 := by
    have : DataW.trod enc Tryz.prog W 0 sp held n 2 (([c0, c1, c2, c3].drop 2).take (Tryz.prog.cellsOf 2)) = some y2 := h2
    rw [one_i64] at this
    exact this
  have g3 : DataW.trod enc Tryz.prog W 0 sp held n 9 [c3] = some y3 := by
    have : DataW.trod enc Tryz.prog W 0 sp held n 9 (([c0, c1, c2, c3].drop 3).take (Tryz.prog.cellsOf 9)) = some y3 := h3
    rw [one_str] at this
    exact this
  obtain ⟨k, e0, _, w0⟩ := DataW.trod_int Tryz.underlying202 g0
  obtain ⟨b, e1, _⟩ := DataW.trod_bool Tryz.underlying4 g1
  obtain ⟨m, e2, _, w2⟩ := DataW.trod_int Tryz.underlying2 g2
  obtain ⟨s, e3, _, w3⟩ := DataW.trod_string Tryz.underlying9 g3
  obtain rfl : c0 = .int .u8 k := by simpa using e0
  obtain rfl : c1 = .bool b := by simpa using e1
  obtain rfl : c2 = .int .i64 m := by simpa using e2
  obtain rfl : c3 = .string s := by simpa using e3
  exact ⟨⟨k, b, m, s⟩, rfl, dwf_i64 w2, w3, wf_u8 w0⟩
/-- what is known of a row that comes in -/
structure RwIn (l : List Dat) : Prop where
  txt : RwTxt l
  int : RwInt l
  kind : ∀ d ∈ l, 0 ≤ d.k ∧ d.k ≤ 255
theorem come_rowC {fuel : Nat} {cs : List Value} {y : DataW H × List MemPlace} (h : DataW.trod enc Tryz.prog W 0 (fun _ => true) true fuel 79 cs = some y) :
    ∃ A c l, cs = [.slice A l.length c] ∧ Rw W A c l ∧ RwIn l := by
  rcases Go.Deep.open_slice Tryz.underlying79 h with ⟨hcs, _⟩ | ⟨a, n, c, m, fu, D, Pl, hcs, _, hnc, hcm, hm, _, hx⟩
  · exact ⟨none, 0, [], hcs, Rw.nil W, ⟨fun d hd => (nomatch hd), fun d hd => (nomatch hd), fun d hd => (nomatch hd)⟩⟩
  · rw [four_dat] at hx
    have hmn : n ≤ m := by rw [hm]; split <;> omega
    obtain ⟨F, hF⟩ := Go.Deep.choose_lt (α := Dat) (n := n) (p := fun i d => (∀ j, j < 4 → W.cell? (a.add (i * 4 + j)) = (datC d)[j]?) ∧ InD d ∧ d.s.size ≤ 9223372036854775807 ∧ (0 ≤ d.k ∧ d.k ≤ 255)) (fun i hi => by
      obtain ⟨cs', h1, h2⟩ := hx i (by omega)
      obtain ⟨_, _, h3⟩ := World.cells?_some h1
      obtain ⟨d, rfl, h4⟩ := come_datC h2
      exact ⟨d, fun j hj => by rw [← add_add']; exact h3 j hj, h4⟩)
    have hlen : ((List.range n).map F).length = n := by simp
    have hmem : ∀ d ∈ (List.range n).map F, InD d ∧ d.s.size ≤ 9223372036854775807 ∧ (0 ≤ d.k ∧ d.k ≤ 255) := fun d hd => by
      obtain ⟨i, hi, rfl⟩ := List.mem_map.1 hd
      exact (hF i (List.mem_range.1 hi)).2
    refine ⟨some a, c, (List.range n).map F, by rw [hlen]; exact hcs, ⟨by rw [rowC_len], by rw [hlen]; exact hnc, hcm, (fun h => nomatch h), fun _ => ⟨a, rfl, fun j u hu => ?_⟩⟩, ⟨fun d hd => (hmem d hd).2.1, fun d hd => (hmem d hd).1, fun d hd => (hmem d hd).2.2⟩⟩
    have hj : j < n * 4 := by
      rcases Nat.lt_or_ge j (n * 4) with q | q
      · exact q
      · rw [List.getElem?_eq_none (by rw [rowC_len, hlen]; exact q)] at hu
        cases hu
    have e : j = j / 4 * 4 + j % 4 := by omega
    rw [e, rowC_at _ _ _ (by rw [hlen]; omega) (by omega)] at hu
    have e2 : ((List.range n).map F).getD (j / 4) Dat.zero = F (j / 4) := by
      rw [List.getD_eq_getElem?_getD, List.getElem?_map, List.getElem?_range (by omega)]
      rfl
    rw [e2] at hu
    rw [e, (hF (j / 4) (by omega)).1 (j % 4) (by omega)]
    exact hu
set_option maxRecDepth 100000 in
theorem come_row {base : Nat} {v : Value} {d : DataW H} {p : List MemPlace} (hv : Value.okWide Tryz.prog W .any base 79 v) (h : DataW.Trod enc Tryz.prog W 0 (fun _ => true) true 79 v d p) :
    ∃ A c l, v = .slice A l.length c ∧ Rw W A c l ∧ RwIn l := by
  obtain ⟨fuel, hf⟩ := h
  obtain ⟨A, c, l, e, h1, h2⟩ := come_rowC hf
  obtain ⟨A', n', c', rfl⟩ := okWide_slice Tryz.underlying79 hv
  have e' : (Value.slice A' n' c') = .slice A l.length c := by injection e
  exact ⟨A, c, l, e', h1, h2⟩
end
end Go.Proofs.YtdgbkpoickbidaaGreatDoor
namespace Go.Proofs.YtdgbkpoickbidaaGreatDoor
open Go.ChangeShapes Go.WideShapes Go.ChangeAt Go.RowKit Go.WideElems

theorem wf_i64 {n : Int} (h : (Lit.int .i64 n).wf = true) : -9223372036854775808 ≤ n ∧ n ≤ 9223372036854775807 := by
  simpa [Lit.wf, IntKind.min, IntKind.max, IntKind.signed, IntKind.bits] using h
theorem wf_u64 {n : Int} (h : (Lit.int .u64 n).wf = true) : 0 ≤ n ∧ n ≤ 18446744073709551615 := by
  simpa [Lit.wf, IntKind.min, IntKind.max, IntKind.signed, IntKind.bits] using h
theorem wf_u32 {n : Int} (h : (Lit.int .u32 n).wf = true) : 0 ≤ n ∧ n ≤ 4294967295 := by
  simpa [Lit.wf, IntKind.min, IntKind.max, IntKind.signed, IntKind.bits] using h

section
variable {H : Type} {enc : TypeId × Value → H} {W : World}
set_option maxRecDepth 100000 in
theorem come_words {fuel : Nat} {v : Value} {y : DataW H × List MemPlace} (h : DataW.trod enc Tryz.prog W 0 (fun _ => true) true fuel 24 [v] = some y) :
    ∃ A n c l, v = .slice A n c ∧ Sl W 1 A n c (wds l) ∧ U32 l := by
  rcases open_ints Tryz.underlying24 Tryz.underlying180 (by kernel_rfl) h with ⟨hcs, _⟩ | ⟨a, n, c, zs, hcs, _, hnc, hcm, hzl, _, hcell, hwf⟩
  · obtain rfl : v = .slice none 0 0 := by simpa using hcs
    exact ⟨none, 0, 0, [], rfl, Sl.nil W 1, fun x hx => by cases hx⟩
  · obtain rfl : v = .slice (some a) n c := by simpa using hcs
    have hz : zs.length = c := by simpa using hzl
    refine ⟨some a, n, c, zs.take n, rfl, ⟨by simp [wds]; omega, hnc, hcm, (fun h => nomatch h), fun _ => ⟨a, rfl, fun j u hu => ?_⟩⟩, fun x hx => wf_u32 (hwf x (List.mem_of_mem_take hx))⟩
    simp only [wds, List.getElem?_map, List.getElem?_take] at hu
    split at hu
    · rename_i hj
      have hc1 := hcell j (by omega)
      rw [List.getD_eq_getElem?_getD, List.getElem?_eq_getElem (show j < zs.length by omega)] at hc1
      rw [List.getElem?_eq_getElem (show j < zs.length by omega)] at hu
      simp only [Option.map_some, Option.some.injEq] at hu
      rw [← hu]
      exact hc1
    · cases hu

set_option maxRecDepth 100000 in
theorem come_time {base : Nat} {v : Value} {d : DataW H} {p : List MemPlace} (hv : Value.okWide Tryz.prog W .any base 26 v) (h : DataW.Trod enc Tryz.prog W 0 (fun _ => true) true 26 v d p) :
    ∃ e A n c l, v = .agg #[.int .u64 e, .slice A n c] ∧ Sl W 1 A n c (wds l) ∧ U32 l ∧ 0 ≤ e ∧ e ≤ 18446744073709551615 := by
  obtain ⟨v0, v1, y0, y1, n, rfl, _, _, h0, h1⟩ := Go.Joins.open_agg2 Tryz.underlying26 (by kernel_rfl) (by kernel_rfl) hv h
  obtain ⟨L, e0, _, w0⟩ := DataW.trod_int Tryz.underlying23 h0
  obtain ⟨A, k, c, l, rfl, hs, hu⟩ := come_words h1
  obtain rfl : v0 = .int .u64 L := by simpa using e0
  exact ⟨L, A, k, c, l, rfl, hs, hu, wf_u64 w0⟩

set_option maxRecDepth 100000 in
theorem come_int {base : Nat} {v : Value} {d : DataW H} {p : List MemPlace} (hv : Value.okWide Tryz.prog W .any base 3 v) (h : DataW.Trod enc Tryz.prog W 0 (fun _ => true) true 3 v d p) :
    ∃ n, v = .int .i64 n ∧ -9223372036854775808 ≤ n ∧ n ≤ 9223372036854775807 := by
  obtain ⟨n, rfl, _, _, hw⟩ := open_int Tryz.underlying3 hv h
  exact ⟨n, rfl, wf_i64 hw⟩
end
end Go.Proofs.YtdgbkpoickbidaaGreatDoor
namespace Go.Proofs.YtdgbkpoickbidaaGreatDoor
open Go.RowKit

theorem elemWords : Elem Tryz.prog 24 180 1 4 (.int .u32 0) := ⟨by kernel_rfl, by kernel_rfl, rfl, by omega⟩

set_option maxRecDepth 100000 in
set_option maxHeartbeats 800000 in
theorem each_same (g : Int → Int → Int) (F : Nat) (hent : ∀ args w, Sem.run Tryz.prog (callFunc F args) w = .ok (.enter F args) w) (hF : ∀ x y w, Calls Tryz.prog F #[.int .u64 x, .int .u64 y] w fun e w' => e = .returned (.int .u64 (g x y)) ∧ w = w')
    (hg : ∀ x y, 0 ≤ x → x ≤ 4294967295 → 0 ≤ y → y ≤ 4294967295 → 0 ≤ g x y ∧ g x y ≤ 4294967295)
    (e1 e2 : Int) (A1 A2 : Option Addr) (n c1 c2 : Nat) (l1 l2 : List Int) (w : World) (h1 : Sl w 1 A1 n c1 (wds l1)) (h2 : Sl w 1 A2 n c2 (wds l2)) (u1 : U32 l1) (u2 : U32 l2) (hn : n * 4 ≤ 140737488355328) :
    Calls Tryz.prog 227 #[.agg #[.int .u64 e1, .slice A1 n c1], .agg #[.int .u64 e2, .slice A2 n c2], .func (.func F) #[] #[]] w fun e w' =>
      ∃ A c, e = .returned (.tuple #[.agg #[.int .u64 (g e1 e2), .slice A n c], .int .u16 0]) ∧ Own w' w.heap.size 180 1 A n c (wds (List.zipWith g l1 l2)) ∧ Ext w w' := by
  have hm := h1.le
  have he : ((n : Int) != (n : Int)) = false := by simp
  have HF := Lib.hid hF
  have HG := Lib.hid hg
  clear hF hg
  go_enter Tryz.func227, Tryz.ntmps227
  go_wp2_with (refine (HF.out _ _ _).mono ?_; rintro e w1 ⟨rfl, rfl⟩)
  obtain ⟨w0, hw0⟩ : ∃ w0, w0 = ((w.alloc (Obj.cells #[Value.int IntKind.u64 e1, Value.slice A1 n c1] 26)).alloc (Obj.cells #[Value.int IntKind.u64 e2, Value.slice A2 n c2] 26)).alloc
      (Obj.cells #[Value.int IntKind.u64 0, Value.slice none 0 0] 26) := ⟨_, rfl⟩
  have x0 : Ext w w0 := hw0 ▸ (((Ext.refl w).alloc _).alloc _).alloc _
  have s0 : w0.heap.size = w.heap.size + 3 := by subst hw0; simp
  have b3 : w0.cell? ⟨w.heap.size, 1, none⟩ = some (Value.slice A1 n c1) := by subst hw0; go_simp
  have b4 : w0.cell? ⟨w.heap.size + 1, 1, none⟩ = some (Value.slice A2 n c2) := by subst hw0; go_simp
  have b6 : Bk w0 (w.heap.size + 1 + 1) 26 #[Value.int IntKind.u64 0, Value.slice none 0 0] := by subst hw0; exact Bk.at (by simp)
  rw [← hw0]
  clear hw0
  have S0 := Lib.hid s0
  go_loopw [28] (fun t wr => ∃ (k : Nat) (A : Option Addr) (c : Nat), k ≤ n ∧ t = .int .i64 k ∧ Below (w.heap.size + 3) w0 wr ∧ Bk wr (w.heap.size + 1 + 1 + 1) 26 #[.int .u64 (g e1 e2), .slice A k c] ∧ Own wr (w.heap.size + 4) 180 1 A k c (wds (List.zipWith g (l1.take k) (l2.take k))))
    (fun t _ => n - (intOf t).toNat)
  case atStart =>
    refine ⟨0, _, _, Nat.zero_le _, rfl, ?_, ?_, by simpa [wds] using Own.nil _ _ _ _⟩
    · exact (Below.refl _ _).alloc (by omega) _
    · have := Bk.new w0 26 #[.int .u64 (g e1 e2), Value.slice none 0 0]
      rw [s0] at this
      exact this
  case round =>
    obtain ⟨k, A, c, hk, rfl, hbl, hb8, hown⟩ := hrel
    by_cases hlt : k < n
    · obtain ⟨a1, ha1, hc1, k1⟩ := h1.word hlt
      obtain ⟨a2, ha2, hc2, k2⟩ := h2.word hlt
      have q3 := cell_below hbl b3 (by simp)
      have q4 := cell_below hbl b4 (by simp)
      have q8 := hb8.cell 1
      have f8 := hb8.free 1
      have d1 := cell_below hbl (x0.cell hc1) (by simp only [block_add]; omega)
      have d2 := cell_below hbl (x0.cell hc2) (by simp only [block_add]; omega)
      simp at q8
      have C1 := Lib.hid hc1
      have C2 := Lib.hid hc2
      clear hc1 hc2
      have i0 : (0 : Int) ≤ (k : Int) := Int.natCast_nonneg _
      have i1 : (k : Int) < (n : Int) := by omega
      have hsz := hbl.size
      have r1 := u1.at k
      have r2 := u2.at k
      have R := HG.out _ _ r1.1 r1.2 r2.1 r2.2
      have E1 : IntKind.u64.wrap (l1[k]?.getD 0) = l1[k]?.getD 0 := IntWalk.u64_in _ (by omega)
      have E2 : IntKind.u64.wrap (l2[k]?.getD 0) = l2[k]?.getD 0 := IntWalk.u64_in _ (by omega)
      have E3 : IntKind.u32.wrap (g (l1[k]?.getD 0) (l2[k]?.getD 0)) = g (l1[k]?.getD 0) (l2[k]?.getD 0) := IntWalk.u32_in _ (by omega)
      go_wp2
      refine wp_region_ord [0,1,0,0,8,0,56,120,248,0,512,0,3584,7680,15872,32764,65532,131068,262143,524287,1048575] (.flo [0,1,2,3,4,5,6,7,8,9,10,11,12,13,14] (.ext 15 (.flo [16] (.ext 17 (.one 18 (.flo [19] (.one 20 (.fin)))))))) (by kernel_rfl) (by kernel_rfl) (by intro _ _ d _ _ h; cases d <;> exact h) ?_
      have X : Ext wr wr.drew := (Ext.refl wr).drew
      have q3' : ∀ y : Xt wr.drew, y.W.cell? ⟨w.heap.size, 1, none⟩ = some (.slice A1 n c1) := fun y => y.x.cell (X.cell q3)
      have q4' : ∀ y : Xt wr.drew, y.W.cell? ⟨w.heap.size + 1, 1, none⟩ = some (.slice A2 n c2) := fun y => y.x.cell (X.cell q4)
      have q8' : ∀ y : Xt wr.drew, y.W.cell? ⟨w.heap.size + 1 + 1 + 1, 1, none⟩ = some (.slice A k c) := fun y => y.x.cell (X.cell q8)
      have d1' : ∀ y : Xt wr.drew, y.W.cell? (a1.add k) = some (.int .u32 (l1.getD k 0)) := fun y => y.x.cell (X.cell d1)
      have d2' : ∀ y : Xt wr.drew, y.W.cell? (a2.add k) = some (.int .u32 (l2.getD k 0)) := fun y => y.x.cell (X.cell d2)
      (refine ord_flo (pick_cons rfl (pick_cons rfl (pick_cons rfl (pick_cons rfl (pick_cons rfl (pick_cons rfl (pick_cons rfl (pick_cons rfl (pick_cons rfl (pick_cons rfl (pick_cons rfl (pick_cons rfl (pick_cons rfl (pick_cons rfl (pick_cons rfl pick_nil))))))))))))))) ?_; (repeat (go_big_quiet_step (fail))); refine wpQuiet_nil ?_; show ordWalk _ _ _ _ _ _ _)
      refine ord_ext (pick_cons rfl pick_nil) ?_; intro K_ hK_
      go_wp2_with (refine (HF.out _ _ _).mono ?_; rintro e w1 ⟨rfl, rfl⟩)
      refine ordNext.mk (Ext.refl _) ?_
      (refine ord_flo (pick_cons rfl pick_nil) ?_; (repeat (go_big_quiet_step (fail))); refine wpQuiet_nil ?_; show ordWalk _ _ _ _ _ _ _)
      refine ord_ext (pick_cons rfl pick_nil) ?_; intro K_ hK_
      go_wp2
      refine ordNext.mk ((Ext.refl _).alloc _) ?_
      refine ord_one (pick_cons rfl pick_nil) ?_; intro K_ hK_
      go_wp2_with (at_builtin; refine wpList_append_gen _ elemWords (w.heap.size + 4) _ _ (by rfl) (by rfl) A k c _ (by rfl) ((hown.alloc _).drew) (some ⟨wr.heap.size, 0, none⟩) 1 1 _ (by rfl) ((Sl.one wr _ _ 1 rfl).drew) (by simp [Value.oneCell']) (by omega) (by omega) (by simp; omega) ?_; intro A' c' w1 ho1 hg1 hk1)
      have b81 := Bk.grown (by exact (hb8.alloc _).drew) hg1 (hown.ne (by simp))
      have f81 := b81.free 1
      have q81 : w1.cell? ⟨w.heap.size + 1 + 1 + 1, 1, none⟩ = some (.slice A k c) := b81.cell 1
      (refine ord_flo (pick_cons rfl pick_nil) ?_; (repeat (go_big_quiet_step (fail))); refine wpQuiet_nil ?_; show ordWalk _ _ _ _ _ _ _)
      refine ord_one (pick_cons rfl pick_nil) ?_; intro K_ hK_
      go_wp2
      refine ord_fin ?_
      go_wp2
      rw [← ha1, ← ha2]
      go_roundw
      case rel =>
        refine ⟨k + 1, A', c', by omega, by go_num, ?_, ?_, ?_⟩
        · exact (((hbl.alloc (by omega) _).drew).grown hg1 (by simp; omega) (fun g hg => by have := hown.lt g hg; omega)).setCell (by simp) _
        · exact b81.set 1 _
        · refine (show Own _ _ _ _ _ _ _ _ from ?_)
          have hl1 := h1.wlen
          have hl2 := h2.wlen
          rw [take_succ_getD _ _ (by omega), take_succ_getD _ _ (by omega), List.zipWith_append (by simp; omega), ← wds_append]
          exact (ho1.far (by rcases hk1 with e | e <;> rw [e]; exact hown.ne (by simp); simp; omega) _)
      case measure => simp [intOf]; omega
    · obtain rfl : k = n := by omega
      have r0 : wr.cell? ⟨w.heap.size + 1 + 1 + 1, 0, none⟩ = some (.int .u64 (g e1 e2)) := hb8.cell 0
      have r1 : wr.cell? ⟨w.heap.size + 1 + 1 + 1, 1, none⟩ = some (.slice A k c) := hb8.cell 1
      have b6r := b6.below hbl (by omega)
      have r2 : wr.cell? ⟨w.heap.size + 1 + 1, 0, none⟩ = some (.int .u64 0) := b6r.cell 0
      have r3 : wr.cell? ⟨w.heap.size + 1 + 1, 1, none⟩ = some (.slice none 0 0) := b6r.cell 1
      have r4 := b6r.free 0
      have r5 := b6r.free 1
      have bb := (b6r.set 0 (.int .u64 (g e1 e2))).set 1 (.slice A k c)
      have q0 : ((wr.setCell ⟨w.heap.size + 1 + 1, 0, none⟩ (.int .u64 (g e1 e2))).setCell ⟨w.heap.size + 1 + 1, 1, none⟩ (.slice A k c)).cell? ⟨w.heap.size + 1 + 1, 0, none⟩ = some (.int .u64 (g e1 e2)) := bb.cell 0
      have q1 : ((wr.setCell ⟨w.heap.size + 1 + 1, 0, none⟩ (.int .u64 (g e1 e2))).setCell ⟨w.heap.size + 1 + 1, 1, none⟩ (.slice A k c)).cell? ⟨w.heap.size + 1 + 1, 1, none⟩ = some (.slice A k c) := bb.cell 1
      go_wp2
      refine bodyPost_ret (v := .tuple #[.agg #[.int .u64 (g e1 e2), .slice A k c], .int .u16 0]) (by simp [results, Tryz.results227, go_sem, q0, q1]) rfl ?_
      refine ⟨A, c, rfl, ?_, ?_⟩
      · have hl1 := h1.wlen
        have hl2 := h2.wlen
        rw [List.take_of_length_le (by omega), List.take_of_length_le (by omega)] at hown
        exact ((hown.mono (by omega)).far (hown.ne (by simp)) _).far (hown.ne (by simp)) _
      · have e1 : Ext w wr := Below.trans x0 (hbl.mono (by omega))
        exact (e1.set (by simp; omega) _).set (by simp; omega) _
end Go.Proofs.YtdgbkpoickbidaaGreatDoor
namespace Go.Proofs.YtdgbkpoickbidaaGreatDoor
open Go.RowKit

set_option maxRecDepth 100000 in
set_option maxHeartbeats 400000 in
theorem each_diff (F : Nat) (e1 e2 : Int) (A1 A2 : Option Addr) (n1 n2 c1 c2 : Nat) (w : World) (hne : ((n1 : Int) != (n2 : Int)) = true) :
    Calls Tryz.prog 227 #[.agg #[.int .u64 e1, .slice A1 n1 c1], .agg #[.int .u64 e2, .slice A2 n2 c2], .func (.func F) #[] #[]] w fun e w' =>
      e = .returned (.tuple #[.agg #[.int .u64 0, .slice none 0 0], .int .u16 40]) ∧ Ext w w' := by
  go_enter Tryz.func227, Tryz.ntmps227
  go_wp2
  go_returns
  exact ⟨rfl, (((Ext.refl w).alloc _).alloc _).alloc _⟩

set_option maxRecDepth 100000 in
set_option maxHeartbeats 400000 in
theorem max_any (x y : Int) (w : World) : Calls Tryz.prog 228 #[.int .u64 x, .int .u64 y] w fun e w' => e = .returned (.int .u64 (max x y)) ∧ w = w' := by
  go_enter Tryz.func228, Tryz.ntmps228
  go_wp2
  all_goals go_ret
  all_goals exact ⟨ret_int (by omega), rfl⟩
set_option maxRecDepth 100000 in
set_option maxHeartbeats 400000 in
theorem min_any (x y : Int) (w : World) : Calls Tryz.prog 229 #[.int .u64 x, .int .u64 y] w fun e w' => e = .returned (.int .u64 (min x y)) ∧ w = w' := by
  go_enter Tryz.func229, Tryz.ntmps229
  go_wp2
  all_goals go_ret
  all_goals exact ⟨ret_int (by omega), rfl⟩

set_option maxRecDepth 100000 in
set_option maxHeartbeats 400000 in
theorem join_diff (e1 e2 : Int) (A1 A2 : Option Addr) (n1 n2 c1 c2 : Nat) (w : World) (hne : ((n1 : Int) != (n2 : Int)) = true) :
    Calls Tryz.prog 191 #[.agg #[.int .u64 e1, .slice A1 n1 c1], .agg #[.int .u64 e2, .slice A2 n2 c2]] w fun e w' =>
      e = .returned (.tuple #[.agg #[.int .u64 0, .slice none 0 0], .int .u16 40]) ∧ Ext w w' := by
  go_enter Tryz.func191, Tryz.ntmps191
  go_wp2_with (refine (each_diff _ _ _ _ _ _ _ _ _ _ hne).mono ?_; rintro e w1 ⟨rfl, x1⟩; have b4 : Bk w1 (w.heap.size + 1 + 1) 26 #[.int .u64 0, .slice none 0 0] := Bk.ext (Bk.at (by simp)) x1; have q0 := b4.cell 0; have q1 := b4.cell 1; have f0 := b4.free 0; have f1 := b4.free 1)
  have q := b4.set2 (.int .u64 0) (.slice none 0 0)
  refine bodyPost_ret (v := .tuple #[.agg #[.int .u64 0, .slice none 0 0], .int .u16 40]) (by simp [results, Tryz.results191, go_sem, q.1, q.2]) rfl ⟨rfl, ?_⟩
  have x2 := ((((Ext.refl w).alloc _).alloc _).alloc _).trans x1
  exact (x2.set (by simp; omega) _).set (by simp; omega) _
set_option maxRecDepth 100000 in
set_option maxHeartbeats 400000 in
theorem join_same (e1 e2 : Int) (A1 A2 : Option Addr) (n c1 c2 : Nat) (l1 l2 : List Int) (w : World) (h1 : Sl w 1 A1 n c1 (wds l1)) (h2 : Sl w 1 A2 n c2 (wds l2)) (u1 : U32 l1) (u2 : U32 l2) (hn : n * 4 ≤ 140737488355328) :
    Calls Tryz.prog 191 #[.agg #[.int .u64 e1, .slice A1 n c1], .agg #[.int .u64 e2, .slice A2 n c2]] w fun e w' =>
      ∃ A c, e = .returned (.tuple #[.agg #[.int .u64 (max e1 e2), .slice A n c], .int .u16 0]) ∧ Own w' w.heap.size 180 1 A n c (wds (List.zipWith max l1 l2)) ∧ Ext w w' := by
  go_enter Tryz.func191, Tryz.ntmps191
  go_wp2_with (refine (each_same max 228 (fun _ _ => by kernel_rfl) max_any (by intros; omega) e1 e2 A1 A2 n c1 c2 l1 l2 _ (h1.ext ((((Ext.refl w).alloc _).alloc _).alloc _)) (h2.ext ((((Ext.refl w).alloc _).alloc _).alloc _)) u1 u2 hn).mono ?_; rintro e w1 ⟨A, c, rfl, ho, x1⟩; have b4 : Bk w1 (w.heap.size + 1 + 1) 26 #[.int .u64 0, .slice none 0 0] := Bk.ext (Bk.at (by simp)) x1; have q0 := b4.cell 0; have q1 := b4.cell 1; have f0 := b4.free 0; have f1 := b4.free 1)
  have q := b4.set2 (.int .u64 (max e1 e2)) (.slice A n c)
  refine bodyPost_ret (v := .tuple #[.agg #[.int .u64 (max e1 e2), .slice A n c], .int .u16 0]) (by simp [results, Tryz.results191, go_sem, q.1, q.2]) rfl ⟨A, c, rfl, ?_, ?_⟩
  · exact ((ho.mono (by simp; omega)).far (ho.ne (by simp)) _).far (ho.ne (by simp)) _
  · have x2 := ((((Ext.refl w).alloc _).alloc _).alloc _).trans x1
    exact (x2.set (by simp; omega) _).set (by simp; omega) _

set_option maxRecDepth 100000 in
set_option maxHeartbeats 400000 in
theorem meet_diff (e1 e2 : Int) (A1 A2 : Option Addr) (n1 n2 c1 c2 : Nat) (w : World) (hne : ((n1 : Int) != (n2 : Int)) = true) :
    Calls Tryz.prog 192 #[.agg #[.int .u64 e1, .slice A1 n1 c1], .agg #[.int .u64 e2, .slice A2 n2 c2]] w fun e w' =>
      e = .returned (.tuple #[.agg #[.int .u64 0, .slice none 0 0], .int .u16 40]) ∧ Ext w w' := by
  go_enter Tryz.func192, Tryz.ntmps192
  go_wp2_with (refine (each_diff _ _ _ _ _ _ _ _ _ _ hne).mono ?_; rintro e w1 ⟨rfl, x1⟩; have b4 : Bk w1 (w.heap.size + 1 + 1) 26 #[.int .u64 0, .slice none 0 0] := Bk.ext (Bk.at (by simp)) x1; have q0 := b4.cell 0; have q1 := b4.cell 1; have f0 := b4.free 0; have f1 := b4.free 1)
  have q := b4.set2 (.int .u64 0) (.slice none 0 0)
  refine bodyPost_ret (v := .tuple #[.agg #[.int .u64 0, .slice none 0 0], .int .u16 40]) (by simp [results, Tryz.results192, go_sem, q.1, q.2]) rfl ⟨rfl, ?_⟩
  have x2 := ((((Ext.refl w).alloc _).alloc _).alloc _).trans x1
  exact (x2.set (by simp; omega) _).set (by simp; omega) _
set_option maxRecDepth 100000 in
set_option maxHeartbeats 400000 in
theorem meet_same (e1 e2 : Int) (A1 A2 : Option Addr) (n c1 c2 : Nat) (l1 l2 : List Int) (w : World) (h1 : Sl w 1 A1 n c1 (wds l1)) (h2 : Sl w 1 A2 n c2 (wds l2)) (u1 : U32 l1) (u2 : U32 l2) (hn : n * 4 ≤ 140737488355328) :
    Calls Tryz.prog 192 #[.agg #[.int .u64 e1, .slice A1 n c1], .agg #[.int .u64 e2, .slice A2 n c2]] w fun e w' =>
      ∃ A c, e = .returned (.tuple #[.agg #[.int .u64 (min e1 e2), .slice A n c], .int .u16 0]) ∧ Own w' w.heap.size 180 1 A n c (wds (List.zipWith min l1 l2)) ∧ Ext w w' := by
  go_enter Tryz.func192, Tryz.ntmps192
  go_wp2_with (refine (each_same min 229 (fun _ _ => by kernel_rfl) min_any (by intros; omega) e1 e2 A1 A2 n c1 c2 l1 l2 _ (h1.ext ((((Ext.refl w).alloc _).alloc _).alloc _)) (h2.ext ((((Ext.refl w).alloc _).alloc _).alloc _)) u1 u2 hn).mono ?_; rintro e w1 ⟨A, c, rfl, ho, x1⟩; have b4 : Bk w1 (w.heap.size + 1 + 1) 26 #[.int .u64 0, .slice none 0 0] := Bk.ext (Bk.at (by simp)) x1; have q0 := b4.cell 0; have q1 := b4.cell 1; have f0 := b4.free 0; have f1 := b4.free 1)
  have q := b4.set2 (.int .u64 (min e1 e2)) (.slice A n c)
  refine bodyPost_ret (v := .tuple #[.agg #[.int .u64 (min e1 e2), .slice A n c], .int .u16 0]) (by simp [results, Tryz.results192, go_sem, q.1, q.2]) rfl ⟨A, c, rfl, ?_, ?_⟩
  · exact ((ho.mono (by simp; omega)).far (ho.ne (by simp)) _).far (ho.ne (by simp)) _
  · have x2 := ((((Ext.refl w).alloc _).alloc _).alloc _).trans x1
    exact (x2.set (by simp; omega) _).set (by simp; omega) _
end Go.Proofs.YtdgbkpoickbidaaGreatDoor
namespace Go.Proofs.YtdgbkpoickbidaaGreatDoor
open Go.RowKit

set_option maxRecDepth 100000 in
set_option maxHeartbeats 400000 in
theorem clone_words (A : Option Addr) (n c : Nat) (xs : List Value) (w : World) (h : Sl w 1 A n c xs) (h1 : ∀ u ∈ xs, u.oneCell' = true) (hn : n * 4 ≤ 140737488355328) :
    Calls Tryz.prog 184 #[.slice A n c] w fun e w' => ∃ A' c', e = .returned (.slice A' n c') ∧ Own w' w.heap.size 180 1 A' n c' xs ∧ Ext w w' := by
  have hnil := fun (W : World) => Lib.run_eql_slice_nil (P := Tryz.prog) W 24 180 A n c 0 0 Tryz.underlying24
  rcases A with _ | a
  · obtain rfl : c = 0 := h.2.2.2.1 rfl
    have hn0 : n = 0 := by have := h.2.1; omega
    subst hn0
    have hx : xs = [] := List.eq_nil_of_length_eq_zero (by simpa using h.1)
    subst hx
    go_enter Tryz.func184, Tryz.ntmps184
    go_wp2
    go_ret
    exact ⟨none, 0, rfl, Own.nil _ _ _ _, Ext.refl _⟩
  · go_enter Tryz.func184, Tryz.ntmps184
    go_wp2_with (at_builtin; refine wpList_append_gen _ elemWords w.heap.size _ _ (by rfl) (by rfl) _ 0 0 [] (by rfl) (Own.empty _ _ _ _ _) (some a) n c xs (by rfl) (h.ext ((Ext.refl w).alloc _)) h1 (by omega) (by omega) (by simp) ?_; intro A' c' w1 ho1 hg1 hk1)
    go_ret
    refine ⟨A', c', by simp, by simpa using ho1, ?_⟩
    exact ((Ext.refl w).alloc _).grown hg1 (by simp [blk])

set_option maxRecDepth 100000 in
set_option maxHeartbeats 400000 in
theorem sameWords_diff (A1 A2 : Option Addr) (n1 n2 c1 c2 : Nat) (w : World) (hne : ((n1 : Int) != (n2 : Int)) = true) :
    Calls Tryz.prog 166 #[.slice A1 n1 c1, .slice A2 n2 c2] w fun e w' => e = .returned (.bool false) ∧ Ext w w' := by
  go_enter Tryz.func166, Tryz.ntmps166
  go_wp2
  go_ret
  exact ⟨rfl, Ext.refl _⟩

theorem getD_ext {l1 l2 : List Int} (hl : l1.length = l2.length) : (∀ k, k < l1.length → l1.getD k 0 = l2.getD k 0) ↔ l1 = l2 := by
  constructor
  · intro h
    refine List.ext_getElem hl fun k h1 h2 => ?_
    have := h k h1
    simpa [List.getD_eq_getElem?_getD, List.getElem?_eq_getElem h1, List.getElem?_eq_getElem h2] using this
  · rintro rfl k _; rfl

set_option maxRecDepth 100000 in
set_option maxHeartbeats 400000 in
theorem sameWords_same (A1 A2 : Option Addr) (n c1 c2 : Nat) (l1 l2 : List Int) (w : World) (h1 : Sl w 1 A1 n c1 (wds l1)) (h2 : Sl w 1 A2 n c2 (wds l2)) :
    Calls Tryz.prog 166 #[.slice A1 n c1, .slice A2 n c2] w fun e w' => e = .returned (.bool (decide (l1 = l2))) ∧ Ext w w' := by
  have hm := h1.le
  have hl1 := Lib.hid h1.wlen
  have hl2 := Lib.hid h2.wlen
  have he : ((n : Int) != (n : Int)) = false := by simp
  go_enter Tryz.func166, Tryz.ntmps166
  go_wp2
  go_loopw [5] (fun v wr => ∃ k : Nat, k ≤ n ∧ v = .int .i64 k ∧ (∀ j, j < k → l1.getD j 0 = l2.getD j 0) ∧ ∃ m, wr = w.drewN m) (fun v _ => n - (intOf v).toNat)
  case atStart => exact ⟨0, Nat.zero_le _, rfl, fun j hj => absurd hj (by omega), 0, rfl⟩
  case round =>
    obtain ⟨k, hk, rfl, hall, m, rfl⟩ := hrel
    have H := Lib.hid hall
    clear hall
    by_cases hlt : k < n
    · obtain ⟨a1, ha1, hc1, _⟩ := h1.word hlt
      obtain ⟨a2, ha2, hc2, _⟩ := h2.word hlt
      have T : Hid (k < l1.length) := by show k < l1.length; rw [hl1.out]; exact hlt
      by_cases hq : (l1[k]?.getD 0 != l2[k]?.getD 0) = true
      · go_wp2
        go_quiet (fail)
        go_wp2
        go_ret
        refine ⟨ret_bool (Eq.symm (decide_eq_false fun e => ?_)), ((Ext.refl w).drewN _).drewN _⟩
        rw [e] at hq
        simp at hq
      · have hq' : (l1[k]?.getD 0 != l2[k]?.getD 0) = false := by simpa using hq
        have Q := Lib.hid hq
        clear hq
        go_wp2
        go_quiet (fail)
        go_wp2
        go_roundw
        case rel =>
          refine ⟨k + 1, by omega, by go_num, fun j hj => ?_, _, rfl⟩
          by_cases hjk : j < k
          · exact H.out j hjk
          · obtain rfl : j = k := by omega
            simpa [List.getD_eq_getElem?_getD] using hq'
        case measure => simp [intOf]; omega
    · go_wp2
      go_ret
      refine ⟨ret_bool (Eq.symm (decide_eq_true ?_)), (Ext.refl w).drewN _⟩
      exact (getD_ext (by rw [hl1.out, hl2.out])).1 fun j hj => H.out j (by rw [hl1.out] at hj; omega)

theorem sameWords_any (A1 A2 : Option Addr) (n1 n2 c1 c2 : Nat) (l1 l2 : List Int) (w : World) (h1 : Sl w 1 A1 n1 c1 (wds l1)) (h2 : Sl w 1 A2 n2 c2 (wds l2)) :
    Calls Tryz.prog 166 #[.slice A1 n1 c1, .slice A2 n2 c2] w fun e w' => e = .returned (.bool (decide (l1 = l2))) ∧ Ext w w' := by
  by_cases hn : n1 = n2
  · subst hn; exact sameWords_same A1 A2 n1 c1 c2 l1 l2 w h1 h2
  · have hf : decide (l1 = l2) = false := decide_eq_false fun e => hn (by rw [← h1.wlen, ← h2.wlen, e])
    rw [hf]
    exact sameWords_diff A1 A2 n1 n2 c1 c2 w (by simp; omega)

def leqT (e1 : Int) (l1 : List Int) (e2 : Int) (l2 : List Int) : Bool := decide (l1.length = l2.length ∧ e1 ≤ e2 ∧ ∀ k, k < l1.length → l1.getD k 0 ≤ l2.getD k 0)
set_option maxRecDepth 100000 in
set_option maxHeartbeats 400000 in
theorem leq_diff (e1 e2 : Int) (A1 A2 : Option Addr) (n1 n2 c1 c2 : Nat) (w : World) (hne : ((n1 : Int) != (n2 : Int)) = true) :
    Calls Tryz.prog 108 #[.agg #[.int .u64 e1, .slice A1 n1 c1], .agg #[.int .u64 e2, .slice A2 n2 c2]] w fun e w' => e = .returned (.bool false) ∧ Ext w w' := by
  go_enter Tryz.func108, Tryz.ntmps108
  go_wp2
  go_ret
  exact ⟨rfl, ((Ext.refl w).alloc _).alloc _⟩
set_option maxRecDepth 100000 in
set_option maxHeartbeats 400000 in
theorem leq_late (e1 e2 : Int) (A1 A2 : Option Addr) (n c1 c2 : Nat) (w : World) (hlt : e2 < e1) :
    Calls Tryz.prog 108 #[.agg #[.int .u64 e1, .slice A1 n c1], .agg #[.int .u64 e2, .slice A2 n c2]] w fun e w' => e = .returned (.bool false) ∧ Ext w w' := by
  have he : ((n : Int) != (n : Int)) = false := by simp
  go_enter Tryz.func108, Tryz.ntmps108
  go_wp2
  go_ret
  exact ⟨rfl, ((Ext.refl w).alloc _).alloc _⟩
set_option maxRecDepth 100000 in
set_option maxHeartbeats 400000 in
theorem leq_same (e1 e2 : Int) (A1 A2 : Option Addr) (n c1 c2 : Nat) (l1 l2 : List Int) (w : World) (h1 : Sl w 1 A1 n c1 (wds l1)) (h2 : Sl w 1 A2 n c2 (wds l2)) (hle : e1 ≤ e2) :
    Calls Tryz.prog 108 #[.agg #[.int .u64 e1, .slice A1 n c1], .agg #[.int .u64 e2, .slice A2 n c2]] w fun e w' => e = .returned (.bool (decide (∀ k, k < n → l1.getD k 0 ≤ l2.getD k 0))) ∧ Ext w w' := by
  have hm := h1.le
  have he : ((n : Int) != (n : Int)) = false := by simp
  go_enter Tryz.func108, Tryz.ntmps108
  go_wp2
  obtain ⟨w0, hw0⟩ : ∃ w0, w0 = (w.alloc (Obj.cells #[Value.int IntKind.u64 e1, Value.slice A1 n c1] 26)).alloc (Obj.cells #[Value.int IntKind.u64 e2, Value.slice A2 n c2] 26) := ⟨_, rfl⟩
  have e0 : Ext w w0 := hw0 ▸ ((Ext.refl w).alloc _).alloc _
  have b1 : w0.cell? ⟨w.heap.size, 1, none⟩ = some (Value.slice A1 n c1) := by subst hw0; go_simp
  have b2 : w0.cell? ⟨w.heap.size + 1, 1, none⟩ = some (Value.slice A2 n c2) := by subst hw0; go_simp
  rw [← hw0]
  clear hw0
  go_loopw [23] (fun v wr => ∃ k : Nat, k ≤ n ∧ v = .int .i64 k ∧ (∀ j, j < k → l1.getD j 0 ≤ l2.getD j 0) ∧ ∃ m, wr = w0.drewN m) (fun v _ => n - (intOf v).toNat)
  case atStart => exact ⟨0, Nat.zero_le _, rfl, fun j hj => absurd hj (by omega), 0, rfl⟩
  case round =>
    obtain ⟨k, hk, rfl, hall, m, rfl⟩ := hrel
    have H := Lib.hid hall
    clear hall
    by_cases hlt : k < n
    · obtain ⟨a1, ha1, hc1, _⟩ := (h1.ext e0).word hlt
      obtain ⟨a2, ha2, hc2, _⟩ := (h2.ext e0).word hlt
      go_wp2
      go_quiet (fail)
      go_wp2
      · have hv : l2[k]?.getD 0 < l1[k]?.getD 0 := by assumption
        go_ret
        refine ⟨ret_bool (Eq.symm (decide_eq_false fun hh => ?_)), (e0.drewN _).drewN _⟩
        have := hh k hlt
        simp only [List.getD_eq_getElem?_getD] at this
        omega
      · have hv : l1[k]?.getD 0 ≤ l2[k]?.getD 0 := by assumption
        go_roundw
        case rel =>
          refine ⟨k + 1, by omega, by go_num, fun j hj => ?_, _, rfl⟩
          by_cases hjk : j < k
          · exact H.out j hjk
          · obtain rfl : j = k := by omega
            simpa only [List.getD_eq_getElem?_getD] using hv
        case measure => simp [intOf]; omega
    · go_wp2
      go_ret
      refine ⟨ret_bool (Eq.symm (decide_eq_true fun j hj => H.out j (by omega))), e0.drewN _⟩

theorem leq_any (e1 e2 : Int) (A1 A2 : Option Addr) (n1 n2 c1 c2 : Nat) (l1 l2 : List Int) (w : World) (h1 : Sl w 1 A1 n1 c1 (wds l1)) (h2 : Sl w 1 A2 n2 c2 (wds l2)) :
    Calls Tryz.prog 108 #[.agg #[.int .u64 e1, .slice A1 n1 c1], .agg #[.int .u64 e2, .slice A2 n2 c2]] w fun e w' => e = .returned (.bool (leqT e1 l1 e2 l2)) ∧ Ext w w' := by
  have hl1 := h1.wlen
  have hl2 := h2.wlen
  by_cases hn : n1 = n2
  · subst hn
    by_cases hlt : e2 < e1
    · have hf : leqT e1 l1 e2 l2 = false := decide_eq_false fun hh => by have := hh.2.1; omega
      rw [hf]; exact leq_late e1 e2 A1 A2 n1 c1 c2 w hlt
    · refine (leq_same e1 e2 A1 A2 n1 c1 c2 l1 l2 w h1 h2 (by omega)).mono fun e w' ⟨he, hx⟩ => ⟨he.trans (ret_bool ?_), hx⟩
      unfold leqT
      rw [decide_eq_decide, hl1, hl2]
      exact ⟨fun h => ⟨rfl, by omega, h⟩, fun h => h.2.2⟩
  · have hf : leqT e1 l1 e2 l2 = false := decide_eq_false fun hh => by have := hh.1; omega
    rw [hf]
    exact leq_diff e1 e2 A1 A2 n1 n2 c1 c2 w (by simp; omega)
end Go.Proofs.YtdgbkpoickbidaaGreatDoor
namespace Go.Proofs.YtdgbkpoickbidaaGreatDoor
open Go.RowKit

def cmpT (x y : Int) : Int := if x < y then -1 else if y < x then 1 else 0
theorem cmpT_lt {x y : Int} (h : x < y) : cmpT x y = -1 := by unfold cmpT; rw [if_pos h]
theorem cmpT_gt {x y : Int} (h : y < x) : cmpT x y = 1 := by unfold cmpT; rw [if_neg (by omega), if_pos h]
theorem cmpT_self (x : Int) : cmpT x x = 0 := by unfold cmpT; rw [if_neg (by omega), if_neg (by omega)]

set_option maxRecDepth 100000 in
set_option maxHeartbeats 400000 in
theorem nan_int (x : Int) (w : World) : Calls Tryz.prog 235 #[.int .i64 x] w fun e w' => e = .returned (.bool false) ∧ w = w' := by
  have h : (x != x) = false := by simp
  go_enter Tryz.func235, Tryz.ntmps235
  go_wp2
  go_ret
  exact ⟨rfl, rfl⟩
set_option maxRecDepth 100000 in
set_option maxHeartbeats 400000 in
theorem nan_u64 (x : Int) (w : World) : Calls Tryz.prog 236 #[.int .u64 x] w fun e w' => e = .returned (.bool false) ∧ w = w' := by
  have h : (x != x) = false := by simp
  go_enter Tryz.func236, Tryz.ntmps236
  go_wp2
  go_ret
  exact ⟨rfl, rfl⟩
set_option maxRecDepth 100000 in
set_option maxHeartbeats 400000 in
theorem nan_u32 (x : Int) (w : World) : Calls Tryz.prog 272 #[.int .u32 x] w fun e w' => e = .returned (.bool false) ∧ w = w' := by
  have h : (x != x) = false := by simp
  go_enter Tryz.func272, Tryz.ntmps272
  go_wp2
  go_ret
  exact ⟨rfl, rfl⟩
set_option maxRecDepth 100000 in
set_option maxHeartbeats 400000 in
theorem compare_int (x y : Int) (w : World) : Calls Tryz.prog 205 #[.int .i64 x, .int .i64 y] w fun e w' => e = .returned (.int .i64 (cmpT x y)) ∧ w = w' := by
  rcases Int.lt_trichotomy x y with h | h | h
  · rw [cmpT_lt h]
    go_enter Tryz.func205, Tryz.ntmps205
    go_wp2_with (refine (nan_int _ _).mono ?_; rintro e w1 ⟨rfl, rfl⟩)
    go_ret
    exact ⟨rfl, rfl⟩
  · subst h
    rw [cmpT_self]
    go_enter Tryz.func205, Tryz.ntmps205
    go_wp2_with (refine (nan_int _ _).mono ?_; rintro e w1 ⟨rfl, rfl⟩)
    go_ret
    exact ⟨rfl, rfl⟩
  · rw [cmpT_gt h]
    go_enter Tryz.func205, Tryz.ntmps205
    go_wp2_with (refine (nan_int _ _).mono ?_; rintro e w1 ⟨rfl, rfl⟩)
    go_ret
    exact ⟨rfl, rfl⟩
set_option maxRecDepth 100000 in
set_option maxHeartbeats 400000 in
theorem compare_u64 (x y : Int) (w : World) : Calls Tryz.prog 206 #[.int .u64 x, .int .u64 y] w fun e w' => e = .returned (.int .i64 (cmpT x y)) ∧ w = w' := by
  rcases Int.lt_trichotomy x y with h | h | h
  · rw [cmpT_lt h]
    go_enter Tryz.func206, Tryz.ntmps206
    go_wp2_with (refine (nan_u64 _ _).mono ?_; rintro e w1 ⟨rfl, rfl⟩)
    go_ret
    exact ⟨rfl, rfl⟩
  · subst h
    rw [cmpT_self]
    go_enter Tryz.func206, Tryz.ntmps206
    go_wp2_with (refine (nan_u64 _ _).mono ?_; rintro e w1 ⟨rfl, rfl⟩)
    go_ret
    exact ⟨rfl, rfl⟩
  · rw [cmpT_gt h]
    go_enter Tryz.func206, Tryz.ntmps206
    go_wp2_with (refine (nan_u64 _ _).mono ?_; rintro e w1 ⟨rfl, rfl⟩)
    go_ret
    exact ⟨rfl, rfl⟩
set_option maxRecDepth 100000 in
set_option maxHeartbeats 400000 in
theorem compare_u32 (x y : Int) (w : World) : Calls Tryz.prog 237 #[.int .u32 x, .int .u32 y] w fun e w' => e = .returned (.int .i64 (cmpT x y)) ∧ w = w' := by
  rcases Int.lt_trichotomy x y with h | h | h
  · rw [cmpT_lt h]
    go_enter Tryz.func237, Tryz.ntmps237
    go_wp2_with (refine (nan_u32 _ _).mono ?_; rintro e w1 ⟨rfl, rfl⟩)
    go_ret
    exact ⟨rfl, rfl⟩
  · subst h
    rw [cmpT_self]
    go_enter Tryz.func237, Tryz.ntmps237
    go_wp2_with (refine (nan_u32 _ _).mono ?_; rintro e w1 ⟨rfl, rfl⟩)
    go_ret
    exact ⟨rfl, rfl⟩
  · rw [cmpT_gt h]
    go_enter Tryz.func237, Tryz.ntmps237
    go_wp2_with (refine (nan_u32 _ _).mono ?_; rintro e w1 ⟨rfl, rfl⟩)
    go_ret
    exact ⟨rfl, rfl⟩

/-- lists of counters, the first that differs tells -/
def lexT : List Int → List Int → Int
  | [], [] => 0
  | [], _ :: _ => -1
  | _ :: _, [] => 1
  | x :: l, y :: m => if cmpT x y = 0 then lexT l m else cmpT x y
theorem cmpT_zero {x y : Int} : cmpT x y = 0 ↔ x = y := by
  unfold cmpT
  by_cases h1 : x < y
  · rw [if_pos h1]; omega
  · rw [if_neg h1]
    by_cases h2 : y < x
    · rw [if_pos h2]; omega
    · rw [if_neg h2]; omega

theorem lexT_step : ∀ (k : Nat) (l m : List Int), k < l.length → k < m.length → lexT (l.drop k) (m.drop k) = if cmpT (l.getD k 0) (m.getD k 0) = 0 then lexT (l.drop (k + 1)) (m.drop (k + 1)) else cmpT (l.getD k 0) (m.getD k 0) := by
  intro k l m h1 h2
  rw [List.drop_eq_getElem_cons h1, List.drop_eq_getElem_cons h2]
  simp [lexT, List.getD_eq_getElem?_getD, List.getElem?_eq_getElem h1, List.getElem?_eq_getElem h2]

set_option maxRecDepth 100000 in
set_option maxHeartbeats 400000 in
theorem lex_any (A1 A2 : Option Addr) (n1 n2 c1 c2 : Nat) (l1 l2 : List Int) (w : World) (h1 : Sl w 1 A1 n1 c1 (wds l1)) (h2 : Sl w 1 A2 n2 c2 (wds l2)) :
    Calls Tryz.prog 207 #[.slice A1 n1 c1, .slice A2 n2 c2] w fun e w' => e = .returned (.int .i64 (lexT l1 l2)) ∧ w = w' := by
  have hm1 := h1.le
  have hm2 := h2.le
  have hl1 := Lib.hid h1.wlen
  have hl2 := Lib.hid h2.wlen
  obtain ⟨r, hr⟩ : ∃ r, r = lexT l1 l2 := ⟨_, rfl⟩
  rw [← hr]
  have HR := Lib.hid hr
  clear hr
  go_enter Tryz.func207, Tryz.ntmps207
  go_wp2
  go_loop [11] (fun v => ∃ k : Nat, k ≤ n1 ∧ k ≤ n2 ∧ v = .int .i64 k ∧ r = lexT (l1.drop k) (l2.drop k)) (fun v => n1 - (intOf v).toNat)
  case atStart => exact ⟨0, Nat.zero_le _, Nat.zero_le _, rfl, by simpa using HR.out⟩
  case round =>
    obtain ⟨k, hk1, hk2, rfl, hrk⟩ := hrel
    have RK := Lib.hid hrk
    clear hrk
    by_cases q1 : k < n1
    · obtain ⟨a1, rfl, hc1, _⟩ := h1.word q1
      by_cases q2 : k < n2
      · obtain ⟨a2, rfl, hc2, _⟩ := h2.word q2
        have T := lexT_step k l1 l2 (by rw [hl1.out]; exact q1) (by rw [hl2.out]; exact q2)
        by_cases q3 : cmpT (l1.getD k 0) (l2.getD k 0) = 0
        · rw [if_pos q3] at T
          have HT := Lib.hid T
          have q4 : (cmpT (l1[k]?.getD 0) (l2[k]?.getD 0) != 0) = false := by rw [← List.getD_eq_getElem?_getD, ← List.getD_eq_getElem?_getD, q3]; rfl
          clear T q3
          go_wp2_with (refine (compare_u32 _ _ _).mono ?_; rintro e w1 ⟨rfl, rfl⟩)
          go_round
          case rel => exact ⟨k + 1, by omega, by omega, by go_num, by rw [RK.out, HT.out]⟩
          case measure => simp [intOf]; omega
        · rw [if_neg q3] at T
          have HT := Lib.hid T
          have q4 : (cmpT (l1[k]?.getD 0) (l2[k]?.getD 0) != 0) = true := by simpa [List.getD_eq_getElem?_getD] using q3
          clear T q3
          go_wp2_with (refine (compare_u32 _ _ _).mono ?_; rintro e w1 ⟨rfl, rfl⟩)
          go_ret
          exact ⟨ret_int (by rw [RK.out, HT.out]; simp [List.getD_eq_getElem?_getD]), rfl⟩
      · have e2 : k = n2 := by omega
        have T : lexT (l1.drop k) (l2.drop k) = 1 := by
          rw [List.drop_eq_getElem_cons (show k < l1.length by rw [hl1.out]; exact q1), List.drop_eq_nil_of_le (show l2.length ≤ k by rw [hl2.out]; omega)]; rfl
        have HT := Lib.hid T
        have E2 := Lib.hid e2
        clear T e2
        go_wp2
        go_ret
        exact ⟨ret_int (by rw [RK.out, HT.out]), rfl⟩
    · have e1 : k = n1 := by omega
      have E1 := Lib.hid e1
      clear e1
      by_cases q2 : n1 < n2
      · have T : lexT (l1.drop k) (l2.drop k) = -1 := by
          rw [List.drop_eq_nil_of_le (show l1.length ≤ k by rw [hl1.out]; omega), List.drop_eq_getElem_cons (show k < l2.length by rw [hl2.out, E1.out]; exact q2)]; rfl
        have HT := Lib.hid T
        clear T
        go_wp2
        go_ret
        exact ⟨ret_int (by rw [RK.out, HT.out]), rfl⟩
      · have T : lexT (l1.drop k) (l2.drop k) = 0 := by
          rw [List.drop_eq_nil_of_le (show l1.length ≤ k by rw [hl1.out]; omega), List.drop_eq_nil_of_le (show l2.length ≤ k by rw [hl2.out]; omega)]; rfl
        have HT := Lib.hid T
        clear T
        go_wp2
        go_ret
        exact ⟨ret_int (by rw [RK.out, HT.out]), rfl⟩

/-- the first of three that is not 0 -/
def orT (x y z : Int) : Int := if x = 0 then (if y = 0 then z else y) else x
set_option maxRecDepth 100000 in
set_option maxHeartbeats 600000 in
theorem or_any (g : Nat) (t : TypeId) (x y z : Int) (w : World) (hb : Bk w g t #[.int .i64 x, .int .i64 y, .int .i64 z]) :
    Calls Tryz.prog 182 #[.slice (some ⟨g, 0, none⟩) 3 3] w fun e w' => e = .returned (.int .i64 (orT x y z)) ∧ Ext w w' := by
  have hx : w.cell? ⟨g, 0, none⟩ = some (.int .i64 x) := hb.cell 0
  have hy : w.cell? ⟨g, 1, none⟩ = some (.int .i64 y) := hb.cell 1
  have hz : w.cell? ⟨g, 2, none⟩ = some (.int .i64 z) := hb.cell 2
  obtain ⟨r, hr⟩ : ∃ r, r = orT x y z := ⟨_, rfl⟩
  rw [← hr]
  have HR := Lib.hid hr
  clear hr
  go_enter Tryz.func182, Tryz.ntmps182
  go_wp2
  go_loop [8] (fun v => ∃ k : Nat, k ≤ 3 ∧ v = .int .i64 k ∧ (0 < k → x = 0) ∧ (1 < k → y = 0) ∧ (2 < k → z = 0)) (fun v => 3 - (intOf v).toNat)
  case atStart => exact ⟨0, by omega, rfl, by omega, by omega, by omega⟩
  case round =>
    obtain ⟨k, hk, rfl, k0, k1, k2⟩ := hrel
    have K0 := Lib.hid k0
    have K1 := Lib.hid k1
    have K2 := Lib.hid k2
    clear k0 k1 k2
    match k, hk with
    | 0, _ =>
      by_cases q : x = 0
      · have q' : (x != 0) = false := by simpa using q
        have Q := Lib.hid q
        clear q
        go_wp2
        go_round
        case rel => exact ⟨1, by omega, rfl, fun _ => Q.out, by omega, by omega⟩
        case measure => simp [intOf]
      · have q' : (x != 0) = true := by simpa using q
        go_wp2
        go_ret
        exact ⟨ret_int (by rw [HR.out]; simp [orT, q]), Ext.refl _⟩
    | 1, _ =>
      by_cases q : y = 0
      · have q' : (y != 0) = false := by simpa using q
        have Q := Lib.hid q
        clear q
        go_wp2
        go_round
        case rel => exact ⟨2, by omega, rfl, fun _ => K0.out (by omega), fun _ => Q.out, by omega⟩
        case measure => simp [intOf]
      · have q' : (y != 0) = true := by simpa using q
        go_wp2
        go_ret
        exact ⟨ret_int (by rw [HR.out]; simp [orT, q, K0.out (by omega)]), Ext.refl _⟩
    | 2, _ =>
      by_cases q : z = 0
      · have q' : (z != 0) = false := by simpa using q
        have Q := Lib.hid q
        clear q
        go_wp2
        go_round
        case rel => exact ⟨3, by omega, rfl, fun _ => K0.out (by omega), fun _ => K1.out (by omega), fun _ => Q.out⟩
        case measure => simp [intOf]
      · have q' : (z != 0) = true := by simpa using q
        go_wp2
        go_ret
        exact ⟨ret_int (by rw [HR.out]; simp [orT, K1.out (by omega), K0.out (by omega)]), Ext.refl _⟩
    | 3, _ =>
      go_wp2
      go_ret
      exact ⟨ret_int (by rw [HR.out]; simp [orT, K1.out (by omega), K0.out (by omega), K2.out (by omega)]), Ext.refl _⟩
    | k + 4, hk => omega

/-! ### stamp.Cmp -/
def cmpTT (e1 : Int) (l1 : List Int) (e2 : Int) (l2 : List Int) : Int := orT (cmpT l1.length l2.length) (cmpT e1 e2) (lexT l1 l2)
set_option maxRecDepth 100000 in
set_option maxHeartbeats 800000 in
theorem cmp_any (e1 e2 : Int) (A1 A2 : Option Addr) (n1 n2 c1 c2 : Nat) (l1 l2 : List Int) (w : World) (h1 : Sl w 1 A1 n1 c1 (wds l1)) (h2 : Sl w 1 A2 n2 c2 (wds l2)) :
    Calls Tryz.prog 146 #[.agg #[.int .u64 e1, .slice A1 n1 c1], .agg #[.int .u64 e2, .slice A2 n2 c2]] w fun e w' => e = .returned (.int .i64 (cmpTT e1 l1 e2 l2)) ∧ Ext w w' := by
  have hR : cmpTT e1 l1 e2 l2 = orT (cmpT n1 n2) (cmpT e1 e2) (lexT l1 l2) := by unfold cmpTT; rw [h1.wlen, h2.wlen]
  rw [hR]
  clear hR
  go_enter Tryz.func146, Tryz.ntmps146
  go_upto_region 1 with fail
  obtain ⟨w0, hw0⟩ : ∃ w0, w0 = (w.alloc (Obj.cells #[Value.int IntKind.u64 e1, Value.slice A1 n1 c1] 26)).alloc (Obj.cells #[Value.int IntKind.u64 e2, Value.slice A2 n2 c2] 26) := ⟨_, rfl⟩
  have x0 : Ext w w0 := hw0 ▸ ((Ext.refl w).alloc _).alloc _
  have a0 : Bk w0 w.heap.size 26 #[Value.int IntKind.u64 e1, Value.slice A1 n1 c1] := by subst hw0; exact (Bk.new _ _ _).alloc _
  have b0 : Bk w0 (w.heap.size + 1) 26 #[Value.int IntKind.u64 e2, Value.slice A2 n2 c2] := by subst hw0; exact Bk.at (by simp)
  rw [← hw0]
  clear hw0
  have X : Ext w0 w0.drew := (Ext.refl w0).drew
  have q1 : ∀ y : Xt w0.drew, y.W.cell? ⟨w.heap.size, 0, none⟩ = some (.int .u64 e1) := fun y => (a0.ext (X.trans y.x)).cell 0
  have q2 : ∀ y : Xt w0.drew, y.W.cell? ⟨w.heap.size, 1, none⟩ = some (.slice A1 n1 c1) := fun y => (a0.ext (X.trans y.x)).cell 1
  have q3 : ∀ y : Xt w0.drew, y.W.cell? ⟨w.heap.size + 1, 0, none⟩ = some (.int .u64 e2) := fun y => (b0.ext (X.trans y.x)).cell 0
  have q4 : ∀ y : Xt w0.drew, y.W.cell? ⟨w.heap.size + 1, 1, none⟩ = some (.slice A2 n2 c2) := fun y => (b0.ext (X.trans y.x)).cell 1
  refine wp_region_ord [0,1,3,0,8,24,63,0,128,0,512,2047,0,4096,0,16384,65535,131071,262143,524287] (.flo [0,1,2,3,4,5,7,8,9,10,12,13,14,15] (.ext 6 (.ext 11 (.one 16 (.one 17 (.one 18 (.flo [19] (.fin)))))))) (by kernel_rfl) (by kernel_rfl) (by intro _ _ d _ _ h; cases d <;> exact h) ?_
  (refine ord_flo (pick_cons rfl (pick_cons rfl (pick_cons rfl (pick_cons rfl (pick_cons rfl (pick_cons rfl (pick_cons rfl (pick_cons rfl (pick_cons rfl (pick_cons rfl (pick_cons rfl (pick_cons rfl (pick_cons rfl (pick_cons rfl pick_nil)))))))))))))) ?_; (repeat (go_big_quiet_step (fail))); refine wpQuiet_nil ?_; show ordWalk _ _ _ _ _ _ _)
  refine ord_ext (pick_cons rfl pick_nil) ?_; intro K_ hK_
  go_wp2_with (refine (compare_int _ _ _).mono ?_; rintro e w1 ⟨rfl, rfl⟩)
  refine ordNext.mk (Ext.refl _) ?_
  refine ord_ext (pick_cons rfl pick_nil) ?_; intro K_ hK_
  go_wp2_with (refine (compare_u64 _ _ _).mono ?_; rintro e w1 ⟨rfl, rfl⟩)
  refine ordNext.mk (Ext.refl _) ?_
  refine ord_one (pick_cons rfl pick_nil) ?_; intro K_ hK_
  go_wp2_with (refine (lex_any _ _ _ _ _ _ _ _ _ (h1.ext (x0.trans X)) (h2.ext (x0.trans X))).mono ?_; rintro e w1 ⟨rfl, rfl⟩)
  refine ord_one (pick_cons rfl pick_nil) ?_; intro K_ hK_
  go_wp2
  refine ord_one (pick_cons rfl pick_nil) ?_; intro K_ hK_
  go_wp2_with (refine (or_any _ _ _ _ _ _ (by exact (Bk.at (by simp)).drew)).mono ?_; rintro e w1 ⟨rfl, x1⟩)
  (refine ord_flo (pick_cons rfl pick_nil) ?_; (repeat (go_big_quiet_step (fail))); refine wpQuiet_nil ?_; show ordWalk _ _ _ _ _ _ _)
  refine ord_fin ?_
  go_wp2
  go_ret
  exact ⟨rfl, ((x0.trans X).alloc _).trans x1⟩
end Go.Proofs.YtdgbkpoickbidaaGreatDoor
namespace Go.Proofs.YtdgbkpoickbidaaGreatDoor

theorem leq_iff (e1 : Int) (l1 : List Int) (e2 : Int) (l2 : List Int) : leqT e1 l1 e2 l2 = true ↔ l1.length = l2.length ∧ e1 ≤ e2 ∧ ∀ k, k < l1.length → l1.getD k 0 ≤ l2.getD k 0 := by
  unfold leqT
  exact decide_eq_true_iff
theorem leq_refl (e : Int) (l : List Int) : leqT e l e l = true := (leq_iff _ _ _ _).2 ⟨rfl, Int.le_refl _, fun _ _ => Int.le_refl _⟩
theorem leq_trans {e1 e2 e3 : Int} {l1 l2 l3 : List Int} (h : leqT e1 l1 e2 l2 = true) (k : leqT e2 l2 e3 l3 = true) : leqT e1 l1 e3 l3 = true := by
  rw [leq_iff] at *
  obtain ⟨a1, a2, a3⟩ := h
  obtain ⟨b1, b2, b3⟩ := k
  exact ⟨by omega, by omega, fun i hi => Int.le_trans (a3 i hi) (b3 i (by omega))⟩
theorem leq_len {e1 e2 : Int} {l1 l2 : List Int} (h : l1.length ≠ l2.length) : leqT e1 l1 e2 l2 = false := by
  unfold leqT
  exact decide_eq_false fun hh => h hh.1

theorem lex_le : ∀ (l m : List Int), l.length = m.length → (∀ k, k < l.length → l.getD k 0 ≤ m.getD k 0) → lexT l m ≤ 0
  | [], [], _, _ => Int.le_refl _
  | [], _ :: _, h, _ => by simp at h
  | _ :: _, [], h, _ => by simp at h
  | x :: l, y :: m, h, hh => by
    have h0 : x ≤ y := by simpa using hh 0 (by simp)
    have hr := lex_le l m (by simpa using h) (fun k hk => by simpa using hh (k + 1) (by simpa using hk))
    unfold lexT
    split
    · exact hr
    · unfold cmpT
      split
      · omega
      · split <;> omega
theorem lex_zero : ∀ (l m : List Int), lexT l m = 0 → l = m
  | [], [], _ => rfl
  | [], _ :: _, h => by simp [lexT] at h
  | _ :: _, [], h => by simp [lexT] at h
  | x :: l, y :: m, h => by
    unfold lexT at h
    by_cases hc : cmpT x y = 0
    · rw [if_pos hc] at h
      rw [cmpT_zero.1 hc, lex_zero l m h]
    · rw [if_neg hc] at h
      exact absurd h hc
theorem lex_self : ∀ l : List Int, lexT l l = 0
  | [] => rfl
  | x :: l => by
    unfold lexT
    rw [if_pos (cmpT_self x)]
    exact lex_self l

theorem cmp_zero {e1 e2 : Int} {l1 l2 : List Int} : cmpTT e1 l1 e2 l2 = 0 ↔ e1 = e2 ∧ l1 = l2 := by
  constructor
  · intro h
    unfold cmpTT orT at h
    by_cases h1 : cmpT (l1.length : Int) l2.length = 0
    · rw [if_pos h1] at h
      by_cases h2 : cmpT e1 e2 = 0
      · rw [if_pos h2] at h
        exact ⟨cmpT_zero.1 h2, lex_zero _ _ h⟩
      · rw [if_neg h2] at h
        exact absurd h h2
    · rw [if_neg h1] at h
      exact absurd h h1
  · rintro ⟨rfl, rfl⟩
    simp [cmpTT, orT, cmpT_self, lex_self]
theorem cmp_le {e1 e2 : Int} {l1 l2 : List Int} (h : leqT e1 l1 e2 l2 = true) : cmpTT e1 l1 e2 l2 ≤ 0 := by
  obtain ⟨a1, a2, a3⟩ := (leq_iff _ _ _ _).1 h
  unfold cmpTT orT
  rw [a1, cmpT_self, if_pos rfl]
  split
  · exact lex_le _ _ a1 a3
  · unfold cmpT
    split
    · omega
    · split <;> omega
theorem getD_ext' {l1 l2 : List Int} (hl : l1.length = l2.length) (h : ∀ k, k < l1.length → l1.getD k 0 = l2.getD k 0) : l1 = l2 := (getD_ext hl).1 h
theorem cmp_both {e1 e2 : Int} {l1 l2 : List Int} : (leqT e1 l1 e2 l2 = true ∧ leqT e2 l2 e1 l1 = true) ↔ cmpTT e1 l1 e2 l2 = 0 := by
  rw [cmp_zero]
  constructor
  · rintro ⟨h, k⟩
    rw [leq_iff] at h k
    obtain ⟨a1, a2, a3⟩ := h
    obtain ⟨b1, b2, b3⟩ := k
    exact ⟨by omega, getD_ext' a1 fun i hi => Int.le_antisymm (a3 i hi) (b3 i (by omega))⟩
  · rintro ⟨rfl, rfl⟩
    exact ⟨leq_refl _ _, leq_refl _ _⟩

theorem zip_getD (g : Int → Int → Int) (l1 l2 : List Int) (k : Nat) (h1 : k < l1.length) (h2 : k < l2.length) : (List.zipWith g l1 l2).getD k 0 = g (l1.getD k 0) (l2.getD k 0) := by
  simp [List.getD_eq_getElem?_getD, List.getElem?_zipWith, List.getElem?_eq_getElem h1, List.getElem?_eq_getElem h2]
theorem join_up1 {e1 e2 : Int} {l1 l2 : List Int} (hl : l1.length = l2.length) : leqT e1 l1 (max e1 e2) (List.zipWith max l1 l2) = true :=
  (leq_iff _ _ _ _).2 ⟨by simp; omega, by omega, fun k hk => by rw [zip_getD _ _ _ _ hk (by omega)]; omega⟩
theorem join_up2 {e1 e2 : Int} {l1 l2 : List Int} (hl : l1.length = l2.length) : leqT e2 l2 (max e1 e2) (List.zipWith max l1 l2) = true :=
  (leq_iff _ _ _ _).2 ⟨by simp; omega, by omega, fun k hk => by rw [zip_getD _ _ _ _ (by omega) hk]; omega⟩
theorem meet_low1 {e1 e2 : Int} {l1 l2 : List Int} (hl : l1.length = l2.length) : leqT (min e1 e2) (List.zipWith min l1 l2) e1 l1 = true :=
  (leq_iff _ _ _ _).2 ⟨by simp; omega, by omega, fun k hk => by simp at hk; rw [zip_getD _ _ _ _ (by omega) (by omega)]; omega⟩
theorem meet_low2 {e1 e2 : Int} {l1 l2 : List Int} (hl : l1.length = l2.length) : leqT (min e1 e2) (List.zipWith min l1 l2) e2 l2 = true :=
  (leq_iff _ _ _ _).2 ⟨by simp; omega, by omega, fun k hk => by simp at hk; rw [zip_getD _ _ _ _ (by omega) (by omega)]; omega⟩
theorem join_least {e1 e2 e3 : Int} {l1 l2 l3 : List Int} (hl : l1.length = l2.length) : leqT (max e1 e2) (List.zipWith max l1 l2) e3 l3 = (leqT e1 l1 e3 l3 && leqT e2 l2 e3 l3) := by
  rw [Bool.eq_iff_iff, Bool.and_eq_true]
  constructor
  · intro h
    exact ⟨leq_trans (join_up1 hl) h, leq_trans (join_up2 hl) h⟩
  · rintro ⟨h, k⟩
    rw [leq_iff] at *
    obtain ⟨a1, a2, a3⟩ := h
    obtain ⟨b1, b2, b3⟩ := k
    refine ⟨by simp; omega, by omega, fun i hi => ?_⟩
    simp at hi
    rw [zip_getD _ _ _ _ (by omega) (by omega)]
    have := a3 i (by omega)
    have := b3 i (by omega)
    omega
theorem meet_greatest {e1 e2 e3 : Int} {l1 l2 l3 : List Int} (hl : l1.length = l2.length) : leqT e3 l3 (min e1 e2) (List.zipWith min l1 l2) = (leqT e3 l3 e1 l1 && leqT e3 l3 e2 l2) := by
  rw [Bool.eq_iff_iff, Bool.and_eq_true]
  constructor
  · intro h
    exact ⟨leq_trans h (meet_low1 hl), leq_trans h (meet_low2 hl)⟩
  · rintro ⟨h, k⟩
    rw [leq_iff] at *
    obtain ⟨a1, a2, a3⟩ := h
    obtain ⟨b1, b2, b3⟩ := k
    refine ⟨by simp; omega, by omega, fun i hi => ?_⟩
    rw [zip_getD _ _ _ _ (by omega) (by omega)]
    have := a3 i (by omega)
    have := b3 i (by omega)
    omega
end Go.Proofs.YtdgbkpoickbidaaGreatDoor
namespace Go.Proofs.YtdgbkpoickbidaaGreatDoor

abbrev TV := Int × List Int
def tcmp (x y : TV) : Int := cmpTT x.1 x.2 y.1 y.2
def tleq (x y : TV) : Bool := leqT x.1 x.2 y.1 y.2
theorem cmpT_neg (x y : Int) : cmpT y x = -cmpT x y := by
  unfold cmpT
  repeat' split
  all_goals omega
theorem cmpT_pos {x y : Int} : cmpT x y < 0 ↔ x < y := by
  unfold cmpT
  repeat' split
  all_goals omega
theorem lexT_neg : ∀ l m : List Int, lexT m l = -lexT l m
  | [], [] => rfl
  | [], _ :: _ => rfl
  | _ :: _, [] => rfl
  | x :: l, y :: m => by
    simp only [lexT]
    rw [cmpT_neg x y]
    by_cases h : cmpT x y = 0
    · rw [if_pos (by omega), if_pos h]; exact lexT_neg l m
    · rw [if_neg (by omega), if_neg h]
theorem lexT_trans : ∀ l m n : List Int, lexT l m ≤ 0 → lexT m n ≤ 0 → lexT l n ≤ 0
  | [], [], n, _, h => h
  | [], _ :: _, [], _, h => by simp [lexT] at h
  | [], _ :: _, _ :: _, _, _ => by simp [lexT]
  | _ :: _, [], _, h, _ => by simp [lexT] at h
  | _ :: _, _ :: _, [], _, h => by simp [lexT] at h
  | x :: l, y :: m, z :: n, h, k => by
    simp only [lexT] at h k ⊢
    by_cases h1 : cmpT x y = 0
    · have e := cmpT_zero.1 h1
      subst e
      rw [if_pos h1] at h
      by_cases h2 : cmpT x z = 0
      · rw [if_pos h2] at k ⊢
        exact lexT_trans l m n h k
      · rw [if_neg h2] at k ⊢
        exact k
    · rw [if_neg h1] at h
      have l1 : x < y := cmpT_pos.1 (by omega)
      by_cases h2 : cmpT y z = 0
      · have e := cmpT_zero.1 h2
        subst e
        rw [if_neg h1]
        exact h
      · rw [if_neg h2] at k
        have l2 : y < z := cmpT_pos.1 (by omega)
        have l3 : cmpT x z < 0 := cmpT_pos.2 (by omega)
        rw [if_neg (by omega)]
        omega
theorem orT_le {a b c : Int} : orT a b c ≤ 0 ↔ a < 0 ∨ (a = 0 ∧ (b < 0 ∨ (b = 0 ∧ c ≤ 0))) := by
  unfold orT
  split
  · split <;> omega
  · omega
theorem tcmp_neg (x y : TV) : tcmp y x = -tcmp x y := by
  unfold tcmp cmpTT
  rw [cmpT_neg x.2.length, cmpT_neg x.1, lexT_neg x.2]
  unfold orT
  by_cases h1 : cmpT x.2.length y.2.length = 0
  · rw [if_pos (by omega), if_pos h1]
    by_cases h2 : cmpT x.1 y.1 = 0
    · rw [if_pos (by omega), if_pos h2]
    · rw [if_neg (by omega), if_neg h2]
  · rw [if_neg (by omega), if_neg h1]
theorem tcmp_trans (x y z : TV) (h : tcmp x y ≤ 0) (k : tcmp y z ≤ 0) : tcmp x z ≤ 0 := by
  unfold tcmp cmpTT at h k ⊢
  rw [orT_le] at h k ⊢
  rw [cmpT_pos, cmpT_zero, cmpT_pos, cmpT_zero] at h k ⊢
  rcases h with h | ⟨h1, h | ⟨h2, h3⟩⟩ <;> rcases k with k | ⟨k1, k | ⟨k2, k3⟩⟩
  · exact .inl (by omega)
  · exact .inl (by omega)
  · exact .inl (by omega)
  · exact .inl (by omega)
  · exact .inr ⟨by omega, .inl (by omega)⟩
  · exact .inr ⟨by omega, .inl (by omega)⟩
  · exact .inl (by omega)
  · exact .inr ⟨by omega, .inl (by omega)⟩
  · exact .inr ⟨by omega, .inr ⟨by omega, lexT_trans _ _ _ h3 k3⟩⟩
theorem tcmp_zero {x y : TV} : tcmp x y = 0 ↔ x = y := by
  unfold tcmp
  rw [cmp_zero]
  exact ⟨fun h => Prod.ext h.1 h.2, fun h => by rw [h]; exact ⟨rfl, rfl⟩⟩
theorem tcmp_lt_trans {x y z : TV} (h : tcmp x y < 0) (k : tcmp y z ≤ 0) : tcmp x z < 0 := by
  have h1 := tcmp_trans x y z (by omega) k
  rcases Int.lt_or_eq_of_le h1 with h2 | h2
  · exact h2
  · have e := tcmp_zero.1 h2
    subst e
    have := tcmp_neg x y
    omega
theorem tleq_refl (x : TV) : tleq x x = true := leq_refl _ _
theorem tleq_trans {x y z : TV} (h : tleq x y = true) (k : tleq y z = true) : tleq x z = true := leq_trans h k
theorem tleq_cmp {x y : TV} (h : tleq x y = true) : tcmp x y ≤ 0 := cmp_le h
theorem tleq_anti {x y : TV} (h : tleq x y = true) (k : tleq y x = true) : x = y := tcmp_zero.1 (cmp_both.1 ⟨h, k⟩)

/-! ### lists that rise -/
def Rising (l : List TV) : Prop := l.Pairwise fun x y => tcmp x y < 0
theorem rising_ext : ∀ {a b : List TV}, Rising a → Rising b → (∀ x, x ∈ a ↔ x ∈ b) → a = b
  | [], [], _, _, _ => rfl
  | [], y :: b, _, _, h => by have := (h y).2 (by simp); simp at this
  | x :: a, [], _, _, h => by have := (h x).1 (by simp); simp at this
  | x :: a, y :: b, ha, hb, h => by
    unfold Rising at ha hb
    rw [List.pairwise_cons] at ha hb
    have e : x = y := by
      have h1 : x ∈ y :: b := (h x).1 (by simp)
      have h2 : y ∈ x :: a := (h y).2 (by simp)
      rcases List.mem_cons.1 h1 with h1 | h1
      · exact h1
      · rcases List.mem_cons.1 h2 with h2 | h2
        · exact h2.symm
        · have q1 := hb.1 x h1
          have q2 := ha.1 y h2
          have := tcmp_neg x y
          omega
    subst e
    rw [rising_ext ha.2 hb.2 (fun z => by
      constructor
      · intro hz
        rcases List.mem_cons.1 ((h z).1 (List.mem_cons_of_mem _ hz)) with e | e
        · have := ha.1 z hz
          rw [e, tcmp_zero.2 rfl] at this
          omega
        · exact e
      · intro hz
        rcases List.mem_cons.1 ((h z).2 (List.mem_cons_of_mem _ hz)) with e | e
        · have := hb.1 z hz
          rw [e, tcmp_zero.2 rfl] at this
          omega
        · exact e)]
theorem filter_len_le {α : Type} {p q : α → Bool} (h : ∀ z, p z = true → q z = true) : ∀ l : List α, (l.filter p).length ≤ (l.filter q).length
  | [] => Nat.le_refl _
  | x :: l => by
    have ih := filter_len_le h l
    rw [List.filter_cons, List.filter_cons]
    by_cases hp : p x = true
    · rw [if_pos hp, if_pos (h x hp)]; simpa using ih
    · rw [if_neg hp]
      split
      · exact Nat.le_succ_of_le ih
      · exact ih
theorem filter_less {α : Type} {p q : α → Bool} (h : ∀ z, p z = true → q z = true) {a : α} : ∀ {l : List α}, a ∈ l → p a = false → q a = true → (l.filter p).length < (l.filter q).length
  | x :: l, ha, hp, hq => by
    rw [List.filter_cons, List.filter_cons]
    rcases List.mem_cons.1 ha with rfl | ha
    · rw [if_neg (by rw [hp]; decide), if_pos hq]
      exact Nat.lt_succ_of_le (filter_len_le h l)
    · have ih := filter_less h ha hp hq
      by_cases hx : p x = true
      · rw [if_pos hx, if_pos (h x hx)]; simpa using ih
      · rw [if_neg hx]
        split
        · exact Nat.lt_succ_of_lt ih
        · exact ih
/-- a time of the list that none of the list is ahead of -/
def Least (L : List TV) (v : TV) : Prop := v ∈ L ∧ ∀ u ∈ L, tleq u v = true → u = v
theorem least_below : ∀ (n : Nat) (L : List TV) (v : TV), (L.filter fun u => decide (tcmp u v < 0)).length ≤ n → v ∈ L → ∃ m, Least L m ∧ tleq m v = true
  | n, L, v, hn, hv => by
    by_cases h : ∃ u ∈ L, tleq u v = true ∧ u ≠ v
    · obtain ⟨u, hu, huv, hne⟩ := h
      have hlt : tcmp u v < 0 := by
        have := tleq_cmp huv
        have h0 : tcmp u v ≠ 0 := fun e => hne (tcmp_zero.1 e)
        omega
      have hlen : (L.filter fun z => decide (tcmp z u < 0)).length < (L.filter fun z => decide (tcmp z v < 0)).length := by
        have hsub : ∀ z, decide (tcmp z u < 0) = true → decide (tcmp z v < 0) = true := fun z hz => by
          rw [decide_eq_true_iff] at hz ⊢
          exact tcmp_lt_trans hz (by omega)
        exact filter_less hsub hu (by rw [tcmp_zero.2 rfl]; decide) (by rw [decide_eq_true_iff]; exact hlt)
      match n, hn with
      | 0, hn => omega
      | n + 1, hn =>
        obtain ⟨m, h1, h2⟩ := least_below n L u (by omega) hu
        exact ⟨m, h1, tleq_trans h2 huv⟩
    · refine ⟨v, ⟨hv, fun u hu huv => ?_⟩, tleq_refl v⟩
      by_cases e : u = v
      · exact e
      · exact absurd ⟨u, hu, huv, e⟩ h
/-- M is the antichain of L -/
structure IsOf (L M : List TV) : Prop where
  rising : Rising M
  mem : ∀ v, v ∈ M ↔ Least L v
theorem IsOf.unique {L M N : List TV} (h : IsOf L M) (k : IsOf L N) : M = N := rising_ext h.rising k.rising fun v => (h.mem v).trans (k.mem v).symm
theorem Least.congr {L L' : List TV} (h : ∀ v, v ∈ L ↔ v ∈ L') (v : TV) : Least L v ↔ Least L' v :=
  ⟨fun q => ⟨(h v).1 q.1, fun u hu => q.2 u ((h u).2 hu)⟩, fun q => ⟨(h v).2 q.1, fun u hu => q.2 u ((h u).1 hu)⟩⟩
theorem IsOf.congr {L L' M : List TV} (h : ∀ v, v ∈ L ↔ v ∈ L') (k : IsOf L M) : IsOf L' M := ⟨k.rising, fun v => (k.mem v).trans (Least.congr h v)⟩
/-- beyond -/
def beyondV (M : List TV) (t : TV) : Bool := M.any fun x => tleq x t
theorem beyond_iff {M : List TV} {t : TV} : beyondV M t = true ↔ ∃ x ∈ M, tleq x t = true := by unfold beyondV; exact List.any_eq_true
/-- what the program has, when it has looked at so many of the sorted list -/
structure OfUpto (L S : List TV) (i : Nat) (M : List TV) : Prop where
  rising : Rising M
  mem : ∀ v, v ∈ M ↔ Least L v ∧ v ∈ S.take i
theorem OfUpto.zero (L S : List TV) : OfUpto L S 0 [] := ⟨List.Pairwise.nil, fun v => by simp⟩
theorem take_mem_succ {α : Type} {l : List α} {i : Nat} (h : i < l.length) (v : α) : v ∈ l.take (i + 1) ↔ v ∈ l.take i ∨ v = l[i] := by
  rw [List.take_succ_eq_append_getElem h, List.mem_append, List.mem_singleton]
theorem OfUpto.skip {L S M : List TV} {i : Nat} (h : OfUpto L S i M) (hi : i < S.length) (hb : beyondV M S[i] = true) : OfUpto L S (i + 1) M := by
  refine ⟨h.rising, fun v => ⟨fun hv => ?_, fun ⟨h1, h2⟩ => ?_⟩⟩
  · have := (h.mem v).1 hv
    exact ⟨this.1, (take_mem_succ hi v).2 (.inl this.2)⟩
  · rcases (take_mem_succ hi v).1 h2 with h2 | rfl
    · exact (h.mem v).2 ⟨h1, h2⟩
    · obtain ⟨x, hx, hxv⟩ := beyond_iff.1 hb
      have q := (h.mem x).1 hx
      have e := h1.2 x q.1.1 hxv
      rw [← e]
      exact hx
theorem OfUpto.put {L S M : List TV} {i : Nat} (h : OfUpto L S i M) (hi : i < S.length) (hs : S.Pairwise fun x y => tcmp x y ≤ 0) (hm : ∀ v, v ∈ S ↔ v ∈ L) (hb : beyondV M S[i] = false) : OfUpto L S (i + 1) (M ++ [S[i]]) := by
  have hno : ∀ x ∈ M, tleq x S[i] = false := fun x hx => by
    by_cases e : tleq x S[i] = true
    · rw [beyond_iff.2 ⟨x, hx, e⟩] at hb; exact absurd hb (by decide)
    · simpa using e
  have hat : ∀ v, v ∈ S → tcmp v S[i] < 0 → v ∈ S.take i := fun v hv hlt => by
    obtain ⟨j, hj, rfl⟩ := List.getElem_of_mem hv
    by_cases hji : j < i
    · exact List.mem_take_iff_getElem.2 ⟨j, by omega, rfl⟩
    · exfalso
      rcases Nat.lt_or_eq_of_le (Nat.le_of_not_lt hji) with q | q
      · have := List.pairwise_iff_getElem.1 hs i j hi hj q
        have := tcmp_neg S[i] S[j]
        omega
      · subst q
        rw [tcmp_zero.2 rfl] at hlt
        omega
  have hti : S[i] ∈ L := (hm _).1 (List.getElem_mem hi)
  have hleast : Least L S[i] := by
    refine ⟨hti, fun u hu huv => ?_⟩
    obtain ⟨m, h1, h2⟩ := least_below _ L u (Nat.le_refl _) hu
    have hmv := tleq_trans h2 huv
    by_cases e : m = S[i]
    · exact tleq_anti huv (e ▸ h2)
    · have hlt : tcmp m S[i] < 0 := by
        have := tleq_cmp hmv
        have h0 : tcmp m S[i] ≠ 0 := fun q => e (tcmp_zero.1 q)
        omega
      have hmM : m ∈ M := (h.mem m).2 ⟨h1, hat m ((hm m).2 h1.1) hlt⟩
      rw [hno m hmM] at hmv
      exact absurd hmv (by decide)
  refine ⟨?_, fun v => ⟨fun hv => ?_, fun ⟨h1, h2⟩ => ?_⟩⟩
  · unfold Rising
    refine List.pairwise_append.2 ⟨h.rising, List.pairwise_singleton _ _, fun x hx y hy => ?_⟩
    rw [List.mem_singleton] at hy
    subst hy
    have hxt := ((h.mem x).1 hx).2
    obtain ⟨j, hj, e⟩ := List.mem_take_iff_getElem.1 hxt
    have q := List.pairwise_iff_getElem.1 hs j i (by omega) hi (by omega)
    rw [e] at q
    have h0 : tcmp x S[i] ≠ 0 := fun z => by
      have e2 := tcmp_zero.1 z
      have := hno x hx
      rw [e2, tleq_refl] at this
      exact absurd this (by decide)
    omega
  · rcases List.mem_append.1 hv with hv | hv
    · have := (h.mem v).1 hv
      exact ⟨this.1, (take_mem_succ hi v).2 (.inl this.2)⟩
    · rw [List.mem_singleton] at hv
      subst hv
      exact ⟨hleast, (take_mem_succ hi _).2 (.inr rfl)⟩
  · rcases (take_mem_succ hi v).1 h2 with h2 | rfl
    · exact List.mem_append_left _ ((h.mem v).2 ⟨h1, h2⟩)
    · exact List.mem_append_right _ (by simp)
theorem OfUpto.done {L S M : List TV} (h : OfUpto L S S.length M) (hm : ∀ v, v ∈ S ↔ v ∈ L) : IsOf L M :=
  ⟨h.rising, fun v => by rw [h.mem v, List.take_length, hm]; exact ⟨fun q => q.1, fun q => ⟨q, q.1⟩⟩⟩
/-- what the document has, when it has looked at so many -/
theorem OfUpto.skipR {L M : List TV} {i : Nat} (h : OfUpto L L i M) (hi : i < L.length) (hb : Least L L[i] → L[i] ∈ L.take i) : OfUpto L L (i + 1) M := by
  refine ⟨h.rising, fun v => ⟨fun hv => ?_, fun ⟨h1, h2⟩ => ?_⟩⟩
  · have := (h.mem v).1 hv
    exact ⟨this.1, (take_mem_succ hi v).2 (.inl this.2)⟩
  · rcases (take_mem_succ hi v).1 h2 with h2 | rfl
    · exact (h.mem v).2 ⟨h1, h2⟩
    · exact (h.mem _).2 ⟨h1, hb h1⟩
theorem OfUpto.putR {L M1 M2 : List TV} {i : Nat} (h : OfUpto L L i (M1 ++ M2)) (hi : i < L.length) (hl : Least L L[i]) (h1 : ∀ x ∈ M1, tcmp x L[i] < 0) (h2 : ∀ x, M2.head? = some x → ¬ tcmp x L[i] < 0) (hn : L[i] ∉ L.take i) : OfUpto L L (i + 1) (M1 ++ [L[i]] ++ M2) := by
  have hr := h.rising
  unfold Rising at hr
  obtain ⟨r1, r2, r3⟩ := List.pairwise_append.1 hr
  have hM2 : ∀ x ∈ M2, tcmp L[i] x < 0 := by
    intro x hx
    have hne : ∀ y ∈ M2, tcmp y L[i] ≠ 0 := fun y hy e => hn (by
      have := ((h.mem y).1 (List.mem_append_right _ hy)).2
      rwa [tcmp_zero.1 e] at this)
    cases M2 with
    | nil => cases hx
    | cons y r =>
      have q0 := h2 y rfl
      have q1 := hne y (by simp)
      have q2 := tcmp_neg y L[i]
      rcases List.mem_cons.1 hx with rfl | hx
      · omega
      · exact tcmp_lt_trans (y := y) (by omega) (by have := (List.pairwise_cons.1 r2).1 x hx; omega)
  refine ⟨?_, fun v => ?_⟩
  · unfold Rising
    refine List.pairwise_append.2 ⟨List.pairwise_append.2 ⟨r1, List.pairwise_singleton _ _, fun x hx y hy => by rw [List.mem_singleton] at hy; subst hy; exact h1 x hx⟩, r2, fun x hx y hy => ?_⟩
    rcases List.mem_append.1 hx with hx | hx
    · exact r3 x hx y hy
    · rw [List.mem_singleton] at hx; subst hx; exact hM2 y hy
  · have q := h.mem v
    rw [List.mem_append] at q
    rw [List.mem_append, List.mem_append, List.mem_singleton, take_mem_succ hi]
    constructor
    · rintro ((a | rfl) | a)
      · have := q.1 (.inl a); exact ⟨this.1, .inl this.2⟩
      · exact ⟨hl, .inr rfl⟩
      · have := q.1 (.inr a); exact ⟨this.1, .inl this.2⟩
    · rintro ⟨a, b | rfl⟩
      · rcases q.2 ⟨a, b⟩ with z | z
        · exact .inl (.inl z)
        · exact .inr z
      · exact .inl (.inr rfl)
/-! ### the antichain as a function -/
def insT (v : TV) : List TV → List TV
  | [] => [v]
  | m :: r => if tcmp v m < 0 then v :: m :: r else if tcmp v m = 0 then m :: r else m :: insT v r
theorem insT_mem (v x : TV) : ∀ M, x ∈ insT v M ↔ x = v ∨ x ∈ M
  | [] => by simp [insT]
  | m :: r => by
    unfold insT
    split
    · simp
    · split
      · rename_i h
        rw [tcmp_zero.1 h]
        simp
      · simp only [List.mem_cons, insT_mem v x r]
        constructor
        · rintro (h | h | h)
          · exact .inr (.inl h)
          · exact .inl h
          · exact .inr (.inr h)
        · rintro (h | h | h)
          · exact .inr (.inl h)
          · exact .inl h
          · exact .inr (.inr h)
theorem insT_rising (v : TV) : ∀ {M}, Rising M → Rising (insT v M)
  | [], _ => List.pairwise_singleton _ _
  | m :: r, h => by
    unfold Rising at h
    obtain ⟨h1, h2⟩ := List.pairwise_cons.1 h
    unfold insT
    split
    · rename_i hv
      exact List.pairwise_cons.2 ⟨fun y hy => by
        rcases List.mem_cons.1 hy with rfl | hy
        · exact hv
        · exact tcmp_lt_trans hv (by have := h1 y hy; omega), h⟩
    · split
      · exact h
      · rename_i q1 q2
        have q3 := tcmp_neg m v
        exact List.pairwise_cons.2 ⟨fun y hy => by
          rcases (insT_mem v y r).1 hy with rfl | hy
          · omega
          · exact h1 y hy, insT_rising v h2⟩
instance (L : List TV) (v : TV) : Decidable (Least L v) := by unfold Least; exact inferInstance
def ofV (L : List TV) : List TV := (L.filter fun v => decide (Least L v)).foldr insT []
theorem foldr_ins : ∀ (L : List TV), Rising (L.foldr insT []) ∧ ∀ x, x ∈ L.foldr insT [] ↔ x ∈ L
  | [] => ⟨List.Pairwise.nil, fun _ => Iff.rfl⟩
  | v :: L => by
    have ih := foldr_ins L
    rw [List.foldr_cons]
    refine ⟨insT_rising v ih.1, fun x => ?_⟩
    rw [insT_mem, ih.2 x, List.mem_cons]
theorem ofV_is (L : List TV) : IsOf L (ofV L) := by
  have h := foldr_ins (L.filter fun v => decide (Least L v))
  refine ⟨h.1, fun v => ?_⟩
  unfold ofV
  rw [h.2 v, List.mem_filter, decide_eq_true_iff]
  exact ⟨fun q => q.2, fun q => ⟨q.1, q⟩⟩
theorem IsOf.eq {L M : List TV} (h : IsOf L M) : M = ofV L := h.unique (ofV_is L)
theorem ofV_congr {L L' : List TV} (h : ∀ v, v ∈ L ↔ v ∈ L') : ofV L = ofV L' := ((ofV_is L).congr h).eq
theorem beyond_ofV (L : List TV) (t : TV) : beyondV (ofV L) t = beyondV L t := by
  rw [Bool.eq_iff_iff, beyond_iff, beyond_iff]
  constructor
  · rintro ⟨x, hx, h⟩
    exact ⟨x, (((ofV_is L).mem x).1 hx).1, h⟩
  · rintro ⟨x, hx, h⟩
    obtain ⟨m, h1, h2⟩ := least_below _ L x (Nat.le_refl _) hx
    exact ⟨m, ((ofV_is L).mem m).2 h1, tleq_trans h2 h⟩
end Go.Proofs.YtdgbkpoickbidaaGreatDoor
namespace Go.Proofs.YtdgbkpoickbidaaGreatDoor
open Go.RowKit

/-! ### writes to some blocks -/
/-- w' is w but for the blocks that S tells, and new ones -/
structure Upd (S : Nat → Prop) (w w' : World) : Prop where
  os : w'.os = w.os
  tape : w'.tape = w.tape
  output : w'.output = w.output
  size : w.heap.size ≤ w'.heap.size
  block : ∀ k, k < w.heap.size → ¬ S k → w'.heap[k]? = w.heap[k]?
theorem Upd.refl (S : Nat → Prop) (w : World) : Upd S w w := ⟨rfl, rfl, rfl, Nat.le_refl _, fun _ _ _ => rfl⟩
theorem Upd.ext {S : Nat → Prop} {w w' : World} (x : Ext w w') : Upd S w w' := ⟨Below.os x, Below.tape x, Below.output x, Ext.size x, fun k hk _ => Below.block x k hk⟩
theorem Upd.mono {S T : Nat → Prop} {w w' : World} (h : Upd S w w') (hs : ∀ k, k < w.heap.size → S k → T k) : Upd T w w' := ⟨h.os, h.tape, h.output, h.size, fun k hk hn => h.block k hk (fun q => hn (hs k hk q))⟩
theorem Upd.trans {S : Nat → Prop} {a b c : World} (h : Upd S a b) (k : Upd S b c) : Upd S a c :=
  ⟨k.os.trans h.os, k.tape.trans h.tape, k.output.trans h.output, Nat.le_trans h.size k.size, fun q hq hn => (k.block q (Nat.lt_of_lt_of_le hq h.size) hn).trans (h.block q hq hn)⟩
theorem Upd.setCell {S : Nat → Prop} {a w : World} (h : Upd S a w) {p : Addr} (hp : S p.block ∨ a.heap.size ≤ p.block) (u : Value) : Upd S a (w.setCell p u) := by
  refine ⟨h.os, h.tape, h.output, by simpa using h.size, fun k hk hn => ?_⟩
  rw [Below.heap_setCell _ _ _ _ (fun e => by
    rcases hp with hp | hp
    · exact hn (e ▸ hp)
    · omega)]
  exact h.block k hk hn
theorem Upd.alloc {S : Nat → Prop} {a w : World} (h : Upd S a w) (o : Obj) : Upd S a (w.alloc o) := h.trans (Upd.ext ((Ext.refl w).alloc o))
theorem Upd.grown {S : Nat → Prop} {a w w' : World} {row : Option Nat} (h : Upd S a w) (g : w.grownBy w' row) (hr : ∀ k, row = some k → S k ∨ a.heap.size ≤ k) : Upd S a w' :=
  ⟨g.os.trans h.os, g.tape.trans h.tape, g.output.trans h.output, Nat.le_trans h.size g.size, fun k hk hn => (g.block k (Nat.lt_of_lt_of_le hk h.size) (fun e => by
    rcases hr k e.symm with q | q
    · exact hn q
    · omega)).trans (h.block k hk hn)⟩
theorem cell_of_heap {w w' : World} {p : Addr} (h : w'.heap[p.block]? = w.heap[p.block]?) : w'.cell? p = w.cell? p := by unfold World.cell?; rw [h]
theorem Upd.cell {S : Nat → Prop} {w w' : World} (h : Upd S w w') {p : Addr} {u : Value} (hn : ¬ S p.block) (hc : w.cell? p = some u) : w'.cell? p = some u :=
  (cell_of_heap (h.block p.block (World.block_lt_of_cell? w p hc) hn)).trans hc
theorem Sl.upd {S : Nat → Prop} {w w' : World} {size n c : Nat} {A : Option Addr} {xs : List Value} (h : Sl w size A n c xs) (x : Upd S w w') (hn : ∀ k, blk A c = some k → ¬ S k) : Sl w' size A n c xs := by
  refine ⟨h.1, h.2.1, h.2.2.1, h.2.2.2.1, fun h0 => ?_⟩
  obtain ⟨ad, rfl, hc⟩ := h.2.2.2.2 h0
  refine ⟨ad, rfl, fun j u hu => x.cell ?_ (hc j u hu)⟩
  rw [block_add]
  refine hn ad.block ?_
  have := h.2.1
  cases c with
  | zero => omega
  | succ c => rfl
theorem Own.upd {S : Nat → Prop} {w w' : World} {B size n c : Nat} {e : TypeId} {A : Option Addr} {xs : List Value} (h : Own w B e size A n c xs) (x : Upd S w w') (hn : ∀ k, blk A c = some k → ¬ S k) : Own w' B e size A n c xs := by
  refine ⟨h.1, ?_⟩
  rcases h.2 with hz | ⟨g, cur, rfl, hb, hg, rest⟩
  · exact .inl hz
  · cases c with
    | zero =>
      obtain ⟨h1, _⟩ := rest
      exact .inl ⟨rfl, by omega⟩
    | succ c =>
      refine .inr ⟨g, cur, rfl, hb, ?_, rest⟩
      rw [x.block g (Array.getElem?_eq_some_iff.1 hg).1 (hn g rfl)]
      exact hg
/-! ### lists of lists -/
/-- a slice's header -/
structure En where
  A : Option Addr
  n : Nat
  c : Nat
def En.v (x : En) : Value := .slice x.A x.n x.c
def En.b (x : En) : Option Nat := blk x.A x.c
def En.zero : En := ⟨none, 0, 0⟩
def ensC (L : List En) : List Value := L.map En.v
theorem ensC_len (L : List En) : (ensC L).length = L.length := List.length_map ..
theorem ensC_one (L : List En) : ∀ u ∈ ensC L, u.oneCell' = true := fun u hu => by obtain ⟨x, _, rfl⟩ := List.mem_map.1 hu; rfl
theorem ensC_append (L M : List En) : ensC (L ++ M) = ensC L ++ ensC M := List.map_append
def ena (L : List En) (i : Nat) : En := L.getD i En.zero
theorem ensC_at {L : List En} {i : Nat} (h : i < L.length) : (ensC L)[i]? = some (ena L i).v := by
  unfold ensC ena
  rw [List.getElem?_map, List.getD_eq_getElem?_getD, List.getElem?_eq_getElem h]
  rfl
theorem ens_cell {w : World} {A : Option Addr} {n c : Nat} {L : List En} (h : Sl w 1 A n c (ensC L)) {i : Nat} (hi : i < n) : ∃ ad, A = some ad ∧ w.cell? (ad.add i) = some (ena L i).v := by
  have hl := h.1
  rw [ensC_len, Nat.mul_one] at hl
  obtain ⟨ad, e, hc⟩ := h.2.2.2.2 (by omega)
  exact ⟨ad, e, hc i _ (ensC_at (by omega))⟩
theorem ena_append_old {L : List En} {x : En} {i : Nat} (h : i < L.length) : ena (L ++ [x]) i = ena L i := by
  unfold ena
  rw [List.getD_eq_getElem?_getD, List.getElem?_append_left h, List.getD_eq_getElem?_getD]
theorem ena_append_new (L : List En) (x : En) : ena (L ++ [x]) L.length = x := by
  unfold ena
  rw [List.getD_eq_getElem?_getD, List.getElem?_append_right (Nat.le_refl _), Nat.sub_self]
  rfl
section
variable (mk : Int → Nat → List Value) (size : Nat)
/-- so many marks -/
def marks_ (i : Int) (n : Nat) : List Value := (List.range n).flatMap (mk i)
variable {mk size}
theorem marks_zero (i : Int) : marks_ mk i 0 = [] := rfl
theorem marks_succ (i : Int) (n : Nat) : marks_ mk i (n + 1) = marks_ mk i n ++ mk i n := by
  unfold marks_
  rw [List.range_succ, List.flatMap_append, List.flatMap_singleton]
theorem marks_len (hs : ∀ i k, (mk i k).length = size) (i : Int) : ∀ n, (marks_ mk i n).length = n * size
  | 0 => by simp [marks_]
  | n + 1 => by rw [marks_succ, List.length_append, marks_len hs i n, hs, Nat.succ_mul]
theorem marks_at' (hs : ∀ i k, (mk i k).length = size) (i : Int) {q : Nat} (hq : q < size) : ∀ (n k : Nat), k < n → (marks_ mk i n)[k * size + q]? = (mk i k)[q]?
  | 0, k, h => by omega
  | n + 1, k, h => by
    rw [marks_succ]
    by_cases hk : k < n
    · rw [List.getElem?_append_left, marks_at' hs i hq n k hk]
      rw [marks_len hs]
      have : (k + 1) * size ≤ n * size := Nat.mul_le_mul_right _ hk
      rw [Nat.succ_mul] at this
      omega
    · have e : k = n := by omega
      subst e
      rw [List.getElem?_append_right (by rw [marks_len hs]; omega), marks_len hs, Nat.add_sub_cancel_left]
end
/-- the lists, each in a block of its own that lies from B on -/
structure Lists (w : World) (B : Nat) (e : TypeId) (size : Nat) (L : List En) (f : Nat → List Value) : Prop where
  own : ∀ i, i < L.length → Own w B e size (ena L i).A (ena L i).n (ena L i).c (f i)
  apart : ∀ i j, i < L.length → j < L.length → i ≠ j → ∀ k, (ena L i).b = some k → (ena L j).b ≠ some k
/-- the blocks that the lists lie in -/
def Foot (L : List En) (k : Nat) : Prop := ∃ i, i < L.length ∧ (ena L i).b = some k
theorem Lists.foot_lt {w : World} {B : Nat} {e : TypeId} {size : Nat} {L : List En} {f : Nat → List Value} (h : Lists w B e size L f) {k : Nat} (hk : Foot L k) : B ≤ k ∧ k < w.heap.size := by
  obtain ⟨i, hi, hb⟩ := hk
  exact (h.own i hi).lt k hb
theorem Lists.upd {S : Nat → Prop} {w w' : World} {B : Nat} {e : TypeId} {size : Nat} {L : List En} {f : Nat → List Value} (h : Lists w B e size L f) (x : Upd S w w') (hn : ∀ k, Foot L k → ¬ S k) : Lists w' B e size L f :=
  ⟨fun i hi => (h.own i hi).upd x (fun k hk => hn k ⟨i, hi, hk⟩), h.apart⟩
theorem Lists.nil (w : World) (B : Nat) (e : TypeId) (size : Nat) (f : Nat → List Value) : Lists w B e size [] f := ⟨fun i hi => by simp at hi, fun i j hi => by simp at hi⟩
/-! ### the first phase: marks are written -/
structure Ph1 (mk : Int → Nat → List Value) (w wr : World) (B : Nat) (e : TypeId) (size : Nat) (L : List En) (i : Nat) (f : Nat → List Value) : Prop where
  ls : Lists wr B e size L f
  done : ∀ j, j < i → j < L.length → f j = marks_ mk j (ena L j).n
  upd : Upd (Foot L) w wr
/-- within an entry -/
structure Ph1I (mk : Int → Nat → List Value) (w wr : World) (B : Nat) (e : TypeId) (size : Nat) (L : List En) (i k : Nat) (f : Nat → List Value) : Prop where
  ph : Ph1 mk w wr B e size L i f
  part : (f i).take (k * size) = marks_ mk i k
theorem Ph1.enter {mk : Int → Nat → List Value} {w wr : World} {B : Nat} {e : TypeId} {size : Nat} {L : List En} {i : Nat} {f : Nat → List Value} (h : Ph1 mk w wr B e size L i f) : Ph1I mk w wr B e size L i 0 f := ⟨h, by rw [Nat.zero_mul]; rfl⟩
theorem Ph1I.leave {mk : Int → Nat → List Value} {w wr : World} {B : Nat} {e : TypeId} {size : Nat} {L : List En} {i : Nat} {f : Nat → List Value} (h : Ph1I mk w wr B e size L i (ena L i).n f) (hi : i < L.length) : Ph1 mk w wr B e size L (i + 1) f := by
  refine ⟨h.ph.ls, fun j hj hjl => ?_, h.ph.upd⟩
  by_cases hij : j < i
  · exact h.ph.done j hij hjl
  · have : j = i := by omega
    subst this
    have hl := (h.ph.ls.own j hi).1
    have := h.part
    rwa [← hl, List.take_length] at this
/-- a store into one of the lists -/
theorem Lists.put {w : World} {B : Nat} {e : TypeId} {size : Nat} {L : List En} {f : Nat → List Value} (h : Lists w B e size L f) {i g : Nat} (hi : i < L.length) (hA : (ena L i).A = some ⟨g, 0, none⟩) (hc : 0 < (ena L i).c) (q : Nat) (u : Value) :
    Lists (w.setCell ⟨g, q, none⟩ u) B e size L (fun j => if j = i then (f i).set q u else f j) := by
  have hb : (ena L i).b = some g := by
    unfold En.b
    rw [hA]
    generalize (ena L i).c = c at hc
    cases c with
    | zero => omega
    | succ c => rfl
  refine ⟨fun j hj => ?_, h.apart⟩
  by_cases hji : j = i
  · subst hji
    rw [if_pos rfl]
    have o := h.own j hi
    rw [hA] at o ⊢
    exact o.put q u
  · rw [if_neg hji]
    exact (h.own j hj).far (p := ⟨g, q, none⟩) (fun e => h.apart i j hi hj (Ne.symm hji) g hb e) u
theorem set_take {xs : List Value} {k : Nat} (h : k < xs.length) (u : Value) : (xs.set k u).take (k + 1) = xs.take k ++ [u] := by
  rw [List.take_succ_eq_append_getElem (by rw [List.length_set]; exact h), List.take_set_of_le (Nat.le_refl k), List.getElem_set_self]
theorem Ph1I.put1 {mk : Int → Nat → List Value} {w wr : World} {B : Nat} {e : TypeId} {L : List En} {i k g : Nat} {f : Nat → List Value} (h : Ph1I mk w wr B e 1 L i k f) (hi : i < L.length) (hk : k < (ena L i).n) (hA : (ena L i).A = some ⟨g, 0, none⟩) (hm : (ena L i).b = some g) {u : Value} (hu : mk i k = [u]) :
    ∃ f', Ph1I mk w (wr.setCell ⟨g, k, none⟩ u) B e 1 L i (k + 1) f' := by
  have hl := (h.ph.ls.own i hi).1
  have hc : 0 < (ena L i).c := by have := (h.ph.ls.own i hi).le.1; omega
  refine ⟨_, ⟨h.ph.ls.put hi hA hc k u, fun j hj hjl => ?_, h.ph.upd.setCell (.inl ⟨i, hi, hm⟩) u⟩, ?_⟩
  · rw [if_neg (by omega)]
    exact h.ph.done j hj hjl
  · rw [if_pos rfl, Nat.mul_one, set_take (by rw [hl]; omega), marks_succ, hu]
    have := h.part
    rw [Nat.mul_one] at this
    rw [this]
theorem Ph1I.put2 {mk : Int → Nat → List Value} {w wr : World} {B : Nat} {e : TypeId} {L : List En} {i k g : Nat} {f : Nat → List Value} (h : Ph1I mk w wr B e 2 L i k f) (hi : i < L.length) (hk : k < (ena L i).n) (hA : (ena L i).A = some ⟨g, 0, none⟩) (hm : (ena L i).b = some g) {u v : Value} (hu : mk i k = [u, v]) :
    ∃ f', Ph1I mk w ((wr.setCell ⟨g, k * 2, none⟩ u).setCell ⟨g, k * 2 + 1, none⟩ v) B e 2 L i (k + 1) f' := by
  have hl := (h.ph.ls.own i hi).1
  have hc : 0 < (ena L i).c := by have := (h.ph.ls.own i hi).le.1; omega
  refine ⟨_, ⟨(h.ph.ls.put hi hA hc (k * 2) u).put hi hA hc (k * 2 + 1) v, fun j hj hjl => ?_, (h.ph.upd.setCell (.inl ⟨i, hi, hm⟩) u).setCell (.inl ⟨i, hi, hm⟩) v⟩, ?_⟩
  · rw [if_neg (by omega), if_neg (by omega)]
    exact h.ph.done j hj hjl
  · rw [if_pos rfl, if_pos rfl, show (k + 1) * 2 = k * 2 + 1 + 1 by omega, set_take (by rw [List.length_set, hl]; omega), set_take (by rw [hl]; omega), h.part, marks_succ, hu, List.append_assoc]
    rfl
theorem Ph1I.put4 {mk : Int → Nat → List Value} {w wr : World} {B : Nat} {e : TypeId} {L : List En} {i k g : Nat} {f : Nat → List Value} (h : Ph1I mk w wr B e 4 L i k f) (hi : i < L.length) (hk : k < (ena L i).n) (hA : (ena L i).A = some ⟨g, 0, none⟩) (hm : (ena L i).b = some g) {u v x y : Value} (hu : mk i k = [u, v, x, y]) :
    ∃ f', Ph1I mk w ((((wr.setCell ⟨g, k * 4, none⟩ u).setCell ⟨g, k * 4 + 1, none⟩ v).setCell ⟨g, k * 4 + 2, none⟩ x).setCell ⟨g, k * 4 + 3, none⟩ y) B e 4 L i (k + 1) f' := by
  have hl := (h.ph.ls.own i hi).1
  have hc : 0 < (ena L i).c := by have := (h.ph.ls.own i hi).le.1; omega
  refine ⟨_, ⟨(((h.ph.ls.put hi hA hc (k * 4) u).put hi hA hc (k * 4 + 1) v).put hi hA hc (k * 4 + 2) x).put hi hA hc (k * 4 + 3) y, fun j hj hjl => ?_, (((h.ph.upd.setCell (.inl ⟨i, hi, hm⟩) u).setCell (.inl ⟨i, hi, hm⟩) v).setCell (.inl ⟨i, hi, hm⟩) x).setCell (.inl ⟨i, hi, hm⟩) y⟩, ?_⟩
  · rw [if_neg (by omega), if_neg (by omega), if_neg (by omega), if_neg (by omega)]
    exact h.ph.done j hj hjl
  · simp only [↓reduceIte]
    rw [show (k + 1) * 4 = k * 4 + 3 + 1 by omega, set_take (by simp only [List.length_set, hl]; omega), set_take (by simp only [List.length_set, hl]; omega), set_take (by simp only [List.length_set, hl]; omega), set_take (by rw [hl]; omega), h.part, marks_succ, hu]
    simp
/-! ### the second phase: each grows -/
structure Ph2 (mk : Int → Nat → List Value) (w1 wr : World) (B : Nat) (e T : TypeId) (size : Nat) (L : List En) (i : Nat) (G : List En) (LA : Option Addr) (lc : Nat) : Prop where
  len : G.length = i
  lst : Own wr w1.heap.size T 1 LA i lc (ensC G)
  rest : ∀ j, i ≤ j → j < L.length → Own wr B e size (ena L j).A (ena L j).n (ena L j).c (marks_ mk j (ena L j).n)
  read : ∀ j, j < i → Sl wr size (ena L j).A (ena L j).n (ena L j).c (marks_ mk j (ena L j).n)
  long : ∀ j, j < i → (ena G j).n = (ena L j).n + 8 ∧ Own wr B e size (ena G j).A (ena G j).n (ena G j).c (marks_ mk j (ena L j).n ++ marks_ mk (-1 - j) 8)
  at_ : ∀ j, j < i → ∀ k, (ena G j).b = some k → (ena L j).b = some k ∨ (w1.heap.size ≤ k ∧ blk LA lc ≠ some k)
  foot : ∀ k, Foot L k → k < w1.heap.size
  apart : ∀ i j, i < L.length → j < L.length → i ≠ j → ∀ k, (ena L i).b = some k → (ena L j).b ≠ some k
  upd : Upd (Foot L) w1 wr
theorem Ph2.start {mk : Int → Nat → List Value} {w wr : World} {B : Nat} {e : TypeId} {size : Nat} {L : List En} {f : Nat → List Value} (T : TypeId) (h : Ph1 mk w wr B e size L L.length f) : Ph2 mk wr wr B e T size L 0 [] none 0 :=
  ⟨rfl, Own.nil _ _ _ _, fun j _ hj => by have := h.ls.own j hj; rwa [h.done j hj hj] at this, fun j hj => by omega, fun j hj => by omega, fun j hj => by omega, fun k hk => (h.ls.foot_lt hk).2, h.ls.apart, Upd.refl _ _⟩
/-- within an entry: x is being grown -/
structure Ph2I (mk : Int → Nat → List Value) (w2 wr : World) (B : Nat) (e : TypeId) (size : Nat) (L : List En) (i k : Nat) (A : Option Addr) (c : Nat) : Prop where
  own : Own wr B e size A ((ena L i).n + k) c (marks_ mk i (ena L i).n ++ marks_ mk (-1 - i) k)
  at_ : (A = (ena L i).A ∧ c = (ena L i).c) ∨ ∃ q, blk A c = some q ∧ w2.heap.size ≤ q
  read : Sl wr size (ena L i).A (ena L i).n (ena L i).c (marks_ mk i (ena L i).n)
  lt : ∀ q, (ena L i).b = some q → q < w2.heap.size
  upd : Upd (fun q => (ena L i).b = some q) w2 wr
theorem Ph2.enter {mk : Int → Nat → List Value} {w1 wr : World} {B : Nat} {e T : TypeId} {size : Nat} {L : List En} {i : Nat} {G : List En} {LA : Option Addr} {lc : Nat} (h : Ph2 mk w1 wr B e T size L i G LA lc) (hi : i < L.length) : Ph2I mk wr wr B e size L i 0 (ena L i).A (ena L i).c := by
  have o := h.rest i (Nat.le_refl _) hi
  exact ⟨by rw [marks_zero, List.append_nil]; exact o, .inl ⟨rfl, rfl⟩, o.sl, fun q hq => (o.lt q hq).2, Upd.refl _ _⟩
theorem Ph2I.step {mk : Int → Nat → List Value} {w2 wr w3 : World} {B : Nat} {e : TypeId} {size : Nat} {L : List En} {i k : Nat} {A A3 : Option Addr} {c c3 : Nat} (h : Ph2I mk w2 wr B e size L i k A c) (hs : ∀ i k, (mk i k).length = size) (ob : Obj)
    (o3 : Own w3 B e size A3 ((ena L i).n + k + 1) c3 (marks_ mk i (ena L i).n ++ marks_ mk (-1 - i) k ++ mk (-1 - i) k)) (g3 : (wr.alloc ob).grownBy w3 (blk A c)) (x3 : (A3 = A ∧ c3 = c) ∨ (blk A3 c3 = some (wr.alloc ob).heap.size ∧ Ext (wr.alloc ob) w3)) : Ph2I mk w2 w3 B e size L i (k + 1) A3 c3 := by
  have hsz : w2.heap.size ≤ (wr.alloc ob).heap.size := Nat.le_trans h.upd.size ((Ext.refl wr).alloc ob).size
  have hin : ∀ q, blk A c = some q → (ena L i).b = some q ∨ w2.heap.size ≤ q := fun q hq => by
    rcases h.at_ with ⟨rfl, rfl⟩ | ⟨q', h1, h2⟩
    · exact .inl hq
    · rw [h1] at hq; injection hq with hq; exact .inr (by omega)
  refine ⟨by rw [marks_succ, ← List.append_assoc]; exact o3, ?_, ?_, h.lt, (h.upd.alloc ob).grown g3 hin⟩
  · rcases x3 with ⟨rfl, rfl⟩ | ⟨h1, _⟩
    · exact h.at_
    · exact .inr ⟨_, h1, hsz⟩
  · have key : A3 = (ena L i).A → c3 = (ena L i).c → Sl w3 size (ena L i).A (ena L i).n (ena L i).c (marks_ mk i (ena L i).n) := fun ea ec => by
      have := Sl.take (k := (ena L i).n) o3.sl (by omega)
      rw [List.append_assoc, List.take_left' (marks_len hs i _), ea, ec] at this
      exact this
    rcases x3 with ⟨rfl, rfl⟩ | ⟨h1, x⟩
    · rcases h.at_ with ⟨ea, ec⟩ | ⟨q', h1, h2⟩
      · exact key ea ec
      · refine Sl.upd (S := fun q => blk A3 c3 = some q) (h.read.ext ((Ext.refl wr).alloc ob)) ((Upd.refl _ _).grown g3 (fun k hk => .inl hk)) (fun q hq hq2 => ?_)
        rw [h1] at hq2
        injection hq2 with hq2
        have := h.lt q hq
        omega
    · exact (h.read.ext ((Ext.refl wr).alloc ob)).ext x
/-- the entry is done: it is put to the long ones -/
theorem Ph2.next {mk : Int → Nat → List Value} {w1 w2 wr w4 : World} {B : Nat} {e T : TypeId} {size : Nat} {L : List En} {i : Nat} {G : List En} {LA LA4 : Option Addr} {lc lc4 : Nat} {A : Option Addr} {c : Nat} (h : Ph2 mk w1 w2 B e T size L i G LA lc) (hi : i < L.length) (hx : Ph2I mk w2 wr B e size L i 8 A c) (ob : Obj)
    (o4 : Own w4 w1.heap.size T 1 LA4 (i + 1) lc4 (ensC G ++ [.slice A ((ena L i).n + 8) c])) (g4 : (wr.alloc ob).grownBy w4 (blk LA lc)) (x4 : (LA4 = LA ∧ lc4 = lc) ∨ (blk LA4 lc4 = some (wr.alloc ob).heap.size ∧ Ext (wr.alloc ob) w4)) : Ph2 mk w1 w4 B e T size L (i + 1) (G ++ [⟨A, (ena L i).n + 8, c⟩]) LA4 lc4 := by
  have hfi : ∀ q, (ena L i).b = some q → Foot L q := fun q hq => ⟨i, hi, hq⟩
  -- from w2 to w4 only entry i's block, and the long ones' list, have turned
  have hlt : ∀ q, blk LA lc = some q → w1.heap.size ≤ q ∧ q < w2.heap.size := fun q hq => h.lst.lt q hq
  have u4 : Upd (fun q => (ena L i).b = some q ∨ blk LA lc = some q) w2 w4 := ((hx.upd.mono (fun k _ q => Or.inl q)).alloc ob).grown g4 (fun k hk => .inl (.inr hk))
  have u5 : Upd (fun q => blk LA lc = some q) wr w4 := ((Upd.refl _ _).alloc ob).grown g4 (fun k hk => .inl hk)
  have nl : ∀ q, Foot L q → blk LA lc ≠ some q := fun q hq e1 => by have := h.foot q hq; have := (hlt q e1).1; omega
  have ni : ∀ j, j < L.length → j ≠ i → ∀ q, (ena L j).b = some q → ¬ ((ena L i).b = some q ∨ blk LA lc = some q) := fun j hj hji q hq e1 => by
    rcases e1 with e1 | e1
    · exact h.apart j i hj hi hji q hq e1
    · exact nl q ⟨j, hj, hq⟩ e1
  have hgl := h.len
  have hxb : ∀ q, blk A c = some q → (ena L i).b = some q ∨ w2.heap.size ≤ q := fun q hq => by
    rcases hx.at_ with ⟨rfl, rfl⟩ | ⟨q', h1, h2⟩
    · exact .inl hq
    · rw [h1] at hq; injection hq with hq; exact .inr (by omega)
  have hll : ∀ q, blk LA4 lc4 = some q → blk LA lc = some q ∨ wr.heap.size ≤ q := fun q hq => by
    rcases x4 with ⟨rfl, rfl⟩ | ⟨h1, _⟩
    · exact .inl hq
    · rw [h1] at hq; injection hq with hq; have := ((Ext.refl wr).alloc ob).size; exact .inr (by omega)
  refine ⟨by rw [List.length_append, hgl]; rfl, by rw [ensC_append]; exact o4, fun j hj hjl => (h.rest j (by omega) hjl).upd u4 (ni j hjl (by omega)), fun j hj => ?_, fun j hj => ?_, fun j hj q hq => ?_, h.foot, h.apart, ?_⟩
  · by_cases hji : j < i
    · exact (h.read j hji).upd u4 (ni j (by omega) (by omega))
    · obtain rfl : j = i := by omega
      exact hx.read.upd u5 (fun q hq => nl q (hfi q hq))
  · by_cases hji : j < i
    · rw [ena_append_old (by omega)]
      obtain ⟨h1, h2⟩ := h.long j hji
      refine ⟨h1, h2.upd u4 (fun q hq e1 => ?_)⟩
      rcases h.at_ j hji q hq with h3 | ⟨h3, h4⟩
      · exact ni j (by omega) (by omega) q h3 e1
      · rcases e1 with e1 | e1
        · have := h.foot q (hfi q e1); omega
        · exact h4 e1
    · obtain rfl : j = i := by omega
      have e1 : ena (G ++ [⟨A, (ena L j).n + 8, c⟩]) j = ⟨A, (ena L j).n + 8, c⟩ := by rw [← hgl]; exact ena_append_new G _
      rw [e1]
      refine ⟨rfl, hx.own.upd u5 (fun q hq e2 => ?_)⟩
      rcases hxb q hq with h3 | h3
      · exact nl q (hfi q h3) e2
      · have := (hlt q e2).2; omega
  · by_cases hji : j < i
    · rw [ena_append_old (by omega)] at hq
      rcases h.at_ j hji q hq with h3 | ⟨h3, h4⟩
      · exact .inl h3
      · refine .inr ⟨h3, fun e1 => ?_⟩
        rcases hll q e1 with h5 | h5
        · exact h4 h5
        · have := ((h.long j hji).2.lt q hq).2
          have := hx.upd.size
          omega
    · obtain rfl : j = i := by omega
      have e1 : ena (G ++ [⟨A, (ena L j).n + 8, c⟩]) j = ⟨A, (ena L j).n + 8, c⟩ := by rw [← hgl]; exact ena_append_new G _
      rw [e1] at hq
      rcases hxb q hq with h3 | h3
      · exact .inl h3
      · refine .inr ⟨Nat.le_trans h.upd.size h3, fun e2 => ?_⟩
        rcases hll q e2 with h5 | h5
        · have := (hlt q h5).2; omega
        · have := (hx.own.lt q hq).2; omega
  · have hd : ∀ q, q < w2.heap.size → (ena L i).b = some q → Foot L q := fun q _ hq => hfi q hq
    exact (h.upd.trans ((hx.upd.mono hd).alloc ob)).grown g4 (fun q hq => .inr (hlt q hq).1)
/-! ### reading elements -/
theorem addr_off (ad : Addr) (j q : Nat) (hq : 0 < q) : ad.add (j + q) = ⟨(ad.add j).block, (ad.add j).off + q, none⟩ := by
  rw [← add_add']
  unfold Addr.add
  rw [if_neg (by omega)]
theorem own_at1 {w : World} {n c : Nat} {A : Option Addr} {xs : List Value} (h : Sl w 1 A n c xs) {k : Nat} (hk : k < n) {l : List Value} {a : Value} (hl : l = [a]) (hx : ∀ q, q < 1 → xs[k * 1 + q]? = l[q]?) : ∃ ad, A = some ad ∧ w.cell? (ad.add k) = some a := by
  subst hl
  obtain ⟨ad, e, hc⟩ := h.2.2.2.2 (by omega)
  exact ⟨ad, e, hc k _ (by have := hx 0 (by omega); rwa [Nat.mul_one, Nat.add_zero] at this)⟩
theorem own_at2 {w : World} {n c : Nat} {A : Option Addr} {xs : List Value} (h : Sl w 2 A n c xs) {k : Nat} (hk : k < n) {l : List Value} {a b : Value} (hl : l = [a, b]) (hx : ∀ q, q < 2 → xs[k * 2 + q]? = l[q]?) :
    ∃ ad, A = some ad ∧ w.cell? (ad.add (k * 2)) = some a ∧ w.cell? ⟨(ad.add (k * 2)).block, (ad.add (k * 2)).off + 1, none⟩ = some b := by
  subst hl
  obtain ⟨ad, e, hc⟩ := h.2.2.2.2 (by omega)
  exact ⟨ad, e, hc _ _ (hx 0 (by omega)), by rw [← addr_off _ _ 1 (by omega)]; exact hc _ _ (hx 1 (by omega))⟩
theorem own_at4 {w : World} {n c : Nat} {A : Option Addr} {xs : List Value} (h : Sl w 4 A n c xs) {k : Nat} (hk : k < n) {l : List Value} {a b x y : Value} (hl : l = [a, b, x, y]) (hx : ∀ q, q < 4 → xs[k * 4 + q]? = l[q]?) :
    ∃ ad, A = some ad ∧ w.cell? (ad.add (k * 4)) = some a ∧ w.cell? ⟨(ad.add (k * 4)).block, (ad.add (k * 4)).off + 1, none⟩ = some b ∧ w.cell? ⟨(ad.add (k * 4)).block, (ad.add (k * 4)).off + 2, none⟩ = some x ∧ w.cell? ⟨(ad.add (k * 4)).block, (ad.add (k * 4)).off + 3, none⟩ = some y := by
  subst hl
  obtain ⟨ad, e, hc⟩ := h.2.2.2.2 (by omega)
  exact ⟨ad, e, hc _ _ (hx 0 (by omega)), by rw [← addr_off _ _ 1 (by omega)]; exact hc _ _ (hx 1 (by omega)), by rw [← addr_off _ _ 2 (by omega)]; exact hc _ _ (hx 2 (by omega)), by rw [← addr_off _ _ 3 (by omega)]; exact hc _ _ (hx 3 (by omega))⟩
end Go.Proofs.YtdgbkpoickbidaaGreatDoor
namespace Go.Proofs.YtdgbkpoickbidaaGreatDoor
open Go.RowKit

theorem Own.base {w : World} {B B' s n c : Nat} {e : TypeId} {A : Option Addr} {xs : List Value} (h : Own w B e s A n c xs) (hb : ∀ k, blk A c = some k → B' ≤ k) : Own w B' e s A n c xs := by
  refine ⟨h.1, ?_⟩
  rcases h.2 with hz | ⟨g, cur, rfl, _, hg, hnc, rest⟩
  · exact .inl hz
  · cases c with
    | zero => exact .inl ⟨rfl, by omega⟩
    | succ c => exact .inr ⟨g, cur, rfl, hb g rfl, hg, hnc, rest⟩
/-- new memory from lo on, below hi -/
structure KP (w : World) (lo hi : Nat) (e : TypeId) (size : Nat) (x : En) (xs : List Value) : Prop where
  own : Own w lo e size x.A x.n x.c xs
  top : ∀ k, x.b = some k → k < hi
theorem KP.ext {w w' : World} {lo hi : Nat} {e : TypeId} {size : Nat} {x : En} {xs : List Value} (h : KP w lo hi e size x xs) (y : Ext w w') : KP w' lo hi e size x xs := ⟨h.own.ext y, h.top⟩
theorem KP.upd {S : Nat → Prop} {w w' : World} {lo hi : Nat} {e : TypeId} {size : Nat} {x : En} {xs : List Value} (h : KP w lo hi e size x xs) (y : Upd S w w') (hS : ∀ k, lo ≤ k → k < hi → ¬ S k) : KP w' lo hi e size x xs :=
  ⟨h.own.upd y (fun k hk => hS k (h.own.lt k hk).1 (h.top k hk)), h.top⟩
theorem KP.of {w : World} {lo : Nat} {e : TypeId} {size n c : Nat} {A : Option Addr} {xs : List Value} (h : Own w lo e size A n c xs) : KP w lo w.heap.size e size ⟨A, n, c⟩ xs := ⟨h, fun k hk => (h.lt k hk).2⟩
theorem KP.iv {w w' : World} {lo hi : Nat} {e : TypeId} {size : Nat} {x : En} {xs : List Value} (h : KP w lo hi e size x xs) (u : Upd (fun k => blk x.A x.c = some k) w w') : Upd (fun k => lo ≤ k ∧ k < hi) w w' :=
  u.mono (fun k _ hk => ⟨(h.own.lt k hk).1, h.top k hk⟩)
theorem ext_upd {S : Nat → Prop} {a w w' : World} (h : Ext a w) (u : Upd S w w') (hS : ∀ k, S k → a.heap.size ≤ k) : Ext a w' :=
  ⟨u.os.trans (Below.os h), u.tape.trans (Below.tape h), u.output.trans (Below.output h), Nat.le_trans h.size u.size, fun k hk => (u.block k (Nat.lt_of_lt_of_le hk h.size) (fun q => by have := hS k q; omega)).trans (Below.block h k hk)⟩
/-- lists with what they hold -/
def HoldAll (w : World) (B : Nat) (e : TypeId) (size : Nat) (P : List (En × List Value)) : Prop := ∀ p ∈ P, Own w B e size p.1.A p.1.n p.1.c p.2
def Far (P : List (En × List Value)) : Prop := P.Pairwise fun p q => ∀ k, p.1.b = some k → q.1.b ≠ some k
theorem lists_of {w : World} {B : Nat} {e : TypeId} {size : Nat} {P : List (En × List Value)} (h : HoldAll w B e size P) (hf : Far P) : Lists w B e size (P.map (·.1)) (fun i => (P.getD i (En.zero, [])).2) := by
  have key : ∀ i, (hi : i < (P.map (·.1)).length) → ∃ h2 : i < P.length, ena (P.map (·.1)) i = P[i].1 ∧ (P.getD i (En.zero, [])).2 = P[i].2 := fun i hi => by
    have h2 : i < P.length := by rwa [List.length_map] at hi
    refine ⟨h2, ?_, ?_⟩
    · unfold ena
      rw [List.getD_eq_getElem?_getD, List.getElem?_map, List.getElem?_eq_getElem h2]
      rfl
    · rw [List.getD_eq_getElem?_getD, List.getElem?_eq_getElem h2]
      rfl
  refine ⟨fun i hi => ?_, fun i j hi hj hij k h1 h2 => ?_⟩
  · obtain ⟨q, e1, e2⟩ := key i hi
    rw [e1, e2]
    exact h _ (List.getElem_mem q)
  · obtain ⟨q1, e1, _⟩ := key i hi
    obtain ⟨q2, e2, _⟩ := key j hj
    rw [e1] at h1
    rw [e2] at h2
    rcases Nat.lt_or_gt_of_ne hij with q | q
    · exact List.pairwise_iff_getElem.1 hf i j q1 q2 q k h1 h2
    · exact List.pairwise_iff_getElem.1 hf j i q2 q1 q k h2 h1
theorem foot_mem {L : List En} {k : Nat} (h : Foot L k) : ∃ x ∈ L, x.b = some k := by
  obtain ⟨i, hi, hb⟩ := h
  refine ⟨ena L i, ?_, hb⟩
  unfold ena
  rw [List.getD_eq_getElem?_getD, List.getElem?_eq_getElem hi]
  exact List.getElem_mem hi
theorem bk_upd {S : Nat → Prop} {w w' : World} {g : Nat} {t : TypeId} {cs : Array Value} (h : Bk w g t cs) (u : Upd S w w') (hn : ¬ S g) : Bk w' g t cs := (u.block g (Array.getElem?_eq_some_iff.1 h).1 hn).trans h
theorem upd_cell (w : World) (g j : Nat) (u : Value) : Upd (fun k => k = g) w (w.setCell ⟨g, j, none⟩ u) := (Upd.refl (fun k => k = g) w).setCell (p := ⟨g, j, none⟩) (Or.inl rfl) u
end Go.Proofs.YtdgbkpoickbidaaGreatDoor
namespace Go.Proofs.YtdgbkpoickbidaaGreatDoor
open Go.RowKit

/-- a time that lies in memory -/
structure Tm where
  e : Int
  A : Option Addr
  c : Nat
  l : List Int
def Tm.zero : Tm := ⟨0, none, 0, []⟩
instance : Inhabited Tm := ⟨Tm.zero⟩
def Tm.v (x : Tm) : TV := (x.e, x.l)
def tmC (x : Tm) : List Value := [.int .u64 x.e, .slice x.A x.l.length x.c]
def tmV (x : Tm) : Value := .agg #[.int .u64 x.e, .slice x.A x.l.length x.c]
def tmsC (L : List Tm) : List Value := L.flatMap tmC
theorem tmsC_len (L : List Tm) : (tmsC L).length = L.length * 2 := by
  unfold tmsC
  induction L with
  | nil => rfl
  | cons d l ih => rw [List.flatMap_cons, List.length_append, ih, List.length_cons, show (tmC d).length = 2 from rfl]; omega
theorem tmsC_at : ∀ (L : List Tm) (i j : Nat), i < L.length → j < 2 → (tmsC L)[i * 2 + j]? = (tmC (L.getD i Tm.zero))[j]?
  | [], i, j, h, _ => absurd h (Nat.not_lt_zero _)
  | d :: l, 0, j, _, hj => by
    unfold tmsC
    rw [List.flatMap_cons, Nat.zero_mul, Nat.zero_add, List.getElem?_append_left (by rw [show (tmC d).length = 2 from rfl]; exact hj)]
    rfl
  | d :: l, i + 1, j, h, hj => by
    unfold tmsC
    rw [List.flatMap_cons, List.getElem?_append_right (by rw [show (tmC d).length = 2 from rfl]; omega), show (i + 1) * 2 + j - (tmC d).length = i * 2 + j by rw [show (tmC d).length = 2 from rfl]; omega]
    exact tmsC_at l i j (Nat.lt_of_succ_lt_succ h) hj
theorem tmsC_append (L M : List Tm) : tmsC (L ++ M) = tmsC L ++ tmsC M := List.flatMap_append
theorem tmsC_one (L : List Tm) : ∀ u ∈ tmsC L, u.oneCell' = true := by
  intro u hu
  obtain ⟨d, _, h⟩ := List.mem_flatMap.1 hu
  simp only [tmC, List.mem_cons, List.not_mem_nil, or_false] at h
  rcases h with rfl | rfl <;> rfl
theorem tmsC_take (L : List Tm) (k : Nat) : (tmsC L).take (k * 2) = tmsC (L.take k) := by
  induction L generalizing k with
  | nil => simp [tmsC]
  | cons x L ih =>
    cases k with
    | zero => simp [tmsC]
    | succ k =>
      show (tmC x ++ tmsC L).take _ = tmC x ++ tmsC (L.take k)
      rw [List.take_append, show (tmC x).length = 2 from rfl, show (k + 1) * 2 - 2 = k * 2 by omega, ih, List.take_of_length_le (by show 2 ≤ _; omega)]
theorem tmsC_drop (L : List Tm) (k : Nat) : (tmsC L).drop (k * 2) = tmsC (L.drop k) := by
  induction L generalizing k with
  | nil => simp [tmsC]
  | cons x L ih =>
    cases k with
    | zero => simp [tmsC]
    | succ k =>
      show (tmC x ++ tmsC L).drop _ = tmsC (L.drop k)
      rw [List.drop_append, show (tmC x).length = 2 from rfl, show (k + 1) * 2 - 2 = k * 2 by omega, ih, List.drop_of_length_le (by show 2 ≤ _; omega), List.nil_append]
/-- what every time is within: 64 bits, 32 bits -/
def InT (x : Tm) : Prop := (0 ≤ x.e ∧ x.e ≤ 18446744073709551615) ∧ U32 x.l ∧ x.l.length ≤ 100000
/-- a list of times as readings give it -/
structure Tin (w : World) (A : Option Addr) (c : Nat) (L : List Tm) : Prop where
  sl : Sl w 2 A L.length c (tmsC L)
  ls : ∀ x ∈ L, Sl w 1 x.A x.l.length x.c (wds x.l)
section
variable {w w' : World} {A : Option Addr} {c : Nat} {L : List Tm}
theorem Tin.ext (h : Tin w A c L) (x : Ext w w') : Tin w' A c L := ⟨h.sl.ext x, fun y hy => (h.ls y hy).ext x⟩
theorem Tin.nil (w : World) : Tin w none 0 [] := ⟨Sl.nil w 2, fun _x hx => (nomatch hx)⟩
theorem Tin.at (h : Tin w A c L) {i : Nat} (hi : i < L.length) : ∃ ad, A = some ad ∧ w.cell? (ad.add (i * 2)) = some (.int .u64 (L.getD i Tm.zero).e) ∧ w.cell? ⟨(ad.add (i * 2)).block, (ad.add (i * 2)).off + 1, none⟩ = some (.slice (L.getD i Tm.zero).A (L.getD i Tm.zero).l.length (L.getD i Tm.zero).c) :=
  own_at2 h.sl hi (show tmC (L.getD i Tm.zero) = [.int .u64 (L.getD i Tm.zero).e, .slice (L.getD i Tm.zero).A (L.getD i Tm.zero).l.length (L.getD i Tm.zero).c] from rfl) (fun q hq => tmsC_at L i q hi hq)
theorem Tin.take (h : Tin w A c L) {k : Nat} (hk : k ≤ L.length) : Tin w A c (L.take k) := by
  have := Sl.take (k := k) h.sl hk
  rw [tmsC_take] at this
  exact ⟨by rw [List.length_take, Nat.min_eq_left hk]; exact this, fun x hx => h.ls x (List.mem_of_mem_take hx)⟩
end
theorem getT_mem {L : List Tm} {i : Nat} (h : i < L.length) : L.getD i Tm.zero ∈ L := by
  rw [List.getD_eq_getElem?_getD, List.getElem?_eq_getElem h]
  exact List.getElem_mem h
theorem getT_v {L : List Tm} {i : Nat} (h : i < L.length) : (L.map Tm.v)[i]'(by rw [List.length_map]; exact h) = (L.getD i Tm.zero).v := by
  rw [List.getElem_map, List.getD_eq_getElem?_getD, List.getElem?_eq_getElem h]
  rfl
theorem elemTimes : Elem Tryz.prog 27 26 2 32 (.agg #[.int .u64 0, .slice none 0 0]) := ⟨by kernel_rfl, by kernel_rfl, rfl, by decide⟩
/-- a list of times that a call has made, from block B on, each with counters of its own -/
structure Tout (w : World) (B : Nat) (A : Option Addr) (c : Nat) (L : List Tm) : Prop where
  own : Own w B 26 2 A L.length c (tmsC L)
  ls : ∀ x ∈ L, Own w B 180 1 x.A x.l.length x.c (wds x.l) ∧ ∀ k, blk x.A x.c = some k → blk A c ≠ some k
  apart : L.Pairwise fun x y => ∀ k, blk x.A x.c = some k → blk y.A y.c ≠ some k
section
variable {w w' : World} {B : Nat} {A : Option Addr} {c : Nat} {L : List Tm}
theorem Tout.ext (h : Tout w B A c L) (x : Ext w w') : Tout w' B A c L := ⟨h.own.ext x, fun y hy => ⟨(h.ls y hy).1.ext x, (h.ls y hy).2⟩, h.apart⟩
theorem Tout.mono (h : Tout w B A c L) {B' : Nat} (hb : B' ≤ B) : Tout w B' A c L := ⟨h.own.mono hb, fun y hy => ⟨(h.ls y hy).1.mono hb, (h.ls y hy).2⟩, h.apart⟩
theorem Tout.tin (h : Tout w B A c L) : Tin w A c L := ⟨h.own.sl, fun x hx => (h.ls x hx).1.sl⟩
theorem Tout.nil (w : World) (B : Nat) : Tout w B none 0 [] := ⟨Own.nil _ _ _ _, fun _x hx => (nomatch hx), List.Pairwise.nil⟩
theorem Tout.upd {S : Nat → Prop} (h : Tout w B A c L) (x : Upd S w w') (hn : ∀ k, B ≤ k → ¬ S k) : Tout w' B A c L :=
  ⟨h.own.upd x (fun k hk => hn k (h.own.lt k hk).1), fun y hy => ⟨(h.ls y hy).1.upd x (fun k hk => hn k ((h.ls y hy).1.lt k hk).1), (h.ls y hy).2⟩, h.apart⟩
end
end Go.Proofs.YtdgbkpoickbidaaGreatDoor
namespace Go.Proofs.YtdgbkpoickbidaaGreatDoor
open Go.ChangeShapes Go.WideShapes Go.ChangeAt Go.RowKit Go.WideElems

section
variable {H : Type} {enc : TypeId × Value → H} {W : World}
theorem list2 {α : Type} {l : List α} (h : l.length = 2) : ∃ a b, l = [a, b] := by
  match l, h with
  | [a, b], _ => exact ⟨a, b, rfl⟩
theorem one_u64 : Tryz.prog.cellsOf 23 = 1 := by kernel_rfl
theorem one_wds : Tryz.prog.cellsOf 24 = 1 := by kernel_rfl
theorem two_tm : Tryz.prog.cellsOf 26 = 2 := by kernel_rfl
/-- what is known of a time that comes in -/
structure TmIn (x : Tm) : Prop where
  u : U32 x.l
  e : 0 ≤ x.e ∧ x.e ≤ 18446744073709551615
theorem come_timeC {fuel : Nat} {cs : List Value} {y : DataW H × List MemPlace} (h : DataW.trod enc Tryz.prog W 0 (fun _ => true) true fuel 26 cs = some y) :
    ∃ x : Tm, cs = tmC x ∧ Sl W 1 x.A x.l.length x.c (wds x.l) ∧ TmIn x := by
  obtain ⟨y0, y1, n, _, hl, h0, h1⟩ := Go.ChangeShapes.trod_struct2 Tryz.underlying26 h
  rw [two_tm] at hl
  obtain ⟨c0, c1, rfl⟩ := list2 hl
  have g0 : DataW.trod enc Tryz.prog W 0 (fun _ => true) true n 23 [c0] = some y0 := by
    have : DataW.trod enc Tryz.prog W 0 (fun _ => true) true n 23 (([c0, c1].drop 0).take (Tryz.prog.cellsOf 23)) = some y0 := h0
    rw [one_u64] at this
    exact this
  have g1 : DataW.trod enc Tryz.prog W 0 (fun _ => true) true n 24 [c1] = some y1 := by
    have : DataW.trod enc Tryz.prog W 0 (fun _ => true) true n 24 (([c0, c1].drop 1).take (Tryz.prog.cellsOf 24)) = some y1 := h1
    rw [one_wds] at this
    exact this
  obtain ⟨k, e0, _, w0⟩ := DataW.trod_int Tryz.underlying23 g0
  obtain ⟨A, m, c, l, rfl, hs, hu⟩ := come_words g1
  obtain rfl : c0 = .int .u64 k := by simpa using e0
  have hm := hs.wlen
  subst hm
  exact ⟨⟨k, A, c, l⟩, rfl, hs, ⟨hu, wf_u64 w0⟩⟩
theorem come_timesC {fuel : Nat} {cs : List Value} {y : DataW H × List MemPlace} (h : DataW.trod enc Tryz.prog W 0 (fun _ => true) true fuel 27 cs = some y) :
    ∃ A c L, cs = [.slice A (List.length L) c] ∧ Tin W A c L ∧ ∀ x ∈ L, TmIn x := by
  rcases Go.Deep.open_slice Tryz.underlying27 h with ⟨hcs, _⟩ | ⟨a, n, c, m, fu, D, Pl, hcs, _, hnc, hcm, hm, _, hx⟩
  · exact ⟨none, 0, [], hcs, Tin.nil W, fun x hx => (nomatch hx)⟩
  · rw [two_tm] at hx
    have hmn : n ≤ m := by rw [hm]; split <;> omega
    obtain ⟨F, hF⟩ := Go.Deep.choose_lt (α := Tm) (n := n) (p := fun i d => (∀ j, j < 2 → W.cell? (a.add (i * 2 + j)) = (tmC d)[j]?) ∧ Sl W 1 d.A d.l.length d.c (wds d.l) ∧ TmIn d) (fun i hi => by
      obtain ⟨cs', h1, h2⟩ := hx i (by omega)
      obtain ⟨_, _, h3⟩ := World.cells?_some h1
      obtain ⟨d, rfl, h4⟩ := come_timeC h2
      exact ⟨d, fun j hj => by rw [← add_add']; exact h3 j hj, h4⟩)
    have hlen : ((List.range n).map F).length = n := by simp
    have hmem : ∀ d ∈ (List.range n).map F, Sl W 1 d.A d.l.length d.c (wds d.l) ∧ TmIn d := fun d hd => by
      obtain ⟨i, hi, rfl⟩ := List.mem_map.1 hd
      exact (hF i (List.mem_range.1 hi)).2
    refine ⟨some a, c, (List.range n).map F, by rw [hlen]; exact hcs, ⟨⟨by rw [tmsC_len], by rw [hlen]; exact hnc, hcm, (fun h => nomatch h), fun _ => ⟨a, rfl, fun j u hu => ?_⟩⟩, fun d hd => (hmem d hd).1⟩, fun d hd => (hmem d hd).2⟩
    have hj : j < n * 2 := by
      rcases Nat.lt_or_ge j (n * 2) with q | q
      · exact q
      · rw [List.getElem?_eq_none (by rw [tmsC_len, hlen]; exact q)] at hu
        cases hu
    have e : j = j / 2 * 2 + j % 2 := by omega
    rw [e, tmsC_at _ _ _ (by rw [hlen]; omega) (by omega)] at hu
    have e2 : ((List.range n).map F).getD (j / 2) Tm.zero = F (j / 2) := by
      rw [List.getD_eq_getElem?_getD, List.getElem?_map, List.getElem?_range (by omega)]
      rfl
    rw [e2] at hu
    rw [e, (hF (j / 2) (by omega)).1 (j % 2) (by omega)]
    exact hu
set_option maxRecDepth 100000 in
theorem come_times {base : Nat} {v : Value} {d : DataW H} {p : List MemPlace} (hv : Value.okWide Tryz.prog W .any base 27 v) (h : DataW.Trod enc Tryz.prog W 0 (fun _ => true) true 27 v d p) :
    ∃ A c L, v = .slice A (List.length L) c ∧ Tin W A c L ∧ ∀ x ∈ L, TmIn x := by
  obtain ⟨fuel, hf⟩ := h
  obtain ⟨A, c, l, e, h1, h2⟩ := come_timesC hf
  obtain ⟨A', n', c', rfl⟩ := okWide_slice Tryz.underlying27 hv
  have e' : (Value.slice A' n' c') = .slice A l.length c := by injection e
  exact ⟨A, c, l, e', h1, h2⟩
end
end Go.Proofs.YtdgbkpoickbidaaGreatDoor
