/- row.Sum: what its steps do to memory. Conditions: each theorem states its own. -/
import Derived.Test.YtngeioghihbkeaaDoorDelFuncB
import Derived.Test.YtngeioghihbkeaaDoorRowClone
import Derived.Test.YtngeioghihbkeaaDoorKeyOrd
import Derived.Test.YtngeioghihbkeaaDoorSumLaw
import Derived.Test.YtngeioghihbkeaaDoorSortSmall
import Derived.Maps.OwnSet
import Derived.Maps.OwnOps
import Derived.Laws.MakeOwn
namespace Go.Proofs.YtngeioghihbkeaaDoor
open Go.RowKit Go.Maps

theorem elem_ct : Elem Tryd.prog 27 32 2 32 (.agg #[.slice none 0 0, .int .i64 0]) := ⟨by kernel_rfl, by kernel_rfl, rfl, by decide⟩
def madeCts (n : Nat) : Obj := .cells (madeCells #[.slice none 0 0, .int .i64 0] (n * 2)) 32
theorem make_cts (n : Nat) (hn : n ≤ 1000000000) (W : World) : (Instr.makeSlice 27 (.int .i64 0) (.int .i64 (n : Int))).run Tryd.prog W = .ok (.slice (some ⟨W.heap.size, 0, none⟩) 0 n) (W.alloc (madeCts n)) := by
  obtain ⟨i, hi, hz, hs, hb⟩ := info_parts elem_ct.info
  have := run_make (P := Tryd.prog) (w := W) 27 32 i _ elem_ct.under hi hz .i64 .i64 0 (n : Int) (Int.le_refl _) (by omega) (by rw [hb]; omega) (by omega)
  rw [hs] at this
  exact this
theorem make_map (n : Int) (W : World) : (Instr.makeMap 95 (some (.int .i64 n))).run Tryd.prog W = .ok (.map (some W.heap.size)) (W.alloc (.map #[] 0)) := by
  simp [Instr.makeMap, run_underlying Tryd.underlying95]
  rfl
theorem arr_made (W : World) (n : Nat) (h : 0 < n) (hn : n ≤ 1000000000) : Arr (W.alloc (madeCts n)) W.heap.size W.heap.size n [] :=
  ⟨⟨rfl, .inr ⟨W.heap.size, _, rfl, Nat.le_refl _, heap_alloc_new W _, Nat.zero_le _, by unfold maxLen; omega, size_madeCells _ _, rfl⟩⟩, h⟩
theorem run_append_stay {P : Program} (w : World) {t ty e size bytes : Nat} {z : Value} (E : Elem P t e size bytes z) (base g n c0 : Nat) (xs : List Value) (hown : Own w base e size (some ⟨g, 0, none⟩) n c0 xs) (hc : 0 < c0)
    (ad : Addr) (m c : Nat) (news : List Value) (hr : Sl w size (some ad) m c news) (hm : 0 < m) (h1 : ∀ u ∈ news, u.oneCell' = true) (hroom : n + m ≤ c0) :
    ∃ w', (Builtin.append_ #[t, t] ty #[.slice (some ⟨g, 0, none⟩) n c0, .slice (some ad) m c]).run P w = .ok (.slice (some ⟨g, 0, none⟩) (n + m) c0) w' ∧ Own w' base e size (some ⟨g, 0, none⟩) (n + m) c0 (xs ++ news) ∧ w.grownBy w' (some g) := by
  obtain ⟨i, hi, hz, hs, hby⟩ := info_parts E.info
  obtain ⟨ad', e1, hcells⟩ := hr.2.2.2.2 hm
  cases e1
  rcases hown.2 with ⟨h2, _⟩ | ⟨g', cur, e2, hb, hg, hnc, hcm, hcs, htake⟩
  · omega
  · cases e2
    have hlen : (xs ++ news).length = (n + m) * size := by rw [List.length_append, hown.1, hr.1, Nat.add_mul]
    have hfit : n * i.size + news.length ≤ cur.size := by rw [hr.1, hcs, hs, ← Nat.add_mul]; exact Nat.mul_le_mul_right _ hroom
    have hr2 := run_append_room (P := P) w t ty e i E.under hi g n c0 cur hg ad m c news (by rw [hs]; exact hr.1) hcells h1 hroom hfit
    refine ⟨_, hr2, ⟨hlen, .inr ⟨g, _, rfl, hb, setRow_heap w g cur _ e _ hg, hroom, hcm, ?_, ?_⟩⟩, ⟨rfl, rfl, rfl, by simp, fun k _ hk => setRow_other w g k _ (fun e' => hk (by rw [e']))⟩⟩
    · simp only [List.size_toArray, List.length_append, List.length_take, List.length_drop, Array.length_toList]
      omega
    · rw [hs, htake, ← hlen]
      exact List.take_left
theorem wpList_append_stay {P : Program} (w : World) {ops : Array Oper} {rest : List Oper} {o : Oper} {a : Act} {Q : Exit → Act → World → Prop} {t e size bytes : Nat} {z : Value} (E : Elem P t e size bytes z) (base : Nat) (s x : Operand)
    (ho : o.op = .call { callee := .builtin .append, args := #[s, x], argTypes := #[t, t] }) (hgd : o.guard = none)
    (g n c0 : Nat) (xs : List Value) (hs : a.eval s = .slice (some ⟨g, 0, none⟩) n c0) (hown : Own w base e size (some ⟨g, 0, none⟩) n c0 xs) (hc : 0 < c0)
    (ad : Addr) (m c : Nat) (news : List Value) (hx : a.eval x = .slice (some ad) m c) (hr : Sl w size (some ad) m c news) (hm : 0 < m) (h1 : ∀ u ∈ news, u.oneCell' = true) (hroom : n + m ≤ c0)
    (h : ∀ w', Own w' base e size (some ⟨g, 0, none⟩) (n + m) c0 (xs ++ news) → w.grownBy w' (some g) → wpList P ops Q rest (a.put o.dst (.slice (some ⟨g, 0, none⟩) (n + m) c0)) w') : wpList P ops Q (o :: rest) a w :=
  wpList_plain hgd fun _ hK => by
    obtain ⟨w', hrun, h2, h3⟩ := run_append_stay (P := P) (ty := o.type) w E base g n c0 xs hown hc ad m c news hr hm h1 hroom
    unfold Oper.wp execOp
    simp only [ho, resolve, invoke, builtin, Sem.run_bind, Sem.run_pure, Result.andThen_ok, List.map_toArray, List.map_cons, List.map_nil, hs, hx, hrun]
    exact hK _ _ (h w' h2 h3)
/-- bytes that a call owns, made a string -/
theorem conv_own {w : World} {B n c : Nat} {A : Option Addr} {l : List UInt8} (h : OwnB w B A n c l) :
    Sem.run Tryd.prog (convert 35 9 (.slice A n c)) w = .ok (.string ⟨l.toArray⟩) w := by
  have hl := h.len
  rw [run_convert_bytes_string _ _ _ _ _ _ _ under_bytes Tryd.underlying5 under_string]
  rcases h.1.2 with ⟨hc, h0⟩ | ⟨g, cur, e, hb, hg, hnc, hcm, hcs, htake⟩
  · have : l = [] := List.eq_nil_of_length_eq_zero (by omega)
    subst this
    subst h0
    cases A <;> rfl
  · cases e
    have hbk : Bk w g 5 cur := hg
    have e : Lib.byteCells l = (l.map fun b => (b.toNat : Int)).map (Value.int .u8) := by simp [Lib.byteCells]
    have := conv_bk hbk 0 n c (l.map fun b => (b.toNat : Int)) (by rw [List.drop_zero, ← e]; simpa using htake) (by simp; omega)
    rw [← run_convert_bytes_string _ _ _ _ _ _ _ under_bytes Tryd.underlying5 under_string, this, List.map_map, back_bytes]
/-! ### the map of places -/
theorem map_law : Keyed Tryd.prog 9 := string_keyed Tryd.underlying9
theorem zero_int (w : World) : (zeroValue 3).run Tryd.prog w = .ok (.int .i64 0) w := by kernel_rfl
theorem key_of {l : List UInt8} (h : l.length ≤ 100000000) : keyOf Tryd.prog 9 (.string ⟨l.toArray⟩) = some (.string l) := by
  rw [Go.WideMaps.keyOf_string_mk Tryd.underlying9 (by unfold maxLen; simp [ByteArray.size]; omega)]
abbrev MD := DataW Unit
def int_ (n : Int) : MD := .lit (.int .i64 n)
/-- the map tells at each row's bytes where the row stands -/
structure MapIs (D : MD) (O : List Ct) : Prop where
  is : IsMap D
  has : ∀ s, Maps.has D (.string s) = true ↔ ∃ x ∈ O, keyT x.l = s
  at_ : ∀ j, j < O.length → D.atKey (.string (keyT (O.getD j Ct.zero).l)) (int_ 0) = int_ j
theorem MapIs.nil : MapIs (.map []) [] := ⟨isMap_empty, fun s => ⟨fun h => (nomatch h), fun ⟨x, h, _⟩ => (nomatch h)⟩, fun j h => absurd h (Nat.not_lt_zero _)⟩
theorem MapIs.new {D : MD} {O : List Ct} {x : Ct} {n : Nat} (h : MapIs D O) (hn : n = O.length) (hk : Maps.has D (.string (keyT x.l)) = false) : MapIs (D.put (.string (keyT x.l)) (int_ n)) (O ++ [x]) := by
  subst hn
  refine ⟨?_, fun s => ?_, fun j hj => ?_⟩
  · obtain ⟨es, rfl⟩ := h.is
    exact ⟨_, rfl⟩
  · by_cases e : s = keyT x.l
    · subst e
      rw [has_put_same h.is (show WideAt.IsKeyLit (.string _) from trivial)]
      exact ⟨fun _ => ⟨x, by simp, rfl⟩, fun _ => rfl⟩
    · rw [has_put_other (fun q => e (by injection q)), h.has]
      exact ⟨fun ⟨y, hy, q⟩ => ⟨y, List.mem_append_left _ hy, q⟩, fun ⟨y, hy, q⟩ => by
        rcases List.mem_append.1 hy with hy | hy
        · exact ⟨y, hy, q⟩
        · rw [List.mem_singleton.1 hy] at q; exact absurd q.symm e⟩
  · rw [List.length_append, List.length_singleton] at hj
    by_cases hj2 : j < O.length
    · have e : (O ++ [x]).getD j Ct.zero = O.getD j Ct.zero := by rw [List.getD_eq_getElem?_getD, List.getElem?_append_left hj2, List.getD_eq_getElem?_getD]
      rw [e, atKey_put_other ?_, h.at_ j hj2]
      intro q
      injection q with q
      have hm : ∃ y ∈ O, keyT y.l = keyT x.l := ⟨O.getD j Ct.zero, by rw [List.getD_eq_getElem?_getD, List.getElem?_eq_getElem hj2]; exact List.getElem_mem hj2, q⟩
      rw [(h.has _).2 hm] at hk
      cases hk
    · obtain rfl : j = O.length := by omega
      rw [getD_mid O x [], atKey_put_same h.is (show WideAt.IsKeyLit (.string _) from trivial)]
theorem MapIs.old {D : MD} {P Q : List Ct} {y z : Ct} (h : MapIs D (P ++ y :: Q)) (hz : z.l = y.l) : MapIs D (P ++ z :: Q) := by
  refine ⟨h.is, fun s => ?_, fun j hj => ?_⟩
  · rw [h.has]
    constructor
    · rintro ⟨x, hx, q⟩
      rcases List.mem_append.1 hx with hx | hx
      · exact ⟨x, List.mem_append_left _ hx, q⟩
      · rcases List.mem_cons.1 hx with rfl | hx
        · exact ⟨z, by simp, by rw [hz]; exact q⟩
        · exact ⟨x, by simp [hx], q⟩
    · rintro ⟨x, hx, q⟩
      rcases List.mem_append.1 hx with hx | hx
      · exact ⟨x, List.mem_append_left _ hx, q⟩
      · rcases List.mem_cons.1 hx with rfl | hx
        · exact ⟨y, by simp, by rw [← hz]; exact q⟩
        · exact ⟨x, by simp [hx], q⟩
  · have e : ((P ++ z :: Q).getD j Ct.zero).l = ((P ++ y :: Q).getD j Ct.zero).l := by
      rw [List.getD_eq_getElem?_getD, List.getD_eq_getElem?_getD]
      rcases Nat.lt_trichotomy j P.length with q | q | q
      · rw [List.getElem?_append_left q, List.getElem?_append_left q]
      · subst q
        rw [List.getElem?_append_right (Nat.le_refl _), List.getElem?_append_right (Nat.le_refl _), Nat.sub_self]
        exact hz
      · rw [List.getElem?_append_right (by omega), List.getElem?_append_right (by omega)]
        obtain ⟨k, hk⟩ : ∃ k, j - P.length = k + 1 := ⟨j - P.length - 1, by omega⟩
        rw [hk, List.getElem?_cons_succ, List.getElem?_cons_succ]
    rw [e]
    exact h.at_ j (by simpa using hj)
end Go.Proofs.YtngeioghihbkeaaDoor
