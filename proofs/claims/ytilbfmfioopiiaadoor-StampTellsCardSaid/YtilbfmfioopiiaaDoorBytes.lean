/- Slices of bytes that a call owns; made a string. Conditions: each theorem states its own. -/
import Derived.Test.YtilbfmfioopiiaaDoorTwo
import Derived.Test.YtilbfmfioopiiaaDoorProg
import Derived.Lib.Builder
import Derived.Lib.AppendStr
import Derived.OwnWalk
import Derived.Laws.BytesString
import Derived.Laws.Cells
import Derived.Laws.Concat
namespace Go.Proofs.YtilbfmfioopiiaaDoor
open Go.RowKit

theorem info_byte : (Tryd.prog.info? 5).map (fun i => (i.zero, i.size, i.bytes)) = some (some (.int .u8 0), 1, 1) := by kernel_rfl
theorem under_bytes : Tryd.prog.underlying 110 = some (.slice 5) := by kernel_rfl
theorem under_string : Tryd.prog.underlying 9 = some .string := by kernel_rfl

theorem owns_form {w : World} {base : Nat} {e : TypeId} {size : Nat} {v : Value} {n : Nat} {xs : List Value} (h : w.ownsRow base e size v n xs) : ∃ A c, v = .slice A n c := by
  rcases h.2 with ⟨hv, h0⟩ | ⟨g, cap, cur, hv, _⟩
  · exact ⟨none, 0, by rw [hv, h0]⟩
  · exact ⟨_, _, hv⟩
theorem cells_append (l m : List UInt8) : Lib.byteCells (l ++ m) = Lib.byteCells l ++ Lib.byteCells m := by simp [Lib.byteCells]

theorem push_all' : ∀ (ns : List Int) (r : ByteArray), ns.foldl (fun r n => r.push (UInt8.ofNat n.toNat)) r = ⟨(r.data.toList ++ ns.map fun n => UInt8.ofNat n.toNat).toArray⟩
  | [], r => by simp
  | n :: ns, r => by
    rw [List.foldl_cons, push_all' ns]
    simp
/-- '[]byte' made a string -/
theorem conv_bk {w : World} {t : TypeId} {cs : Array Value} {g : Nat} (hb : Bk w g t cs) (off n cap : Nat) (ns : List Int) (h : (cs.toList.drop off).take n = ns.map (Value.int .u8)) (hn : ns.length = n) :
    Sem.run Tryd.prog (convert 110 9 (.slice (some ⟨g, off, none⟩) n cap)) w = .ok (.string ⟨(ns.map fun n => UInt8.ofNat n.toNat).toArray⟩) w := by
  rw [run_convert_bytes_string _ _ _ _ _ _ _ under_bytes Tryd.underlying5 under_string]
  have hl : (ns.map (Value.int .u8)).length = n := by simpa using hn
  have hr := run_loadCells_list (P := Tryd.prog) (w := w) ⟨g, off, none⟩ (ns.map (Value.int .u8)) (fun j v hj => by
    rw [show (⟨g, off, none⟩ : Addr).add j = ⟨g, off + j, none⟩ by unfold Addr.add; split <;> simp_all, hb.cell, ← Array.getElem?_toList]
    rw [← h, List.getElem?_take] at hj
    split at hj
    · rw [List.getElem?_drop] at hj; exact hj
    · cases hj)
  rw [hl] at hr
  rw [run_bytesToString _ _ _ _ ns hr, push_all']
  rfl
theorem app_one (D : List UInt8) (x : UInt8) : (⟨D.toArray⟩ : ByteArray) ++ ⟨#[x]⟩ = ⟨(D ++ [x]).toArray⟩ := by
  apply ByteArray.ext
  simp
theorem row_build (w : World) (c : Int) : (w.alloc (.cells #[.int .u8 c] 5)).ownsRow w.heap.size 5 1 (.slice (some ⟨w.heap.size, 0, none⟩) 1 1) 1 [.int .u8 c] :=
  ⟨rfl, .inr ⟨w.heap.size, 1, _, rfl, Nat.le_refl _, heap_alloc_new w _, Nat.le_refl _, by unfold maxLen; omega, rfl, rfl⟩⟩
theorem row_ext {w w' : World} {B : Nat} {e : TypeId} {v : Value} {n : Nat} {xs : List Value} (h : w.ownsRow B e 1 v n xs) (x : Ext w w') : w'.ownsRow B e 1 v n xs := by
  refine ⟨h.1, ?_⟩
  rcases h.2 with hn | ⟨g, cap, cur, hv, hbg, hg, rest⟩
  · exact .inl hn
  · exact .inr ⟨g, cap, cur, hv, hbg, x.heap hg, rest⟩
theorem cells_at (w : World) (t : TypeId) (cs : Array Value) (j : Nat) (u : Value) (h : cs.toList[j]? = some u) : (w.alloc (.cells cs t)).cell? ((⟨w.heap.size, 0, none⟩ : Addr).add j) = some u := by
  rw [show (⟨w.heap.size, 0, none⟩ : Addr).add j = ⟨w.heap.size, j, none⟩ by unfold Addr.add; split <;> simp_all, (Bk.new w t cs).cell, ← Array.getElem?_toList]
  exact h
theorem back_bytes : ∀ l : List UInt8, l.map ((fun n : Int => UInt8.ofNat n.toNat) ∘ fun b : UInt8 => (b.toNat : Int)) = l
  | [] => rfl
  | b :: l => by rw [List.map_cons, back_bytes l]; simp
/-- a row of bytes made a string -/
theorem conv_row {w : World} {B n c : Nat} {A : Option Addr} (l : List UInt8) (h : w.ownsRow B 5 1 (.slice A n c) n (Lib.byteCells l)) :
    Sem.run Tryd.prog (convert 110 9 (.slice A n c)) w = .ok (.string ⟨l.toArray⟩) w := by
  rw [run_convert_bytes_string _ _ _ _ _ _ _ under_bytes Tryd.underlying5 under_string]
  have hl : l.length = n := by have := h.1; simpa [Lib.byteCells] using this
  rcases h.2 with ⟨hv, h0⟩ | ⟨g, cap, cur, hv, hbg, hg, hnc, hcm, hcs, htake⟩
  · obtain rfl : A = none := by injection hv
    have : l = [] := List.eq_nil_of_length_eq_zero (by omega)
    subst this
    subst h0
    rfl
  · obtain ⟨rfl, rfl⟩ : A = some ⟨g, 0, none⟩ ∧ c = cap := by injection hv; exact ⟨‹_›, ‹_›⟩
    have hb : Bk w g 5 cur := hg
    have e : Lib.byteCells l = (l.map fun b => (b.toNat : Int)).map (Value.int .u8) := by simp [Lib.byteCells]
    have := conv_bk hb 0 n c (l.map fun b => (b.toNat : Int)) (by rw [List.drop_zero, ← e]; simpa using htake) (by simpa using hl)
    rw [← run_convert_bytes_string _ _ _ _ _ _ _ under_bytes Tryd.underlying5 under_string, this, List.map_map, back_bytes]
/-! ### bytes that are appended, by the law that says where they lie -/
theorem elem_byte : Elem Tryd.prog 110 5 1 1 (.int .u8 0) := ⟨by kernel_rfl, by kernel_rfl, rfl, by decide⟩
/-- the slice '.slice A n c' owns the bytes xs, in blocks from B on -/
def OwnB (w : World) (B : Nat) (A : Option Addr) (n c : Nat) (xs : List UInt8) : Prop := Own w B 5 1 A n c (Lib.byteCells xs) ∧ B ≤ w.heap.size
section
variable {w w' : World} {B n c : Nat} {A : Option Addr} {xs : List UInt8}
theorem OwnB.nil (w : World) {B : Nat} (h : B ≤ w.heap.size) : OwnB w B none 0 0 [] := ⟨Own.nil w B _ 1, h⟩
theorem OwnB.len (h : OwnB w B A n c xs) : n = xs.length := by
  have := h.1.1
  rw [Lib.byteCells_length] at this
  omega
theorem OwnB.ext (h : OwnB w B A n c xs) (x : Ext w w') : OwnB w' B A n c xs := ⟨h.1.ext x, Nat.le_trans h.2 x.size⟩
theorem OwnB.alloc (h : OwnB w B A n c xs) (o : Obj) : OwnB (w.alloc o) B A n c xs := h.ext ((Ext.refl w).alloc o)
theorem OwnB.le (h : OwnB w B A n c xs) : n ≤ 9223372036854775807 := by have := h.1.le; omega
theorem OwnB.mono {B' : Nat} (h : OwnB w B A n c xs) (hb : B' ≤ B) : OwnB w B' A n c xs := ⟨h.1.mono hb, Nat.le_trans hb h.2⟩
/-- it lies in no block that is new -/
theorem OwnB.ne (h : OwnB w B A n c xs) {g : Nat} (hg : w.heap.size ≤ g) : blk A c ≠ some g := fun e => by have := (h.1.lt g e).2; omega
theorem bytes_oneCell (ys : List UInt8) : ∀ u ∈ Lib.byteCells ys, u.oneCell' = true := by
  intro u hu
  obtain ⟨y, _, rfl⟩ := List.mem_map.1 hu
  rfl
theorem sl_new (w : World) {t : TypeId} {cs : Array Value} {ys : List UInt8} {m : Nat} (hc : cs.toList = Lib.byteCells ys) (hm : ys.length = m) (hb : m ≤ 140737488355328) : Sl (w.alloc (.cells cs t)) 1 (some ⟨w.heap.size, 0, none⟩) m m (Lib.byteCells ys) :=
  ⟨by rw [Lib.byteCells_length]; omega, Nat.le_refl _, by unfold maxLen; omega, (fun h => nomatch h), fun _ => ⟨_, rfl, fun j u hu => cells_at w t cs j u (by rw [hc]; exact hu)⟩⟩
theorem put_bytes {ops : Array Oper} {rest : List Oper} {o : Oper} {a : Act} {Q : Exit → Act → World → Prop} (ys : List UInt8) {cs : Array Value} {m ad : Nat} (hgd : o.guard = none) (s x : Operand)
    (ho : o.op = .call { callee := .builtin .append, args := #[s, x], argTypes := #[110, 110] }) (h : OwnB w B A n c xs) (hs : a.eval s = .slice A n c) (hx : a.eval x = .slice (some ⟨ad, 0, none⟩) m m) (had : ad = w.heap.size) (hm : ys.length = m) (hc : cs.toList = Lib.byteCells ys)
    (hb : n + m ≤ 140737488355328)
    (k : ∀ A' n' c' w2, OwnB w2 B A' n' c' (xs ++ ys) → n' = n + m → w.heap.size ≤ w2.heap.size → Below B w w2 → (∀ g, g < w.heap.size → blk A c ≠ some g → blk A' c' ≠ some g ∧ w2.heap[g]? = w.heap[g]?) → wpList Tryd.prog ops Q rest (a.put o.dst (.slice A' n' c')) w2) :
    wpList Tryd.prog ops Q (o :: rest) a (w.alloc (.cells cs 5)) := by
  subst had
  have x1 : Ext w (w.alloc (.cells cs 5)) := (Ext.refl w).alloc _
  have hx1 : w.heap.size + 1 = (w.alloc (.cells cs 5)).heap.size := by simp
  refine wpList_append_two _ elem_byte B s x ho hgd A n c _ hs (h.1.alloc _) _ m m _ hx (sl_new w hc hm (by omega)) (bytes_oneCell ys) (by rw [Nat.mul_one]; exact hb) (by decide) (Nat.le_trans h.2 x1.size) ?_
  intro A' c' w2 h2 h3 h4
  have hsz : w.heap.size ≤ w2.heap.size := Nat.le_trans x1.size h3.size
  have hbel : Below B w w2 := Below.grown (Below.mono x1 h.2) h3 (Nat.le_trans h.2 x1.size) (fun g hg => (h.1.lt g hg).1)
  refine k A' (n + m) c' w2 ⟨by rw [cells_append]; exact h2, Nat.le_trans h.2 hsz⟩ rfl hsz hbel (fun g hg hne => ⟨?_, ?_⟩)
  · rcases h4 with ⟨rfl, rfl⟩ | ⟨h5, _⟩
    · exact hne
    · rw [h5, ← hx1]
      intro e
      injection e with e
      omega
  · rw [h3.block g (by omega) (Ne.symm hne)]
    exact x1.block g hg
end
theorem size_data (s : ByteArray) : s.data.toList.length = s.size := by simp
end Go.Proofs.YtilbfmfioopiiaaDoor
