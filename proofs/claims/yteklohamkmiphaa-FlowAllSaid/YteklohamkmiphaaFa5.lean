/- A map whose keys are places: asked, written, struck from, ranged over. slices.IndexFunc, ContainsFunc at inner ways, nodes, edges and ways, by any predicate that makes new memory at most. A list of work: a slice that is taken from at its head and grown at its end; the room that append asks for, as it is. slices.DeleteFunc at ways. What a search keeps of one place: how much there is at most. What a search keeps in memory: steps, the list of work, the least ways so far. Conditions: each theorem states its own. -/
import Derived.Test.YteklohamkmiphaaFa4
import Derived.DeepKeys4
import Derived.Maps.RangeWalk
import Derived.Maps.OwnSet
import Derived.Carry
import Derived.Test.YteklohamkmiphaaChecked
import Derived.Test.YteklohamkmiphaaFa2
import Derived.Deep.LoopGhost
import Derived.Shelf.Abstract
import Derived.Lib.SliceRun
import Derived.Test.YteklohamkmiphaaFa3
namespace Go.Proofs.Yteklohamkmiphaa
open Go.RowKit
open Go.ChangeMaps (setBlock)

theorem pt_laid : laidOutB Try.prog = true := by kernel_rfl
theorem pt_row : (27 : TypeId) < Try.prog.types.size := of_decide_eq_true (by kernel_rfl)
theorem pt_deep : Try.prog.keyTypeAt 2 27 = true := by kernel_rfl
theorem pt_key : Try.prog.keyType 27 = true := by kernel_rfl
theorem pt_cells : Try.prog.cellsOf 27 = 3 := by kernel_rfl
theorem pt_int : Try.prog.cellsOf 3 = 1 := by kernel_rfl
theorem pt_bool : Try.prog.cellsOf 4 = 1 := by kernel_rfl
theorem pos_ex {n k : Nat} (h : k < n) : ∃ d, n = d + 1 := ⟨n - 1, by omega⟩
theorem pt_law : WideMaps.KeyLaw Try.prog 27 := deep_law_laid pt_laid (m := 2) (by omega) pt_row pt_deep (by rw [Try.underlying27])
theorem keyOf_pt {p : Pt} (h : P64 p) : ∃ l, Go.keyOf Try.prog 27 (ptV p) = some l := by
  obtain ⟨d, hd⟩ := pos_ex pt_row
  obtain ⟨⟨h1, h2⟩, h3, h4⟩ := h
  have e1 : (Lit.int .i64 p.n).wf = true := by simp [Lit.wf, IntKind.min, IntKind.max, IntKind.bits, IntKind.signed]; omega
  have e2 : (Lit.int .i64 p.p).wf = true := by simp [Lit.wf, IntKind.min, IntKind.max, IntKind.bits, IntKind.signed]; omega
  unfold Go.keyOf
  rw [Try.underlying27, pt_key, hd]
  simp [Value.formed, Try.underlying27, pt_cells, ptV, Program.keyLits, Value.cells, Try.underlying3, Try.underlying4, pt_int, pt_bool, e1, e2]
theorem ptV_inj {p q : Pt} (h : ptV p = ptV q) : p = q := by
  cases p; cases q
  unfold ptV at h
  injection h with h
  have h := congrArg Array.toList h
  simp at h
  simp [h]

/-- a place's entry: what stands there, when it came -/
structure Pe where
  p : Pt
  v : Value
  born : Nat
def entT (x : Pe) : MapEntry := ⟨ptV x.p, x.v, x.born⟩
def getE (L : List Pe) (p : Pt) : Option Value := (L.find? fun x => decide (x.p = p)).map Pe.v
structure TM (w : World) (b : Nat) (L : List Pe) (clock : Nat) : Prop where
  bk : w.heap[b]? = some (.map (L.map entT).toArray clock)
  st : ∀ x ∈ L, x.born < clock
  nb : (L.map Pe.born).Nodup
  np : (L.map Pe.p).Nodup
  k6 : ∀ x ∈ L, P64 x.p

theorem getE_none {L : List Pe} {p : Pt} (h : ∀ x ∈ L, x.p ≠ p) : getE L p = none := by
  unfold getE
  rw [List.find?_eq_none.2 (fun x hx => by simpa using h x hx)]
  rfl
theorem getE_some {L : List Pe} (h : (L.map Pe.p).Nodup) {x : Pe} (hx : x ∈ L) : getE L x.p = some x.v := by
  unfold getE
  induction L with
  | nil => cases hx
  | cons a L ih =>
    rw [List.map_cons, List.nodup_cons] at h
    rcases List.mem_cons.1 hx with rfl | hx
    · rw [List.find?_cons_of_pos (by simp)]; rfl
    · rw [List.find?_cons_of_neg (by simpa using fun e : a.p = x.p => h.1 (e ▸ List.mem_map.2 ⟨x, hx, rfl⟩))]
      exact ih h.2 hx
theorem getE_mem {L : List Pe} {p : Pt} {v : Value} (h : getE L p = some v) : ∃ x ∈ L, x.p = p ∧ x.v = v := by
  unfold getE at h
  cases e : L.find? fun x => decide (x.p = p) with
  | none => rw [e] at h; cases h
  | some y =>
    rw [e] at h
    injection h with h
    exact ⟨y, List.mem_of_find?_eq_some e, by simpa using List.find?_some e, h⟩
theorem getE_iff {L : List Pe} (h : (L.map Pe.p).Nodup) {p : Pt} {v : Value} : getE L p = some v ↔ ∃ x ∈ L, x.p = p ∧ x.v = v :=
  ⟨getE_mem, fun ⟨x, hx, h1, h2⟩ => by rw [← h1, ← h2]; exact getE_some h hx⟩
theorem getE_eq {L L' : List Pe} (h : (L.map Pe.p).Nodup) (h' : (L'.map Pe.p).Nodup) {p q : Pt} (e : ∀ v, (∃ x ∈ L, x.p = p ∧ x.v = v) ↔ ∃ x ∈ L', x.p = q ∧ x.v = v) : getE L p = getE L' q := by
  refine Option.ext fun v => ?_
  rw [getE_iff h, getE_iff h', e]

section
variable {w w' : World} {b clock : Nat} {L : List Pe}
theorem find_pt {p : Pt} (hp : P64 p) (L : List Pe) (h6 : ∀ x ∈ L, P64 x.p) :
    ((∀ x ∈ L, x.p ≠ p) ∧ (Instr.findKey 27 (ptV p) (L.map entT)).run Try.prog w = .ok none w) ∨
    ∃ j x, L[j]? = some x ∧ x.p = p ∧ (Instr.findKey 27 (ptV p) (L.map entT)).run Try.prog w = .ok (some (j, x.v)) w := by
  obtain ⟨l, hl⟩ := keyOf_pt hp
  rcases pt_law.find w hl (L.map entT) (fun e he => by obtain ⟨x, hx, rfl⟩ := List.mem_map.1 he; exact keyOf_pt (h6 x hx)) with ⟨h1, h2⟩ | ⟨j, e, h1, h2, h3⟩
  · exact .inl ⟨fun x hx e => h2 (entT x) (List.mem_map.2 ⟨x, hx, rfl⟩) (by show ptV x.p = ptV p; rw [e]), h1⟩
  · rw [List.getElem?_map] at h2
    cases hx : L[j]? with
    | none => rw [hx] at h2; cases h2
    | some x =>
      rw [hx] at h2
      injection h2 with h2
      subst h2
      exact .inr ⟨j, x, hx, ptV_inj h3, h1⟩
theorem check_pt {p : Pt} (hp : P64 p) (e : Bool) : (Instr.checkKey e 10000 27 (ptV p)).run Try.prog w = .ok () w := by
  obtain ⟨l, hl⟩ := keyOf_pt hp
  exact pt_law.check w e hl
theorem stays_pt {p : Pt} (hp : P64 p) : (Instr.keyThatStays (ptV p) (ptV p)).run Try.prog w = .ok (ptV p) w := by
  obtain ⟨l, hl⟩ := keyOf_pt hp
  exact pt_law.stays w hl
theorem run_setT {es : Array MapEntry} {k : Nat} (h : w.heap[b]? = some (.map es k)) (o' : Obj) : (setObj b o').run Try.prog w = .ok () (setBlock w b o') := by
  simp [setObj, Sem.run, h, setBlock]
theorem grown_setT {es : Array MapEntry} {k : Nat} (h : w.heap[b]? = some (.map es k)) (o : Obj) : w.grownBy (setBlock w b o) (some b) ∧ (setBlock w b o).heap.size = w.heap.size :=
  ⟨⟨rfl, rfl, rfl, by simp [setBlock], fun i _ hi => Go.ChangeMaps.heap_setBlock_other h o (fun e => hi (by rw [e]))⟩, by simp [setBlock]⟩
theorem TM.lt (h : TM w b L clock) : b < w.heap.size := (Array.getElem?_eq_some_iff.1 h.bk).1
theorem TM.ext (h : TM w b L clock) (x : Ext w w') : TM w' b L clock := ⟨x.heap h.bk, h.st, h.nb, h.np, h.k6⟩
theorem TM.upd {S : Nat → Prop} (h : TM w b L clock) (u : Upd S w w') (hb : ¬ S b) : TM w' b L clock := ⟨(u.block b h.lt hb).trans h.bk, h.st, h.nb, h.np, h.k6⟩
theorem TM.not_ty (h : TM w b L clock) (t : TypeId) : ¬ Ty w b t := fun ⟨cur, z, q⟩ => by rw [h.bk] at q; cases q
theorem TM.made (w : World) : TM (w.alloc (.map #[] 0)) w.heap.size [] 0 := ⟨heap_alloc_new w _, fun _ h => (nomatch h), List.nodup_nil, List.nodup_nil, fun _ h => (nomatch h)⟩

/-- asked -/
theorem TM.look (h : TM w b L clock) {p : Pt} (hp : P64 p) {T te : TypeId} (ht : Try.prog.underlying T = some (.map 27 te)) {z : Value} (hz : (zeroValue te).run Try.prog w = .ok z w) :
    (Instr.lookup T (.map (some b)) (ptV p) false).run Try.prog w = .ok ((getE L p).getD z) w := by
  have hc := check_pt (w := w) hp (L.map entT).toArray.isEmpty
  rcases find_pt (w := w) hp L h.k6 with ⟨h1, h2⟩ | ⟨j, x, h1, rfl, h2⟩
  · rw [getE_none h1]
    unfold Instr.lookup
    simp only [Sem.run_bind, Sem.run_pure, run_underlying ht, Result.andThen, getObj, Sem.run, h.bk, hc, h2, hz]
    rfl
  · rw [getE_some h.np (List.mem_of_getElem? h1)]
    unfold Instr.lookup
    simp only [Sem.run_bind, Sem.run_pure, run_underlying ht, Result.andThen, getObj, Sem.run, h.bk, hc, h2]
    rfl
theorem set_p {L : List Pe} {j : Nat} {x : Pe} (hx : L[j]? = some x) (v : Value) : (L.set j { x with v := v }).map Pe.p = L.map Pe.p ∧ (L.set j { x with v := v }).map Pe.born = L.map Pe.born := by
  have hj := (List.getElem?_eq_some_iff.1 hx)
  obtain ⟨hj, hx⟩ := hj
  subst hx
  constructor <;> (rw [List.map_set]; refine List.ext_getElem? fun i => ?_; rw [List.getElem?_set]; by_cases e : j = i <;> (first | (subst e; simp [hj]; done) | (simp [e]; done)))
theorem set_get {L : List Pe} {j : Nat} {x : Pe} (hx : L[j]? = some x) (hn : (L.map Pe.p).Nodup) (v : Value) (q : Pt) : getE (L.set j { x with v := v }) q = if q = x.p then some v else getE L q := by
  have hn2 : ((L.set j { x with v := v }).map Pe.p).Nodup := by rw [(set_p hx v).1]; exact hn
  have hj := (List.getElem?_eq_some_iff.1 hx).1
  by_cases e : q = x.p
  · rw [if_pos e, e]
    exact getE_some (x := { x with v := v }) hn2 (List.mem_of_getElem? (i := j) (by rw [List.getElem?_set_self hj]))
  · rw [if_neg e]
    refine getE_eq hn2 hn fun u => ⟨?_, ?_⟩
    · rintro ⟨y, hy, rfl, rfl⟩
      rcases List.mem_or_eq_of_mem_set hy with hy | rfl
      · exact ⟨y, hy, rfl, rfl⟩
      · exact absurd rfl e
    · rintro ⟨y, hy, rfl, rfl⟩
      obtain ⟨i, hi⟩ := List.getElem?_of_mem hy
      refine ⟨y, List.mem_of_getElem? (i := i) ?_, rfl, rfl⟩
      rw [List.getElem?_set_ne (fun q => e (by subst q; rw [hx] at hi; injection hi with hi; rw [hi]))]
      exact hi
theorem TM.setAt (h : TM w b L clock) {j : Nat} {x : Pe} (hx : L[j]? = some x) (v : Value) : TM (setBlock w b (.map ((L.set j { x with v := v }).map entT).toArray clock)) b (L.set j { x with v := v }) clock := by
  refine ⟨Go.ChangeMaps.heap_setBlock_same h.bk _, fun y hy => ?_, by rw [(set_p hx v).2]; exact h.nb, by rw [(set_p hx v).1]; exact h.np, fun y hy => ?_⟩
  · rcases List.mem_or_eq_of_mem_set hy with hy | rfl
    · exact h.st y hy
    · exact h.st x (List.mem_of_getElem? hx)
  · rcases List.mem_or_eq_of_mem_set hy with hy | rfl
    · exact h.k6 y hy
    · exact h.k6 x (List.mem_of_getElem? hx)
theorem mod_set {L : List Pe} {j : Nat} {x : Pe} (hx : L[j]? = some x) (v : Value) (f : MapEntry → MapEntry) (hf : f (entT x) = entT { x with v := v }) : (L.map entT).toArray.modify j f = ((L.set j { x with v := v }).map entT).toArray := by
  refine Array.ext' ?_
  rw [Array.toList_modify]
  refine List.ext_getElem? fun i => ?_
  have hj := (List.getElem?_eq_some_iff.1 hx).1
  rw [List.getElem?_modify, List.getElem?_map, List.getElem?_map, List.getElem?_set]
  by_cases e : j = i
  · subst e
    rw [hx]
    simp only [if_true, if_pos hj, Option.map_some, Option.map_eq_map, hf]
  · simp [e]
theorem TM.add (h : TM w b L clock) {p : Pt} (hp : P64 p) (hn : ∀ x ∈ L, x.p ≠ p) (v : Value) : TM (setBlock w b (.map ((L.map entT).toArray.push ⟨ptV p, v, clock⟩) (clock + 1))) b (L ++ [⟨p, v, clock⟩]) (clock + 1) := by
  refine ⟨by rw [Go.ChangeMaps.heap_setBlock_same h.bk]; simp [entT], fun x hx => ?_, ?_, ?_, fun x hx => ?_⟩
  · rcases List.mem_append.1 hx with hx | hx
    · have := h.st x hx; omega
    · rw [List.mem_singleton.1 hx]; exact Nat.lt_succ_self _
  · rw [List.map_append]
    refine List.nodup_append.2 ⟨h.nb, by simp, fun a ha c hc => ?_⟩
    obtain ⟨y, hy, rfl⟩ := List.mem_map.1 ha
    have := h.st y hy
    rw [List.mem_singleton.1 (show c ∈ [clock] from hc)]
    omega
  · rw [List.map_append]
    refine List.nodup_append.2 ⟨h.np, by simp, fun a ha c hc => ?_⟩
    obtain ⟨y, hy, rfl⟩ := List.mem_map.1 ha
    rw [List.mem_singleton.1 (show c ∈ [p] from hc)]
    exact hn y hy
  · rcases List.mem_append.1 hx with hx | hx
    · exact h.k6 x hx
    · rw [List.mem_singleton.1 hx]; exact hp
theorem add_get (h : TM w b L clock) {p : Pt} (hn : ∀ x ∈ L, x.p ≠ p) (v : Value) (q : Pt) : getE (L ++ [⟨p, v, clock⟩]) q = if q = p then some v else getE L q := by
  unfold getE
  rw [List.find?_append]
  by_cases e : q = p
  · subst e
    rw [if_pos rfl, List.find?_eq_none.2 (fun x hx => by simpa using hn x hx)]
    simp
  · rw [if_neg e]
    have : ([⟨p, v, clock⟩] : List Pe).find? (fun x => decide (x.p = q)) = none := by simp [Ne.symm e]
    rw [this]
    simp
/-- what a write makes of the map -/
structure Put (L : List Pe) (p : Pt) (v : Value) (L' : List Pe) : Prop where
  get : ∀ q, getE L' q = if q = p then some v else getE L q
  len : L'.length ≤ L.length + 1
/-- written -/
theorem TM.put (h : TM w b L clock) {p : Pt} (hp : P64 p) {T te : TypeId} (ht : Try.prog.underlying T = some (.map 27 te)) (v : Value) :
    ∃ w' L' c', (Instr.mapUpdate T (.map (some b)) (ptV p) v).run Try.prog w = .ok () w' ∧ TM w' b L' c' ∧ Put L p v L' ∧ w.grownBy w' (some b) ∧ w'.heap.size = w.heap.size := by
  have hc := check_pt (w := w) hp false
  rcases find_pt (w := w) hp L h.k6 with ⟨h1, h2⟩ | ⟨j, x, h1, rfl, h2⟩
  · obtain ⟨gr, sz⟩ := grown_setT h.bk (.map ((L.map entT).toArray.push ⟨ptV p, v, clock⟩) (clock + 1))
    refine ⟨_, _, _, ?_, h.add hp h1 v, ⟨add_get h h1 v, by simp⟩, gr, sz⟩
    unfold Instr.mapUpdate
    have h3 := run_setT h.bk (.map ((L.map entT).toArray.push ⟨ptV p, v, clock⟩) (clock + 1))
    simp only [Sem.run_bind, run_underlying ht, Result.andThen, getObj, Sem.run, h.bk, hc, h2]
    exact h3
  · obtain ⟨gr, sz⟩ := grown_setT h.bk (.map ((L.set j { x with v := v }).map entT).toArray clock)
    refine ⟨_, _, _, ?_, h.setAt h1 v, ⟨set_get h1 h.np v, by simp⟩, gr, sz⟩
    unfold Instr.mapUpdate
    have h3 := run_setT h.bk (.map ((L.set j { x with v := v }).map entT).toArray clock)
    have h4 := stays_pt (w := w) hp
    have h5 : (((L.map entT).toArray[j]?).map (·.key)).getD (ptV x.p) = ptV x.p := by simp [h1, entT]
    simp only [Sem.run_bind, run_underlying ht, Result.andThen, getObj, Sem.run, h.bk, hc, h2, h5, h4]
    rw [mod_set h1 v _ (by simp [entT])]
    exact h3
/-- struck -/
theorem TM.del (h : TM w b L clock) {p : Pt} (hp : P64 p) {T te : TypeId} (ht : Try.prog.underlying T = some (.map 27 te)) (ty : TypeId) :
    ∃ w', (Builtin.delete_ #[T, 27] ty #[.map (some b), ptV p]).run Try.prog w = .ok (.tuple #[]) w' ∧ TM w' b (L.filter fun x => !decide (x.p = p)) clock ∧ w.grownBy w' (some b) ∧ w'.heap.size = w.heap.size := by
  have keep : ∀ {L' : List Pe}, L'.Sublist L → ∀ o : Obj, o = .map (L'.map entT).toArray clock → TM (setBlock w b o) b L' clock := fun {L'} hs o ho =>
    ⟨by rw [Go.ChangeMaps.heap_setBlock_same h.bk, ho], fun x hx => h.st x (hs.subset hx), (hs.map _).nodup h.nb, (hs.map _).nodup h.np, fun x hx => h.k6 x (hs.subset hx)⟩
  have hc := check_pt (w := w) hp (L.map entT).toArray.isEmpty
  rcases find_pt (w := w) hp L h.k6 with ⟨hn, hf⟩ | ⟨j, x, hx, hxg, hf⟩
  · have he : (L.filter fun x => !decide (x.p = p)) = L := List.filter_eq_self.2 fun x hx => by simpa using hn x hx
    refine ⟨setBlock w b (.map (L.map entT).toArray clock), ?_, by rw [he]; exact keep (List.Sublist.refl _) _ rfl, (grown_setT h.bk _).1, (grown_setT h.bk _).2⟩
    unfold Builtin.delete_
    have h2 := run_setT h.bk (.map (L.map entT).toArray clock)
    simp only [Sem.run_bind, Sem.run_pure, run_underlying ht, Result.andThen, getObj, Sem.run, h.bk, hc, hf, h2, List.getElem?_toArray, List.getElem?_cons_zero, List.getElem?_cons_succ]
  · have hjl := (List.getElem?_eq_some_iff.1 hx).1
    have he : (L.filter fun x => !decide (x.p = p)) = L.eraseIdx j := by
      have hng := h.np
      rw [List.getElem?_eq_getElem hjl] at hx
      have hx := Option.some.inj hx
      have e1 : L = L.take j ++ x :: L.drop (j + 1) := by
        rw [← hx, ← List.drop_eq_getElem_cons hjl, List.take_append_drop]
      have hp : ∀ y ∈ L.take j ++ L.drop (j + 1), y.p ≠ p := fun y hy e => by
        rw [e1, List.map_append, List.map_cons] at hng
        have h3 := List.nodup_append.1 hng
        rcases List.mem_append.1 hy with hy | hy
        · exact h3.2.2 y.p (List.mem_map.2 ⟨y, hy, rfl⟩) x.p (List.mem_cons_self ..) (e.trans hxg.symm)
        · exact (List.nodup_cons.1 h3.2.1).1 (by rw [hxg, ← e]; exact List.mem_map.2 ⟨y, hy, rfl⟩)
      rw [List.eraseIdx_eq_take_drop_succ]
      have e2 : (L.filter fun x => !decide (x.p = p)) = ((L.take j ++ x :: L.drop (j + 1)).filter fun x => !decide (x.p = p)) := by rw [← e1]
      rw [e2, List.filter_append, List.filter_cons_of_neg (by simp [hxg]), ← List.filter_append]
      exact List.filter_eq_self.2 fun y hy => by simpa using hp y hy
    have ho : Obj.map ((L.map entT).toArray.eraseIdxIfInBounds j) clock = .map ((L.eraseIdx j).map entT).toArray clock := by
      refine congrArg (fun x => Obj.map x clock) (Array.ext' ?_)
      simp [Array.eraseIdxIfInBounds, hjl, Go.ChangeMaps.map_eraseIdx]
    refine ⟨setBlock w b (.map ((L.map entT).toArray.eraseIdxIfInBounds j) clock), ?_, by rw [he]; exact keep (List.eraseIdx_sublist ..) _ ho, (grown_setT h.bk _).1, (grown_setT h.bk _).2⟩
    unfold Builtin.delete_
    have h2 := run_setT h.bk (.map ((L.map entT).toArray.eraseIdxIfInBounds j) clock)
    simp only [Sem.run_bind, Sem.run_pure, run_underlying ht, Result.andThen, getObj, Sem.run, h.bk, hc, hf, h2, List.getElem?_toArray, List.getElem?_cons_zero, List.getElem?_cons_succ]
theorem del_get {L : List Pe} (p q : Pt) : getE (L.filter fun x => !decide (x.p = p)) q = if q = p then none else getE L q := by
  unfold getE
  rw [List.find?_filter]
  by_cases e : q = p
  · subst e
    rw [if_pos rfl, List.find?_eq_none.2 (fun x _ => by simp)]
    rfl
  · rw [if_neg e]
    congr 2
    funext x
    by_cases e2 : x.p = q
    · simp [e2, e]
    · simp [e2]
/-- an entry is taken, to be changed -/
theorem TM.entry (h : TM w b L clock) {p : Pt} (hp : P64 p) {T te : TypeId} (ht : Try.prog.underlying T = some (.map 27 te)) {z : Value} (hz : (zeroValue te).run Try.prog w = .ok z w) :
    ∃ w' L' c' β, (Instr.mapEntry T (.map (some b)) (ptV p)).run Try.prog w = .ok (.tuple #[(getE L p).getD z, .int .i64 (β : Nat)]) w' ∧ TM w' b L' c' ∧ (∃ x ∈ L', x.p = p ∧ x.born = β) ∧ Put L p ((getE L p).getD z) L' ∧ w.grownBy w' (some b) ∧ w'.heap.size = w.heap.size := by
  have hc := check_pt (w := w) hp false
  rcases find_pt (w := w) hp L h.k6 with ⟨h1, h2⟩ | ⟨j, x, h1, rfl, h2⟩
  · obtain ⟨gr, sz⟩ := grown_setT h.bk (.map ((L.map entT).toArray.push ⟨ptV p, z, clock⟩) (clock + 1))
    rw [getE_none h1]
    refine ⟨_, _, _, clock, ?_, h.add hp h1 z, ⟨⟨p, z, clock⟩, List.mem_append_right _ (List.mem_singleton_self _), rfl, rfl⟩, ⟨add_get h h1 z, by simp⟩, gr, sz⟩
    unfold Instr.mapEntry
    have h3 := run_setT h.bk (.map ((L.map entT).toArray.push ⟨ptV p, z, clock⟩) (clock + 1))
    simp only [Sem.run_bind, Sem.run_pure, run_underlying ht, Result.andThen, getObj, Sem.run, h.bk, hc, h2, hz]
    rw [show (setObj b (Obj.map ((L.map entT).toArray.push ⟨ptV p, z, clock⟩) (clock + 1))).run Try.prog w = _ from h3]
    rfl
  · obtain ⟨gr, sz⟩ := grown_setT h.bk (.map ((L.set j { x with v := x.v }).map entT).toArray clock)
    have hv : getE L x.p = some x.v := getE_some h.np (List.mem_of_getElem? h1)
    rw [hv]
    refine ⟨_, _, _, x.born, ?_, h.setAt h1 x.v, ⟨x, ?_, rfl, rfl⟩, ⟨set_get h1 h.np x.v, by simp⟩, gr, sz⟩
    · unfold Instr.mapEntry
      have h3 := run_setT h.bk (.map ((L.set j { x with v := x.v }).map entT).toArray clock)
      have h4 := stays_pt (w := w) hp
      have h5 : (((L.map entT).toArray[j]?).map (·.key)).getD (ptV x.p) = ptV x.p := by simp [h1, entT]
      have h6 : (((L.map entT).toArray[j]?).map (fun y => ((y.born : Nat) : Int))).getD 0 = ((x.born : Nat) : Int) := by simp [h1, entT]
      have h7 : ((L.map entT).toArray.modify j fun e => { e with key := ptV x.p }) = ((L.set j { x with v := x.v }).map entT).toArray := mod_set h1 x.v _ (by simp [entT])
      simp only [Sem.run_bind, Sem.run_pure, run_underlying ht, Result.andThen, getObj, Sem.run, h.bk, hc, h2, h5, h4, h7, h6]
      rw [show (setObj b (Obj.map ((L.set j x).map entT).toArray clock)).run Try.prog w = _ from h3]
      rfl
    · have hj := (List.getElem?_eq_some_iff.1 h1).1
      exact List.mem_of_getElem? (i := j) (by rw [List.getElem?_set_self hj])
theorem born_idx {L : List Pe} {x : Pe} (h : (L.map Pe.born).Nodup) (hx : x ∈ L) : ∃ j, L[j]? = some x ∧ (L.map entT).toArray.findIdx? (fun e => ((e.born : Nat) : Int) == ((x.born : Nat) : Int)) = some j := by
  obtain ⟨j, hj⟩ := List.getElem?_of_mem hx
  refine ⟨j, hj, ?_⟩
  rw [List.findIdx?_toArray, List.findIdx?_eq_some_iff_getElem]
  obtain ⟨hl, hx2⟩ := List.getElem?_eq_some_iff.1 hj
  refine ⟨by simpa using hl, by simp [entT, hx2], fun i hi => ?_⟩
  have hil : i < L.length := Nat.lt_trans hi hl
  simp only [List.getElem_map, entT, beq_iff_eq]
  intro e
  have e : L[i].born = x.born := by omega
  rw [← hx2] at e
  have := List.pairwise_iff_getElem.1 (List.nodup_iff_pairwise_ne.1 h) i j (by simpa using hil) (by simpa using hl) hi
  simp only [List.getElem_map] at this
  exact this e
/-- the entry that was taken is written -/
theorem TM.store (h : TM w b L clock) {x : Pe} (hx : x ∈ L) (T : TypeId) (v : Value) :
    ∃ w' L', (Instr.entryStore T (.map (some b)) (.int .i64 (x.born : Nat)) v).run Try.prog w = .ok () w' ∧ TM w' b L' clock ∧ Put L x.p v L' ∧ w.grownBy w' (some b) ∧ w'.heap.size = w.heap.size := by
  obtain ⟨j, hj, hi⟩ := born_idx h.nb hx
  obtain ⟨gr, sz⟩ := grown_setT h.bk (.map ((L.set j { x with v := v }).map entT).toArray clock)
  refine ⟨_, _, ?_, h.setAt hj v, ⟨set_get hj h.np v, by simp⟩, gr, sz⟩
  unfold Instr.entryStore
  have h3 := run_setT h.bk (.map ((L.set j { x with v := v }).map entT).toArray clock)
  have h7 : ((L.map entT).toArray.modify j fun e => { e with val := v }) = ((L.set j { x with v := v }).map entT).toArray := mod_set hj v _ (by simp [entT])
  simp only [Sem.run_bind, Sem.run_pure, Result.andThen, getObj, asInt, asIntOf, Sem.run, h.bk, hi, h7]
  exact h3
/-- a loop over the map under way: which entries have been -/
structure TR (w : World) (b r : Nat) (L : List Pe) (clock : Nat) (seen : Array Nat) : Prop where
  m : TM w b L clock
  it : w.heap[r]? = some (.mapIter (some b) clock seen clock)
  ne : r ≠ b
end
section
variable {w : World} {b r clock : Nat} {L : List Pe} {seen : Array Nat}
theorem TR.upd {S : Nat → Prop} {w' : World} (h : TR w b r L clock seen) (u : Upd S w w') (hb : ¬ S b) (hr : ¬ S r) : TR w' b r L clock seen := ⟨h.m.upd u hb, (u.block r (Array.getElem?_eq_some_iff.1 h.it).1 hr).trans h.it, h.ne⟩
theorem TR.ext {w' : World} (h : TR w b r L clock seen) (x : Ext w w') : TR w' b r L clock seen := ⟨h.m.ext x, x.heap h.it, h.ne⟩
theorem TR.lt (h : TR w b r L clock seen) : r < w.heap.size := (Array.getElem?_eq_some_iff.1 h.it).1
theorem TR.not_ty (h : TR w b r L clock seen) (t : TypeId) : ¬ Ty w r t := fun ⟨cur, z, q⟩ => by rw [h.it] at q; cases q
theorem TM.range (h : TM w b L clock) {T te : TypeId} (ht : Try.prog.underlying T = some (.map 27 te)) : (Instr.range T (.map (some b))).run Try.prog w = .ok (.pointer (some ⟨w.heap.size, 0, none⟩)) (w.alloc (.mapIter (some b) clock #[] clock)) ∧ TR (w.alloc (.mapIter (some b) clock #[] clock)) b w.heap.size L clock #[] :=
  ⟨run_range_map w _ _ _ b _ clock ht h.bk, h.ext ((Ext.refl w).alloc _), heap_alloc_new w _, fun e => by have := h.lt; omega⟩
theorem entT_mem {e : MapEntry} (h : e ∈ (L.map entT).toArray.toList) : ∃ x ∈ L, e = entT x := by
  simp at h
  obtain ⟨x, hx, q⟩ := h
  exact ⟨x, hx, q.symm⟩
theorem TR.next (h : TR w b r L clock seen) (ty : TypeId) :
    ((∀ x ∈ L, seen.contains x.born = true) ∧ (Instr.next (.pointer (some ⟨r, 0, none⟩)) false ty).run Try.prog w = .ok (.tuple #[.bool false]) w) ∨
    ∃ x ∈ L, seen.contains x.born = false ∧ ∃ w', (Instr.next (.pointer (some ⟨r, 0, none⟩)) false ty).run Try.prog w = .ok (.tuple #[.bool true, ptV x.p, x.v]) w' ∧ TR w' b r L clock (seen.push x.born) ∧
      w.grownBy w' (some r) ∧ w'.heap.size = w.heap.size ∧ (Instr.entry (.pointer (some ⟨r, 0, none⟩))).run Try.prog w' = .ok (.tuple #[ptV x.p, x.v]) w' ∧ (leftOf (L.map entT).toArray (seen.push x.born)).size < (leftOf (L.map entT).toArray seen).size := by
  rcases run_next_at (P := Try.prog) w ty r b clock clock seen _ clock h.it h.m.bk (fun e he => by obtain ⟨x, hx, rfl⟩ := entT_mem he; exact h.m.st x hx) (Nat.le_refl _) with ⟨h0, hrun⟩ | ⟨e, he, w1, hal, hrun⟩
  · refine .inl ⟨fun x hx => ?_, hrun⟩
    exact all_seen _ seen h0 (entT x) (by simp; exact ⟨x, hx, rfl⟩)
  · obtain ⟨hem, hes⟩ := mem_left he
    obtain ⟨x, hx, rfl⟩ := entT_mem hem
    have hr1 : w1.heap[r]? = some (.mapIter (some b) clock seen clock) := by rcases hal with rfl | rfl <;> exact h.it
    have hb1 : w1.heap[b]? = some (.map (L.map entT).toArray clock) := by rcases hal with rfl | rfl <;> exact h.m.bk
    have hset := Go.MapKept.heap_set (o' := .mapIter (some b) clock (seen.push (entT x).born) clock) hr1
    have hb' : (setBlock w1 r (.mapIter (some b) clock (seen.push (entT x).born) clock)).heap[b]? = some (.map (L.map entT).toArray clock) := (hset.2 b (fun e1 => h.ne e1.symm)).trans hb1
    refine .inr ⟨x, hx, hes, _, hrun, ⟨⟨hb', h.m.st, h.m.nb, h.m.np, h.m.k6⟩, hset.1, h.ne⟩, ?_, ?_, run_entry_at _ r b clock seen _ clock (entT x) hset.1 hb' hem (by simpa [Function.comp_def, entT] using h.m.nb), left_shrinks _ seen (entT x) he⟩
    · rcases hal with rfl | rfl <;> exact ⟨rfl, rfl, rfl, by simp [setBlock], fun i _ hi => hset.2 i (fun e1 => hi (by rw [e1]))⟩
    · rcases hal with rfl | rfl <;> simp [setBlock]
end
/-! ### at the operations -/
section
variable {w : World} {b r clock : Nat} {L : List Pe} {seen : Array Nat} {ops : Array Oper} {rest : List Oper} {o : Oper} {a : Act} {Q : Exit → Act → World → Prop} {T te : TypeId}
theorem wpList_put_tm (hg : o.guard = none) (ht : Try.prog.underlying T = some (.map 27 te)) (m x y : Operand) (hop : o.op = Op.mapUpdate T m x y) (hm : a.eval m = .map (some b)) (p : Pt) (hx : a.eval x = ptV p) (v : Value) (hv : a.eval y = v)
    (h : TM w b L clock) (hp : P64 p)
    (hK : ∀ w' L' c', TM w' b L' c' → Put L p v L' → w.grownBy w' (some b) → w'.heap.size = w.heap.size → wpList Try.prog ops Q rest (a.put o.dst undef) w') : wpList Try.prog ops Q (o :: rest) a w := by
  refine wpList_plain hg fun K' hK' => ?_
  obtain ⟨w', L', c', hrun, r1, r2, r3, r4⟩ := h.put hp ht v
  unfold Oper.wp
  simp [execOp, hop, hm, hx, hv, hrun, Result.andThen]
  exact hK' _ _ (hK w' L' c' r1 r2 r3 r4)
theorem wpList_entry_tm (hg : o.guard = none) (ht : Try.prog.underlying T = some (.map 27 te)) (m x : Operand) (hop : o.op = Op.mapEntry T m x) (hm : a.eval m = .map (some b)) (p : Pt) (hx : a.eval x = ptV p)
    (h : TM w b L clock) (hp : P64 p) (z : Value) (hz : (zeroValue te).run Try.prog w = .ok z w)
    (hK : ∀ w' L' c' β, TM w' b L' c' → (∃ x ∈ L', x.p = p ∧ x.born = β) → Put L p ((getE L p).getD z) L' → w.grownBy w' (some b) → w'.heap.size = w.heap.size → wpList Try.prog ops Q rest (a.put o.dst (.tuple #[(getE L p).getD z, .int .i64 (β : Nat)])) w') : wpList Try.prog ops Q (o :: rest) a w := by
  refine wpList_plain hg fun K' hK' => ?_
  obtain ⟨w', L', c', β, hrun, r1, r2, r3, r4, r5⟩ := h.entry hp ht hz
  unfold Oper.wp
  simp [execOp, hop, hm, hx, hrun, Result.andThen]
  exact hK' _ _ (hK w' L' c' β r1 r2 r3 r4 r5)
theorem wpList_store_tm (hg : o.guard = none) (m x y : Operand) (hop : o.op = Op.entryStore T m x y) (hm : a.eval m = .map (some b)) (β : Nat) (hx : a.eval x = .int .i64 (β : Nat)) (v : Value) (hv : a.eval y = v)
    (h : TM w b L clock) (p : Pt) (hβ : ∃ x ∈ L, x.p = p ∧ x.born = β)
    (hK : ∀ w' L', TM w' b L' clock → Put L p v L' → w.grownBy w' (some b) → w'.heap.size = w.heap.size → wpList Try.prog ops Q rest (a.put o.dst undef) w') : wpList Try.prog ops Q (o :: rest) a w := by
  refine wpList_plain hg fun K' hK' => ?_
  obtain ⟨x, hxm, rfl, rfl⟩ := hβ
  obtain ⟨w', L', hrun, r1, r2, r3, r4⟩ := h.store hxm T v
  unfold Oper.wp
  simp [execOp, hop, hm, hx, hv, hrun, Result.andThen]
  exact hK' _ _ (hK w' L' r1 r2 r3 r4)
theorem wpList_del_tm (hg : o.guard = none) (ht : Try.prog.underlying T = some (.map 27 te)) (m x : Operand) (hop : o.op = Op.call { callee := Callee.builtin Builtin.delete, args := #[m, x], argTypes := #[T, 27] }) (hm : a.eval m = .map (some b)) (p : Pt) (hx : a.eval x = ptV p)
    (h : TM w b L clock) (hp : P64 p)
    (hK : ∀ w', TM w' b (L.filter fun x => !decide (x.p = p)) clock → w.grownBy w' (some b) → w'.heap.size = w.heap.size → wpList Try.prog ops Q rest (a.put o.dst (.tuple #[])) w') : wpList Try.prog ops Q (o :: rest) a w := by
  refine wpList_plain hg fun K' hK' => ?_
  obtain ⟨w', hrun, r1, r2, r3⟩ := h.del hp ht o.type
  unfold Oper.wp
  simp [execOp, hop, resolve, invoke, builtin, hm, hx, hrun, Result.andThen]
  exact hK' _ _ (hK w' r1 r2 r3)
theorem wpList_range_tm (hg : o.guard = none) (ht : Try.prog.underlying T = some (.map 27 te)) (m : Operand) (hop : o.op = Op.range T m) (hm : a.eval m = .map (some b)) (h : TM w b L clock)
    (hK : ∀ w', TR w' b w.heap.size L clock #[] → Ext w w' → w'.heap.size = w.heap.size + 1 → wpList Try.prog ops Q rest (a.put o.dst (.pointer (some ⟨w.heap.size, 0, none⟩))) w') : wpList Try.prog ops Q (o :: rest) a w := by
  refine wpList_plain hg fun K' hK' => ?_
  obtain ⟨hrun, r1⟩ := h.range ht
  unfold Oper.wp
  simp [execOp, hop, hm, hrun, Result.andThen]
  exact hK' _ _ (hK _ r1 ((Ext.refl w).alloc _) (by simp))
theorem wpList_next_tm (hg : o.guard = none) (it : Operand) (hop : o.op = Op.next it false) (hit : a.eval it = .pointer (some ⟨r, 0, none⟩)) (h : TR w b r L clock seen)
    (hDone : (∀ x ∈ L, seen.contains x.born = true) → wpList Try.prog ops Q rest (a.put o.dst (.tuple #[.bool false])) w)
    (hMore : ∀ (x : Pe) (w' : World), x ∈ L → seen.contains x.born = false → TR w' b r L clock (seen.push x.born) → w.grownBy w' (some r) → w'.heap.size = w.heap.size → (Instr.entry (.pointer (some ⟨r, 0, none⟩))).run Try.prog w' = .ok (.tuple #[ptV x.p, x.v]) w' →
      (leftOf (L.map entT).toArray (seen.push x.born)).size < (leftOf (L.map entT).toArray seen).size → wpList Try.prog ops Q rest (a.put o.dst (.tuple #[.bool true, ptV x.p, x.v])) w') : wpList Try.prog ops Q (o :: rest) a w := by
  refine wpList_plain hg fun K' hK' => ?_
  unfold Oper.wp
  rcases h.next o.type with ⟨h0, hrun⟩ | ⟨x, hx, hs, w', hrun, h1, h2, h3, h4, h5⟩
  · simp [execOp, hop, hit, hrun, Result.andThen]
    exact hK' _ _ (hDone h0)
  · simp [execOp, hop, hit, hrun, Result.andThen]
    exact hK' _ _ (hMore x w' hx hs h1 h2 h3 h4 h5)
end
end Go.Proofs.Yteklohamkmiphaa
namespace Go.Proofs.Yteklohamkmiphaa
open Go.RowKit

theorem eany_at {α : Type} {z : α} {L : List α} {p : α → Bool} {k : Nat} (h : k < L.length) (hp : p (L.getD k z) = true) : L.any p = true := List.any_eq_true.2 ⟨_, getD_mem' z h, hp⟩
theorem eany_none {α : Type} {z : α} {L : List α} {p : α → Bool} (h : ∀ j, j < L.length → p (L.getD j z) = false) : L.any p = false := by
  rw [List.any_eq_false]
  intro x hx
  obtain ⟨j, hj, rfl⟩ := List.getElem_of_mem hx
  have := h j hj
  rw [List.getD_eq_getElem?_getD, List.getElem?_eq_getElem hj] at this
  simpa using this

/-- what is asked of the predicate -/
def Pred_im (g : Nat) (v0 v1 : Value) (p : Im → Bool) (L : List (Im)) (w : World) : Prop := ∀ (W : World) (x : Im), x ∈ L → Ext w W → Calls Try.prog g #[imV x, v0, v1] W fun e w' => e = .returned (.bool (p x)) ∧ Ext W w'
def Idx_im (p : Im → Bool) (L : List (Im)) (w : World) (e : Ending) (w' : World) : Prop := ∃ r : Int, e = .returned (.int .i64 r) ∧ decide (0 ≤ r) = L.any p ∧ Ext w w'
set_option maxRecDepth 100000 in
set_option maxHeartbeats 2000000 in
theorem index_im (p : Im → Bool) (g : Nat) (v0 v1 : Value) (eg : ∀ args w, (callFunc g args).run Try.prog w = .ok (.enter g args) w) (AL : Option Addr) (cL m : Nat) (L : List (Im)) (w : World) (hm : Hid (m = L.length)) (hL : Hid (Sl w 5 AL L.length cL (L.flatMap imC))) (hp : Hid (Pred_im g v0 v1 p L w)) :
    Calls Try.prog 66 #[.slice AL m cL, .func (.func g) #[] #[v0, v1]] w (Idx_im p L w) := by
  have hbig : m ≤ 9223372036854775807 := by rw [hm.out]; exact hL.out.le
  go_enter Try.func66, Try.ntmps66
  go_wp2
  go_loopg [5, 8] m (fun gg _ s8 wr => ∃ kk : Nat, kk ≤ m ∧ m - kk ≤ gg ∧ s8 = .int .i64 kk ∧ Hid (Ext w wr) ∧ Hid (∀ j, j < kk → p (L.getD j Im.zero) = false))
  case atStart => exact ⟨0, Nat.zero_le _, by omega, rfl, Lib.hid (Ext.refl w), Lib.hid (fun j hj => absurd hj (Nat.not_lt_zero _))⟩
  case round =>
    obtain ⟨kk, hkk, hg, rfl, BW, AF⟩ := hrel
    by_cases hlt : kk < m
    · have hltz : (kk : Int) < (m : Int) := by omega
      obtain ⟨ad, rfl, h0, h1⟩ := els_at imC 5 imC_len Im.zero (hL.out.ext BW.out) rfl (i := kk) (by rw [← hm.out]; exact hlt) (by omega)
      have q0 := h0 _ rfl
      have q1 := h1 0 _ rfl
      have q2 := h1 1 _ rfl
      have q3 := h1 2 _ rfl
      have q4 := h1 3 _ rfl
      clear h0 h1
      have hcall := hp.out wr (L.getD kk Im.zero) (getD_mem' Im.zero (by rw [← hm.out]; exact hlt)) BW.out
      obtain ⟨x, hx⟩ : ∃ x, L.getD kk Im.zero = x := ⟨_, rfl⟩
      rw [hx] at q0 q1 q2 q3 q4 hcall
      have HX := Lib.hid hx
      clear hx
      unfold imV at hcall
      cases hq : p x with
      | true =>
        rw [hq] at hcall
        have HQ := Lib.hid hq
        clear hq
        go_wp2_with (go_at_fn g; refine hcall.mono ?_; rintro e w' ⟨rfl, hb'⟩)
        go_ret
        exact ⟨_, rfl, by rw [eany_at (z := Im.zero) (by rw [← hm.out]; exact hlt) (by rw [HX.out]; exact HQ.out)]; simp, BW.out.trans hb'⟩
      | false =>
        rw [hq] at hcall
        have HQ := Lib.hid hq
        clear hq
        go_wp2_with (go_at_fn g; refine hcall.mono ?_; rintro e w' ⟨rfl, hb'⟩)
        go_roundg (m - (kk + 1))
        case measure => omega
        case rel =>
          refine ⟨kk + 1, by omega, by omega, by go_num, Lib.hid (BW.out.trans hb'), Lib.hid (fun j hj => ?_)⟩
          by_cases hjk : j < kk
          · exact AF.out j hjk
          · obtain rfl : j = kk := by omega
            rw [HX.out]; exact HQ.out
    · obtain rfl : kk = m := by omega
      go_wp2
      go_ret
      exact ⟨_, rfl, by rw [eany_none (z := Im.zero) (fun j hj => AF.out j (by rw [hm.out]; exact hj))]; rfl, BW.out⟩
set_option maxRecDepth 100000 in
set_option maxHeartbeats 600000 in
theorem contains_im (p : Im → Bool) (g : Nat) (v0 v1 : Value) (eg : ∀ args w, (callFunc g args).run Try.prog w = .ok (.enter g args) w) (AL : Option Addr) (cL m : Nat) (L : List (Im)) (w : World) (hm : Hid (m = L.length)) (hL : Hid (Sl w 5 AL L.length cL (L.flatMap imC))) (hp : Hid (Pred_im g v0 v1 p L w)) :
    Calls Try.prog 41 #[.slice AL m cL, .func (.func g) #[] #[v0, v1]] w fun e w' => e = .returned (.bool (L.any p)) ∧ Ext w w' := by
  go_enter Try.func41, Try.ntmps41
  go_wp2_with (go_at_call 66; refine (index_im p g v0 v1 eg AL cL m L _ hm hL hp).mono ?_; rintro e w1 ⟨r, rfl, hr, x1⟩; have HR := Lib.hid hr; clear hr)
  go_ret
  exact ⟨by rw [← HR.out]; rfl, x1⟩

/-- what is asked of the predicate -/
def Pred_nm (g : Nat) (p : Nm → Bool) (L : List (Nm)) (w : World) : Prop := ∀ (W : World) (x : Nm), x ∈ L → Ext w W → Calls Try.prog g #[nmV x] W fun e w' => e = .returned (.bool (p x)) ∧ Ext W w'
def Idx_nm (p : Nm → Bool) (L : List (Nm)) (w : World) (e : Ending) (w' : World) : Prop := ∃ r : Int, e = .returned (.int .i64 r) ∧ decide (0 ≤ r) = L.any p ∧ Ext w w'
set_option maxRecDepth 100000 in
set_option maxHeartbeats 2000000 in
theorem index_nm (p : Nm → Bool) (g : Nat) (eg : ∀ args w, (callFunc g args).run Try.prog w = .ok (.enter g args) w) (AL : Option Addr) (cL m : Nat) (L : List (Nm)) (w : World) (hm : Hid (m = L.length)) (hL : Hid (Sl w 4 AL L.length cL (L.flatMap nmC))) (hp : Hid (Pred_nm g  p L w)) :
    Calls Try.prog 39 #[.slice AL m cL, .func (.func g) #[] #[]] w (Idx_nm p L w) := by
  have hbig : m ≤ 9223372036854775807 := by rw [hm.out]; exact hL.out.le
  go_enter Try.func39, Try.ntmps39
  go_wp2
  go_loopg [5, 8] m (fun gg _ s8 wr => ∃ kk : Nat, kk ≤ m ∧ m - kk ≤ gg ∧ s8 = .int .i64 kk ∧ Hid (Ext w wr) ∧ Hid (∀ j, j < kk → p (L.getD j Nm.zero) = false))
  case atStart => exact ⟨0, Nat.zero_le _, by omega, rfl, Lib.hid (Ext.refl w), Lib.hid (fun j hj => absurd hj (Nat.not_lt_zero _))⟩
  case round =>
    obtain ⟨kk, hkk, hg, rfl, BW, AF⟩ := hrel
    by_cases hlt : kk < m
    · have hltz : (kk : Int) < (m : Int) := by omega
      obtain ⟨ad, rfl, h0, h1⟩ := els_at nmC 4 nmC_len Nm.zero (hL.out.ext BW.out) rfl (i := kk) (by rw [← hm.out]; exact hlt) (by omega)
      have q0 := h0 _ rfl
      have q1 := h1 0 _ rfl
      have q2 := h1 1 _ rfl
      have q3 := h1 2 _ rfl
      clear h0 h1
      have hcall := hp.out wr (L.getD kk Nm.zero) (getD_mem' Nm.zero (by rw [← hm.out]; exact hlt)) BW.out
      obtain ⟨x, hx⟩ : ∃ x, L.getD kk Nm.zero = x := ⟨_, rfl⟩
      rw [hx] at q0 q1 q2 q3 hcall
      have HX := Lib.hid hx
      clear hx
      unfold nmV at hcall
      cases hq : p x with
      | true =>
        rw [hq] at hcall
        have HQ := Lib.hid hq
        clear hq
        go_wp2_with (go_at_fn g; refine hcall.mono ?_; rintro e w' ⟨rfl, hb'⟩)
        go_ret
        exact ⟨_, rfl, by rw [eany_at (z := Nm.zero) (by rw [← hm.out]; exact hlt) (by rw [HX.out]; exact HQ.out)]; simp, BW.out.trans hb'⟩
      | false =>
        rw [hq] at hcall
        have HQ := Lib.hid hq
        clear hq
        go_wp2_with (go_at_fn g; refine hcall.mono ?_; rintro e w' ⟨rfl, hb'⟩)
        go_roundg (m - (kk + 1))
        case measure => omega
        case rel =>
          refine ⟨kk + 1, by omega, by omega, by go_num, Lib.hid (BW.out.trans hb'), Lib.hid (fun j hj => ?_)⟩
          by_cases hjk : j < kk
          · exact AF.out j hjk
          · obtain rfl : j = kk := by omega
            rw [HX.out]; exact HQ.out
    · obtain rfl : kk = m := by omega
      go_wp2
      go_ret
      exact ⟨_, rfl, by rw [eany_none (z := Nm.zero) (fun j hj => AF.out j (by rw [hm.out]; exact hj))]; rfl, BW.out⟩
set_option maxRecDepth 100000 in
set_option maxHeartbeats 600000 in
theorem contains_nm (p : Nm → Bool) (g : Nat) (eg : ∀ args w, (callFunc g args).run Try.prog w = .ok (.enter g args) w) (AL : Option Addr) (cL m : Nat) (L : List (Nm)) (w : World) (hm : Hid (m = L.length)) (hL : Hid (Sl w 4 AL L.length cL (L.flatMap nmC))) (hp : Hid (Pred_nm g  p L w)) :
    Calls Try.prog 18 #[.slice AL m cL, .func (.func g) #[] #[]] w fun e w' => e = .returned (.bool (L.any p)) ∧ Ext w w' := by
  go_enter Try.func18, Try.ntmps18
  go_wp2_with (go_at_call 39; refine (index_nm p g  eg AL cL m L _ hm hL hp).mono ?_; rintro e w1 ⟨r, rfl, hr, x1⟩; have HR := Lib.hid hr; clear hr)
  go_ret
  exact ⟨by rw [← HR.out]; rfl, x1⟩

/-- what is asked of the predicate -/
def Pred_ed (g : Nat) (v0 : Value) (p : Pt × Pt → Bool) (L : List (Pt × Pt)) (w : World) : Prop := ∀ (W : World) (x : Pt × Pt), x ∈ L → Ext w W → Calls Try.prog g #[edV x, v0] W fun e w' => e = .returned (.bool (p x)) ∧ Ext W w'
def Idx_ed (p : Pt × Pt → Bool) (L : List (Pt × Pt)) (w : World) (e : Ending) (w' : World) : Prop := ∃ r : Int, e = .returned (.int .i64 r) ∧ decide (0 ≤ r) = L.any p ∧ Ext w w'
set_option maxRecDepth 100000 in
set_option maxHeartbeats 2000000 in
theorem index_ed (p : Pt × Pt → Bool) (g : Nat) (v0 : Value) (eg : ∀ args w, (callFunc g args).run Try.prog w = .ok (.enter g args) w) (AL : Option Addr) (cL m : Nat) (L : List (Pt × Pt)) (w : World) (hm : Hid (m = L.length)) (hL : Hid (Sl w 6 AL L.length cL (L.flatMap edC))) (hp : Hid (Pred_ed g v0 p L w)) :
    Calls Try.prog 45 #[.slice AL m cL, .func (.func g) #[] #[v0]] w (Idx_ed p L w) := by
  have hbig : m ≤ 9223372036854775807 := by rw [hm.out]; exact hL.out.le
  go_enter Try.func45, Try.ntmps45
  go_wp2
  go_loopg [5, 8] m (fun gg _ s8 wr => ∃ kk : Nat, kk ≤ m ∧ m - kk ≤ gg ∧ s8 = .int .i64 kk ∧ Hid (Ext w wr) ∧ Hid (∀ j, j < kk → p (L.getD j edZ) = false))
  case atStart => exact ⟨0, Nat.zero_le _, by omega, rfl, Lib.hid (Ext.refl w), Lib.hid (fun j hj => absurd hj (Nat.not_lt_zero _))⟩
  case round =>
    obtain ⟨kk, hkk, hg, rfl, BW, AF⟩ := hrel
    by_cases hlt : kk < m
    · have hltz : (kk : Int) < (m : Int) := by omega
      obtain ⟨ad, rfl, h0, h1⟩ := els_at edC 6 edC_len edZ (hL.out.ext BW.out) rfl (i := kk) (by rw [← hm.out]; exact hlt) (by omega)
      have q0 := h0 _ rfl
      have q1 := h1 0 _ rfl
      have q2 := h1 1 _ rfl
      have q3 := h1 2 _ rfl
      have q4 := h1 3 _ rfl
      have q5 := h1 4 _ rfl
      clear h0 h1
      have hcall := hp.out wr (L.getD kk edZ) (getD_mem' edZ (by rw [← hm.out]; exact hlt)) BW.out
      obtain ⟨x, hx⟩ : ∃ x, L.getD kk edZ = x := ⟨_, rfl⟩
      rw [hx] at q0 q1 q2 q3 q4 q5 hcall
      have HX := Lib.hid hx
      clear hx
      unfold edV at hcall
      cases hq : p x with
      | true =>
        rw [hq] at hcall
        have HQ := Lib.hid hq
        clear hq
        go_wp2_with (go_at_fn g; refine hcall.mono ?_; rintro e w' ⟨rfl, hb'⟩)
        go_ret
        exact ⟨_, rfl, by rw [eany_at (z := edZ) (by rw [← hm.out]; exact hlt) (by rw [HX.out]; exact HQ.out)]; simp, BW.out.trans hb'⟩
      | false =>
        rw [hq] at hcall
        have HQ := Lib.hid hq
        clear hq
        go_wp2_with (go_at_fn g; refine hcall.mono ?_; rintro e w' ⟨rfl, hb'⟩)
        go_roundg (m - (kk + 1))
        case measure => omega
        case rel =>
          refine ⟨kk + 1, by omega, by omega, by go_num, Lib.hid (BW.out.trans hb'), Lib.hid (fun j hj => ?_)⟩
          by_cases hjk : j < kk
          · exact AF.out j hjk
          · obtain rfl : j = kk := by omega
            rw [HX.out]; exact HQ.out
    · obtain rfl : kk = m := by omega
      go_wp2
      go_ret
      exact ⟨_, rfl, by rw [eany_none (z := edZ) (fun j hj => AF.out j (by rw [hm.out]; exact hj))]; rfl, BW.out⟩
set_option maxRecDepth 100000 in
set_option maxHeartbeats 600000 in
theorem contains_ed (p : Pt × Pt → Bool) (g : Nat) (v0 : Value) (eg : ∀ args w, (callFunc g args).run Try.prog w = .ok (.enter g args) w) (AL : Option Addr) (cL m : Nat) (L : List (Pt × Pt)) (w : World) (hm : Hid (m = L.length)) (hL : Hid (Sl w 6 AL L.length cL (L.flatMap edC))) (hp : Hid (Pred_ed g v0 p L w)) :
    Calls Try.prog 21 #[.slice AL m cL, .func (.func g) #[] #[v0]] w fun e w' => e = .returned (.bool (L.any p)) ∧ Ext w w' := by
  go_enter Try.func21, Try.ntmps21
  go_wp2_with (go_at_call 45; refine (index_ed p g v0 eg AL cL m L _ hm hL hp).mono ?_; rintro e w1 ⟨r, rfl, hr, x1⟩; have HR := Lib.hid hr; clear hr)
  go_ret
  exact ⟨by rw [← HR.out]; rfl, x1⟩

/-- what is asked of the predicate -/
def Pred_pm (g : Nat) (v0 : Value) (p : Pm → Bool) (L : List (Pm)) (w : World) : Prop := ∀ (W : World) (x : Pm), x ∈ L → Ext w W → Calls Try.prog g #[pmV x, v0] W fun e w' => e = .returned (.bool (p x)) ∧ Ext W w'
def Idx_pm (p : Pm → Bool) (L : List (Pm)) (w : World) (e : Ending) (w' : World) : Prop := ∃ r : Int, e = .returned (.int .i64 r) ∧ decide (0 ≤ r) = L.any p ∧ Ext w w'
set_option maxRecDepth 100000 in
set_option maxHeartbeats 2000000 in
theorem index_pm (p : Pm → Bool) (g : Nat) (v0 : Value) (eg : ∀ args w, (callFunc g args).run Try.prog w = .ok (.enter g args) w) (AL : Option Addr) (cL m : Nat) (L : List (Pm)) (w : World) (hm : Hid (m = L.length)) (hL : Hid (Sl w 3 AL L.length cL (L.flatMap pmC))) (hp : Hid (Pred_pm g v0 p L w)) :
    Calls Try.prog 51 #[.slice AL m cL, .func (.func g) #[] #[v0]] w (Idx_pm p L w) := by
  have hbig : m ≤ 9223372036854775807 := by rw [hm.out]; exact hL.out.le
  go_enter Try.func51, Try.ntmps51
  go_wp2
  go_loopg [5, 8] m (fun gg _ s8 wr => ∃ kk : Nat, kk ≤ m ∧ m - kk ≤ gg ∧ s8 = .int .i64 kk ∧ Hid (Ext w wr) ∧ Hid (∀ j, j < kk → p (L.getD j Pm.zero) = false))
  case atStart => exact ⟨0, Nat.zero_le _, by omega, rfl, Lib.hid (Ext.refl w), Lib.hid (fun j hj => absurd hj (Nat.not_lt_zero _))⟩
  case round =>
    obtain ⟨kk, hkk, hg, rfl, BW, AF⟩ := hrel
    by_cases hlt : kk < m
    · have hltz : (kk : Int) < (m : Int) := by omega
      obtain ⟨ad, rfl, h0, h1⟩ := els_at pmC 3 pmC_len Pm.zero (hL.out.ext BW.out) rfl (i := kk) (by rw [← hm.out]; exact hlt) (by omega)
      have q0 := h0 _ rfl
      have q1 := h1 0 _ rfl
      have q2 := h1 1 _ rfl
      clear h0 h1
      have hcall := hp.out wr (L.getD kk Pm.zero) (getD_mem' Pm.zero (by rw [← hm.out]; exact hlt)) BW.out
      obtain ⟨x, hx⟩ : ∃ x, L.getD kk Pm.zero = x := ⟨_, rfl⟩
      rw [hx] at q0 q1 q2 hcall
      have HX := Lib.hid hx
      clear hx
      unfold pmV at hcall
      cases hq : p x with
      | true =>
        rw [hq] at hcall
        have HQ := Lib.hid hq
        clear hq
        go_wp2_with (go_at_fn g; refine hcall.mono ?_; rintro e w' ⟨rfl, hb'⟩)
        go_ret
        exact ⟨_, rfl, by rw [eany_at (z := Pm.zero) (by rw [← hm.out]; exact hlt) (by rw [HX.out]; exact HQ.out)]; simp, BW.out.trans hb'⟩
      | false =>
        rw [hq] at hcall
        have HQ := Lib.hid hq
        clear hq
        go_wp2_with (go_at_fn g; refine hcall.mono ?_; rintro e w' ⟨rfl, hb'⟩)
        go_roundg (m - (kk + 1))
        case measure => omega
        case rel =>
          refine ⟨kk + 1, by omega, by omega, by go_num, Lib.hid (BW.out.trans hb'), Lib.hid (fun j hj => ?_)⟩
          by_cases hjk : j < kk
          · exact AF.out j hjk
          · obtain rfl : j = kk := by omega
            rw [HX.out]; exact HQ.out
    · obtain rfl : kk = m := by omega
      go_wp2
      go_ret
      exact ⟨_, rfl, by rw [eany_none (z := Pm.zero) (fun j hj => AF.out j (by rw [hm.out]; exact hj))]; rfl, BW.out⟩
set_option maxRecDepth 100000 in
set_option maxHeartbeats 600000 in
theorem contains_pm (p : Pm → Bool) (g : Nat) (v0 : Value) (eg : ∀ args w, (callFunc g args).run Try.prog w = .ok (.enter g args) w) (AL : Option Addr) (cL m : Nat) (L : List (Pm)) (w : World) (hm : Hid (m = L.length)) (hL : Hid (Sl w 3 AL L.length cL (L.flatMap pmC))) (hp : Hid (Pred_pm g v0 p L w)) :
    Calls Try.prog 28 #[.slice AL m cL, .func (.func g) #[] #[v0]] w fun e w' => e = .returned (.bool (L.any p)) ∧ Ext w w' := by
  go_enter Try.func28, Try.ntmps28
  go_wp2_with (go_at_call 51; refine (index_pm p g v0 eg AL cL m L _ hm hL hp).mono ?_; rintro e w1 ⟨r, rfl, hr, x1⟩; have HR := Lib.hid hr; clear hr)
  go_ret
  exact ⟨by rw [← HR.out]; rfl, x1⟩
end Go.Proofs.Yteklohamkmiphaa
namespace Go.Proofs.Yteklohamkmiphaa
open Go.RowKit

/-- the slice owns the cells xs; it lies anywhere in its block -/
def OwnQ (w : World) (base : Nat) (e : TypeId) (size : Nat) (A : Option Addr) (n c : Nat) (xs : List Value) : Prop :=
  xs.length = n * size ∧
  ((c = 0 ∧ n = 0) ∨
   ∃ g o cur, A = some ⟨g, o, none⟩ ∧ base ≤ g ∧ w.heap[g]? = some (.cells cur e (0, 0)) ∧ n ≤ c ∧ c ≤ maxLen ∧ o + c * size ≤ cur.size ∧ (cur.toList.drop o).take (n * size) = xs)
section
variable {w w' : World} {base base' : Nat} {e : TypeId} {size : Nat} {A : Option Addr} {n c : Nat} {xs : List Value}
theorem OwnQ.of (h : Own w base e size A n c xs) : OwnQ w base e size A n c xs := by
  refine ⟨h.1, ?_⟩
  rcases h.2 with h2 | ⟨g, cur, h1, h2, h3, h4, h5, h6, h7⟩
  · exact .inl h2
  · exact .inr ⟨g, 0, cur, h1, h2, h3, h4, h5, by omega, by simpa using h7⟩
theorem OwnQ.mono (h : OwnQ w base e size A n c xs) (hb : base' ≤ base) : OwnQ w base' e size A n c xs := by
  refine ⟨h.1, ?_⟩
  rcases h.2 with h2 | ⟨g, o, cur, hv, hg, r⟩
  · exact .inl h2
  · exact .inr ⟨g, o, cur, hv, by omega, r⟩
theorem OwnQ.le (h : OwnQ w base e size A n c xs) : n ≤ c ∧ c ≤ 9223372036854775807 := by
  rcases h.2 with ⟨h1, h2⟩ | ⟨g, o, cur, _, _, _, h1, h2, _⟩
  · omega
  · unfold maxLen at h2; omega
theorem OwnQ.lt (h : OwnQ w base e size A n c xs) : ∀ k, blk A c = some k → base ≤ k ∧ k < w.heap.size := by
  intro k hk
  rcases h.2 with ⟨rfl, _⟩ | ⟨g, o, cur, rfl, hb, hg, _⟩
  · simp [blk_zero] at hk
  · cases c with
    | zero => simp [blk] at hk
    | succ c =>
      simp [blk] at hk
      subst hk
      exact ⟨hb, (Array.getElem?_eq_some_iff.1 hg).1⟩
theorem OwnQ.ext (h : OwnQ w base e size A n c xs) (x : Ext w w') : OwnQ w' base e size A n c xs := by
  refine ⟨h.1, ?_⟩
  rcases h.2 with hn | ⟨g, o, cur, rfl, hb, hgg, rest⟩
  · exact .inl hn
  · exact .inr ⟨g, o, cur, rfl, hb, x.heap hgg, rest⟩
theorem OwnQ.kept {row : Option Nat} (h : OwnQ w base e size A n c xs) (hg : w.grownBy w' row) (hne : blk A c = none ∨ blk A c ≠ row) : OwnQ w' base e size A n c xs := by
  refine ⟨h.1, ?_⟩
  rcases h.2 with hn | ⟨g, o, cur, rfl, hb, hgg, rest⟩
  · exact .inl hn
  · cases c with
    | zero =>
      obtain ⟨h1, _⟩ := rest
      exact .inl ⟨rfl, by omega⟩
    | succ c =>
      refine .inr ⟨g, o, cur, rfl, hb, ?_, rest⟩
      rw [hg.block g (Array.getElem?_eq_some_iff.1 hgg).1 (by simpa [blk] using hne)]
      exact hgg
theorem OwnQ.upd {S : Nat → Prop} (h : OwnQ w base e size A n c xs) (u : Upd S w w') (hn : ∀ k, blk A c = some k → ¬ S k) : OwnQ w' base e size A n c xs := by
  refine ⟨h.1, ?_⟩
  rcases h.2 with h2 | ⟨g, o, cur, rfl, hb, hgg, rest⟩
  · exact .inl h2
  · cases c with
    | zero =>
      obtain ⟨h1, _⟩ := rest
      exact .inl ⟨rfl, by omega⟩
    | succ c =>
      refine .inr ⟨g, o, cur, rfl, hb, ?_, rest⟩
      rw [u.block g (Array.getElem?_eq_some_iff.1 hgg).1 (hn g rfl)]
      exact hgg
theorem addr_at (g o j : Nat) : (⟨g, o, none⟩ : Addr).add j = ⟨g, o + j, none⟩ := by unfold Addr.add; split <;> simp_all
theorem OwnQ.sl (h : OwnQ w base e size A n c xs) : Sl w size A n c xs := by
  obtain ⟨h1, h2⟩ := h
  rcases h2 with ⟨rfl, rfl⟩ | ⟨g, o, cur, rfl, hb, hg, hnc, hcm, hcs, htake⟩
  · have : xs = [] := List.eq_nil_of_length_eq_zero (by simpa using h1)
    subst this
    exact ⟨by simp, Nat.le_refl _, Nat.zero_le _, fun _ => rfl, fun h => absurd h (by omega)⟩
  · refine ⟨h1, hnc, hcm, (fun h => nomatch h), fun _ => ⟨_, rfl, fun j u hu => ?_⟩⟩
    rw [addr_at, cell_of_row w g _ cur e (0, 0) hg]
    rw [← htake, List.getElem?_take] at hu
    split at hu
    · rw [List.getElem?_drop] at hu; simpa using hu
    · cases hu
/-- the head is taken -/
theorem OwnQ.drop {x : List Value} (h : OwnQ w base e size A (n + 1) c (x ++ xs)) (hx : x.length = size) : OwnQ w base e size (if c = 1 then A else A.map (·.add size)) n (c - 1) xs := by
  obtain ⟨h1, h2⟩ := h
  have hl : xs.length = n * size := by rw [List.length_append, hx, Nat.add_mul] at h1; omega
  refine ⟨hl, ?_⟩
  rcases h2 with ⟨_, h2⟩ | ⟨g, o, cur, rfl, hb, hg, hnc, hcm, hcs, htake⟩
  · omega
  · by_cases hc : c = 1
    · exact .inl ⟨by omega, by omega⟩
    · rw [if_neg hc]
      refine .inr ⟨g, o + size, cur, by rw [Option.map_some, addr_at], hb, hg, by omega, by omega, ?_, ?_⟩
      · have : c * size = size + (c - 1) * size := by
          obtain ⟨d, rfl⟩ : ∃ d, c = d + 1 := ⟨c - 1, by omega⟩
          rw [Nat.add_sub_cancel, Nat.add_mul]; omega
        omega
      · have := congrArg (List.drop size) htake
        rw [← hx, List.drop_left, hx] at this
        rw [← this, List.drop_take, List.drop_drop]
        congr 1
        rw [Nat.add_mul]; omega
end

theorem growBy_le (need : Nat) : ∀ (r c : Nat), c < need → Builtin.growBy need r c ≤ need + (need + 768) / 4
  | 0, c, h => by unfold Builtin.growBy; omega
  | r + 1, c, h => by
    unfold Builtin.growBy
    rw [if_neg (by omega)]
    by_cases h2 : c + (c + 768) / 4 < need
    · exact growBy_le need r _ h2
    · have e : ∀ r, Builtin.growBy need r (c + (c + 768) / 4) = c + (c + 768) / 4 := fun r => by
        cases r with
        | zero => rfl
        | succ r => unfold Builtin.growBy; rw [if_pos (by omega)]
      rw [e]; omega
/-- what append asks for where it must grow -/
theorem nextslicecap_le {need cap : Nat} (h : cap < need) : Builtin.nextslicecap need cap ≤ need + (need + 768) / 4 + 512 := by
  unfold Builtin.nextslicecap
  split
  · omega
  · split
    · omega
    · have := growBy_le need 4 cap h; omega

theorem run_append_roomQ {P : Program} (w : World) (t ty e : TypeId) (i : TypeInfo) (ht : P.underlying t = some (.slice e)) (hi : P.info? e = some i)
    (g o sLen sCap : Nat) (cur : Array Value) (hg : w.heap[g]? = some (.cells cur e (0, 0)))
    (a : Addr) (m c : Nat) (news : List Value) (hl : news.length = m * i.size) (hnews : ∀ j u, news[j]? = some u → w.cell? (a.add j) = some u) (h1 : ∀ u ∈ news, u.oneCell' = true)
    (hroom : sLen + m ≤ sCap) (hfit : o + sLen * i.size + news.length ≤ cur.size) :
    (Builtin.append_ #[t, t] ty #[.slice (some ⟨g, o, none⟩) sLen sCap, .slice (some a) m c]).run P w =
      .ok (.slice (some ⟨g, o, none⟩) (sLen + m) sCap) (w.setRow g (cur.toList.take (o + sLen * i.size) ++ news ++ cur.toList.drop (o + sLen * i.size + news.length)).toArray) := by
  have hf := run_firstCells_some (P := P) w i.size m a m c news hl hnews
  have hst := run_storeCells_at P g (o + sLen * i.size) e news 0 cur w hg (by simpa using hfit) h1
  simp only [Nat.add_zero] at hst
  simp [Builtin.append_, run_underlying ht, sizeOf, typeInfo, hi, Builtin.lenOf, hroom, hf, addr_at, hst]

theorem run_append_q {P : Program} (w : World) {t ty e size bytes : Nat} {z : Value} (E : Elem P t e size bytes z) (base : Nat)
    (A0 : Option Addr) (n c0 : Nat) (xs : List Value) (hown : OwnQ w base e size A0 n c0 xs)
    (A : Option Addr) (m c : Nat) (news : List Value) (hr : Sl w size A m c news) (h1 : ∀ u ∈ news, u.oneCell' = true) (hm : 0 < m)
    (hbytes : (n + m + (n + m + 768) / 4 + 512) * bytes ≤ 281474976710656) (hb1 : 0 < bytes) (hbase : base ≤ w.heap.size) :
    ∃ A' c' w', (Builtin.append_ #[t, t] ty #[.slice A0 n c0, .slice A m c]).run P w = .ok (.slice A' (n + m) c') w' ∧ OwnQ w' base e size A' (n + m) c' (xs ++ news) ∧ w.grownBy w' (blk A0 c0) ∧
      ((A' = A0 ∧ c' = c0) ∨ (blk A' c' = some w.heap.size ∧ Ext w w')) := by
  obtain ⟨i, hi, hz, hs, hby⟩ := info_parts E.info
  have h63 : n + m ≤ maxLen := by
    have : (n + m + (n + m + 768) / 4 + 512) ≤ (n + m + (n + m + 768) / 4 + 512) * bytes := Nat.le_mul_of_pos_right _ hb1
    unfold maxLen; omega
  have fit : ∀ cap, cap < n + m → Builtin.nextslicecap (n + m) cap * bytes ≤ 281474976710656 := fun cap hc =>
    Nat.le_trans (Nat.mul_le_mul_right _ (nextslicecap_le hc)) hbytes
  obtain ⟨ad, rfl, hcells⟩ := hr.2.2.2.2 hm
  have hlen : (xs ++ news).length = (n + m) * size := by rw [List.length_append, hown.1, hr.1, Nat.add_mul]
  -- a new block
  have new : ∀ (b : Addr) (cap : Nat), A0 = some b → c0 = cap → (∀ j u, xs[j]? = some u → w.cell? (b.add j) = some u) → cap < n + m →
      ∃ A' c' w', (Builtin.append_ #[t, t] ty #[.slice A0 n c0, .slice (some ad) m c]).run P w = .ok (.slice A' (n + m) c') w' ∧ OwnQ w' base e size A' (n + m) c' (xs ++ news) ∧ w.grownBy w' (blk A0 c0) ∧ ((A' = A0 ∧ c' = c0) ∨ (blk A' c' = some w.heap.size ∧ Ext w w')) := by
    rintro b cap rfl rfl holds hc
    have hr2 := run_append_grow (P := P) w t ty e i z E.under hi hz b n c0 xs (by rw [hs]; exact hown.1) holds ad m c news (by rw [hs]; exact hr.1) hcells hc (by unfold maxLen at h63; omega) (by rw [hby]; exact fit _ hc)
    have hge := grownCap_ge w (n + m) c0 e
    have hcm : grownCap w (n + m) c0 e ≤ maxLen := grownCap_le_maxLen w (n + m) c0 e h63
    refine ⟨_, _, _, hr2, ⟨hlen, .inr ⟨w.heap.size, 0, _, rfl, hbase, heap_alloc_new w.drew _, hge, hcm, ?_, ?_⟩⟩, ⟨rfl, rfl, rfl, by simp, fun k hk _ => Below.heap_alloc w.drew _ k hk⟩, .inr ⟨?_, ((Ext.refl w).drew).alloc _⟩⟩
    · rw [Nat.zero_add]
      refine Nat.le_of_eq (Eq.symm ?_)
      simp only [Array.size_append, List.size_toArray, size_zeroCells, E.zsize, hr.1, hown.1, ← Nat.add_mul]
      congr 1
      omega
    · rw [List.drop_zero]
      simp only [Array.toList_append, List.append_assoc]
      rw [← List.append_assoc, ← hlen]
      exact List.take_left
    · obtain ⟨kk, hk⟩ : ∃ k, grownCap w (n + m) c0 e = k + 1 := ⟨_, (Nat.succ_pred_eq_of_pos (by omega)).symm⟩
      rw [hk]; rfl
  rcases hown.2 with ⟨hc0, hn0⟩ | ⟨g, o, cur, rfl, hb, hg, hnc, hcm, hcs, htake⟩
  · subst hc0; subst hn0
    have hx : xs = [] := List.eq_nil_of_length_eq_zero (by simpa using hown.1)
    subst hx
    cases A0 with
    | some b => exact new b 0 rfl rfl (by simp) (by omega)
    | none =>
      have hge := grownCap_ge w (0 + m) 0 e
      have hcm : grownCap w (0 + m) 0 e ≤ maxLen := grownCap_le_maxLen w (0 + m) 0 e h63
      obtain ⟨kk, hk⟩ : ∃ k, grownCap w (0 + m) 0 e = k + 1 := ⟨_, (Nat.succ_pred_eq_of_pos (by omega)).symm⟩
      have hfin : OwnQ (w.drew.alloc (.cells ((#[] : Array Value) ++ news.toArray ++ Builtin.zeroCells z.cells (grownCap w (0 + m) 0 e - (0 + m))) e)) base e size (some ⟨w.heap.size, 0, none⟩) (0 + m) (grownCap w (0 + m) 0 e) ([] ++ news) := by
        refine ⟨by simpa using hr.1, .inr ⟨w.heap.size, 0, _, rfl, hbase, heap_alloc_new w.drew _, hge, hcm, ?_, ?_⟩⟩
        · rw [Nat.zero_add]
          refine Nat.le_of_eq (Eq.symm ?_)
          simp only [Array.size_append, List.size_toArray, size_zeroCells, E.zsize, hr.1, List.length_nil, Nat.zero_add, ← Nat.add_mul]
          congr 1
          simp only [Nat.zero_add] at hge
          omega
        · have hlen : ([] ++ news).length = (0 + m) * size := by simpa using hr.1
          rw [List.drop_zero]
          simp only [Array.toList_append, List.append_assoc]
          rw [← List.append_assoc, ← hlen]
          exact List.take_left
      have hr2 := run_append_nil (P := P) w t ty e i z E.under hi hz ad m c news (by rw [hs]; exact hr.1) hcells hm (by unfold maxLen at h63; omega) (by
        have := fit 0 (by omega)
        rw [hby]
        have hc : m * bytes ≤ (0 + m + (0 + m + 768) / 4 + 512) * bytes := Nat.mul_le_mul_right _ (by omega)
        omega)
      simp only [Nat.zero_add, List.nil_append, Array.empty_append] at hfin hk ⊢
      refine ⟨_, _, _, hr2, hfin, ⟨rfl, rfl, rfl, by simp, fun k hk _ => Below.heap_alloc w.drew _ k hk⟩, .inr ⟨?_, ((Ext.refl w).drew).alloc _⟩⟩
      rw [hk]; rfl
  · have holds : ∀ j u, xs[j]? = some u → w.cell? ((⟨g, o, none⟩ : Addr).add j) = some u := fun j u hu => by
      rw [addr_at, cell_of_row w g _ cur e (0, 0) hg]
      rw [← htake, List.getElem?_take] at hu
      split at hu
      · rw [List.getElem?_drop] at hu; simpa using hu
      · cases hu
    by_cases hroom : n + m ≤ c0
    · have hfit : o + n * i.size + news.length ≤ cur.size := by
        rw [hr.1, hs, Nat.add_assoc, ← Nat.add_mul]
        have := Nat.mul_le_mul_right size hroom
        omega
      have hr2 := run_append_roomQ (P := P) w t ty e i E.under hi g o n c0 cur hg ad m c news (by rw [hs]; exact hr.1) hcells h1 hroom hfit
      refine ⟨_, _, _, hr2, ⟨hlen, .inr ⟨g, o, _, rfl, hb, setRow_heap w g cur _ e _ hg, hroom, hcm, ?_, ?_⟩⟩, ⟨rfl, rfl, rfl, by simp, fun k _ hk => setRow_other w g k _ (fun e' => hk (by
        obtain ⟨c1, rfl⟩ : ∃ c1, c0 = c1 + 1 := ⟨c0 - 1, by omega⟩
        simp [blk, e']))⟩, .inl ⟨rfl, rfl⟩⟩
      · simp only [List.size_toArray, List.length_append, List.length_take, List.length_drop, Array.length_toList]
        omega
      · rw [hs] at hfit ⊢
        have l1 : (cur.toList.take (o + n * size)).length = o + n * size := by simp; omega
        have e1 : (cur.toList.take (o + n * size)).drop o = xs := by rw [← htake, List.drop_take]; congr 1; omega
        simp only [List.append_assoc]
        rw [List.drop_append_of_le_length (by omega), e1, ← List.append_assoc, ← hlen]
        exact List.take_left
    · exact new ⟨g, o, none⟩ c0 rfl rfl holds (by omega)

theorem wp_append_q {P : Program} (w : World) {o : Oper} {a : Act} {K : Act → World → Prop} {Q : Exit → Act → World → Prop} {t e size bytes : Nat} {z : Value} (E : Elem P t e size bytes z) (base : Nat) (s x : Operand)
    (ho : o.op = .call { callee := .builtin .append, args := #[s, x], argTypes := #[t, t] })
    (A0 : Option Addr) (n c0 : Nat) (xs : List Value) (hs : a.eval s = .slice A0 n c0) (hown : OwnQ w base e size A0 n c0 xs)
    (A : Option Addr) (m c : Nat) (news : List Value) (hx : a.eval x = .slice A m c) (hr : Sl w size A m c news) (h1 : ∀ u ∈ news, u.oneCell' = true) (hm : 0 < m)
    (hbytes : (n + m + (n + m + 768) / 4 + 512) * bytes ≤ 281474976710656) (hb1 : 0 < bytes) (hbase : base ≤ w.heap.size)
    (h : ∀ A' c' w', OwnQ w' base e size A' (n + m) c' (xs ++ news) → w.grownBy w' (blk A0 c0) → ((A' = A0 ∧ c' = c0) ∨ (blk A' c' = some w.heap.size ∧ Ext w w')) → K (a.put o.dst (.slice A' (n + m) c')) w') : o.wp P a w K Q := by
  obtain ⟨A', c', w', hrun, h2, h3, h4⟩ := run_append_q (P := P) (ty := o.type) w E base A0 n c0 xs hown A m c news hr h1 hm hbytes hb1 hbase
  unfold Oper.wp execOp
  simp only [ho, resolve, invoke, builtin, Sem.run_bind, Sem.run_pure, Result.andThen_ok, List.map_toArray, List.map_cons, List.map_nil, hs, hx, hrun]
  exact h A' c' w' h2 h3 h4
/-- append to a list of work, in a plain region -/
theorem wpList_append_q {P : Program} (w : World) {ops : Array Oper} {rest : List Oper} {o : Oper} {a : Act} {Q : Exit → Act → World → Prop} {t e size bytes : Nat} {z : Value} (E : Elem P t e size bytes z) (base : Nat) (s x : Operand)
    (ho : o.op = .call { callee := .builtin .append, args := #[s, x], argTypes := #[t, t] }) (hgd : o.guard = none)
    (A0 : Option Addr) (n c0 : Nat) (xs : List Value) (hs : a.eval s = .slice A0 n c0) (hown : OwnQ w base e size A0 n c0 xs)
    (A : Option Addr) (m c : Nat) (news : List Value) (hx : a.eval x = .slice A m c) (hr : Sl w size A m c news) (h1 : ∀ u ∈ news, u.oneCell' = true) (hm : 0 < m)
    (hbytes : (n + m + (n + m + 768) / 4 + 512) * bytes ≤ 281474976710656) (hb1 : 0 < bytes) (hbase : base ≤ w.heap.size)
    (h : ∀ A' c' w', OwnQ w' base e size A' (n + m) c' (xs ++ news) → w.grownBy w' (blk A0 c0) → ((A' = A0 ∧ c' = c0) ∨ (blk A' c' = some w.heap.size ∧ Ext w w')) → wpList P ops Q rest (a.put o.dst (.slice A' (n + m) c')) w') : wpList P ops Q (o :: rest) a w :=
  wpList_plain hgd fun _ hK => wp_append_q w E base s x ho A0 n c0 xs hs hown A m c news hx hr h1 hm hbytes hb1 hbase fun A' c' w' h2 h3 h4 => hK _ _ (h A' c' w' h2 h3 h4)
end Go.Proofs.Yteklohamkmiphaa
namespace Go.Proofs.Yteklohamkmiphaa
open Go.RowKit

/-- ways in a block that may be written -/
structure Wl (w : World) (B : Nat) (T : TypeId) (g c : Nat) (M : List Pm) : Prop where
  ow : Own w B T 3 (some ⟨g, 0, none⟩) M.length c (M.flatMap pmC)
  c0 : 0 < c
abbrev put3 (w : World) (g i : Nat) (x : Pm) (n : Nat) : World := ((w.setCell ⟨g, i * 3, none⟩ (.int .i64 x.w.leave)).setCell ⟨g, i * 3 + 1, none⟩ (.int .u32 x.w.add)).setCell ⟨g, i * 3 + 2, none⟩ (.slice x.A n x.c)
theorem pms_set : ∀ (L : List Pm) (i : Nat) (x : Pm), (((L.flatMap pmC).set (i * 3) (.int .i64 x.w.leave)).set (i * 3 + 1) (.int .u32 x.w.add)).set (i * 3 + 2) (.slice x.A x.w.enter.length x.c) = (L.set i x).flatMap pmC
  | [], i, x => rfl
  | d :: L, 0, x => rfl
  | d :: L, i + 1, x => by
    have ih := pms_set L i x
    rw [List.set_cons_succ, List.flatMap_cons, List.flatMap_cons, ← ih]
    have l3 : (pmC d).length = 3 := rfl
    rw [List.set_append_right _ _ (by omega), List.set_append_right _ _ (by omega), List.set_append_right _ _ (by omega), show (i + 1) * 3 - (pmC d).length = i * 3 by omega, show (i + 1) * 3 + 1 - (pmC d).length = i * 3 + 1 by omega, show (i + 1) * 3 + 2 - (pmC d).length = i * 3 + 2 by omega]
theorem set_word (w : World) (g i : Nat) (u : Value) : w.grownBy (w.setCell ⟨g, i, none⟩ u) (some g) :=
  ⟨rfl, rfl, rfl, by simp, fun k _ hk => Below.heap_setCell _ _ _ _ (fun e => hk (by rw [e]))⟩
theorem ext_word {w w' : World} (x : Ext w w') (g : Nat) : w.grownBy w' (some g) := ⟨x.os, x.tape, x.output, x.size, fun k hk _ => x.block k hk⟩
theorem put3_word (w : World) (g i : Nat) (x : Pm) (n : Nat) : w.grownBy (put3 w g i x n) (some g) := ((set_word w g _ _).trans (set_word _ g _ _)).trans (set_word _ g _ _)
theorem sets_word (g : Nat) : ∀ (vs : List Value) (w : World) (k : Nat), w.grownBy (w.setCells g k vs) (some g)
  | [], w, _ => World.grownBy.refl w _
  | v :: vs, w, k => (set_word w g k v).trans (sets_word g vs _ (k + 1))
section
variable {w w' : World} {B g c : Nat} {T : TypeId} {M : List Pm}
theorem Wl.ext (h : Wl w B T g c M) (x : Ext w w') : Wl w' B T g c M := ⟨h.ow.ext x, h.c0⟩
theorem Wl.free (h : Wl w B T g c M) (j : Nat) : w.frozen? ⟨g, j, none⟩ = false := by
  rcases h.ow.2 with ⟨h1, h2⟩ | ⟨g', cur, e, hb, hg, _⟩
  · have := h.c0; omega
  · cases e
    simp [World.frozen?, hg]
theorem Wl.cells (h : Wl w B T g c M) {j : Nat} (hj : j < c * 3) : (w.cell? ⟨g, j, none⟩).isSome = true := by
  rcases h.ow.2 with ⟨h1, _⟩ | ⟨g', cur, e, hb, hg, hnc, hcm, hcs, htake⟩
  · have := h.c0; omega
  · cases e
    rw [cell_of_row w g j cur _ (0, 0) hg, Array.getElem?_eq_getElem (Nat.lt_of_lt_of_le hj hcs)]
    rfl
theorem Wl.set (h : Wl w B T g c M) (i : Nat) (x : Pm) : Wl (put3 w g i x x.w.enter.length) B T g c (M.set i x) := by
  have := ((h.ow.put (i * 3) (.int .i64 x.w.leave)).put (i * 3 + 1) (.int .u32 x.w.add)).put (i * 3 + 2) (.slice x.A x.w.enter.length x.c)
  rw [pms_set] at this
  exact ⟨by rw [List.length_set]; exact this, h.c0⟩
theorem Wl.pre {K X : List Pm} (h : Wl w B T g c (K ++ X)) : Wl w B T g c K := by
  refine ⟨⟨els_len pmC 3 pmC_len K, ?_⟩, h.c0⟩
  rcases h.ow.2 with ⟨h1, h2⟩ | ⟨g', cur, e, hb, hg, hnc, hcm, hcs, htake⟩
  · exact .inl ⟨h1, by rw [List.length_append] at h2; omega⟩
  · refine .inr ⟨g', cur, e, hb, hg, by rw [List.length_append] at hnc; omega, hcm, hcs, ?_⟩
    have : (cur.toList.take ((K ++ X).length * 3)).take (K.length * 3) = ((K ++ X).flatMap pmC).take (K.length * 3) := by rw [htake]
    rw [List.take_take, Nat.min_eq_left (by rw [List.length_append]; omega), els_take pmC 3 pmC_len, List.take_left] at this
    exact this
theorem Wl.past {xs : List Value} {n k : Nat} (h : Own w B T 3 (some ⟨g, 0, none⟩) n c xs) (hk : xs.length ≤ k) (u : Value) : Own (w.setCell ⟨g, k, none⟩ u) B T 3 (some ⟨g, 0, none⟩) n c xs := by
  have := h.put k u
  rwa [List.set_eq_of_length_le hk] at this
theorem Wl.pasts {n : Nat} {xs : List Value} : ∀ (vs : List Value) (w : World) (k : Nat), Own w B T 3 (some ⟨g, 0, none⟩) n c xs → xs.length ≤ k → Own (w.setCells g k vs) B T 3 (some ⟨g, 0, none⟩) n c xs
  | [], _, _, h, _ => h
  | v :: vs, w, k, h, hk => Wl.pasts vs _ (k + 1) (Wl.past h hk v) (by omega)
end
theorem mid_pm (P : List Pm) (x : Pm) (Q : List Pm) : (P ++ x :: Q).getD P.length Pm.zero = x := by
  rw [List.getD_eq_getElem?_getD, List.getElem?_append_right (Nat.le_refl _), Nat.sub_self]; rfl
theorem mid_set (P : List Pm) (x y : Pm) (Q : List Pm) : (P ++ x :: Q).set P.length y = P ++ y :: Q := by
  rw [List.set_append_right _ _ (Nat.le_refl _), Nat.sub_self]; rfl
theorem run_clear3 {P : Program} (w : World) (t e ty : TypeId) (z0 z1 z2 : Value) (ht : P.underlying t = some (.slice e)) (hv : ∀ w, (zeroValue e).run P w = .ok (.agg #[z0, z1, z2]) w) (hz : ∀ v ∈ [z0, z1, z2], v.oneCell' = true) (hzc : (Value.agg #[z0, z1, z2]).cells = #[z0, z1, z2]) (b o n c : Nat) (hn : 0 < n)
    (hc : ∀ j, j < n * 3 → (w.cell? ⟨b, o + j, none⟩).isSome = true) (hf : ∀ j, j < n * 3 → w.frozen? ⟨b, o + j, none⟩ = false) :
    (Builtin.clear_ #[t] ty #[.slice (some ⟨b, o, none⟩) n c]).run P w = .ok (.tuple #[]) (w.setCells b o (Builtin.zeroCells #[z0, z1, z2] n).toList) := by
  have hlen : (Builtin.zeroCells #[z0, z1, z2] n).toList.length = n * 3 := by
    have := size_zeroCells #[z0, z1, z2] n
    rw [Array.length_toList, this]
    rfl
  have hall : ∀ v ∈ (Builtin.zeroCells #[z0, z1, z2] n).toList, v.oneCell' = true := by
    intro v hv'
    unfold Builtin.zeroCells at hv'
    rw [Array.toList_map] at hv'
    obtain ⟨i, _, rfl⟩ := List.mem_map.1 hv'
    show (#[z0, z1, z2][i % 3]!).oneCell' = true
    rcases (by omega : i % 3 = 0 ∨ i % 3 = 1 ∨ i % 3 = 2) with h | h | h
    · rw [h]; exact hz z0 (by simp)
    · rw [h]; exact hz z1 (by simp)
    · rw [h]; exact hz z2 (by simp)
  have hst := run_storeCells_cells (P := P) b o (Builtin.zeroCells #[z0, z1, z2] n).toList 0 w (by simpa [hlen] using hc) (by simpa [hlen] using hf) hall
  simp only [Nat.add_zero] at hst
  obtain ⟨m, rfl⟩ : ∃ m, n = m + 1 := ⟨n - 1, by omega⟩
  simp [Builtin.clear_, run_underlying ht, hv, hzc, hst]
theorem zero_pm (w : World) : (zeroValue 47).run Try.prog w = .ok (.agg #[.int .i64 0, .int .u32 0, .slice none 0 0]) w := by kernel_rfl
/-- what is asked of the predicate: it answers, whatever stands in block b -/
def PredG (g b : Nat) (v0 v1 : Value) (p : Pm → Bool) (L : List Pm) (w : World) : Prop := ∀ (W : World) (x : Pm), x ∈ L → w.grownBy W (some b) → Calls Try.prog g #[pmV x, v0, v1] W fun e w' => e = .returned (.bool (p x)) ∧ Ext W w'
/-- what is left behind -/
def DelOut (B : Nat) (T : TypeId) (b c : Nat) (p : Pm → Bool) (M : List Pm) (w : World) (e : Ending) (w' : World) : Prop := ∃ m, e = .returned (.slice (some ⟨b, 0, none⟩) m c) ∧ m = (M.filter (fun x => !p x)).length ∧ Wl w' B T b c (M.filter (fun x => !p x)) ∧ w.grownBy w' (some b)
/-- where the first one stands -/
def IdxFirst (p : Pm → Bool) (M : List Pm) (w : World) (e : Ending) (w' : World) : Prop := Ext w w' ∧ ((e = .returned (.int .i64 (-1)) ∧ ∀ x ∈ M, p x = false) ∨ ∃ (q : Nat) (P Q : List Pm) (x : Pm), e = .returned (.int .i64 q) ∧ M = P ++ x :: Q ∧ q = P.length ∧ (∀ y ∈ P, p y = false) ∧ p x = true)
set_option maxRecDepth 100000 in
set_option maxHeartbeats 2000000 in
theorem index_first (p : Pm → Bool) (g b : Nat) (v0 v1 : Value) (eg : ∀ args w, (callFunc g args).run Try.prog w = .ok (.enter g args) w) (AL : Option Addr) (cL m : Nat) (L : List Pm) (w : World) (hm : Hid (m = L.length)) (hL : Hid (Sl w 3 AL L.length cL (L.flatMap pmC))) (hp : Hid (PredG g b v0 v1 p L w)) :
    Calls Try.prog 51 #[.slice AL m cL, .func (.func g) #[] #[v0, v1]] w (IdxFirst p L w) := by
  have hbig : m ≤ 9223372036854775807 := by rw [hm.out]; exact hL.out.le
  go_enter Try.func51, Try.ntmps51
  go_wp2
  go_loopg [5, 8] m (fun gg _ s8 wr => ∃ kk : Nat, kk ≤ m ∧ m - kk ≤ gg ∧ s8 = .int .i64 kk ∧ Hid (Ext w wr) ∧ Hid (∀ j, j < kk → p (L.getD j Pm.zero) = false))
  case atStart => exact ⟨0, Nat.zero_le _, by omega, rfl, Lib.hid (Ext.refl w), Lib.hid (fun j hj => absurd hj (Nat.not_lt_zero _))⟩
  case round =>
    obtain ⟨kk, hkk, hg, rfl, BW, AF⟩ := hrel
    by_cases hlt : kk < m
    · have hltz : (kk : Int) < (m : Int) := by omega
      obtain ⟨ad, rfl, h0, h1⟩ := els_at pmC 3 pmC_len Pm.zero (hL.out.ext BW.out) rfl (i := kk) (by rw [← hm.out]; exact hlt) (by omega)
      have q0 := h0 _ rfl
      have q1 := h1 0 _ rfl
      have q2 := h1 1 _ rfl
      clear h0 h1
      have hcall := hp.out wr (L.getD kk Pm.zero) (getD_mem' Pm.zero (by rw [← hm.out]; exact hlt)) (ext_word BW.out b)
      obtain ⟨x, hx⟩ : ∃ x, L.getD kk Pm.zero = x := ⟨_, rfl⟩
      rw [hx] at q0 q1 q2 hcall
      have HX := Lib.hid hx
      clear hx
      unfold pmV at hcall
      cases hq : p x with
      | true =>
        rw [hq] at hcall
        have HQ := Lib.hid hq
        clear hq
        go_wp2_with (go_at_fn g; refine hcall.mono ?_; rintro e w' ⟨rfl, hb'⟩)
        go_ret
        have hl : kk < L.length := by rw [← hm.out]; exact hlt
        refine ⟨BW.out.trans hb', .inr ⟨kk, L.take kk, L.drop (kk + 1), x, rfl, ?_, by rw [List.length_take]; omega, fun y hy => ?_, HQ.out⟩⟩
        · rw [← HX.out, List.getD_eq_getElem?_getD, List.getElem?_eq_getElem hl, Option.getD_some, ← List.drop_eq_getElem_cons hl, List.take_append_drop]
        · obtain ⟨j, hj⟩ := List.getElem?_of_mem hy
          rw [List.getElem?_take] at hj
          split at hj
          · rename_i hjk
            have := AF.out j hjk
            rw [List.getD_eq_getElem?_getD, hj] at this
            exact this
          · cases hj
      | false =>
        rw [hq] at hcall
        have HQ := Lib.hid hq
        clear hq
        go_wp2_with (go_at_fn g; refine hcall.mono ?_; rintro e w' ⟨rfl, hb'⟩)
        go_roundg (m - (kk + 1))
        case measure => omega
        case rel =>
          refine ⟨kk + 1, by omega, by omega, by go_num, Lib.hid (BW.out.trans hb'), Lib.hid (fun j hj => ?_)⟩
          by_cases hjk : j < kk
          · exact AF.out j hjk
          · obtain rfl : j = kk := by omega
            rw [HX.out]; exact HQ.out
    · obtain rfl : kk = m := by omega
      go_wp2
      go_ret
      refine ⟨BW.out, .inl ⟨rfl, fun y hy => ?_⟩⟩
      obtain ⟨j, hj⟩ := List.getElem?_of_mem hy
      have := AF.out j (by rw [hm.out]; exact (List.getElem?_eq_some_iff.1 hj).1)
      rw [List.getD_eq_getElem?_getD, hj] at this
      exact this
theorem index_none (p : Pm → Bool) (g b : Nat) (v0 v1 : Value) (eg : ∀ args w, (callFunc g args).run Try.prog w = .ok (.enter g args) w) (AL : Option Addr) (cL m : Nat) (L : List Pm) (w : World) (hm : Hid (m = L.length)) (hL : Hid (Sl w 3 AL L.length cL (L.flatMap pmC))) (hp : Hid (PredG g b v0 v1 p L w)) (hn : Hid (∀ x ∈ L, p x = false)) :
    Calls Try.prog 51 #[.slice AL m cL, .func (.func g) #[] #[v0, v1]] w fun e w' => e = .returned (.int .i64 (-1)) ∧ Ext w w' :=
  (index_first p g b v0 v1 eg AL cL m L w hm hL hp).mono fun e w' ⟨x, h⟩ => by
    rcases h with ⟨h, _⟩ | ⟨q, P, Q, y, _, h2, _, _, h5⟩
    · exact ⟨h, x⟩
    · have := hn.out y (by rw [h2]; simp)
      rw [this] at h5; cases h5
theorem first_eq {p : Pm → Bool} : ∀ {P P' Q Q' : List Pm} {x x' : Pm}, P ++ x :: Q = P' ++ x' :: Q' → (∀ y ∈ P, p y = false) → (∀ y ∈ P', p y = false) → p x = true → p x' = true → P.length = P'.length
  | [], [], _, _, _, _, _, _, _, _, _ => rfl
  | [], y :: P', _, _, x, _, e, _, h2, h3, _ => by
    injection e with e _
    have := h2 y List.mem_cons_self
    rw [← e, h3] at this; cases this
  | y :: P, [], _, _, _, x', e, h1, _, _, h4 => by
    injection e with e _
    have := h1 y List.mem_cons_self
    rw [e, h4] at this; cases this
  | y :: P, y' :: P', _, _, _, _, e, h1, h2, h3, h4 => by
    injection e with _ e
    rw [List.length_cons, List.length_cons, first_eq e (fun z hz => h1 z (List.mem_cons_of_mem _ hz)) (fun z hz => h2 z (List.mem_cons_of_mem _ hz)) h3 h4]
theorem index_some (p : Pm → Bool) (g b : Nat) (v0 v1 : Value) (eg : ∀ args w, (callFunc g args).run Try.prog w = .ok (.enter g args) w) (AL : Option Addr) (cL m q : Nat) (L P Q : List Pm) (x : Pm) (w : World) (hm : Hid (m = L.length)) (hL : Hid (Sl w 3 AL L.length cL (L.flatMap pmC))) (hp : Hid (PredG g b v0 v1 p L w)) (hn : Hid (L = P ++ x :: Q ∧ q = P.length ∧ (∀ y ∈ P, p y = false) ∧ p x = true)) :
    Calls Try.prog 51 #[.slice AL m cL, .func (.func g) #[] #[v0, v1]] w fun e w' => e = .returned (.int .i64 q) ∧ Ext w w' :=
  (index_first p g b v0 v1 eg AL cL m L w hm hL hp).mono fun e w' ⟨z, h⟩ => by
    obtain ⟨n1, n2, n3, n4⟩ := hn.out
    rcases h with ⟨_, h⟩ | ⟨q', P', Q', y, h1, h2, h3, h4, h5⟩
    · have := h x (by rw [n1]; simp)
      rw [n4] at this; cases this
    · refine ⟨?_, z⟩
      rw [h1, h3, n2, first_eq (h2.symm.trans n1) h4 n3 h5 n4]
/-- so far: K is kept, X is to be thrown away, R is to come -/
def DelMid (B : Nat) (T : TypeId) (b c : Nat) (p : Pm → Bool) (M K X R : List Pm) (w wr : World) (j : Nat) : Prop := j = K.length + X.length ∧ M.filter (fun x => !p x) = K ++ R.filter (fun x => !p x) ∧ Wl wr B T b c (K ++ (X ++ R)) ∧ w.grownBy wr (some b) ∧ 0 < X.length
section
variable {B b c : Nat} {T : TypeId} {p : Pm → Bool} {M K X R : List Pm} {w wr wz : World} {j : Nat}
theorem DelMid.mk' (h : DelMid B T b c p M K X R w wr j) (hz : Ext wr wz) : DelMid B T b c p M K X R w wz j := ⟨h.1, h.2.1, h.2.2.1.ext hz, h.2.2.2.1.trans (ext_word hz b), h.2.2.2.2⟩
theorem DelMid.skip {x : Pm} (h : DelMid B T b c p M K X (x :: R) w wr j) (hx : p x = true) (hz : Ext wr wz) : DelMid B T b c p M K (X ++ [x]) R w wz (j + 1) := by
  obtain ⟨h1, h2, h3, h4, h5⟩ := h
  refine ⟨by rw [List.length_append, List.length_singleton]; omega, by rw [h2, List.filter_cons_of_neg (by simp [hx])], ?_, h4.trans (ext_word hz b), by rw [List.length_append]; omega⟩
  have e : K ++ (X ++ [x] ++ R) = K ++ (X ++ x :: R) := by simp
  rw [e]
  exact h3.ext hz
theorem DelMid.keep {x y : Pm} {i n : Nat} (h : DelMid B T b c p M K (y :: X) (x :: R) w wr j) (hx : p x = false) (hi : i = K.length) (hn : n = x.w.enter.length) :
    DelMid B T b c p M (K ++ [x]) (X ++ [x]) R w (put3 wr b i x n) (j + 1) := by
  subst hi hn
  obtain ⟨h1, h2, h3, h4, h5⟩ := h
  refine ⟨by simp only [List.length_append, List.length_cons, List.length_nil] at h1 ⊢; omega, by rw [h2, List.filter_cons_of_pos (by simp [hx])]; simp, ?_, h4.trans (put3_word wr b _ _ _), by rw [List.length_append, List.length_singleton]; omega⟩
  have h6 := h3.set K.length x
  have e : (K ++ (y :: X ++ x :: R)).set K.length x = K ++ [x] ++ (X ++ [x] ++ R) := by
    rw [List.cons_append, mid_set]
    simp
  rw [e] at h6
  exact h6
end
set_option maxRecDepth 100000 in
set_option maxHeartbeats 4000000 in
theorem delete_any (p : Pm → Bool) (g b : Nat) (v0 v1 : Value) (eg : ∀ args w, (callFunc g args).run Try.prog w = .ok (.enter g args) w) (B : Nat) (T : TypeId) (c n : Nat) (M : List Pm) (w : World) (hn : Hid (n = M.length)) (h : Hid (Wl w B T b c M)) (hp : Hid (PredG g b v0 v1 p M w)) :
    Calls Try.prog 53 #[.slice (some ⟨b, 0, none⟩) n c, .func (.func g) #[] #[v0, v1]] w (DelOut B T b c p M w) := by
  have hle := h.out.ow.le
  have hnc : n ≤ c := by rw [hn.out]; exact hle.1
  have hc63 : c ≤ 9223372036854775807 := hle.2
  clear hle
  rcases (show (∀ x ∈ M, p x = false) ∨ ∃ (P Q : List Pm) (x : Pm), M = P ++ x :: Q ∧ (∀ y ∈ P, p y = false) ∧ p x = true by
    clear h hn hp hnc
    induction M with
    | nil => exact .inl (fun x hx => (nomatch hx))
    | cons y M ih =>
      cases hy : p y with
      | true => exact .inr ⟨[], M, y, rfl, fun z hz => (nomatch hz), hy⟩
      | false =>
        rcases ih with h | ⟨P, Q, x, e, h1, h2⟩
        · exact .inl fun z hz => (List.mem_cons.1 hz).elim (fun e => e ▸ hy) (h z)
        · exact .inr ⟨y :: P, Q, x, by rw [e]; rfl, fun z hz => (List.mem_cons.1 hz).elim (fun e => e ▸ hy) (h1 z), h2⟩) with hall | ⟨P, Q, x, hM, hP, hx⟩
  · have HA := Lib.hid hall
    clear hall
    go_enter Try.func53, Try.ntmps53
    have hidx := index_none p g b v0 v1 eg (some ⟨b, 0, none⟩) c n M w hn (Lib.hid h.out.ow.sl) hp HA
    go_wp2_with (go_at_call 51; refine hidx.mono ?_; rintro e w1 ⟨rfl, x1⟩)
    go_ret
    have hf : M.filter (fun x => !p x) = M := List.filter_eq_self.2 fun x hx => by rw [HA.out x hx]; rfl
    exact ⟨n, rfl, by rw [hf]; exact hn.out, by rw [hf]; exact h.out.ext x1, ext_word x1 b⟩
  · have hf1 : P.filter (fun x => !p x) = P := List.filter_eq_self.2 fun y hy => by rw [hP y hy]; rfl
    obtain ⟨q, hq⟩ : ∃ q, q = P.length := ⟨_, rfl⟩
    have hqn : q < n := by rw [hn.out, hM, hq, List.length_append, List.length_cons]; omega
    have HQ := Lib.hid hq
    have HLen : Hid (n = q + 1 + Q.length) := Lib.hid (by rw [hn.out, hM, hq, List.length_append, List.length_cons]; omega)
    have HIn : Hid (∀ y ∈ Q, y ∈ M) := Lib.hid (fun y hy => by rw [hM]; exact List.mem_append_right _ (List.mem_cons_of_mem _ hy))
    have hidx := index_some p g b v0 v1 eg (some ⟨b, 0, none⟩) c n q M P Q x w hn (Lib.hid h.out.ow.sl) hp (Lib.hid ⟨hM, hq, hP, hx⟩)
    have HD : ∀ w1, Ext w w1 → Hid (DelMid B T b c p M P [x] Q w w1 (q + 1)) := fun w1 x1 => Lib.hid ⟨by rw [hq]; rfl, by rw [hM, List.filter_append, hf1, List.filter_cons_of_neg (by rw [hx]; decide)], by have := h.out.ext x1; rw [hM] at this; exact this, ext_word x1 b, Nat.zero_lt_one⟩
    have HDD := Lib.hid HD
    clear hf1 hM HD hP hx hq
    go_enter Try.func53, Try.ntmps53
    go_wp2_with (go_at_call 51; refine hidx.mono ?_; rintro e w1 ⟨rfl, x1⟩)
    go_loopg [5, 6] (n - (q + 1)) (fun z u v wr => ∃ (i j : Nat) (K X R : List Pm), z = n - j ∧ j ≤ n ∧ i ≤ j ∧ u = .int .i64 i ∧ v = .int .i64 j ∧ Hid (i = K.length ∧ n = j + R.length ∧ ∀ y ∈ R, y ∈ M) ∧ Hid (DelMid B T b c p M K X R w wr j))
    case atStart => exact ⟨q, q + 1, P, [x], Q, rfl, by omega, by omega, rfl, by simp, Lib.hid ⟨HQ.out, HLen.out, HIn.out⟩, HDD.out w1 x1⟩
    case round =>
      obtain ⟨i, j, K, X, R, rfl, hj, hij, rfl, rfl, HI, HJ⟩ := hrel
      obtain ⟨wi, hwi⟩ : ∃ wi : World, wi = wr := ⟨_, rfl⟩
      rw [← hwi] at HJ ⊢
      clear hwi
      by_cases hlt : j < n
      · obtain ⟨y, R, rfl⟩ : ∃ y R', R = y :: R' := by
          cases R with
          | nil => have := HI.out.2.1; rw [List.length_nil] at this; omega
          | cons y R => exact ⟨y, R, rfl⟩
        obtain ⟨x0, X, rfl⟩ : ∃ x0 X', X = x0 :: X' := by
          cases X with
          | nil => have := HJ.out.2.2.2.2; exact absurd this (by decide)
          | cons x0 X => exact ⟨x0, X, rfl⟩
        have hA := HJ.out.2.2.1
        have hjl : j < (K ++ (x0 :: X ++ y :: R)).length := by have := HJ.out.1; simp only [List.length_append, List.length_cons] at this ⊢; omega
        obtain ⟨ad, had, h0, h1⟩ := els_at pmC 3 pmC_len Pm.zero hA.ow.sl rfl hjl (by omega)
        injection had with had
        subst had
        have e : (K ++ (x0 :: X ++ y :: R)).getD j Pm.zero = y := by
          rw [← List.append_assoc, show j = (K ++ x0 :: X).length by rw [List.length_append]; exact HJ.out.1]
          exact mid_pm _ y R
        rw [e] at h0 h1
        have p0 := h0 _ rfl
        have p1 := h1 0 _ rfl
        have p2 := h1 1 _ rfl
        rw [addr_at] at p0 p1 p2
        simp only [Nat.zero_add] at p0 p1 p2
        clear h0 h1
        have f0 := hA.free (i * 3)
        have f1 := hA.free (i * 3 + 1)
        have f2 := hA.free (i * 3 + 2)
        obtain ⟨u0, c0⟩ : ∃ u, wi.cell? ⟨b, i * 3, none⟩ = some u := Option.isSome_iff_exists.1 (hA.cells (by omega))
        obtain ⟨u1, c1⟩ : ∃ u, wi.cell? ⟨b, i * 3 + 1, none⟩ = some u := Option.isSome_iff_exists.1 (hA.cells (by omega))
        obtain ⟨u2, c2⟩ : ∃ u, wi.cell? ⟨b, i * 3 + 2, none⟩ = some u := Option.isSome_iff_exists.1 (hA.cells (by omega))
        have HA := Lib.hid hA
        obtain ⟨ny, hny⟩ : ∃ ny, ny = y.w.enter.length := ⟨_, rfl⟩
        have hcall := hp.out (wi.alloc (.cells #[.int .i64 y.w.leave, .int .u32 y.w.add, .slice y.A y.w.enter.length y.c] 47)) y (HI.out.2.2 y List.mem_cons_self) (HJ.out.2.2.2.1.trans (ext_word ((Ext.refl wi).alloc _) b))
        unfold pmV at hcall
        rw [← hny] at p2 hcall
        have HNY := Lib.hid hny
        clear hA hjl e hny
        cases hv : p y with
        | false =>
          rw [hv] at hcall
          have HV := Lib.hid hv
          clear hv
          go_wp2_with (go_at_fn g; refine hcall.mono ?_; rintro e w2 ⟨rfl, x2⟩; have X2 := ((Ext.refl wi).alloc (.cells #[.int .i64 y.w.leave, .int .u32 y.w.add, .slice y.A ny y.c] 47)).trans x2; have B2 := (Bk.new wi 47 #[.int .i64 y.w.leave, .int .u32 y.w.add, .slice y.A ny y.c]).ext x2; have b0 := B2.cell 0; have b1 := B2.cell 1; have b2 := B2.cell 2; have HA2 := Lib.hid (HA.out.ext X2); have g0 := HA2.out.free (i * 3); have g1 := HA2.out.free (i * 3 + 1); have g2 := HA2.out.free (i * 3 + 2); have d0 := X2.cell c0; have d1 := X2.cell c1; have d2 := X2.cell c2)
          go_roundg (n - (j + 1))
          case measure => omega
          case rel => exact ⟨i + 1, j + 1, K ++ [y], X ++ [y], R, rfl, by omega, by omega, by go_num, by go_num, Lib.hid ⟨by rw [List.length_append, List.length_singleton, ← HI.out.1], by have := HI.out.2.1; rw [List.length_cons] at this; omega, fun z hz => HI.out.2.2 z (List.mem_cons_of_mem _ hz)⟩, Lib.hid ((DelMid.mk' HJ.out X2).keep HV.out HI.out.1 HNY.out)⟩
        | true =>
          rw [hv] at hcall
          have HV := Lib.hid hv
          clear hv
          go_wp2_with (go_at_fn g; refine hcall.mono ?_; rintro e w2 ⟨rfl, x2⟩; have X2 := ((Ext.refl wi).alloc (.cells #[.int .i64 y.w.leave, .int .u32 y.w.add, .slice y.A ny y.c] 47)).trans x2)
          go_roundg (n - (j + 1))
          case measure => omega
          case rel => exact ⟨i, j + 1, K, x0 :: X ++ [y], R, rfl, by omega, by omega, rfl, by go_num, Lib.hid ⟨HI.out.1, by have := HI.out.2.1; rw [List.length_cons] at this; omega, fun z hz => HI.out.2.2 z (List.mem_cons_of_mem _ hz)⟩, Lib.hid (HJ.out.skip HV.out X2)⟩
      · obtain rfl : j = n := by omega
        have hR : R = [] := List.eq_nil_of_length_eq_zero (by have := HI.out.2.1; omega)
        subst hR
        have hA := HJ.out.2.2.1
        have hin : i < j := by have h1 := HJ.out.1; have h2 := HI.out.1; have h3 := HJ.out.2.2.2.2; omega
        have hcap : j - i ≤ c - i := by omega
        have hci : ¬ (c = i) := by omega
        have hcl : ∃ vs, ∀ ty, (Builtin.clear_ #[42] ty #[.slice (some ⟨b, i * 3, none⟩) (j - i) (c - i)]).run Try.prog wi = .ok (.tuple #[]) (wi.setCells b (i * 3) vs) :=
          ⟨_, fun ty => (run_clear3 (P := Try.prog) wi 42 47 ty (.int .i64 0) (.int .u32 0) (.slice none 0 0) Try.underlying42 zero_pm (by intro v hv; simp at hv; rcases hv with rfl | rfl | rfl <;> rfl) rfl b (i * 3) (j - i) (c - i) (by omega) (fun t ht => hA.cells (by omega)) (fun t ht => hA.free _))⟩
        obtain ⟨vs, hcl⟩ := hcl
        have HA := Lib.hid hA
        have HF : Hid (M.filter (fun x => !p x) = K) := Lib.hid (by have := HJ.out.2.1; rwa [List.filter_nil, List.append_nil] at this)
        have HG := Lib.hid HJ.out.2.2.2.1
        have HK := Lib.hid HI.out.1
        clear hA HJ HI
        go_wp2
        go_ret
        refine ⟨i, rfl, by rw [HF.out]; exact HK.out, ?_, HG.out.trans (sets_word b vs wi _)⟩
        rw [HF.out]
        have hp := HA.out.pre
        exact ⟨Wl.pasts vs wi _ hp.ow (by rw [els_len pmC 3 pmC_len, HK.out]; exact Nat.le_refl _), hp.c0⟩
end Go.Proofs.Yteklohamkmiphaa
namespace Go.Proofs.Yteklohamkmiphaa
open Go.RowKit

section
variable {P W : Type} [DecidableEq P] {N : Net P W}
def Net.fZ (N : Net P W) (ws : List W) (key : W → P) (keys : List P) : List ((List (Mv P W) → List (Mv P W)) × List (List (Mv P W))) :=
  (N.root, N.rootO ws) :: keys.flatMap (fun k => [(N.sig key 1 k, N.sigO ws key 1 k), (N.sig key 2 k, N.sigO ws key 2 k)])
variable {R : Run N} {ws : List W} {keys : List P} {key : W → P}
/-- of lists none of which is ahead of another one: the last pass does not count -/
theorem Run.Ways.boundZ [DecidableEq W] (K : R.Ways ws keys key) (L : List (List (Mv P W))) (nd : L.Nodup) (h : ∀ l ∈ L, R.E l) (an : ∀ l ∈ L, ∀ m ∈ L, l ≠ m → ¬ Lab.le 3 (N.lab l) (N.lab m)) : L.length ≤ prodL ((N.fZ ws key keys).map fun f => f.2.length) := by
  refine count_prod _ L nd (fun l hl f hf => ?_) fun l hl m hm e => ?_
  · rcases List.mem_cons.1 hf with rfl | hf
    · exact K.root_mem (h l hl)
    · obtain ⟨k, _, hf⟩ := List.mem_flatMap.1 hf
      simp only [List.mem_cons, List.not_mem_nil, or_false] at hf
      rcases hf with rfl | rfl
      · exact K.sig_mem (by omega) k (h l hl)
      · exact K.sig_mem (by omega) k (h l hl)
  · have r := root_eq (e _ List.mem_cons_self)
    have s : ∀ j, 1 ≤ j → j ≤ 2 → ∀ x, x ∈ N.S j l ↔ x ∈ N.S j m := by
      intro j j1 j3
      refine K.sig_eq (by omega) (h l hl) (h m hm) fun k hk => ?_
      have g : ∀ f, f ∈ [(N.sig key 1 k, N.sigO ws key 1 k), (N.sig key 2 k, N.sigO ws key 2 k)] → f.1 l = f.1 m := fun f hf => e f (List.mem_cons_of_mem _ (List.mem_flatMap.2 ⟨k, hk, hf⟩))
      have : j = 1 ∨ j = 2 := by omega
      rcases this with rfl | rfl
      · exact g (N.sig key 1 k, N.sigO ws key 1 k) (by simp)
      · exact g (N.sig key 2 k, N.sigO ws key 2 k) (by simp)
    have b := R.same_base (h l hl) (h m hm) r 3 (by omega) (by omega) fun j a b => s j a (by omega)
    refine Classical.byContradiction fun ne => ?_
    obtain ⟨l1, l2, l3⟩ := N.lab_base 3 (by omega) l
    obtain ⟨m1, m2, m3⟩ := N.lab_base 3 (by omega) m
    rw [b] at l1 l2 l3
    have low : ∀ j, j < 3 → (N.lab l).v j = (N.lab m).v j := fun j hj => (l1 j hj).trans (m1 j hj).symm
    have kk : ∀ j, j ≤ 3 → (j ≤ (N.lab l).k ↔ j ≤ (N.lab m).k) := fun j hj => (l3 j hj).trans (m3 j hj).symm
    rcases Nat.le_total ((N.lab l).v 3) ((N.lab m).v 3) with q | q
    · refine an l hl m hm ne fun j hj => ⟨?_, (kk j hj).1⟩
      by_cases j3 : j = 3
      · rw [j3]; exact q
      · exact Nat.le_of_eq (low j (by omega))
    · refine an m hm l hl (Ne.symm ne) fun j hj => ⟨?_, (kk j hj).2⟩
      by_cases j3 : j = 3
      · rw [j3]; exact q
      · exact Nat.le_of_eq (low j (by omega)).symm
variable {eds : List (P × P)} {outs qs : List P} {fd : P → Option P} {inp : P → Bool} {nodes : Nat}
def lgZ (N : Net P W) (ws : List W) (fd : P → Option P) (keys : List P) : Nat := lg (1 + k0Of N ws) + sumOn (fun k => lg (1 + bOf N ws fd 1 k) + lg (1 + bOf N ws fd 2 k)) keys
theorem fZ_lens (keys : List P) : (N.fZ ws (keyOf N fd) keys).map (fun f => f.2.length) = (1 + k0Of N ws) :: keys.flatMap (fun k => [1 + bOf N ws fd 1 k, 1 + bOf N ws fd 2 k]) := by
  unfold Net.fZ
  rw [List.map_cons, rootO_len, List.map_flatMap]
  simp only [List.map_cons, List.map_nil, sigO_len]
theorem fZ_lg (keys : List P) : sumOn lg ((N.fZ ws (keyOf N fd) keys).map (fun f => f.2.length)) = lgZ N ws fd keys := by
  have e : sumOn (fun k => sumOn lg [1 + bOf N ws fd 1 k, 1 + bOf N ws fd 2 k]) keys = sumOn (fun k => lg (1 + bOf N ws fd 1 k) + lg (1 + bOf N ws fd 2 k)) keys :=
    sumOn_congr fun k _ => by simp only [sumOn_cons, sumOn_nil]; omega
  rw [fZ_lens, sumOn_cons, sumOn_flat, e]
  rfl
theorem lgZ_le : 4 * lgZ N ws fd (outs ++ qs) ≤ totalG N ws eds outs qs fd := by
  have h1 : 4 * sumOn (fun k => lg (1 + bOf N ws fd 1 k) + lg (1 + bOf N ws fd 2 k)) outs ≤ sumOn (gO N ws eds fd) outs := by
    rw [← sumOn_mul]; exact sumOn_le fun a _ => by unfold gO; omega
  have h2 : 4 * sumOn (fun k => lg (1 + bOf N ws fd 1 k) + lg (1 + bOf N ws fd 2 k)) qs ≤ sumOn (gQ N ws fd) qs := by
    rw [← sumOn_mul]; exact sumOn_le fun a _ => by unfold gQ; omega
  unfold lgZ totalG
  rw [sumOn_append]
  omega
theorem Run.Lists.pos_Z (_A : R.Lists ws eds outs qs fd inp nodes) : ∀ x ∈ (N.fZ ws (keyOf N fd) (outs ++ qs)).map (fun f => f.2.length), 1 ≤ x := by
  rw [fZ_lens]
  intro x hx
  rcases List.mem_cons.1 hx with rfl | hx
  · omega
  · obtain ⟨k, _, hx⟩ := List.mem_flatMap.1 hx
    simp at hx; omega
theorem Run.Lists.keeps [DecidableEq W] (A : R.Lists ws eds outs qs fd inp nodes) (L : List (List (Mv P W))) (nd : L.Nodup) (h : ∀ l ∈ L, R.E l) (an : ∀ l ∈ L, ∀ m ∈ L, l ≠ m → ¬ Lab.le 3 (N.lab l) (N.lab m)) : L.length ≤ 1263007198127 := by
  have h1 := A.K.boundZ L nd h an
  have h2 := prod_lg_le _ A.pos_Z h1 (Nat.le_of_eq (fZ_lg (outs ++ qs)))
  have h3 := lgZ_le (N := N) (ws := ws) (eds := eds) (outs := outs) (qs := qs) (fd := fd)
  have h4 := A.C.total_with (o := N.start) (x := 0) (c := 0) (.inr (Nat.le_refl _))
  refine le_402 (s := 32160) ?_ rfl
  calc (L.length ^ 200) ^ 4 ≤ (2 ^ lgZ N ws fd (outs ++ qs)) ^ 4 := Nat.pow_le_pow_left h2 4
    _ = 2 ^ (lgZ N ws fd (outs ++ qs) * 4) := by rw [← Nat.pow_mul]
    _ ≤ 2 ^ 32160 := Nat.pow_le_pow_right (by omega) (by omega)
end
section
variable {g : Gr} {fr : Pt} {st : Prop} {Q : List Ent} {i j : Nat} {K : Pt → List Way}
theorem Kn.few (T : Kn g fr st Q K) (B : BInv g fr st Q i j) (G : GOK g) (hf : (g.dep fr).isSome) (F : GFew g) (q : Pt) : (K q).length ≤ 1263007198127 := by
  obtain ⟨ws, eds, outs, qs, A⟩ := G.lists hf F
  have A := A st Q i j B
  have of : ∀ w, w ∈ K q → ∃ l : List (Mv Pt Wid), EOf Q l ∧ IsLab (g.dp fr) (g.dp q) w ((g.net fr).lab l) := fun w hw => by
    obtain ⟨a, e, h1, _, rfl, rfl⟩ := T.of q w hw
    exact ⟨e.mv, ⟨a, e, h1, rfl⟩, (B.form G hf a e h1).2.2.1⟩
  obtain ⟨f, hF⟩ : ∃ f : Way → List (Mv Pt Wid), ∀ w, w ∈ K q → EOf Q (f w) ∧ IsLab (g.dp fr) (g.dp q) w ((g.net fr).lab (f w)) := by
    have of2 : ∀ w, ∃ l : List (Mv Pt Wid), w ∈ K q → EOf Q l ∧ IsLab (g.dp fr) (g.dp q) w ((g.net fr).lab l) := fun w => by
      by_cases hw : w ∈ K q
      · obtain ⟨l, hl⟩ := of w hw
        exact ⟨l, fun _ => hl⟩
      · exact ⟨[], fun h => absurd h hw⟩
    obtain ⟨f, h⟩ := Classical.axiomOfChoice of2
    exact ⟨f, h⟩
  have p3 : (g.dp q).toNat ≤ 3 := by have := G.dp3 q; omega
  have key : ∀ v, v ∈ K q → ∀ w, w ∈ K q → pl v w (g.dp fr) = false → ¬ Lab.le 3 ((g.net fr).lab (f v)) ((g.net fr).lab (f w)) := fun v hv w hw hp hl => by
    obtain ⟨_, v2⟩ := hF v hv
    obtain ⟨_, w2⟩ := hF w hw
    have c : (((g.dp q).toNat : Nat) : Int) ≤ g.dp q := by have := G.dp3 q; omega
    have h1 := (v2.le w2 c).1 (Lab.le_mono hl p3)
    have h2 := (leq_lab v2.1 w2.1).2 h1
    unfold pl at hp
    rw [h2] at hp
    cases hp
  have an := T.an q
  have nd : ((K q).map f).Nodup := by
    refine List.nodup_iff_pairwise_ne.2 ((List.pairwise_map).2 (an.imp_of_mem fun {v w} hv hw hp e => ?_))
    refine key v hv w hw hp.1 ?_
    rw [e]; exact Lab.le_refl _ _
  have := A.keeps ((K q).map f) nd (fun l hl => by obtain ⟨w, hw, rfl⟩ := List.mem_map.1 hl; exact (hF w hw).1) (fun l hl m hm ne => by
    obtain ⟨v, hv, rfl⟩ := List.mem_map.1 hl
    obtain ⟨w, hw, rfl⟩ := List.mem_map.1 hm
    have vw : v ≠ w := fun e => ne (by rw [e])
    obtain ⟨a, ha⟩ := List.getElem?_of_mem hv
    obtain ⟨b, hb⟩ := List.getElem?_of_mem hw
    obtain ⟨a1, a2⟩ := List.getElem?_eq_some_iff.1 ha
    obtain ⟨b1, b2⟩ := List.getElem?_eq_some_iff.1 hb
    have pp := List.pairwise_iff_getElem.1 an
    rcases Nat.lt_trichotomy a b with c | c | c
    · have := (pp a b a1 b1 c).1
      rw [a2, b2] at this
      exact key v hv w hw this
    · subst c; exact absurd (a2.symm.trans b2) vw
    · have := (pp b a b1 a1 c).2
      rw [a2, b2] at this
      exact key v hv w hw this)
  rwa [List.length_map] at this
end
end Go.Proofs.Yteklohamkmiphaa
namespace Go.Proofs.Yteklohamkmiphaa
open Go.RowKit

/-- a step in memory: whereto, by what -/
structure Sm where
  q : Pt
  b : Pm
def Sm.zero : Sm := ⟨⟨0, false, 0⟩, Pm.zero⟩
instance : Inhabited Sm := ⟨Sm.zero⟩
def spC (x : Sm) : List Value := [.int .i64 x.q.n, .bool x.q.o, .int .i64 x.q.p, .int .i64 x.b.w.leave, .int .u32 x.b.w.add, .slice x.b.A x.b.w.enter.length x.b.c]
theorem spC_len (x : Sm) : (spC x).length = 6 := rfl
def Sm.v (x : Sm) : Pt × Way := (x.q, x.b.w)
/-- what a move is: whereto, by what -/
def Gr.mvv (g : Gr) (m : Mv Pt Wid) : Pt × Way := (g.tgt m, g.mw m)
/-- the steps from each place, as the call has made them: nobody writes to them -/
structure StR (w : World) (b : Nat) (g : Gr) : Prop where
  ex : ∃ L ck, TM w b L ck ∧ (∀ q, (getE L q = none ∧ g.mvs q = []) ∨ ∃ (A : Option Addr) (c : Nat) (xs : List Sm), getE L q = some (.slice A xs.length c) ∧ Sl w 6 A xs.length c (xs.flatMap spC) ∧ (∀ x ∈ xs, PmR w x.b) ∧ xs.map Sm.v = (g.mvs q).map g.mvv) ∧ L.length ≤ 2000
theorem StR.ext {w w' : World} {b : Nat} {g : Gr} (h : StR w b g) (e : Ext w w') : StR w' b g := by
  obtain ⟨L, ck, h1, h2, h3⟩ := h.ex
  refine ⟨L, ck, h1.ext e, fun q => ?_, h3⟩
  rcases h2 q with h | ⟨A, c, xs, a1, a2, a3, a4⟩
  · exact .inl h
  · exact .inr ⟨A, c, xs, a1, a2.ext e, fun x hx => (a3 x hx).ext e, a4⟩
/-- steps are looked up -/
theorem StR.look {w : World} {b : Nat} {g : Gr} (h : StR w b g) {T te : TypeId} (ht : Try.prog.underlying T = some (.map 27 te)) (hz : ∀ w : World, (zeroValue te).run Try.prog w = .ok (.slice none 0 0) w) {q : Pt} (hq : P64 q) :
    ∃ (A : Option Addr) (c : Nat) (xs : List Sm), (∀ w', Ext w w' → (Instr.lookup T (.map (some b)) (ptV q) false).run Try.prog w' = .ok (.slice A xs.length c) w') ∧ Sl w 6 A xs.length c (xs.flatMap spC) ∧ (∀ x ∈ xs, PmR w x.b) ∧ xs.map Sm.v = (g.mvs q).map g.mvv := by
  obtain ⟨L, ck, h1, h2, _⟩ := h.ex
  rcases h2 q with ⟨a1, a2⟩ | ⟨A, c, xs, a1, a2, a3, a4⟩
  · refine ⟨none, 0, [], fun w' e => ?_, Sl.nil w 6, fun x hx => (nomatch hx), by rw [a2]; rfl⟩
    have := (h1.ext e).look hq ht (hz w')
    rw [a1] at this
    exact this
  · refine ⟨A, c, xs, fun w' e => ?_, a2, a3, a4⟩
    have := (h1.ext e).look hq ht (hz w')
    rw [a1] at this
    exact this

/-! ### the least ways so far -/
/-- a way whose counters lie in memory that a call has made for it -/
def Wy (w0 w : World) (x : Pm) : Prop := Own w w0.heap.size 45 1 x.A x.w.enter.length x.c (wds x.w.enter)
section
variable {w0 w w' : World}
theorem Wy.pmR {x : Pm} (h : Wy w0 w x) : PmR w x := Own.sl h
theorem Wy.ext {x : Pm} (h : Wy w0 w x) (e : Ext w w') : Wy w0 w' x := Own.ext h e
theorem Wy.upd {x : Pm} {S : Nat → Prop} (h : Wy w0 w x) (u : Upd S w w') (hn : ∀ k, S k → ¬ Ty w k 45) : Wy w0 w' x := Own.upd h u fun k hk q => hn k q (Own.ty h hk)
/-- the block that a list's header names -/
def blkV : Option Value → Option Nat
  | some (.slice A _ c) => blk A c
  | _ => none
def nilS : Value := .slice none 0 0
/-- a place's list -/
structure KAt (w0 w : World) (v : Option Value) (l : List Pm) (A : Option Addr) (c : Nat) : Prop where
  hd : v.getD nilS = .slice A l.length c
  ow : Own w w0.heap.size 47 3 A l.length c (l.flatMap pmC)
  bk : blkV v = blk A c
structure KmR (w0 w : World) (kb : Nat) (L : List Pe) (ck : Nat) (K : Pt → List Pm) : Prop where
  tm : TM w kb L ck
  kb0 : w0.heap.size ≤ kb
  ls : ∀ q, ∃ A c, KAt w0 w (getE L q) (K q) A c
  wy : ∀ q, ∀ x ∈ K q, Wy w0 w x
  ap : ∀ q r k, q ≠ r → blkV (getE L q) = some k → blkV (getE L r) ≠ some k
variable {kb ck : Nat} {L : List Pe} {K : Pt → List Pm}
/-- the blocks that are written to -/
def kmB (kb : Nat) (L : List Pe) (k : Nat) : Prop := k = kb ∨ ∃ q, blkV (getE L q) = some k
theorem KmR.ty (h : KmR w0 w kb L ck K) {q : Pt} {k : Nat} (hk : blkV (getE L q) = some k) : Ty w k 47 := by
  obtain ⟨A, c, a⟩ := h.ls q
  rw [a.bk] at hk
  exact a.ow.ty hk
theorem KmR.lt (h : KmR w0 w kb L ck K) {k : Nat} (hk : kmB kb L k) : w0.heap.size ≤ k ∧ k < w.heap.size := by
  rcases hk with rfl | ⟨q, hk⟩
  · exact ⟨h.kb0, h.tm.lt⟩
  · obtain ⟨A, c, a⟩ := h.ls q
    rw [a.bk] at hk
    exact a.ow.lt k hk
theorem KmR.ne_kb (h : KmR w0 w kb L ck K) {q : Pt} : blkV (getE L q) ≠ some kb := fun e => h.tm.not_ty _ (h.ty e)
theorem KmR.not_u32 (h : KmR w0 w kb L ck K) {k : Nat} (hk : kmB kb L k) : ¬ Ty w k 45 := by
  rcases hk with rfl | ⟨q, hk⟩
  · exact h.tm.not_ty _
  · exact fun e => absurd (e.ne (h.ty hk)) (by decide)
theorem KmR.ext (h : KmR w0 w kb L ck K) (e : Ext w w') : KmR w0 w' kb L ck K :=
  ⟨h.tm.ext e, h.kb0, fun q => by obtain ⟨A, c, a⟩ := h.ls q; exact ⟨A, c, a.hd, a.ow.ext e, a.bk⟩, fun q x hx => (h.wy q x hx).ext e, h.ap⟩
theorem KmR.upd {S : Nat → Prop} (h : KmR w0 w kb L ck K) (u : Upd S w w') (hS : ∀ k, kmB kb L k → ¬ S k) (hn : ∀ k, S k → ¬ Ty w k 45) : KmR w0 w' kb L ck K :=
  ⟨h.tm.upd u (hS _ (.inl rfl)), h.kb0, fun q => by obtain ⟨A, c, a⟩ := h.ls q; exact ⟨A, c, a.hd, a.ow.upd u (fun k hk => hS k (.inr ⟨q, by rw [a.bk]; exact hk⟩)), a.bk⟩, fun q x hx => (h.wy q x hx).upd u hn, h.ap⟩
/-- one place's list is turned within its block -/
theorem KmR.turn (h : KmR w0 w kb L ck K) {q : Pt} {A : Option Addr} {c : Nat} (a : KAt w0 w (getE L q) (K q) A c) (u : Upd (fun k => blk A c = some k) w w') {l : List Pm} (hl : l.length = (K q).length) (o : Own w' w0.heap.size 47 3 A l.length c (l.flatMap pmC)) (hy : ∀ x ∈ l, x ∈ K q) :
    KmR w0 w' kb L ck (fun r => if r = q then l else K r) := by
  have nb : ¬ blk A c = some kb := fun e => h.ne_kb (q := q) (a.bk.trans e)
  have nu : ∀ k, blk A c = some k → ¬ Ty w k 45 := fun k hk => h.not_u32 (.inr ⟨q, a.bk.trans hk⟩)
  refine ⟨h.tm.upd u nb, h.kb0, fun r => ?_, fun r x hx => ?_, h.ap⟩
  · by_cases e : r = q
    · subst e
      rw [if_pos rfl]
      exact ⟨A, c, by rw [hl]; exact a.hd, o, a.bk⟩
    · rw [if_neg e]
      obtain ⟨A', c', a'⟩ := h.ls r
      exact ⟨A', c', a'.hd, a'.ow.upd u (fun k hk q2 => h.ap r q k e (a'.bk.trans hk) (a.bk.trans q2)), a'.bk⟩
  · by_cases e : r = q
    · subst e
      rw [if_pos rfl] at hx
      exact (h.wy r x (hy x hx)).upd u nu
    · rw [if_neg e] at hx
      exact (h.wy r x hx).upd u nu
/-- one place's list is made anew, then put back -/
theorem KmR.put {w1 : World} (h : KmR w0 w kb L ck K) {q : Pt} {A A' : Option Addr} {c c' ck' : Nat} {L' : List Pe} (a : KAt w0 w (getE L q) (K q) A c) (u : Upd (fun k => blk A c = some k) w w1) {l : List Pm} (o : Own w1 w0.heap.size 47 3 A' l.length c' (l.flatMap pmC)) (hy : ∀ x ∈ l, Wy w0 w1 x)
    (hb : ∀ k, blk A' c' = some k → blk A c = some k ∨ w.heap.size ≤ k) (m : TM w' kb L' ck') (pp : Put L q (.slice A' l.length c') L') (gm : w1.grownBy w' (some kb)) : KmR w0 w' kb L' ck' (fun r => if r = q then l else K r) := by
  have nb : ¬ blk A c = some kb := fun e => h.ne_kb (q := q) (a.bk.trans e)
  have nu : ∀ k, blk A c = some k → ¬ Ty w k 45 := fun k hk => h.not_u32 (.inr ⟨q, a.bk.trans hk⟩)
  have tm1 : TM w1 kb L ck := h.tm.upd u nb
  have um : Upd (fun k => k = kb) w1 w' := (Upd.refl _ w1).grown gm (fun k hk => .inl (by injection hk with hk; exact hk.symm))
  have nk : ∀ k, k = kb → ¬ Ty w1 k 45 := fun k e => by subst e; exact tm1.not_ty _
  have nk3 : ∀ k, k = kb → ¬ Ty w1 k 47 := fun k e => by subst e; exact tm1.not_ty _
  refine ⟨m, h.kb0, fun r => ?_, fun r x hx => ?_, fun r s k rs hr hs => ?_⟩
  · rw [pp.get r]
    by_cases e : r = q
    · subst e
      rw [if_pos rfl, if_pos rfl]
      exact ⟨A', c', rfl, o.upd um (fun k hk e => nk3 k e (o.ty hk)), rfl⟩
    · rw [if_neg e, if_neg e]
      obtain ⟨A2, c2, a2⟩ := h.ls r
      have o2 := a2.ow.upd u (fun k hk q2 => h.ap r q k e (a2.bk.trans hk) (a.bk.trans q2))
      exact ⟨A2, c2, a2.hd, o2.upd um (fun k hk e => nk3 k e (o2.ty hk)), a2.bk⟩
  · by_cases e : r = q
    · subst e
      rw [if_pos rfl] at hx
      exact (hy x hx).upd um nk
    · rw [if_neg e] at hx
      exact ((h.wy r x hx).upd u nu).upd um nk
  · rw [pp.get] at hr hs
    have far : ∀ r, r ≠ q → blkV (getE L r) = some k → blk A' c' ≠ some k := fun r e h1 h2 => by
      rcases hb k h2 with q1 | q1
      · exact h.ap r q k e h1 (a.bk.trans q1)
      · have := (h.lt (.inr ⟨r, h1⟩)).2; omega
    by_cases e : r = q
    · rw [if_pos e] at hr
      rw [if_neg (fun e2 => rs (e.trans e2.symm))] at hs
      exact far s (fun e2 => rs (e.trans e2.symm)) hs hr
    · rw [if_neg e] at hr
      by_cases e2 : s = q
      · rw [if_pos e2] at hs
        exact far r e hr hs
      · rw [if_neg e2] at hs
        exact h.ap r s k rs hr hs
end
end Go.Proofs.Yteklohamkmiphaa
