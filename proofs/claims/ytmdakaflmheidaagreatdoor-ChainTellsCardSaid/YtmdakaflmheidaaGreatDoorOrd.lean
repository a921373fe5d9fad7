/- Regions that draw their order: (1) all operations only read, callees at most make new memory; (2) a fixed order serves every order. Conditions: none; each theorem states its own. -/
import Derived.Test.YtmdakaflmheidaaGreatDoorBase
import Derived.OrdersHeld
namespace Go.Proofs.YtmdakaflmheidaaGreatDoor
open Go.RowKit

/-- the worlds that have grown out of w -/
structure Xt (w : World) where
  W : World
  x : Ext w W

instance Xt.any (w : World) : Nonempty (Xt w) := ⟨⟨w, Ext.refl w⟩⟩

/-- a region that draws its order and only reads; callees may make new memory: walked in the order of the text, in whatever world has grown out of the first -/
theorem wp_region_ext {P : Program} {id : Nat} {Q : Exit → Act → World → Prop} {a : Act} {w : World} {l : List Oper} (hm : P.follows .mixedOrders = true) (hB : Region.lexB .any l.toArray = true)
    (h : wpQuiet P l.toArray (fun w' => ∃ y : Xt w, w' = y.W) (fun a' => ∀ w', (∃ y : Xt w, w' = y.W) → Q .normal a' w') l a) : (Code.region id l.toArray true).wp P Q a w :=
  wp_region_quiet (C := fun w' => ∃ y : Xt w, w' = y.W) hm hB ⟨⟨_, (Ext.refl w).drew⟩, rfl⟩ (by simpa using h)

/-- a callee's contract in such a region -/
theorem call_ext {P : Program} {f : FuncId} {args : Array Value} {w : World} {y : Xt w} {v : Value} (h : Calls P f args y.W fun e w' => e = .returned v ∧ Ext y.W w') :
    Calls P f args y.W fun e w'' => e = .returned v ∧ ∃ z : Xt w, w'' = z.W :=
  h.mono fun _ w' ⟨he, hx⟩ => ⟨he, ⟨w', y.x.trans hx⟩, rfl⟩
theorem call_same {P : Program} {f : FuncId} {args : Array Value} {w : World} {y : Xt w} {v : Value} (h : Calls P f args y.W fun e w' => e = .returned v ∧ y.W = w') :
    Calls P f args y.W fun e w'' => e = .returned v ∧ ∃ z : Xt w, w'' = z.W :=
  h.mono fun _ _ ⟨he, hx⟩ => ⟨he, y, hx.symm⟩

/-! ### a fixed order -/
/-- operations that yield a value and do nothing else -/
def isFlo : Op → Bool
  | .move _ | .assign _ | .pick .. | .build .. | .load .. | .nilCheck _ | .binOp .. | .unOp .. | .convert .. | .slice .. | .fieldAddr .. | .field .. | .indexAddr .. | .index .. | .lookup .. | .extract .. | .makeInterface .. | .makeFunc .. => true
  | .call { callee := .builtin .len, .. } | .call { callee := .builtin .cap, .. } | .call { callee := .builtin .min, .. } | .call { callee := .builtin .max, .. } => true
  | _ => false

theorem value_of_bind {P : Program} {s : Sem Value} {w w' : World} {r : Next} (h : (do let x ← s; pure (Next.value x) : Sem Next).run P w = .ok r w') : ∃ v, r = .value v := by
  simp only [Sem.run_bind] at h
  cases hs : s.run P w with
  | ok v w1 => rw [hs] at h; simp only [Result.andThen_ok, Sem.run_pure, Result.ok.injEq] at h; exact ⟨v, h.1.symm⟩
  | halt x w1 => rw [hs] at h; simp [Result.andThen] at h

theorem flo_value {P : Program} {o : Oper} (ho : isFlo o.op = true) {ρ : Operand → Value} {w w' : World} {r : Next} (h : (execOp ρ o).run P w = .ok r w') : ∃ v, r = .value v := by
  obtain ⟨dst, op, type, pos, after, guard⟩ := o
  cases op with
  | move x => simp only [execOp, Sem.run_pure, Result.ok.injEq] at h; exact ⟨_, h.1.symm⟩
  | assign x => simp only [execOp, Sem.run_pure, Result.ok.injEq] at h; exact ⟨_, h.1.symm⟩
  | pick c x y =>
    simp only [execOp, Sem.run_bind] at h
    cases hs : (asBool (ρ c)).run P w with
    | ok v w1 => rw [hs] at h; simp only [Result.andThen_ok, Sem.run_pure, Result.ok.injEq] at h; exact ⟨_, h.1.symm⟩
    | halt x w1 => rw [hs] at h; simp [Result.andThen] at h
  | nilCheck x =>
    simp only [execOp] at h
    have key : ∀ v : Value, (pure (Next.value v) : Sem Next).run P w = .ok r w' → ∃ v, r = .value v := fun v hh => by
      simp only [Sem.run_pure, Result.ok.injEq] at hh; exact ⟨_, hh.1.symm⟩
    have bad : (runtimePanic RuntimeError.nilDeref : Sem Next).run P w = .ok r w' → ∃ v, r = .value v := fun hh => by
      simp [runtimePanic] at hh
    split at h
    · exact bad h
    · exact bad h
    · exact bad h
    · split at h
      · exact bad h
      · simp only [Sem.run_bind] at h
        cases h1 : (Sem.run P program w) with
        | halt x w1 => rw [h1] at h; simp [Result.andThen] at h
        | ok p w1 =>
          rw [h1] at h
          simp only [Result.andThen_ok] at h
          cases hh : (nilAhead (p.types.size + Made.depth) _ _ _).run P w1 with
          | halt x w2 => rw [hh] at h; simp [Result.andThen] at h
          | ok b w2 =>
            rw [hh] at h
            simp only [Result.andThen_ok] at h
            split at h
            · simp [unsupported, Result.andThen] at h
            · simp only [Sem.run_pure, Result.ok.injEq] at h; exact ⟨_, h.1.symm⟩
      · exact key _ h
    · exact key _ h
  | build t parts => exact value_of_bind h
  | load t x => exact value_of_bind h
  | binOp op t x y u => exact value_of_bind h
  | unOp op t x => exact value_of_bind h
  | convert s d x => exact value_of_bind h
  | slice t x lo hi mx => exact value_of_bind h
  | fieldAddr s x f => exact value_of_bind h
  | field t x f => exact value_of_bind h
  | indexAddr t x i => exact value_of_bind h
  | index t x i => exact value_of_bind h
  | lookup t x i ok => exact value_of_bind h
  | extract t i => exact value_of_bind h
  | makeInterface t x => exact value_of_bind h
  | makeFunc f a b => exact value_of_bind h
  | call c =>
    obtain ⟨callee, args, ats⟩ := c
    cases callee with
    | builtin b =>
      have e : execOp ρ { dst, op := .call { callee := .builtin b, args, argTypes := ats }, type, pos, after, guard } = builtin b ats type (args.map fun | .const _ => true | _ => false) (args.map ρ) := rfl
      rw [e] at h
      cases b <;> first | exact value_of_bind h | (simp [isFlo] at ho)
    | value f => simp [isFlo] at ho
    | invoke r m => simp [isFlo] at ho
  | _ => simp [isFlo] at ho

section
variable {P : Program} {ops : Array Oper} {Q : Exit → Act → World → Prop} {bs : Array Nat}

/-- operation i comes ahead of operation j in every order -/
def ancB (ops : Array Oper) (bs : Array Nat) (i j : Nat) : Bool := decide (i < ops.size) && (bs.getD j 0).testBit i
def ancOkB (ops : Array Oper) (bs : Array Nat) : Bool :=
  (List.range ops.size).all fun j => (List.range ops.size).all fun i => !ancB ops bs i j ||
    match ops[j]? with
    | some o => o.after.toList.any fun e => Region.binds .any e && (e.on == i || ancB ops bs i e.on)
    | none => false
theorem ancOk_spec (h : ancOkB ops bs = true) {i j : Nat} (hij : ancB ops bs i j = true) {o : Oper} (ho : ops[j]? = some o) :
    ∃ e ∈ o.after, Region.binds .any e = true ∧ (e.on = i ∨ ancB ops bs i e.on = true) := by
  have hj : j < ops.size := (Array.getElem?_eq_some_iff.1 ho).1
  have hi : i < ops.size := by
    unfold ancB at hij
    simp only [Bool.and_eq_true, decide_eq_true_eq] at hij
    exact hij.1
  unfold ancOkB at h
  have h1 := List.all_eq_true.1 (List.all_eq_true.1 h j (List.mem_range.2 hj)) i (List.mem_range.2 hi)
  rw [hij, ho] at h1
  simp only [Bool.not_true, Bool.false_or, List.any_eq_true, Bool.and_eq_true, Bool.or_eq_true, beq_iff_eq] at h1
  obtain ⟨e, he, hb, hh⟩ := h1
  exact ⟨e, Array.mem_toList_iff.1 he, hb, hh⟩

def Closed (ops : Array Oper) (bs : Array Nat) (listed : Array Bool) : Prop := ∀ j, listed.getD j false = true → ∀ i, ancB ops bs i j = true → listed.getD i false = true

theorem getD_set_self {listed : Array Bool} {j : Nat} (h : listed.getD j true = false) : (listed.setIfInBounds j true).getD j false = true := by
  have hlt : j < listed.size := by
    rcases Nat.lt_or_ge j listed.size with h' | h'
    · exact h'
    · simp [Array.getElem?_eq_none h'] at h
  simp [hlt]

theorem ready_anc (hok : ancOkB ops bs = true) {listed : Array Bool} (hc : Closed ops bs listed) {j i : Nat} (hj : j ∈ Region.ready .any ops listed) (hij : ancB ops bs i j = true) : listed.getD i false = true := by
  obtain ⟨_, o, ho, hall⟩ := mem_ready.1 hj
  obtain ⟨e, he, hb, hh⟩ := ancOk_spec hok hij ho
  have h1 := hall e he hb
  rcases hh with rfl | hh
  · exact h1
  · exact hc _ h1 _ hh

theorem Closed.add (hok : ancOkB ops bs = true) {listed : Array Bool} (hc : Closed ops bs listed) {j : Nat} (hj : j ∈ Region.ready .any ops listed) : Closed ops bs (listed.setIfInBounds j true) := by
  intro k hk i hik
  by_cases hjk : j = k
  · subst hjk
    exact getD_set_true (ready_anc hok hc hj hik)
  · rw [getD_set_ne false hjk] at hk
    exact getD_set_true (hc k hk i hik)

/-- whatever order is picked from here on, and operations of the set X at most make new memory -/
def wpX (P : Program) (ops : Array Oper) (Q : Exit → Act → World → Prop) (X : Nat → Bool) : Nat → Array Bool → Act → World → Prop
  | 0, listed, a, w => Region.ready .any ops listed = [] ∧ Q .normal a w
  | fuel + 1, listed, a, w =>
    (Region.ready .any ops listed = [] → Q .normal a w) ∧
    ∀ i ∈ Region.ready .any ops listed, wpOp P ops Q i (fun a' w' => (X i = true → Ext w w') ∧ wpX P ops Q X fuel (listed.setIfInBounds i true) a' w') a w

theorem wpAny_of_X {X : Nat → Bool} : ∀ (fuel : Nat) (listed : Array Bool) (a : Act) (w : World), wpX P ops Q X fuel listed a w → wpAny P .any ops Q fuel listed a w
  | 0, _, _, _, h => h
  | fuel + 1, _, _, _, h => ⟨h.1, fun i hi => wpOp_mono (fun a' w' h' => wpAny_of_X fuel _ a' w' h'.2) (h.2 i hi)⟩

theorem wpX_done {X : Nat → Bool} {listed : Array Bool} {a : Act} {w : World} (hr : Region.ready .any ops listed = []) (h : Q .normal a w) : ∀ fuel, wpX P ops Q X fuel listed a w
  | 0 => ⟨hr, h⟩
  | _ + 1 => ⟨fun _ => h, by rw [hr]; simp⟩

theorem yields_later {o : Oper} {v : Value} {a : Act} {w w' : World} (h : YieldsIf P ops (Ext w) o v a) (x : Ext w w') : YieldsIf P ops (Ext w') o v a :=
  h.imp (fun ⟨h1, h2⟩ => ⟨h1, fun u hu => h2 u (x.trans hu)⟩) id

theorem wpX_first {X : Nat → Bool} (hok : ancOkB ops bs = true) {i : Nat} {oi : Oper} {v : Value} (hi : ops[i]? = some oi) (hsel : ∀ (j : Nat) (o : Oper) cs b, ops[j]? = some o → o.op ≠ .select cs b)
    (hQ : ∀ c a d v w, Q (.panic c) (a.put d v) w → Q (.panic c) a w) :
    ∀ (fuel : Nat) (listed : Array Bool) (a : Act) (w : World), Closed ops bs listed →
      (∀ j oj, ops[j]? = some oj → j ≠ i → listed.getD j true = false → ancB ops bs i j = false → oi.apart ops oj = true ∧ X j = true) →
      i ∈ Region.ready .any ops listed → YieldsIf P ops (Ext w) oi v a →
      wpX P ops Q X fuel (listed.setIfInBounds i true) (a.put oi.dst v) w → wpX P ops Q X (fuel + 1) listed a w := by
  intro fuel
  induction fuel with
  | zero =>
    intro listed a w hcl _ hr hy H
    refine ⟨fun h => (by rw [h] at hr; cases hr), fun j hj => ?_⟩
    by_cases hji : j = i
    · subst hji; exact hy.wpOp hi (Ext.refl w) ⟨fun _ => Ext.refl w, H⟩
    · have := ready_mono hj hji
      rw [H.1] at this
      cases this
  | succ fuel ih =>
    intro listed a w hcl hfree hr hy H
    refine ⟨fun h => (by rw [h] at hr; cases hr), fun j hj => ?_⟩
    by_cases hji : j = i
    · subst hji; exact hy.wpOp hi (Ext.refl w) ⟨fun _ => Ext.refl w, H⟩
    · have h1 := H.2 j (ready_mono hj hji)
      obtain ⟨hjun, oj, hoj, hall⟩ := mem_ready.1 hj
      have hiun := (mem_ready.1 hr).1
      have hnot : ancB ops bs i j = false := by
        cases hb : ancB ops bs i j with
        | false => rfl
        | true =>
          have h2 := ready_anc hok hcl hj hb
          rcases Nat.lt_or_ge i listed.size with h' | h'
          · simp [h'] at h2 hiun; rw [hiun] at h2; cases h2
          · simp [Array.getElem?_eq_none h'] at h2
      obtain ⟨hap, hX⟩ := hfree j oj hoj hji hjun hnot
      have h2 := wpOp_putIf hoj hap (fun cs b => hsel i oi cs b hi) (fun cs b => hsel j oj cs b hoj) (fun c a w => hQ c a _ _ w) hy h1
      have hfree' : ∀ k ok, ops[k]? = some ok → k ≠ i → (listed.setIfInBounds j true).getD k true = false → ancB ops bs i k = false → oi.apart ops ok = true ∧ X k = true := fun k ok hk hki hun hno => by
        refine hfree k ok hk hki ?_ hno
        by_cases hjk : j = k
        · subst hjk; exact hjun
        · rw [getD_set_ne true hjk] at hun; exact hun
      refine wpOp_mono (fun a' w' h3 => ⟨h3.2.1, ih (listed.setIfInBounds j true) a' w' (hcl.add hok hj) hfree' (ready_mono hr (Ne.symm hji)) (yields_later h3.1 (h3.2.1 hX)) ?_⟩) h2
      rw [Array.setIfInBounds_comm _ _ hji]
      exact h3.2.2

theorem wpX_first_pure {X : Nat → Bool} (hok : ancOkB ops bs = true) {i : Nat} {oi : Oper} {v : Value} (hi : ops[i]? = some oi) (hsel : ∀ (j : Nat) (o : Oper) cs b, ops[j]? = some o → o.op ≠ .select cs b)
    (hQ : ∀ c a d v w, Q (.panic c) (a.put d v) w → Q (.panic c) a w) :
    ∀ (fuel : Nat) (listed : Array Bool) (a : Act) (w : World), Closed ops bs listed →
      (∀ j oj, ops[j]? = some oj → j ≠ i → listed.getD j true = false → ancB ops bs i j = false → oi.apart ops oj = true) →
      i ∈ Region.ready .any ops listed → YieldsIf P ops (fun _ => True) oi v a →
      wpX P ops Q X fuel (listed.setIfInBounds i true) (a.put oi.dst v) w → wpX P ops Q X (fuel + 1) listed a w := by
  intro fuel
  induction fuel with
  | zero =>
    intro listed a w hcl _ hr hy H
    refine ⟨fun h => (by rw [h] at hr; cases hr), fun j hj => ?_⟩
    by_cases hji : j = i
    · subst hji; exact hy.wpOp hi trivial ⟨fun _ => Ext.refl w, H⟩
    · have := ready_mono hj hji
      rw [H.1] at this
      cases this
  | succ fuel ih =>
    intro listed a w hcl hfree hr hy H
    refine ⟨fun h => (by rw [h] at hr; cases hr), fun j hj => ?_⟩
    by_cases hji : j = i
    · subst hji; exact hy.wpOp hi trivial ⟨fun _ => Ext.refl w, H⟩
    · have h1 := H.2 j (ready_mono hj hji)
      obtain ⟨hjun, oj, hoj, hall⟩ := mem_ready.1 hj
      have hiun := (mem_ready.1 hr).1
      have hnot : ancB ops bs i j = false := by
        cases hb : ancB ops bs i j with
        | false => rfl
        | true =>
          have h2 := ready_anc hok hcl hj hb
          rcases Nat.lt_or_ge i listed.size with h' | h'
          · simp [h'] at h2 hiun; rw [hiun] at h2; cases h2
          · simp [Array.getElem?_eq_none h'] at h2
      have hap := hfree j oj hoj hji hjun hnot
      have h2 := wpOp_putIf hoj hap (fun cs b => hsel i oi cs b hi) (fun cs b => hsel j oj cs b hoj) (fun c a w => hQ c a _ _ w) hy h1
      have hfree' : ∀ k ok, ops[k]? = some ok → k ≠ i → (listed.setIfInBounds j true).getD k true = false → ancB ops bs i k = false → oi.apart ops ok = true := fun k ok hk hki hun hno => by
        refine hfree k ok hk hki ?_ hno
        by_cases hjk : j = k
        · subst hjk; exact hjun
        · rw [getD_set_ne true hjk] at hun; exact hun
      refine wpOp_mono (fun a' w' h3 => ⟨h3.2.1, ih (listed.setIfInBounds j true) a' w' (hcl.add hok hj) hfree' (ready_mono hr (Ne.symm hji)) h3.1 ?_⟩) h2
      rw [Array.setIfInBounds_comm _ _ hji]
      exact h3.2.2

/-! #### the walk in the fixed order: 'flo': operations that only read; 'ext': one that may make new memory; 'one': one that is alone; 'both': either of two comes up -/
def pickOps (ops : Array Oper) (l : List Nat) : List Oper := l.filterMap (ops[·]?)
inductive Plan where
  | fin
  | flo (l : List Nat) (r : Plan)
  | pur (l : List Nat) (r : Plan)
  | ext (i : Nat) (r : Plan)
  | one (i : Nat) (r : Plan)
  | both (i j : Nat) (r q : Plan)
/-- b: the world of which the facts at hand speak; what is at hand has grown out of it -/
def ordWalk (P : Program) (ops : Array Oper) (Q : Exit → Act → World → Prop) : Plan → World → Act → World → Prop
  | .fin, _, a, w => Q .normal a w
  | .flo l r, b, a, w => wpQuiet P ops (fun w' => ∃ y : Xt b, w' = y.W) (fun a' => ordWalk P ops Q r b a' w) (pickOps ops l) a
  | .pur l r, b, a, w => wpQuiet P ops (fun _ => True) (fun a' => ordWalk P ops Q r b a' w) (pickOps ops l) a
  | .ext i r, b, a, w => wpList P ops (Exit.then (fun a' w' => Ext w w' ∧ ordWalk P ops Q r b a' w') Q) (pickOps ops [i]) a w
  | .one i r, _, a, w => wpList P ops (Exit.then (fun a' w' => ordWalk P ops Q r w' a' w') Q) (pickOps ops [i]) a w
  | .both i j r q, b, a, w => wpList P ops (Exit.then (fun a' w' => Ext w w' ∧ ordWalk P ops Q r b a' w') Q) (pickOps ops [i]) a w ∧ wpList P ops (Exit.then (fun a' w' => Ext w w' ∧ ordWalk P ops Q q b a' w') Q) (pickOps ops [j]) a w

def extIdx : Plan → List Nat
  | .fin => []
  | .flo _ r => extIdx r
  | .pur _ r => extIdx r
  | .ext i r => i :: extIdx r
  | .one _ r => extIdx r
  | .both i j r q => i :: j :: (extIdx r ++ extIdx q)
def inX (ops : Array Oper) (es : List Nat) (j : Nat) : Bool := es.contains j || ((ops[j]?).map (isFlo ·.op)).getD false
def floB (ops : Array Oper) (bs : Array Nat) (es : List Nat) (i : Nat) (listed : Array Bool) : Bool :=
  match ops[i]? with
  | some oi => isFlo oi.op && (Region.ready .any ops listed).contains i &&
      (List.range ops.size).all fun j => j == i || listed.getD j true || ancB ops bs i j || (match ops[j]? with | some oj => oi.apart ops oj && inX ops es j | none => true)
  | none => false
def purB (ops : Array Oper) (bs : Array Nat) (i : Nat) (listed : Array Bool) : Bool :=
  match ops[i]? with
  | some oi => isFlo oi.op && (Region.ready .any ops listed).contains i &&
      (List.range ops.size).all fun j => j == i || listed.getD j true || ancB ops bs i j || (match ops[j]? with | some oj => oi.apart ops oj | none => true)
  | none => false
def pursB (ops : Array Oper) (bs : Array Nat) : List Nat → Array Bool → Bool
  | [], _ => true
  | i :: l, listed => purB ops bs i listed && pursB ops bs l (listed.setIfInBounds i true)
def flosB (ops : Array Oper) (bs : Array Nat) (es : List Nat) : List Nat → Array Bool → Bool
  | [], _ => true
  | i :: l, listed => floB ops bs es i listed && flosB ops bs es l (listed.setIfInBounds i true)
def listAll : List Nat → Array Bool → Array Bool
  | [], listed => listed
  | i :: l, listed => listAll l (listed.setIfInBounds i true)
def ordB (ops : Array Oper) (bs : Array Nat) (es : List Nat) : Plan → Array Bool → Bool
  | .fin, listed => (Region.ready .any ops listed).isEmpty
  | .flo l r, listed => flosB ops bs es l listed && ordB ops bs es r (listAll l listed)
  | .pur l r, listed => pursB ops bs l listed && ordB ops bs es r (listAll l listed)
  | .ext i r, listed => ((Region.ready .any ops listed) == [i]) && ordB ops bs es r (listed.setIfInBounds i true)
  | .one i r, listed => ((Region.ready .any ops listed) == [i]) && !inX ops es i && ordB ops bs es r (listed.setIfInBounds i true)
  | .both i j r q, listed => ((Region.ready .any ops listed) == [i, j]) && ordB ops bs es r (listed.setIfInBounds i true) && ordB ops bs es q (listed.setIfInBounds j true)
def total : Plan → Nat
  | .fin => 0
  | .flo l r => l.length + total r
  | .pur l r => l.length + total r
  | .ext _ r => 1 + total r
  | .one _ r => 1 + total r
  | .both _ _ r q => 1 + max (total r) (total q)

theorem quiet_yields {o : Oper} {a : Act} {w : World} {K : Act → Prop} (ho : isFlo o.op = true) (h : o.quiet P a (fun w' => ∃ y : Xt w, w' = y.W) K) :
    ∃ v, (∀ u, Ext w u → (execOp a.eval o).run P u = .ok (.value v) u) ∧ K (a.put o.dst v) := by
  obtain ⟨v, h1, h2⟩ := h
  refine ⟨v, fun u hu => ?_, h2⟩
  have h3 := h1 u ⟨⟨u, hu⟩, rfl⟩
  unfold Oper.quietAt at h3
  cases hr : (execOp a.eval o).run P u with
  | ok n u' =>
    rw [hr] at h3
    obtain ⟨x, rfl⟩ := flo_value ho hr
    obtain ⟨e1, e2⟩ := h3
    rw [e1, e2]
  | halt x u' => rw [hr] at h3; exact h3.elim

theorem quiet_yields_pure {o : Oper} {a : Act} {K : Act → Prop} (ho : isFlo o.op = true) (h : o.quiet P a (fun _ => True) K) :
    ∃ v, (∀ u, (execOp a.eval o).run P u = .ok (.value v) u) ∧ K (a.put o.dst v) := by
  obtain ⟨v, h1, h2⟩ := h
  refine ⟨v, fun u => ?_, h2⟩
  have h3 := h1 u trivial
  unfold Oper.quietAt at h3
  cases hr : (execOp a.eval o).run P u with
  | ok n u' =>
    rw [hr] at h3
    obtain ⟨x, rfl⟩ := flo_value ho hr
    obtain ⟨e1, e2⟩ := h3
    rw [e1, e2]
  | halt x u' => rw [hr] at h3; exact h3.elim

theorem one_step {K : Act → World → Prop} {i : Nat} {o : Oper} {a : Act} {w : World} (hi : ops[i]? = some o) (h : wpList P ops (Exit.then K Q) (pickOps ops [i]) a w) : wpOp P ops Q i K a w := by
  have e : pickOps ops [i] = [o] := by simp [pickOps, hi]
  rw [e] at h
  unfold wpList at h
  unfold wpOp
  simp only [hi]
  split at h
  · rename_i hw
    rw [if_pos hw]
    refine h.imp (fun hh => ?_) (fun ⟨h1, a0, w0, h2⟩ => ⟨h1, a0, w0, h2⟩)
    unfold Oper.wp at hh ⊢
    generalize (execOp a.eval o).run P w = r at *
    cases r with
    | ok n w' =>
      cases n <;> simp only [Oper.upon] at hh ⊢ <;>
        first
          | exact hh
          | exact Calls.mono hh (fun e w'' he => by cases e <;> exact he)
    | halt x w' => cases x <;> simp only [Oper.upon] at hh ⊢ <;> exact hh
  · rename_i hw
    rw [if_neg hw]
    exact h

theorem X_of_ord (hok : ancOkB ops bs = true) (hsel : Region.noSelect ops = true) (hQ : ∀ c a d v w, Q (.panic c) (a.put d v) w → Q (.panic c) a w) (es : List Nat) :
    ∀ (p : Plan) (b : World) (listed : Array Bool) (a : Act) (w : World) (fuel : Nat), Ext b w → total p ≤ fuel → Closed ops bs listed → ordB ops bs es p listed = true → ordWalk P ops Q p b a w →
      wpX P ops Q (inX ops es) fuel listed a w := by
  intro p
  induction p with
  | fin =>
    intro b listed a w fuel _ _ _ hB h
    exact wpX_done (by simpa [ordB] using hB) h fuel
  | flo l r ih =>
    induction l with
    | nil =>
      intro b listed a w fuel hx hf hc hB h
      refine ih b listed a w fuel hx (by simpa [total] using hf) hc (by simpa [ordB, flosB, listAll] using hB) ?_
      simpa [ordWalk, pickOps, wpQuiet] using h
    | cons i l ihl =>
      intro b listed a w fuel hx hf hc hB h
      simp only [ordB, flosB, listAll, Bool.and_eq_true] at hB
      obtain ⟨⟨hi, hl⟩, hr⟩ := hB
      cases ho : ops[i]? with
      | none => simp [floB, ho] at hi
      | some oi =>
        simp only [floB, ho, Bool.and_eq_true] at hi
        obtain ⟨⟨hflo, hrd⟩, hfr⟩ := hi
        have hrd' : i ∈ Region.ready .any ops listed := by simpa using hrd
        obtain ⟨fuel, rfl⟩ : ∃ f, fuel = f + 1 := ⟨fuel - 1, by simp [total] at hf; omega⟩
        have hfree : ∀ j oj, ops[j]? = some oj → j ≠ i → listed.getD j true = false → ancB ops bs i j = false → oi.apart ops oj = true ∧ inX ops es j = true := by
          intro j oj hj hne hun hno
          have := List.all_eq_true.1 hfr j (List.mem_range.2 (Array.getElem?_eq_some_iff.1 hj).1)
          simpa [hne, hun, hno, hj] using this
        have hp : pickOps ops (i :: l) = oi :: pickOps ops l := by simp [pickOps, ho]
        simp only [ordWalk, hp] at h
        unfold wpQuiet at h
        have go : ∀ v, YieldsIf P ops (Ext w) oi v a → wpQuiet P ops (fun w' => ∃ y : Xt b, w' = y.W) (fun a' => ordWalk P ops Q r b a' w) (pickOps ops l) (a.put oi.dst v) → wpX P ops Q (inX ops es) (fuel + 1) listed a w := by
          intro v hy hk
          refine wpX_first hok ho (Region.noSelect_spec hsel) hQ fuel listed a w hc hfree hrd' hy ?_
          refine ihl b (listed.setIfInBounds i true) (a.put oi.dst v) w fuel hx (by simp [total] at hf ⊢; omega) (hc.add hok hrd') ?_ ?_
          · simp only [ordB, Bool.and_eq_true]; exact ⟨hl, hr⟩
          · simpa only [ordWalk] using hk
        split at h
        · rename_i hw
          obtain ⟨v, hv, hk⟩ := quiet_yields hflo h
          exact go v (.inl ⟨hw, fun u hu => hv u (hx.trans hu)⟩) hk
        · rename_i hw
          exact go undef (.inr ⟨by simpa using hw, rfl⟩) h
  | pur l r ih =>
    induction l with
    | nil =>
      intro b listed a w fuel hx hf hc hB h
      refine ih b listed a w fuel hx (by simpa [total] using hf) hc (by simpa [ordB, pursB, listAll] using hB) ?_
      simpa [ordWalk, pickOps, wpQuiet] using h
    | cons i l ihl =>
      intro b listed a w fuel hx hf hc hB h
      simp only [ordB, pursB, listAll, Bool.and_eq_true] at hB
      obtain ⟨⟨hi, hl⟩, hr⟩ := hB
      cases ho : ops[i]? with
      | none => simp [purB, ho] at hi
      | some oi =>
        simp only [purB, ho, Bool.and_eq_true] at hi
        obtain ⟨⟨hflo, hrd⟩, hfr⟩ := hi
        have hrd' : i ∈ Region.ready .any ops listed := by simpa using hrd
        obtain ⟨fuel, rfl⟩ : ∃ f, fuel = f + 1 := ⟨fuel - 1, by simp [total] at hf; omega⟩
        have hfree : ∀ j oj, ops[j]? = some oj → j ≠ i → listed.getD j true = false → ancB ops bs i j = false → oi.apart ops oj = true := by
          intro j oj hj hne hun hno
          have := List.all_eq_true.1 hfr j (List.mem_range.2 (Array.getElem?_eq_some_iff.1 hj).1)
          simpa [hne, hun, hno, hj] using this
        have hp : pickOps ops (i :: l) = oi :: pickOps ops l := by simp [pickOps, ho]
        simp only [ordWalk, hp] at h
        unfold wpQuiet at h
        have go : ∀ v, YieldsIf P ops (fun _ => True) oi v a → wpQuiet P ops (fun _ => True) (fun a' => ordWalk P ops Q r b a' w) (pickOps ops l) (a.put oi.dst v) → wpX P ops Q (inX ops es) (fuel + 1) listed a w := by
          intro v hy hk
          refine wpX_first_pure hok ho (Region.noSelect_spec hsel) hQ fuel listed a w hc hfree hrd' hy ?_
          refine ihl b (listed.setIfInBounds i true) (a.put oi.dst v) w fuel hx (by simp [total] at hf ⊢; omega) (hc.add hok hrd') ?_ ?_
          · simp only [ordB, Bool.and_eq_true]; exact ⟨hl, hr⟩
          · simpa only [ordWalk] using hk
        split at h
        · rename_i hw
          obtain ⟨v, hv, hk⟩ := quiet_yields_pure hflo h
          exact go v (.inl ⟨hw, fun u _ => hv u⟩) hk
        · rename_i hw
          exact go undef (.inr ⟨by simpa using hw, rfl⟩) h
  | ext i r ih =>
    intro b listed a w fuel hx hf hc hB h
    simp only [ordB, Bool.and_eq_true] at hB
    obtain ⟨hr, hr2⟩ := hB
    have hr' : Region.ready .any ops listed = [i] := by simpa using hr
    have hmem : i ∈ Region.ready .any ops listed := by rw [hr']; simp
    obtain ⟨_, o, ho, _⟩ := mem_ready.1 hmem
    obtain ⟨fuel, rfl⟩ : ∃ f, fuel = f + 1 := ⟨fuel - 1, by simp [total] at hf; omega⟩
    refine ⟨fun h0 => (by rw [hr'] at h0; cases h0), fun j hj => ?_⟩
    rw [hr'] at hj
    obtain rfl : j = i := by simpa using hj
    exact wpOp_mono (fun a' w' hh => ⟨fun _ => hh.1, ih b _ a' w' fuel (hx.trans hh.1) (by simp [total] at hf ⊢; omega) (hc.add hok hmem) hr2 hh.2⟩) (one_step ho h)
  | one i r ih =>
    intro b listed a w fuel hx hf hc hB h
    simp only [ordB, Bool.and_eq_true] at hB
    obtain ⟨⟨hr, hk⟩, hr2⟩ := hB
    have hr' : Region.ready .any ops listed = [i] := by simpa using hr
    have hmem : i ∈ Region.ready .any ops listed := by rw [hr']; simp
    obtain ⟨_, o, ho, _⟩ := mem_ready.1 hmem
    obtain ⟨fuel, rfl⟩ : ∃ f, fuel = f + 1 := ⟨fuel - 1, by simp [total] at hf; omega⟩
    refine ⟨fun h0 => (by rw [hr'] at h0; cases h0), fun j hj => ?_⟩
    rw [hr'] at hj
    obtain rfl : j = i := by simpa using hj
    have hnx : inX ops es j = false := by simpa using hk
    exact wpOp_mono (fun a' w' hh => ⟨fun hX => (by rw [hnx] at hX; cases hX), ih w' _ a' w' fuel (Ext.refl w') (by simp [total] at hf ⊢; omega) (hc.add hok hmem) hr2 hh⟩) (one_step ho h)
  | both i j r q ihr ihq =>
    intro b listed a w fuel hx hf hc hB h
    simp only [ordB, Bool.and_eq_true] at hB
    obtain ⟨⟨hr, hr2⟩, hq2⟩ := hB
    have hr' : Region.ready .any ops listed = [i, j] := by simpa using hr
    obtain ⟨fuel, rfl⟩ : ∃ f, fuel = f + 1 := ⟨fuel - 1, by simp [total] at hf; omega⟩
    have mi : i ∈ Region.ready .any ops listed := by rw [hr']; simp
    have mj : j ∈ Region.ready .any ops listed := by rw [hr']; simp
    refine ⟨fun h0 => (by rw [hr'] at h0; cases h0), fun k hk => ?_⟩
    rw [hr'] at hk
    rcases List.mem_cons.1 hk with rfl | hk
    · obtain ⟨_, o, ho, _⟩ := mem_ready.1 mi
      exact wpOp_mono (fun a' w' hh => ⟨fun _ => hh.1, ihr b _ a' w' fuel (hx.trans hh.1) (by simp [total] at hf ⊢; omega) (hc.add hok mi) hr2 hh.2⟩) (one_step ho h.1)
    · obtain rfl : k = j := by simpa using hk
      obtain ⟨_, o, ho, _⟩ := mem_ready.1 mj
      exact wpOp_mono (fun a' w' hh => ⟨fun _ => hh.1, ihq b _ a' w' fuel (hx.trans hh.1) (by simp [total] at hf ⊢; omega) (hc.add hok mj) hq2 hh.2⟩) (one_step ho h.2)

/-- A REGION THAT DRAWS ITS ORDER, WALKED IN ONE ORDER. 'bs': of each operation those that come ahead of it in every order, as bits. -/
theorem wp_region_ord {id : Nat} {a : Act} {w : World} {l : List Oper} (bs : List Nat) (p : Plan) (hm : P.follows .mixedOrders = true)
    (hB : (ancOkB l.toArray bs.toArray && Region.noSelect l.toArray && ordB l.toArray bs.toArray (extIdx p) p (Array.replicate l.toArray.size false) && decide (total p ≤ l.toArray.size)) = true)
    (hQ : ∀ c a d v w, Q (.panic c) (a.put d v) w → Q (.panic c) a w)
    (h : ordWalk P l.toArray Q p w.drew a w.drew) : (Code.region id l.toArray true).wp P Q a w := by
  simp only [Bool.and_eq_true, decide_eq_true_eq] at hB
  obtain ⟨⟨⟨h1, h2⟩, h3⟩, h4⟩ := hB
  refine wp_region_any hm (wpAny_of_X _ _ _ _ (X_of_ord h1 h2 hQ _ p w.drew _ a w.drew _ (Ext.refl _) h4 ?_ h3 h))
  intro j hj
  exfalso
  rcases Nat.lt_or_ge j l.toArray.size with h' | h'
  · simp [Array.getD] at hj
  · simp [Array.getD] at hj

theorem pick_nil : pickOps ops [] = [] := rfl
/-- the operation of number i, found by going down the list -/
def nth : List Oper → Nat → Option Oper
  | [], _ => none
  | o :: _, 0 => some o
  | _ :: l, i + 1 => nth l i
theorem nth_eq : ∀ (l : List Oper) (i : Nat), nth l i = l[i]?
  | [], _ => by simp [nth]
  | _ :: _, 0 => rfl
  | _ :: l, i + 1 => by simp [nth, nth_eq l i]
theorem pick_cons {i : Nat} {o : Oper} {ol : List Oper} {l : List Nat} {r : List Oper} (h : nth ol i = some o) (k : pickOps ol.toArray l = r) : pickOps ol.toArray (i :: l) = o :: r := by
  subst k; rw [nth_eq] at h; simp [pickOps, h]
/-- the steps of such a walk -/
def ordNext (P : Program) (ops : Array Oper) (Q : Exit → Act → World → Prop) (r : Plan) (b w : World) (a' : Act) (w' : World) : Prop := Ext w w' ∧ ordWalk P ops Q r b a' w'
theorem ordNext.mk {r : Plan} {b w w' : World} {a : Act} (x : Ext w w') (h : ordWalk P ops Q r b a w') : ordNext P ops Q r b w a w' := ⟨x, h⟩
theorem ord_flo {l : List Nat} {r : Plan} {a : Act} {b w : World} {ol : List Oper} (hp : pickOps ops l = ol)
    (h : wpQuiet P ops (fun w' => ∃ y : Xt b, w' = y.W) (fun a' => ordWalk P ops Q r b a' w) ol a) : ordWalk P ops Q (.flo l r) b a w := by
  subst hp; exact h
theorem ord_pur {l : List Nat} {r : Plan} {a : Act} {b w : World} {ol : List Oper} (hp : pickOps ops l = ol)
    (h : wpQuiet P ops (fun _ => True) (fun a' => ordWalk P ops Q r b a' w) ol a) : ordWalk P ops Q (.pur l r) b a w := by
  subst hp; exact h
theorem ord_ext {i : Nat} {r : Plan} {a : Act} {b w : World} {o : Oper} (hp : pickOps ops [i] = [o])
    (h : ∀ K : Act → World → Prop, (∀ a' w', ordNext P ops Q r b w a' w' → K a' w') → wpList P ops (Exit.then K Q) [o] a w) : ordWalk P ops Q (.ext i r) b a w := by
  show wpList P ops _ (pickOps ops [i]) a w
  rw [hp]; exact h _ fun _ _ h => h
theorem ord_one {i : Nat} {r : Plan} {a : Act} {b w : World} {o : Oper} (hp : pickOps ops [i] = [o])
    (h : ∀ K : Act → World → Prop, (∀ a' w', ordWalk P ops Q r w' a' w' → K a' w') → wpList P ops (Exit.then K Q) [o] a w) : ordWalk P ops Q (.one i r) b a w := by
  show wpList P ops _ (pickOps ops [i]) a w
  rw [hp]; exact h _ fun _ _ h => h
theorem ord_both {i j : Nat} {r q : Plan} {a : Act} {b w : World} {o u : Oper} (hp : pickOps ops [i] = [o]) (hq : pickOps ops [j] = [u])
    (h : ∀ K : Act → World → Prop, (∀ a' w', ordNext P ops Q r b w a' w' → K a' w') → wpList P ops (Exit.then K Q) [o] a w)
    (k : ∀ K : Act → World → Prop, (∀ a' w', ordNext P ops Q q b w a' w' → K a' w') → wpList P ops (Exit.then K Q) [u] a w) : ordWalk P ops Q (.both i j r q) b a w := by
  refine ⟨?_, ?_⟩
  · rw [hp]; exact h _ fun _ _ h => h
  · rw [hq]; exact k _ fun _ _ h => h
theorem ord_fin {a : Act} {b w : World} (h : Q .normal a w) : ordWalk P ops Q .fin b a w := h
end

end Go.Proofs.YtmdakaflmheidaaGreatDoor
