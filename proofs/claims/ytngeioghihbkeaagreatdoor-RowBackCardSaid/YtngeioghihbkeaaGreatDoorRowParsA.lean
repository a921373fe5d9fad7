/- What row.Parse answers: plain; and what a row is written as is read again. cmp.Or at bool, row.upTo: what they answer. row.Parse: what it answers. A row that is written is read again; row.Print once more. Conditions: each theorem states its own. -/
import Derived.Test.YtngeioghihbkeaaGreatDoorRowPrnAll
import Derived.Test.YtngeioghihbkeaaGreatDoorParsAll
import Derived.Deep.LoopGhost
import Derived.Test.YtngeioghihbkeaaGreatDoorRowClone
import Derived.Test.YtngeioghihbkeaaGreatDoorKeyOrd
namespace Go.Proofs.YtngeioghihbkeaaGreatDoor
open Go.RowKit

/-- where a datum ends: at a comma, or a bracket, outside of a text -/
def upL : Bool → List UInt8 → Option Nat
  | _, [] => none
  | q, c :: r =>
    if c = 39 then (upL (!q) r).map (· + 1)
    else if q = true ∧ c = 92 then (match r with | [] => none | _ :: r' => (upL q r').map (· + 2))
    else if q = false ∧ (c = 44 ∨ c = 41) then some 0
    else (upL q r).map (· + 1)
theorem upL_nil (q : Bool) : upL q [] = none := by cases q <;> rfl
theorem upL_quote (q : Bool) (r : List UInt8) : upL q (39 :: r) = (upL (!q) r).map (· + 1) := by rw [upL.eq_def]; rfl
theorem upL_back (c : UInt8) (r : List UInt8) : upL true (92 :: c :: r) = (upL true r).map (· + 2) := by rw [upL.eq_def]; rfl
theorem upL_back_end : upL true [92] = none := rfl
theorem upL_end {c : UInt8} (r : List UInt8) (h : c = 44 ∨ c = 41) : upL false (c :: r) = some 0 := by
  rw [upL.eq_def]
  rcases h with rfl | rfl <;> simp
theorem upL_in {c : UInt8} (r : List UInt8) (h1 : c ≠ 39) (h2 : c ≠ 92) : upL true (c :: r) = (upL true r).map (· + 1) := by
  rw [upL.eq_def]
  simp only
  rw [if_neg h1, if_neg (fun q => h2 q.2), if_neg (fun q => by simpa using q.1)]
theorem upL_out {c : UInt8} (r : List UInt8) (h1 : c ≠ 39) (h2 : ¬ (c = 44 ∨ c = 41)) : upL false (c :: r) = (upL false r).map (· + 1) := by
  rw [upL.eq_def]
  simp only
  rw [if_neg h1, if_neg (fun q => by simpa using q.1), if_neg (fun q => h2 q.2)]
theorem map_add (o : Option Nat) (a b : Nat) : (o.map (· + a)).map (· + b) = o.map (· + (a + b)) := by
  cases o with
  | none => rfl
  | some n => simp only [Option.map_some]; rw [Nat.add_assoc]
theorem upL_skip : ∀ (p r : List UInt8), (∀ c ∈ p, c ≠ 39 ∧ ¬ (c = 44 ∨ c = 41)) → upL false (p ++ r) = (upL false r).map (· + p.length)
  | [], r, _ => by rw [List.nil_append]; cases upL false r <;> rfl
  | c :: p, r, h => by
    rw [List.cons_append, upL_out _ (h c (List.mem_cons_self ..)).1 (h c (List.mem_cons_self ..)).2, upL_skip p r (fun d hd => h d (List.mem_cons_of_mem _ hd)), map_add, List.length_cons]
def escForm : List UInt8 → Bool
  | [c] => c != 39 && c != 92
  | [a, b] => (a == 39 && b == 39) || a == 92
  | [a, _, h, l] => a == 92 && h != 39 && h != 92 && l != 39 && l != 92
  | _ => false
theorem esc_form (c : UInt8) : escForm (esc c) = true := by
  have key : ∀ j : Fin 256, escForm (esc (UInt8.ofNat j.val)) = true := by decide +kernel
  have := key ⟨c.toNat, c.toNat_lt⟩
  simpa using this
theorem upL_esc (c : UInt8) (r : List UInt8) : upL true (esc c ++ r) = (upL true r).map (· + (esc c).length) := by
  have h := esc_form c
  generalize esc c = l at h
  match l, h with
  | [c], h =>
    simp only [escForm, Bool.and_eq_true, bne_iff_ne] at h
    exact upL_in r h.1 h.2
  | [a, b], h =>
    simp only [escForm, Bool.or_eq_true, Bool.and_eq_true, beq_iff_eq] at h
    rcases h with ⟨rfl, rfl⟩ | rfl
    · show upL true (39 :: 39 :: r) = _
      rw [upL_quote, show (!true) = false from rfl, upL_quote, show (!false) = true from rfl, map_add]
      rfl
    · exact upL_back b r
  | [a, b, h', l'], h =>
    simp only [escForm, Bool.and_eq_true, beq_iff_eq, bne_iff_ne] at h
    obtain ⟨⟨⟨⟨rfl, h1⟩, h2⟩, h3⟩, h4⟩ := h
    show upL true (92 :: b :: h' :: l' :: r) = _
    rw [upL_back, upL_in _ h1 h2, upL_in _ h3 h4, map_add, map_add]
    rfl
theorem upL_flat : ∀ (x r : List UInt8), upL true (x.flatMap esc ++ r) = (upL true r).map (· + (x.flatMap esc).length)
  | [], r => by show upL true r = _; cases upL true r <;> rfl
  | c :: x, r => by
    rw [List.flatMap_cons, List.append_assoc, upL_esc, upL_flat x r, map_add, List.length_append, Nat.add_comm]
theorem upL_text (x r : List UInt8) : upL false (quotedT x ++ r) = (upL false r).map (· + (quotedT x).length) := by
  unfold quotedT
  rw [List.cons_append, upL_quote, show (!false) = true from rfl, List.append_assoc, upL_flat, show ([39] : List UInt8) ++ r = 39 :: r from rfl, upL_quote, show (!true) = false from rfl, map_add, map_add]
  congr 1
  funext n
  simp only [List.length_cons, List.length_append, List.length_nil]
  omega
theorem prD_is {d : Dat} (h : Ok d) : prD d = printL d.k d.b d.n d.s := by
  unfold prD prS
  rw [printT_on h.1]
theorem upL_dat {d : Dat} (h : Ok d) (r : List UInt8) : upL false (prD d ++ r) = (upL false r).map (· + (prD d).length) := by
  rw [prD_is h]
  unfold printL
  split
  · cases d.b <;> exact upL_skip _ r (by decide)
  · split
    · exact upL_skip _ r (fun c hc => by
        have := itoa_all d.n c hc
        refine ⟨?_, ?_⟩
        · rintro rfl; simp at this
        · rintro (rfl | rfl) <;> simp at this)
    · split
      · exact upL_text _ r
      · exact upL_skip _ r (by decide)
/-- the datum that bytes write -/
noncomputable def pDat (s : List UInt8) : Option Dat := open Classical in if h : ∃ d : Dat, ParseRel ⟨s.toArray⟩ d 0 then some h.choose else none
theorem pDat_yes {s : List UInt8} {d : Dat} (h : ParseRel ⟨s.toArray⟩ d 0) : pDat s = some d := by
  have he : ∃ d : Dat, ParseRel ⟨s.toArray⟩ d 0 := ⟨d, h⟩
  unfold pDat
  rw [dif_pos he, (rel_unique he.choose_spec h).1]
theorem pDat_no {s : List UInt8} {d : Dat} {e : Int} (h : ParseRel ⟨s.toArray⟩ d e) (he : e ≠ 0) : pDat s = none := by
  unfold pDat
  rw [dif_neg]
  rintro ⟨x, hx⟩
  exact he (rel_unique h hx).2
theorem pDat_pr {d : Dat} (h : Ok d) : pDat (prD d) = some d := pDat_yes (parse_on h (by unfold prD prS; rfl))
theorem printT_no {x : Dat} (hx : Ok x) : ¬ printT x.k x.b x.n x.s = ⟨#[]⟩ := by
  rw [printT_on hx.1]
  intro e
  have := congrArg (fun b : ByteArray => b.data.toList) e
  exact printL_ne x.k x.n x.b x.s (by simpa using this)
theorem pDat_nil : pDat [] = none := pDat_no (d := Dat.zero) (e := 13) (.inr ⟨rfl, rfl, fun _ hx => printT_no hx⟩) (by decide)
/-- what follows a datum -/
def tailP (d : Dat) (f : List UInt8 → Option (List Dat)) (t : List UInt8) : Option (List Dat) :=
  if t = [41] then some [d] else match t with | 44 :: 32 :: r => (f r).map (d :: ·) | _ => none
noncomputable def rowP : Nat → List UInt8 → Option (List Dat)
  | 0, _ => none
  | n + 1, r => (upL false r).bind fun k => (pDat (r.take k)).bind fun d => tailP d (rowP n) (r.drop k)
theorem tailP_congr {d : Dat} {f g : List UInt8 → Option (List Dat)} {t : List UInt8} (h : ∀ r, r.length < t.length → f r = g r) : tailP d f t = tailP d g t := by
  unfold tailP
  split
  · rfl
  · split
    · rename_i r _
      rw [h r (by simp only [List.length_cons]; omega)]
    · rfl
theorem upL_lt : ∀ (q : Bool) (r : List UInt8) (k : Nat), upL q r = some k → k < r.length := by
  have key : ∀ (n : Nat) (q : Bool) (r : List UInt8) (k : Nat), r.length ≤ n → upL q r = some k → k < r.length := by
    intro n
    induction n with
    | zero =>
      intro q r k hn h
      have : r = [] := List.eq_nil_of_length_eq_zero (by omega)
      subst this
      rw [upL_nil] at h
      cases h
    | succ n ih =>
      intro q r k hn h
      cases r with
      | nil => rw [upL_nil] at h; cases h
      | cons c r =>
        rw [List.length_cons] at hn ⊢
        rw [upL.eq_def] at h
        simp only at h
        split at h
        · cases hq : upL (!q) r with
          | none => rw [hq] at h; cases h
          | some j => rw [hq] at h; have := ih _ r j (by omega) hq; simp only [Option.map_some, Option.some.injEq] at h; omega
        · split at h
          · cases r with
            | nil => cases h
            | cons c' r' =>
              simp only at h
              cases hq : upL q r' with
              | none => rw [hq] at h; cases h
              | some j => rw [hq] at h; rw [List.length_cons] at hn ⊢; have := ih _ r' j (by omega) hq; simp only [Option.map_some, Option.some.injEq] at h; omega
          · split at h
            · injection h with h; omega
            · cases hq : upL q r with
              | none => rw [hq] at h; cases h
              | some j => rw [hq] at h; have := ih _ r j (by omega) hq; simp only [Option.map_some, Option.some.injEq] at h; omega
  exact fun q r k h => key r.length q r k (Nat.le_refl _) h
theorem rowP_fuel : ∀ (n : Nat) (r : List UInt8), r.length ≤ n → rowP n r = rowP r.length r
  | 0, r, h => by
    have : r = [] := List.eq_nil_of_length_eq_zero (by omega)
    subst this
    rfl
  | n + 1, [], _ => rfl
  | n + 1, c :: r, h => by
    have h' : r.length ≤ n := by simpa using h
    show (upL false (c :: r)).bind _ = (upL false (c :: r)).bind _
    congr 1
    funext k
    congr 1
    funext d
    refine tailP_congr fun r2 h2 => ?_
    rw [List.length_drop, List.length_cons] at h2
    rw [rowP_fuel n r2 (by omega), rowP_fuel r.length r2 (by omega)]
/-- the data that the text behind the first bracket writes -/
noncomputable def rowQ (r : List UInt8) : Option (List Dat) := rowP r.length r
theorem rowQ_step (r : List UInt8) : rowQ r = (upL false r).bind fun k => (pDat (r.take k)).bind fun d => tailP d rowQ (r.drop k) := by
  cases r with
  | nil => rfl
  | cons c r =>
    show (upL false (c :: r)).bind _ = (upL false (c :: r)).bind _
    congr 1
    funext k
    congr 1
    funext d
    refine tailP_congr fun r2 h2 => ?_
    rw [List.length_drop, List.length_cons] at h2
    exact rowP_fuel r.length r2 (by omega)
/-- the row that a text writes -/
noncomputable def parseV (s : List UInt8) : Option (List Dat) :=
  if s = [40, 41] then some [] else match s with | 40 :: r => (rowQ r).bind fun l => if l.length ≤ 32 then some l else none | _ => none
noncomputable def parseL (s : List UInt8) : List Dat := (parseV s).getD []
noncomputable def parseE (s : List UInt8) : Int := if (parseV s).isSome then 0 else 20
theorem rowQ_join : ∀ l : List Dat, l ≠ [] → (∀ d ∈ l, Ok d) → rowQ (Lib.join (l.map prD) sep_ ++ [41]) = some l
  | [], h, _ => absurd rfl h
  | [d], _, h => by
    have hd := h d (List.mem_cons_self ..)
    rw [List.map_singleton, Lib.join_one, rowQ_step, upL_dat hd, upL_end [] (.inr rfl)]
    simp only [Option.map_some, Option.bind_some, Nat.zero_add]
    rw [List.take_left, pDat_pr hd, List.drop_left]
    rfl
  | d :: d2 :: l, _, h => by
    have hd := h d (List.mem_cons_self ..)
    have ih := rowQ_join (d2 :: l) (by simp) (fun x hx => h x (List.mem_cons_of_mem _ hx))
    have e : Lib.join ((d :: d2 :: l).map prD) sep_ ++ [41] = prD d ++ (44 :: 32 :: (Lib.join ((d2 :: l).map prD) sep_ ++ [41])) := by
      rw [List.map_cons, List.map_cons, Lib.join_cons, Lib.join_cons]
      unfold Lib.joinTail
      simp only [List.map_cons, List.flatten_cons, List.append_assoc]
      rfl
    rw [e, rowQ_step, upL_dat hd, upL_end _ (.inl rfl)]
    simp only [Option.map_some, Option.bind_some, Nat.zero_add]
    rw [List.take_left, pDat_pr hd, List.drop_left]
    simp only [Option.bind_some]
    unfold tailP
    rw [if_neg (by simp)]
    simp only
    rw [ih]
    rfl
/-- what a row is written as is read again -/
theorem parseV_row {l : List Dat} (h : checkR l = 0) (hi : ∀ d ∈ l, In64 d.n) : parseV (rowL l) = some l := by
  have hc := (checkR_ok l).1 h
  have hok : ∀ d ∈ l, Ok d := fun d hd => ⟨hc.2 d hd, hi d hd⟩
  cases l with
  | nil => rfl
  | cons d r =>
    unfold parseV rowL
    have hq := rowQ_join (d :: r) (by simp) hok
    rw [if_neg]
    · simp only
      rw [hq]
      exact if_pos hc.1
    · intro e
      injection e with _ e
      rw [e] at hq
      rw [rowQ_step, upL_end [] (.inr rfl)] at hq
      simp only [Option.bind_some, List.take_zero] at hq
      rw [pDat_nil] at hq
      cases hq
end Go.Proofs.YtngeioghihbkeaaGreatDoor
namespace Go.Proofs.YtngeioghihbkeaaGreatDoor
open Go.RowKit

set_option maxRecDepth 100000 in
set_option maxHeartbeats 1000000 in
theorem or_any (g : Nat) (p q : Bool) (w : World) (h0 : w.cell? ⟨g, 0, none⟩ = some (.bool p)) (h1 : w.cell? ⟨g, 1, none⟩ = some (.bool q)) :
    Calls Tryz.prog 29 #[.slice (some ⟨g, 0, none⟩) 2 2] w fun e w' => e = .returned (.bool (p || q)) ∧ w' = w := by
  cases p
  · cases q
    · go_enter Tryz.func29, Tryz.ntmps29
      go_wp2
      refine wp_loop_rounds 3 ?_
      rw [rounds_succ]
      go_wp2
      rw [rounds_succ]
      go_wp2
      rw [rounds_succ]
      go_wp2
      go_ret
      exact ⟨rfl, rfl⟩
    · go_enter Tryz.func29, Tryz.ntmps29
      go_wp2
      refine wp_loop_rounds 2 ?_
      rw [rounds_succ]
      go_wp2
      rw [rounds_succ]
      go_wp2
      go_ret
      exact ⟨rfl, rfl⟩
  · go_enter Tryz.func29, Tryz.ntmps29
    go_wp2
    refine wp_loop_rounds 1 ?_
    rw [rounds_succ]
    go_wp2
    go_ret
    exact ⟨by cases q <;> rfl, rfl⟩
/-- the number that upTo answers with -/
def upI (l : List UInt8) : Int := match upL false l with | none => -1 | some k => k
theorem drop_data {s : ByteArray} {i : Nat} (h : i < s.size) : s.data.toList.drop i = s[i] :: s.data.toList.drop (i + 1) := by
  have h' : i < s.data.toList.length := by simpa using h
  rw [List.drop_eq_getElem_cons h']
  rfl
theorem drop_end {s : ByteArray} {i : Nat} (h : s.size ≤ i) : s.data.toList.drop i = [] := List.drop_eq_nil_of_le (by simpa using h)
theorem byte_is {c : UInt8} {n : Nat} (hn : n < 256) (h : c.toNat = n) : c = UInt8.ofNat n := by
  subst h
  simp
theorem byte_not {c d : UInt8} (h : ¬ c.toNat = d.toNat) : c ≠ d := fun e => h (by rw [e])
set_option maxRecDepth 100000 in
set_option maxHeartbeats 4000000 in
theorem upTo_any (s : ByteArray) (w : World) (hs : s.size ≤ 140737488355328) :
    Calls Tryz.prog 15 #[.string s] w fun e w' => e = .returned (.int .i64 (upI s.data.toList)) ∧ Ext w w' := by
  go_enter Tryz.func15, Tryz.ntmps15
  go_wp2
  go_loopg [3, 4] (s.size + 2) (fun z u v wr => ∃ (q : Bool) (i : Nat), z = s.size + 2 - i ∧ i ≤ s.size + 1 ∧ u = .bool q ∧ v = .int .i64 i ∧ Hid (upL false s.data.toList = (upL q (s.data.toList.drop i)).map (· + i)) ∧ Hid (Ext w wr))
  case atStart => exact ⟨false, 0, by omega, by omega, rfl, rfl, Lib.hid (by rw [List.drop_zero]; cases upL false s.data.toList <;> rfl), Lib.hid (Ext.refl w)⟩
  case round =>
    obtain ⟨q, i, hz, hi, rfl, rfl, HQ, ER⟩ := hrel
    have HZ := Lib.hid hz
    clear hz
    by_cases hlt : i < s.size
    · have HD := Lib.hid (drop_data hlt)
      by_cases c39 : s[i].toNat = 39
      · have HU : Hid (upL false s.data.toList = (upL (!q) (s.data.toList.drop (i + 1))).map (· + (i + 1))) := Lib.hid (by
          rw [HQ.out, HD.out, byte_is (by decide) c39, show UInt8.ofNat 39 = 39 from rfl, upL_quote, map_add, Nat.add_comm 1 i])
        go_wp2
        go_roundg (s.size + 2 - (i + 1))
        case measure => have := HZ.out; omega
        case rel => exact ⟨!q, i + 1, rfl, by omega, rfl, by go_num, HU, ER⟩
      · by_cases c92 : s[i].toNat = 92
        · cases q with
          | true =>
            have HU : Hid (upL false s.data.toList = (upL true (s.data.toList.drop (i + 2))).map (· + (i + 2))) := Lib.hid (by
              rw [HQ.out, HD.out, byte_is (by decide) c92, show UInt8.ofNat 92 = 92 from rfl]
              by_cases h2 : i + 1 < s.size
              · rw [drop_data h2, upL_back, map_add, Nat.add_comm 2 i]
              · rw [drop_end (by omega), drop_end (by omega), upL_back_end, upL_nil]
                rfl)
            go_wp2
            go_roundg (s.size + 2 - (i + 2))
            case measure => have := HZ.out; omega
            case rel => exact ⟨true, i + 2, rfl, by omega, rfl, by go_num, HU, ER⟩
          | false =>
            have HU : Hid (upL false s.data.toList = (upL false (s.data.toList.drop (i + 1))).map (· + (i + 1))) := Lib.hid (by
              rw [HQ.out, HD.out, byte_is (by decide) c92, show UInt8.ofNat 92 = 92 from rfl, upL_out _ (by decide) (by decide), map_add, Nat.add_comm 1 i])
            have m1 : True := trivial
            go_wp2_with (go_at_call 29; have mk := m1; clear m1 mk; refine (or_any wr.heap.size false false _ ((Bk.new wr _ _).cell 0) ((Bk.new wr _ _).cell 1)).mono ?_; rintro e w1 ⟨rfl, rfl⟩)
            go_roundg (s.size + 2 - (i + 1))
            case measure => have := HZ.out; omega
            case rel => exact ⟨false, i + 1, rfl, by omega, rfl, by go_num, HU, Lib.hid (ER.out.alloc _)⟩
        · cases q with
          | true =>
            have HU : Hid (upL false s.data.toList = (upL true (s.data.toList.drop (i + 1))).map (· + (i + 1))) := Lib.hid (by
              rw [HQ.out, HD.out, upL_in _ (byte_not (by exact c39)) (byte_not (by exact c92)), map_add, Nat.add_comm 1 i])
            go_wp2
            go_roundg (s.size + 2 - (i + 1))
            case measure => have := HZ.out; omega
            case rel => exact ⟨true, i + 1, rfl, by omega, rfl, by go_num, HU, ER⟩
          | false =>
            have m1 : True := trivial
            by_cases c44 : s[i].toNat = 44
            · have HU : Hid (upI s.data.toList = i) := Lib.hid (by
                unfold upI
                rw [HQ.out, HD.out, byte_is (by decide) c44, show UInt8.ofNat 44 = 44 from rfl, upL_end _ (.inl rfl)]
                simp)
              go_wp2_with (go_at_call 29; have mk := m1; clear m1 mk; refine (or_any wr.heap.size true false _ ((Bk.new wr _ _).cell 0) ((Bk.new wr _ _).cell 1)).mono ?_; rintro e w1 ⟨rfl, rfl⟩)
              go_ret
              exact ⟨by rw [HU.out]; rfl, ER.out.alloc _⟩
            · by_cases c41 : s[i].toNat = 41
              · have HU : Hid (upI s.data.toList = i) := Lib.hid (by
                  unfold upI
                  rw [HQ.out, HD.out, byte_is (by decide) c41, show UInt8.ofNat 41 = 41 from rfl, upL_end _ (.inr rfl)]
                  simp)
                go_wp2_with (go_at_call 29; have mk := m1; clear m1 mk; refine (or_any wr.heap.size false true _ ((Bk.new wr _ _).cell 0) ((Bk.new wr _ _).cell 1)).mono ?_; rintro e w1 ⟨rfl, rfl⟩)
                go_ret
                exact ⟨by rw [HU.out]; rfl, ER.out.alloc _⟩
              · have HU : Hid (upL false s.data.toList = (upL false (s.data.toList.drop (i + 1))).map (· + (i + 1))) := Lib.hid (by
                  rw [HQ.out, HD.out, upL_out _ (byte_not (by exact c39)) (fun e => e.elim (byte_not (by exact c44)) (byte_not (by exact c41))), map_add, Nat.add_comm 1 i])
                have z44 : ((s[i].toNat : Int) == 44) = false := by simp; omega
                have z41 : ((s[i].toNat : Int) == 41) = false := by simp; omega
                go_wp2_with (go_at_call 29; have mk := m1; clear m1 mk; refine (or_any wr.heap.size false false _ ((Bk.new wr _ _).cell 0) ((Bk.new wr _ _).cell 1)).mono ?_; rintro e w1 ⟨rfl, rfl⟩)
                go_roundg (s.size + 2 - (i + 1))
                case measure => have := HZ.out; omega
                case rel => exact ⟨false, i + 1, rfl, by omega, rfl, by go_num, HU, Lib.hid (ER.out.alloc _)⟩
    · have HU : Hid (upI s.data.toList = -1) := Lib.hid (by
        unfold upI
        rw [HQ.out, drop_end (by omega), upL_nil]
        rfl)
      go_wp2
      go_ret
      exact ⟨by rw [HU.out]; rfl, ER.out⟩
end Go.Proofs.YtngeioghihbkeaaGreatDoor
namespace Go.Proofs.YtngeioghihbkeaaGreatDoor
open Go.RowKit

theorem rowQ_pos {r : List UInt8} {m : List Dat} (h : rowQ r = some m) : 0 < m.length := by
  rw [rowQ_step] at h
  cases hu : upL false r with
  | none => rw [hu] at h; cases h
  | some k =>
    rw [hu] at h
    simp only [Option.bind_some] at h
    cases hp : pDat (r.take k) with
    | none => rw [hp] at h; cases h
    | some d =>
      rw [hp] at h
      simp only [Option.bind_some] at h
      unfold tailP at h
      split at h
      · cases h; simp
      · split at h
        · rename_i r2 _
          cases hq : rowQ r2 with
          | none => rw [hq] at h; cases h
          | some m2 => rw [hq] at h; cases h; simp
        · cases h
/-- how far a reading of the text xs has come: the data l, and what is left -/
def PS (xs R : List UInt8) (l : List Dat) : Prop := parseV xs = (rowQ R).bind fun m => if (l ++ m).length ≤ 32 then some (l ++ m) else none
theorem PS.start {r : List UInt8} (h : ¬ 40 :: r = [40, 41]) : PS (40 :: r) r [] := by
  unfold PS parseV
  rw [if_neg h]
  rfl
theorem PS.no {xs R : List UInt8} {l : List Dat} (h : PS xs R l) (hq : rowQ R = none) : parseV xs = none := by
  unfold PS at h
  rw [h, hq]
  rfl
theorem PS.full {xs R : List UInt8} {l : List Dat} (h : PS xs R l) (hl : 32 ≤ l.length) : parseV xs = none := by
  unfold PS at h
  rw [h]
  cases hq : rowQ R with
  | none => rfl
  | some m =>
    have := rowQ_pos hq
    exact if_neg (by rw [List.length_append]; omega)
theorem PS.none_up {xs R : List UInt8} {l : List Dat} (h : PS xs R l) (hu : upL false R = none) : parseV xs = none := h.no (by rw [rowQ_step, hu]; rfl)
theorem PS.none_dat {xs R : List UInt8} {l : List Dat} {k : Nat} (h : PS xs R l) (hu : upL false R = some k) (hp : pDat (R.take k) = none) : parseV xs = none := h.no (by rw [rowQ_step, hu, Option.bind_some, hp]; rfl)
theorem PS.step {xs R r : List UInt8} {l : List Dat} {k : Nat} {d : Dat} (h : PS xs R l) (hu : upL false R = some k) (hp : pDat (R.take k) = some d) (ht : R.drop k = 44 :: 32 :: r) : PS xs r (l ++ [d]) := by
  unfold PS at h ⊢
  rw [h, rowQ_step, hu, Option.bind_some, hp, Option.bind_some, ht]
  unfold tailP
  rw [if_neg (by simp)]
  simp only
  cases rowQ r with
  | none => rfl
  | some m => simp
theorem PS.last {xs R : List UInt8} {l : List Dat} {k : Nat} {d : Dat} (h : PS xs R l) (hu : upL false R = some k) (hp : pDat (R.take k) = some d) (ht : R.drop k = [41]) (hl : l.length < 32) : parseV xs = some (l ++ [d]) := by
  unfold PS at h
  rw [h, rowQ_step, hu, Option.bind_some, hp, Option.bind_some, ht]
  unfold tailP
  rw [if_pos rfl, Option.bind_some]
  exact if_pos (by rw [List.length_append, List.length_singleton]; omega)
theorem PS.bad {xs R : List UInt8} {l : List Dat} {k : Nat} {d : Dat} (h : PS xs R l) (hu : upL false R = some k) (hp : pDat (R.take k) = some d) (ht : ¬ R.drop k = [41]) (hp2 : Lib.hasPrefix (R.drop k) [44, 32] = false) : parseV xs = none := by
  refine h.no ?_
  rw [rowQ_step, hu, Option.bind_some, hp, Option.bind_some]
  unfold tailP
  rw [if_neg ht]
  split
  · rename_i r e
    rw [e] at hp2
    simp [Lib.hasPrefix, List.isPrefixOf] at hp2
  · rfl
theorem parseL_some {xs : List UInt8} {l : List Dat} (h : parseV xs = some l) : parseL xs = l := by unfold parseL; rw [h]; rfl
theorem parseE_some {xs : List UInt8} {l : List Dat} (h : parseV xs = some l) : parseE xs = 0 := by unfold parseE; rw [h]; rfl
theorem parseL_none {xs : List UInt8} (h : parseV xs = none) : parseL xs = [] := by unfold parseL; rw [h]; rfl
theorem parseE_none {xs : List UInt8} (h : parseV xs = none) : parseE xs = 20 := by unfold parseE; rw [h]; rfl
theorem parseE_range (xs : List UInt8) : parseE xs = 0 ∨ parseE xs = 20 := by unfold parseE; split <;> simp
theorem prefix_two {l : List UInt8} (h : Lib.hasPrefix l [44, 32] = true) : ∃ r, l = 44 :: 32 :: r ∧ Lib.trimPrefix l [44, 32] = r := by
  unfold Lib.trimPrefix
  rw [if_pos h]
  unfold Lib.hasPrefix at h
  obtain ⟨r, rfl⟩ := List.isPrefixOf_iff_prefix.1 h
  exact ⟨r, rfl, rfl⟩
theorem prefix_one {l : List UInt8} (h : Lib.hasPrefix l [40] = true) : ∃ r, l = 40 :: r ∧ Lib.trimPrefix l [40] = r := by
  unfold Lib.trimPrefix
  rw [if_pos h]
  unfold Lib.hasPrefix at h
  obtain ⟨r, rfl⟩ := List.isPrefixOf_iff_prefix.1 h
  exact ⟨r, rfl, rfl⟩
theorem cut_lit {b : Bool} {t : ByteArray} (s p : ByteArray) (w : World) (hb : Hid (Lib.hasPrefix s.data.toList p.data.toList = b)) (ht : Hid ((⟨(Lib.trimPrefix s.data.toList p.data.toList).toArray⟩ : ByteArray) = t)) :
    Calls Tryz.prog 14 #[.string s, .string p] w fun e w' => e = .returned (.tuple #[.string t, .bool b]) ∧ w = w' := by
  refine (Tryz.strings_CutPrefix s p w).mono ?_
  rintro e w1 ⟨rfl, rfl⟩
  exact ⟨by rw [hb.out, ht.out], rfl⟩
theorem upTo_lit {v : Int} (s : ByteArray) (w : World) (hs : s.size ≤ 140737488355328) (hv : Hid (upI s.data.toList = v)) :
    Calls Tryz.prog 15 #[.string s] w fun e w' => e = .returned (.int .i64 v) ∧ Ext w w' := hv.out ▸ upTo_any s w hs
theorem ext_take (s : ByteArray) (k : Nat) : (s.extract 0 k).data.toList = s.data.toList.take k := by
  have := ByteArray.data_extract (a := s) (b := 0) (e := k)
  rw [this, Array.toList_extract]
  simp [List.extract]
theorem ext_drop (s : ByteArray) (k : Nat) : (s.extract k s.size).data.toList = s.data.toList.drop k := by
  have := ByteArray.data_extract (a := s) (b := k) (e := s.size)
  rw [this, Array.toList_extract]
  simp only [List.extract]
  rw [List.take_of_length_le (by simp)]
/-- what Parse answers -/
def ParOut (w : World) (xs : List UInt8) (e : Ending) (w' : World) : Prop := ∃ A c, e = .returned (.tuple #[.slice A (parseL xs).length c, .int .u16 (parseE xs)]) ∧ Own w' w.heap.size 47 4 A (parseL xs).length c (rowC (parseL xs)) ∧ Ext w w'
theorem ParOut.no {w w' : World} {xs : List UInt8} (h : parseV xs = none) (x : Ext w w') : ParOut w xs (.returned (.tuple #[.slice none 0 0, .int .u16 20])) w' := by
  unfold ParOut
  rw [parseL_none h, parseE_none h]
  exact ⟨none, 0, rfl, Own.nil _ _ _ _, x⟩
theorem sl_one2 (w : World) (k n : Int) (b : Bool) (s : ByteArray) :
    Sl ((w.alloc (.cells #[.int .u8 k, .bool b, .int .i64 n, .string s] 47)).alloc (.cells #[.int .u8 k, .bool b, .int .i64 n, .string s] 47)) 4 (some ⟨w.heap.size + 1, 0, none⟩) 1 1 [.int .u8 k, .bool b, .int .i64 n, .string s] := by
  have h : (w.alloc (.cells #[.int .u8 k, .bool b, .int .i64 n, .string s] 47)).heap.size = w.heap.size + 1 := by simp
  have q := Sl.one (w.alloc (.cells #[.int .u8 k, .bool b, .int .i64 n, .string s] 47)) #[.int .u8 k, .bool b, .int .i64 n, .string s] 47 4 rfl
  rw [h] at q
  exact q
set_option maxRecDepth 100000 in
set_option maxHeartbeats 400000 in
theorem rowParse_unit (w : World) : Calls Tryz.prog 5 #[.string ⟨#[40, 41]⟩] w (ParOut w [40, 41]) := by
  go_enter Tryz.func5, Tryz.ntmps5
  go_wp2_with (go_at_call 14; refine (cut_lit (b := true) (t := ⟨#[41]⟩) _ _ _ (Lib.hid (by decide +kernel)) (Lib.hid (by decide +kernel))).mono ?_; rintro e w1 ⟨rfl, rfl⟩)
  go_ret2
  have h : parseV [40, 41] = some [] := rfl
  unfold ParOut
  rw [parseL_some h, parseE_some h]
  exact ⟨none, 0, rfl, Own.nil _ _ _ _, Ext.refl _⟩
set_option maxRecDepth 100000 in
set_option maxHeartbeats 400000 in
theorem rowParse_open (s : ByteArray) (w : World) (h : Lib.hasPrefix s.data.toList [40] = false) : Calls Tryz.prog 5 #[.string s] w (ParOut w s.data.toList) := by
  have h2 : ¬ s = ⟨[40, 41].toArray⟩ := by rintro rfl; simp [Lib.hasPrefix, List.isPrefixOf] at h
  have h3 := word_no h2
  have hv : Hid (parseV s.data.toList = none) := Lib.hid (by
    unfold parseV
    rw [if_neg (fun e => h2 (data_inj e))]
    split
    · rename_i e; rw [e] at h; simp [Lib.hasPrefix, List.isPrefixOf] at h
    · rfl)
  have H := Lib.hid h
  clear h h2
  go_enter Tryz.func5, Tryz.ntmps5
  go_wp2_with (go_at_call 14; refine (cut_lit (b := false) _ _ _ H (Lib.hid rfl)).mono ?_; rintro e w1 ⟨rfl, rfl⟩)
  go_ret2
  exact ParOut.no hv.out (Ext.refl _)
set_option maxRecDepth 100000 in
set_option maxHeartbeats 4000000 in
theorem rowParse_in (s : ByteArray) (r0 : List UInt8) (w : World) (hs : s.size ≤ 140737488355328) (e0 : Hid (s.data.toList = 40 :: r0)) (h : ¬ s = ⟨[40, 41].toArray⟩) (G : Good3 w) : Calls Tryz.prog 5 #[.string s] w (ParOut w s.data.toList) := by
  have h3 := word_no h
  have hp0 : Hid (Lib.hasPrefix s.data.toList [40] = true) := Lib.hid (by rw [e0.out]; simp [Lib.hasPrefix, List.isPrefixOf])
  have ht0 : Hid ((⟨(Lib.trimPrefix s.data.toList [40]).toArray⟩ : ByteArray) = ⟨r0.toArray⟩) := Lib.hid (by
    obtain ⟨r, e1, e2⟩ := prefix_one hp0.out
    rw [e0.out] at e1
    injection e1 with _ e1
    rw [e2, e1])
  have hsz0 : (⟨r0.toArray⟩ : ByteArray).size ≤ 140737488355328 := by
    have : s.data.toList.length = s.size := by simp
    rw [e0.out, List.length_cons] at this
    show r0.toArray.size ≤ _
    rw [List.size_toArray]
    omega
  have HS0 : Hid (PS s.data.toList r0 []) := Lib.hid (by rw [e0.out]; exact PS.start (fun e => h (data_inj (by rw [e0.out, e]))))
  obtain ⟨R0, hR0⟩ : ∃ R0 : ByteArray, (⟨r0.toArray⟩ : ByteArray) = R0 := ⟨_, rfl⟩
  have hR1 : R0.data.toList = r0 := by rw [← hR0]
  rw [hR0] at ht0 hsz0
  rw [← hR1] at HS0
  have HXS := Lib.hid (rfl : s.data.toList = s.data.toList)
  clear h hR0 hR1
  go_enter Tryz.func5, Tryz.ntmps5
  go_wp2_with (go_at_call 14; refine (cut_lit _ _ _ hp0 ht0).mono ?_; rintro e w1 ⟨rfl, rfl⟩)
  go_loopg [4, 6] R0.size (fun z u v wr => ∃ (R : ByteArray) (l : List Dat) (k c0 : Nat) (A0 : Option Addr), z = R.size ∧ R.size ≤ 140737488355328 ∧ u = .string R ∧ v = .slice A0 k c0 ∧ k ≤ 32 ∧ Hid (k = l.length) ∧ Hid (Own wr w.heap.size 47 4 A0 k c0 (rowC l)) ∧ Hid (PS s.data.toList R.data.toList l) ∧ Hid (Ext w wr))
  case atStart => exact ⟨R0, [], 0, 0, none, rfl, hsz0, rfl, rfl, by omega, Lib.hid rfl, Lib.hid (Own.nil _ _ _ _), HS0, Lib.hid (Ext.refl w)⟩
  case round =>
    clear hsz0 HS0 h3 hp0 ht0
    obtain ⟨R, l, k, c0, A0, hz, hR, rfl, rfl, hk, HK, HO, HP, ER⟩ := hrel
    have HZ := Lib.hid hz
    clear hz
    have m1 : True := trivial
    cases hu : upL false R.data.toList with
    | none =>
      have HU : Hid (upI R.data.toList = -1) := Lib.hid (by unfold upI; rw [hu])
      have HV := Lib.hid (HP.out.none_up hu)
      clear hu
      go_wp2_with (go_at_call 15; have mk := m1; clear m1 mk; refine (upTo_lit R _ hR HU).mono ?_; rintro e w1 ⟨rfl, x1⟩; have X1 := Lib.hid (ER.out.trans x1); clear x1)
      go_ret2
      exact ParOut.no HV.out X1.out
    | some j =>
      have hj : j < R.size := by have := upL_lt _ _ _ hu; simpa using this
      have HU : Hid (upI R.data.toList = (j : Int)) := Lib.hid (by unfold upI; rw [hu])
      have HUU := Lib.hid hu
      have hj0 : decide ((j : Int) < 0) = false := by simp
      clear hu
      by_cases hk32 : k = 32
      · have HV := Lib.hid (HP.out.full (by rw [← HK.out]; omega))
        subst hk32
        go_wp2_with (go_at_call 15; have mk := m1; clear m1 mk; refine (upTo_lit R _ hR HU).mono ?_; rintro e w1 ⟨rfl, x1⟩; have X1 := Lib.hid (ER.out.trans x1); clear x1)
        go_ret2
        exact ParOut.no HV.out X1.out
      · have hkz : ((k : Int) == 32) = false := by simp; omega
        obtain ⟨T, hT⟩ : ∃ T, R.extract 0 j = T := ⟨_, rfl⟩
        have hTl : T.data.toList = R.data.toList.take j := by rw [← hT]; exact ext_take R j
        have hTs : T.size ≤ 140737488355328 := by
          have q1 : T.data.toList.length = T.size := by simp
          have q2 : R.data.toList.length = R.size := by simp
          rw [hTl, List.length_take] at q1
          omega
        have hTe : (⟨(R.data.toList.take j).toArray⟩ : ByteArray) = T := data_inj (by rw [hTl])
        rcases rel_exists T with ⟨⟨kd, b, nd, t⟩, hr, _⟩ | hr
        · have hpd : pDat (R.data.toList.take j) = some ⟨kd, b, nd, t⟩ := pDat_yes (by rw [hTe]; exact hr)
          have HRel := Lib.hid hr
          have HPD := Lib.hid hpd
          obtain ⟨Q, hQ⟩ : ∃ Q, R.extract j R.size = Q := ⟨_, rfl⟩
          have hQl : Q.data.toList = R.data.toList.drop j := by rw [← hQ]; exact ext_drop R j
          have HQl := Lib.hid hQl
          have HHQ := Lib.hid hQ
          have HHT := Lib.hid hT
          clear hr hpd hTl hTe hQl
          by_cases hq41 : Q = ⟨[41].toArray⟩
          · have HV : Hid (parseV s.data.toList = some (l ++ [⟨kd, b, nd, t⟩])) := Lib.hid (HP.out.last HUU.out HPD.out (by rw [← HQl.out, hq41]) (by rw [← HK.out]; omega))
            have hQ2 : (Q.toList == [41]) = true := by rw [hq41]; decide +kernel
            clear hq41
            go_wp2_with (first
              | (go_at_call 15; have mk := m1; clear m1 mk; refine (upTo_lit R _ hR HU).mono ?_; rintro e w1 ⟨rfl, x1⟩; have X1 := Lib.hid (ER.out.trans x1); have O1 := Lib.hid (HO.out.ext x1); have m2 : True := trivial; clear x1)
              | (go_at_call 16; have mk := m2; clear m2 mk; go_loud (refine (parse_at T t kd nd 0 b _ hTs HRel (G.ext X1.out)).mono ?_); rintro e w2 ⟨rfl, x2⟩; have F2 := Lib.hid ((X1.out.trans x2).alloc (.cells #[.int .u8 kd, .bool b, .int .i64 nd, .string t] 47)); have O2 := Lib.hid (O1.out.ext (x2.alloc (.cells #[.int .u8 kd, .bool b, .int .i64 nd, .string t] 47))); have a2 := Bk.new w2 47 #[.int .u8 kd, .bool b, .int .i64 nd, .string t]; have b0 := a2.cell 0; have b1 := a2.cell 1; have b2 := a2.cell 2; have b3 := a2.cell 3; have m3 : True := trivial; clear x2 a2)
              | (at_builtin; have mk := m3; clear m3 mk; go_loud (refine wpList_append_two _ elem_dat w.heap.size _ _ rfl rfl A0 k c0 (rowC l) rfl (O2.out.alloc _) _ 1 1 [.int .u8 kd, .bool b, .int .i64 nd, .string t] rfl (sl_one2 w2 kd nd b t) (rowC_one [⟨kd, b, nd, t⟩]) (by omega) (by decide) (by have := F2.out.size; simp at this ⊢; omega) ?_); intro A3 c3 w3 o3 g3 x3; clear x3; have O3 := Lib.hid o3; have F3 : Hid (Ext w w3) := Lib.hid ((F2.out.alloc _).grown g3 (fun j e => (O2.out.lt j e).1)); clear o3 g3))
            go_ret2
            unfold ParOut
            rw [parseL_some HV.out, parseE_some HV.out, List.length_append, ← HK.out]
            exact ⟨A3, c3, rfl, by rw [rowC_append]; exact O3.out, F3.out⟩
          · have hQ2 := word_no hq41
            have hn41 : ¬ R.data.toList.drop j = [41] := fun e => hq41 (data_inj (by rw [HQl.out, e]))
            cases hpre : Lib.hasPrefix Q.data.toList [44, 32] with
            | false =>
              have HV := Lib.hid (HP.out.bad HUU.out HPD.out hn41 (by rw [← HQl.out]; exact hpre))
              have HPre := Lib.hid hpre
              clear hpre hq41 hn41
              go_wp2_with (first
                | (go_at_call 15; have mk := m1; clear m1 mk; refine (upTo_lit R _ hR HU).mono ?_; rintro e w1 ⟨rfl, x1⟩; have X1 := Lib.hid (ER.out.trans x1); have O1 := Lib.hid (HO.out.ext x1); have m2 : True := trivial; clear x1)
                | (go_at_call 16; have mk := m2; clear m2 mk; go_loud (refine (parse_at T t kd nd 0 b _ hTs HRel (G.ext X1.out)).mono ?_); rintro e w2 ⟨rfl, x2⟩; have F2 := Lib.hid ((X1.out.trans x2).alloc (.cells #[.int .u8 kd, .bool b, .int .i64 nd, .string t] 47)); have O2 := Lib.hid (O1.out.ext (x2.alloc (.cells #[.int .u8 kd, .bool b, .int .i64 nd, .string t] 47))); have a2 := Bk.new w2 47 #[.int .u8 kd, .bool b, .int .i64 nd, .string t]; have b0 := a2.cell 0; have b1 := a2.cell 1; have b2 := a2.cell 2; have b3 := a2.cell 3; have m3 : True := trivial; clear x2 a2)
                | (at_builtin; have mk := m3; clear m3 mk; go_loud (refine wpList_append_two _ elem_dat w.heap.size _ _ rfl rfl A0 k c0 (rowC l) rfl (O2.out.alloc _) _ 1 1 [.int .u8 kd, .bool b, .int .i64 nd, .string t] rfl (sl_one2 w2 kd nd b t) (rowC_one [⟨kd, b, nd, t⟩]) (by omega) (by decide) (by have := F2.out.size; simp at this ⊢; omega) ?_); intro A3 c3 w3 o3 g3 x3; clear x3; have O3 := Lib.hid o3; have F3 : Hid (Ext w w3) := Lib.hid ((F2.out.alloc _).grown g3 (fun j e => (O2.out.lt j e).1)); have m4 : True := trivial; clear o3 g3)
                | (go_at_call 14; have mk := m4; clear m4 mk; go_loud (refine (cut_lit Q _ _ HPre (Lib.hid rfl)).mono ?_); rintro e w4 ⟨rfl, rfl⟩))
              go_ret2
              exact ParOut.no HV.out F3.out
            | true =>
              obtain ⟨r2, hr2, htr⟩ := prefix_two hpre
              obtain ⟨U, hU⟩ : ∃ U : ByteArray, (⟨(Lib.trimPrefix Q.data.toList [44, 32]).toArray⟩ : ByteArray) = U := ⟨_, rfl⟩
              have hUl : U.data.toList = r2 := by rw [← hU, htr]
              have HPS : Hid (PS s.data.toList U.data.toList (l ++ [⟨kd, b, nd, t⟩])) := Lib.hid (by rw [hUl]; exact HP.out.step HUU.out HPD.out (by rw [← HQl.out]; exact hr2))
              have hUs : U.size < R.size := by
                have q1 : U.data.toList.length = U.size := by simp
                have q2 : R.data.toList.length = R.size := by simp
                have q3 := congrArg List.length hr2
                rw [HQl.out, List.length_drop, List.length_cons, List.length_cons, ← hUl] at q3
                omega
              have HPre := Lib.hid hpre
              have HUt := Lib.hid hU
              clear hpre hq41 hn41 hr2 htr hUl hU
              go_wp2_with (first
                | (go_at_call 15; have mk := m1; clear m1 mk; refine (upTo_lit R _ hR HU).mono ?_; rintro e w1 ⟨rfl, x1⟩; have X1 := Lib.hid (ER.out.trans x1); have O1 := Lib.hid (HO.out.ext x1); have m2 : True := trivial; clear x1)
                | (go_at_call 16; have mk := m2; clear m2 mk; go_loud (refine (parse_at T t kd nd 0 b _ hTs HRel (G.ext X1.out)).mono ?_); rintro e w2 ⟨rfl, x2⟩; have F2 := Lib.hid ((X1.out.trans x2).alloc (.cells #[.int .u8 kd, .bool b, .int .i64 nd, .string t] 47)); have O2 := Lib.hid (O1.out.ext (x2.alloc (.cells #[.int .u8 kd, .bool b, .int .i64 nd, .string t] 47))); have a2 := Bk.new w2 47 #[.int .u8 kd, .bool b, .int .i64 nd, .string t]; have b0 := a2.cell 0; have b1 := a2.cell 1; have b2 := a2.cell 2; have b3 := a2.cell 3; have m3 : True := trivial; clear x2 a2)
                | (at_builtin; have mk := m3; clear m3 mk; go_loud (refine wpList_append_two _ elem_dat w.heap.size _ _ rfl rfl A0 k c0 (rowC l) rfl (O2.out.alloc _) _ 1 1 [.int .u8 kd, .bool b, .int .i64 nd, .string t] rfl (sl_one2 w2 kd nd b t) (rowC_one [⟨kd, b, nd, t⟩]) (by omega) (by decide) (by have := F2.out.size; simp at this ⊢; omega) ?_); intro A3 c3 w3 o3 g3 x3; clear x3; have O3 := Lib.hid o3; have F3 : Hid (Ext w w3) := Lib.hid ((F2.out.alloc _).grown g3 (fun j e => (O2.out.lt j e).1)); have m4 : True := trivial; clear o3 g3)
                | (go_at_call 14; have mk := m4; clear m4 mk; go_loud (refine (cut_lit Q _ _ HPre HUt).mono ?_); rintro e w4 ⟨rfl, rfl⟩))
              go_roundg U.size
              case measure => have := HZ.out; omega
              case rel => exact ⟨U, l ++ [⟨kd, b, nd, t⟩], k + 1, c3, A3, rfl, by omega, rfl, rfl, by omega, Lib.hid (by rw [List.length_append, ← HK.out]; rfl), Lib.hid (by rw [rowC_append]; exact O3.out), HPS, F3⟩
        · have HV := Lib.hid (HP.out.none_dat HUU.out (pDat_no (by rw [hTe]; exact hr) (by decide)))
          have HRel := Lib.hid hr
          clear hr hTl hTe
          go_wp2_with (first
            | (go_at_call 15; have mk := m1; clear m1 mk; refine (upTo_lit R _ hR HU).mono ?_; rintro e w1 ⟨rfl, x1⟩; have X1 := Lib.hid (ER.out.trans x1); have m2 : True := trivial; clear x1)
            | (go_at_call 16; have mk := m2; clear m2 mk; go_loud (refine (parse_at T ⟨#[]⟩ 0 0 13 false _ hTs HRel (G.ext X1.out)).mono ?_); rintro e w2 ⟨rfl, x2⟩; have F2 := Lib.hid ((X1.out.trans x2).alloc (.cells #[.int .u8 0, .bool false, .int .i64 0, .string ⟨#[]⟩] 47)); clear x2))
          go_ret2
          exact ParOut.no HV.out F2.out
theorem rowParse_any (s : ByteArray) (w : World) (hs : s.size ≤ 140737488355328) (G : Good3 w) : Calls Tryz.prog 5 #[.string s] w (ParOut w s.data.toList) := by
  by_cases h : s = ⟨[40, 41].toArray⟩
  · subst h
    exact rowParse_unit w
  · cases hp : Lib.hasPrefix s.data.toList [40] with
    | false => exact rowParse_open s w hp
    | true =>
      obtain ⟨r, e, _⟩ := prefix_one hp
      exact rowParse_in s r w hs (Lib.hid e) h G
end Go.Proofs.YtngeioghihbkeaaGreatDoor
namespace Go.Proofs.YtngeioghihbkeaaGreatDoor
open Go.RowKit

theorem cmpR_self (l : List Dat) : cmpR l l = 0 := cmpC_tot.refl ⟨none, 0, l, 0⟩
theorem prn_at {v : Int} {q : ByteArray} (A : Option Addr) (c n : Nat) (l : List Dat) (w : World) (hv : Hid (checkR l = v)) (hq : Hid ((if checkR l = 0 then rowS l else ⟨#[]⟩) = q)) (e1 : Hid (n = l.length)) (h1 : Hid (Rw w A c l)) (ht : Hid (RwTxt l)) (hi : Hid (RwInt l)) (G : Good2 w) :
    Calls Tryz.prog 10 #[.slice A n c] w fun e w' => e = .returned (.tuple #[.string q, .int .u16 v]) ∧ Ext w w' := by
  refine (rowPrint_any A c n l w e1 h1 ht hi G).mono ?_
  rintro e w1 ⟨rfl, x1⟩
  exact ⟨by rw [hq.out, hv.out], x1⟩
theorem rowL_fine {l : List Dat} (h : checkR l = 0) (hi : RwInt l) : ∀ c ∈ rowL l, 32 ≤ c.toNat := by
  have hc := (checkR_ok l).1 h
  have key : ∀ m : List Dat, (∀ d ∈ m, Ok d) → ∀ c ∈ Lib.join (m.map prD) sep_, 32 ≤ c.toNat := by
    intro m
    induction m with
    | nil => intro _ c hc; simp [Lib.join] at hc
    | cons d m ih =>
      intro hm c hc
      have hd : ∀ c ∈ prD d, 32 ≤ c.toNat := fun c hc => by
        rw [prD_is (hm d (List.mem_cons_self ..))] at hc
        have := List.all_eq_true.1 (printL_fine d.k d.n d.b d.s) c hc
        unfold fine at this
        rw [decide_eq_true_iff] at this
        exact this.1
      cases m with
      | nil =>
        rw [List.map_singleton, Lib.join_one] at hc
        exact hd c hc
      | cons d2 m =>
        have e : Lib.join ((d :: d2 :: m).map prD) sep_ = prD d ++ ([44, 32] ++ Lib.join ((d2 :: m).map prD) sep_) := by
          rw [List.map_cons, List.map_cons, Lib.join_cons, Lib.join_cons]
          unfold Lib.joinTail
          simp only [List.map_cons, List.flatten_cons, List.append_assoc]
          rfl
        rw [e] at hc
        rcases List.mem_append.1 hc with hc | hc
        · exact hd c hc
        · rcases List.mem_append.1 hc with hc | hc
          · simp at hc; rcases hc with rfl | rfl <;> decide
          · exact ih (fun x hx => hm x (List.mem_cons_of_mem _ hx)) c hc
  intro c hm
  unfold rowL at hm
  rcases List.mem_cons.1 hm with rfl | hm
  · decide
  · rcases List.mem_append.1 hm with hm | hm
    · exact key l (fun d hd => ⟨hc.2 d hd, hi d hd⟩) c hm
    · simp at hm; subst hm; decide
theorem rowS_fine {l : List Dat} {p : ByteArray} (h : checkR l = 0) (hi : RwInt l) (hp : rowS l = p) : ∀ k (hk : k < p.size), ((p[k].toNat : Int) == 10) = false := by
  subst hp
  intro k hk
  have := rowL_fine h hi (rowS l)[k] (by
    have h' : k < (rowS l).data.toList.length := by simpa using hk
    have : (rowS l)[k] = (rowS l).data.toList[k] := rfl
    rw [this]
    exact List.getElem_mem h')
  simp
  omega
theorem rowS_inj {l m : List Dat} (hl : checkR l = 0) (hm : checkR m = 0) (il : RwInt l) (im : RwInt m) (h : rowS l = rowS m) : l = m := by
  have e : rowL l = rowL m := congrArg (fun b : ByteArray => b.data.toList) h
  have h1 := parseV_row hl il
  rw [e, parseV_row hm im] at h1
  injection h1 with h1
  exact h1.symm
theorem rowS_size {l : List Dat} (h : checkR l = 0) (hi : RwInt l) : (rowS l).size ≤ 1000000 := by
  have hc := (checkR_ok l).1 h
  have hj := join_max sep_ 5000 (l.map prD) (fun x hx => by
    obtain ⟨d, hd, rfl⟩ := List.mem_map.1 hx
    exact prD_len d (hi d hd))
  rw [List.length_map] at hj
  have hs : sep_.length = 2 := rfl
  have hl : l.length * (5000 + sep_.length) ≤ 32 * 5002 := by rw [hs]; exact Nat.mul_le_mul_right _ hc.1
  show (rowL l).toArray.size ≤ _
  rw [List.size_toArray]
  unfold rowL
  rw [List.length_cons, List.length_append, List.length_singleton]
  omega
/-- Parse of what is written -/
theorem parse_back {p : ByteArray} (l : List Dat) (n : Nat) (w : World) (hv : Hid (checkR l = 0)) (hi : Hid (RwInt l)) (hp : Hid (rowS l = p)) (hn : Hid (n = l.length)) (G : Good3 w) :
    Calls Tryz.prog 5 #[.string p] w fun e w' => ∃ A c, e = .returned (.tuple #[.slice A n c, .int .u16 0]) ∧ Rw w' A c l ∧ Ext w w' := by
  have hp' := hp.out
  subst hp'
  have hv' : parseV (rowS l).data.toList = some l := parseV_row hv.out hi.out
  refine (rowParse_any (rowS l) w (by have := rowS_size hv.out hi.out; omega) G).mono ?_
  rintro e w1 ⟨A, c, rfl, o1, x1⟩
  rw [parseL_some hv', parseE_some hv'] at *
  exact ⟨A, c, by rw [hn.out], o1.sl, x1⟩
end Go.Proofs.YtngeioghihbkeaaGreatDoor
