/- datum.unquoted of any text: what it answers, as far as it must be known. Conditions: the library's tables stand; the text is not too long. -/
import Derived.Test.YtobgfegdfcpgfaaDoorPUint
namespace Go.Proofs.YtobgfegdfcpgfaaDoor
open Go.RowKit

def strLen : Value → Nat | .string r => r.size | _ => 0
def UnqOut (s : ByteArray) (e : Ending) : Prop := ∃ (t : ByteArray) (b : Bool), e = .returned (.tuple #[.string t, .bool b]) ∧ Unq s t b ∧ t.size ≤ s.size
theorem unqFail {s : ByteArray} {acc rest : List UInt8} (h : Rd s.data.toList acc rest) (hne : rest ≠ []) (hd : decQ rest = none) : UnqOut s (.returned (.tuple #[.string ⟨#[]⟩, .bool false])) := ⟨_, _, rfl, unq_fail h hne hd, Nat.zero_le _⟩
theorem empty_no {r : ByteArray} (h : 0 < r.size) : r.toList.isEmpty = false := by
  rw [← decide_eq_emptyBytes]
  exact decide_eq_false (fun e => by rw [e] at h; exact absurd h (by decide))
theorem empty_yes {r : ByteArray} (h : ¬ 0 < r.size) : r.toList.isEmpty = true := by
  rw [← decide_eq_emptyBytes]
  refine decide_eq_true ?_
  obtain ⟨⟨l⟩⟩ := r
  cases l with
  | nil => rfl
  | cons a l => exact absurd (Nat.succ_pos _) h
theorem head_list {r : ByteArray} (h : 0 < r.size) : r.data.toList = r[0] :: r.data.toList.drop 1 := by
  have e : r.data.toList.length = r.size := by simp
  have := List.drop_eq_getElem_cons (l := r.data.toList) (i := 0) (by omega)
  rw [List.drop_zero] at this
  rw [this]
  simp
  rfl
theorem empty_list {r : ByteArray} (h : ¬ 0 < r.size) : r.data.toList = [] := by
  have e : r.data.toList.length = r.size := by simp
  exact List.eq_nil_of_length_eq_zero (by omega)
def UnqRel (s : ByteArray) (w : World) (u : Value) (wr : World) : Prop := ∃ (r : ByteArray) (acc : List UInt8), u = .string r ∧ r.size + acc.length ≤ s.size ∧ Lib.IsBuilder 91 5 w.heap.size w.heap.size (Lib.byteCells acc) wr ∧ Ext w wr ∧ Rd s.data.toList acc r.data.toList
theorem unq_rel {s r q : ByteArray} {acc : List UInt8} {a : UInt8} {w w1 w2 : World} (HR : Rd s.data.toList acc r.data.toList) (hne : 0 < r.size) (hd : ∀ b u, decQ r.data.toList = some (b, u) → b = a ∧ u = q.data.toList) (hsz : q.size + (acc.length + 1) ≤ s.size)
    (hw : Written w.heap.size w.heap.size (Lib.byteCells acc ++ [.int .u8 (a.toNat : Int)]) w1 w2) (x : Ext w w1) : UnqRel s w (.string q) w2 := by
  refine ⟨q, acc ++ [a], rfl, by rw [List.length_append]; exact hsz, .inr ?_, Below.trans x hw.2, rd_step HR (fun h => ?_) hd⟩
  · rw [cells_append]
    exact hw.1
  · have e : r.data.toList.length = r.size := by simp
    rw [h] at e
    exact absurd hne (by rw [← e]; decide)
theorem ne_nil {r : ByteArray} {c : UInt8} {x : List UInt8} (h : r.data.toList = c :: x) : r.data.toList ≠ [] := by rw [h]; exact List.cons_ne_nil _ _
theorem of_nat {c : UInt8} (d : UInt8) (h : c.toNat = d.toNat) : c = d := UInt8.toNat_inj.1 h
theorem no_nat {c : UInt8} (d : UInt8) (h : ¬ c.toNat = d.toNat) : ¬ c = d := fun e => h (by rw [e])
theorem some_pair {a b : UInt8} {x y : List UInt8} (h : (some (a, x) : Option (UInt8 × List UInt8)) = some (b, y)) : b = a ∧ y = x := by
  injection h with h
  injection h with h1 h2
  exact ⟨h1.symm, h2.symm⟩
theorem take2 {q : ByteArray} {h l : UInt8} {z : List UInt8} (hq : q.data.toList = h :: l :: z) : (q.extract 0 2).data.toList = [h, l] := by
  rw [ByteArray.data_extract, Array.toList_extract]
  unfold List.extract
  rw [hq]
  rfl
theorem decQ_plain {c : UInt8} {x : List UInt8} (h39 : ¬ c = 39) (h92 : ¬ c = 92) : decQ (c :: x) = some (c, x) := by
  simp only [decQ, if_neg h39, if_neg h92]
theorem decQ_no {d : UInt8} {y : List UInt8} (h1 : ¬ d = 92) (h2 : ¬ d = 110) (h3 : ¬ d = 114) (h4 : ¬ d = 116) (h5 : ¬ d = 120) : decQ (92 :: d :: y) = none := by
  show (if d = 92 then _ else if d = 110 then _ else if d = 114 then _ else if d = 116 then _ else if d = 120 then _ else none) = none
  rw [if_neg h1, if_neg h2, if_neg h3, if_neg h4, if_neg h5]
theorem decQ_q {d : UInt8} {y : List UInt8} (h : ¬ d = 39) : decQ (39 :: d :: y) = none := by
  show (if d = 39 then _ else none) = none
  exact if_neg h
theorem hex_pair {x y b : UInt8} {u : Nat} {z v : List UInt8} (hu : (hexOk x && hexOk y) = true → u = 16 * hexV x + hexV y) (h : (if hexOk x && hexOk y then some (UInt8.ofNat (16 * hexV x + hexV y), z) else none : Option (UInt8 × List UInt8)) = some (b, v)) : b = UInt8.ofNat u ∧ v = z := by
  by_cases hh : (hexOk x && hexOk y) = true
  · rw [if_pos hh, ← hu hh] at h
    exact some_pair h
  · rw [if_neg hh] at h
    exact nomatch h
theorem of_u8 (u : Nat) : IntKind.u8.wrap (u : Int) = ((UInt8.ofNat u).toNat : Int) := by
  rw [IntKind.wrap_u8, UInt8.toNat_ofNat']
  omega

set_option maxRecDepth 100000 in
set_option maxHeartbeats 4000000 in
theorem unquoted_any (s : ByteArray) (w : World) (hs : s.size ≤ 140737488355328) (G : Good3 w) :
    Calls Tryd.prog 86 #[.string s] w fun e w' => UnqOut s e ∧ Ext w w' := by
  go_enter Tryd.func86, Tryd.ntmps86
  go_wp2
  go_loopw [0] (fun u wr => UnqRel s w u wr) (fun u _ => strLen u)
  case atStart => exact ⟨s, [], rfl, by simp, fresh_builder w, (Ext.refl w).alloc _, rd_start _⟩
  case round =>
    obtain ⟨r, acc, rfl, hr, hb, er, hR⟩ := hrel
    have HR := Lib.hid hR
    clear hR
    have HB := Lib.hid hb
    have hsz := er.size
    clear hb
    by_cases h0 : 0 < r.size
    · have hz2 := empty_no h0
      have HP : Hid (0 < r.size ∧ True) := Lib.hid ⟨h0, trivial⟩
      have HL := Lib.hid (head_list h0)
      have HT1 := Lib.hid (tail_list r 1)
      have hqa : (r.extract 1 r.size).size < r.size := by simp; omega
      have hqb : r.size ≤ (r.extract 1 r.size).size + 1 := by simp; omega
      have HLc0 : Hid (r.data.toList = r[0] :: (r.extract 1 r.size).data.toList) := Lib.hid (by rw [HT1.out]; exact HL.out)
      have hc256 : r[0].toNat < 256 := r[0].toNat_lt
      go_wp2
      refine wp_region_ord [0,1,0,4,3,31] (.flo [0,1,2,3,4,5] (.fin)) (by kernel_rfl) (by kernel_rfl) (by intro _ _ d _ _ h; cases d <;> exact h) ?_
      (refine ord_flo (pick_cons rfl (pick_cons rfl (pick_cons rfl (pick_cons rfl (pick_cons rfl (pick_cons rfl pick_nil)))))) ?_; (repeat (go_big_quiet_step (fail))); refine wpQuiet_nil ?_; show ordWalk _ _ _ _ _ _ _)
      refine ord_fin ?_
      obtain ⟨w1, hw1⟩ : ∃ w1, w1 = wr.drew := ⟨_, rfl⟩
      have HB1 : Hid (Lib.IsBuilder 91 5 w.heap.size w.heap.size (Lib.byteCells acc) w1) := Lib.hid (by rw [hw1]; exact HB.out)
      have X1 : Hid (Ext w w1) := Lib.hid (by rw [hw1]; exact er.drew)
      have hs1 := X1.out.size
      rw [← hw1]
      clear hw1 HB
      obtain ⟨q, hqq⟩ : ∃ q, q = r.extract 1 r.size := ⟨_, rfl⟩
      rw [← hqq] at hqa hqb HLc0 ⊢
      have HLc := HLc0
      clear hqq HLc0 HL HT1
      by_cases hc39 : r[0].toNat = 39
      · have ec : r[0] = 39 := of_nat 39 hc39
        have HEc := Lib.hid ec
        clear ec
        have zr39 : ((r[0].toNat : Int) == 39) = true := by simp; omega
        have yr39 : ((r[0].toNat : Int) != 39) = false := by simp; omega
        have zr92 : ((r[0].toNat : Int) == 92) = false := by simp; omega
        have pr92 : ¬ (r[0].toNat : Int) = 92 := by omega
        have yr92 : ((r[0].toNat : Int) != 92) = true := by simp; omega
        by_cases h1 : 0 < q.size
        · skip
          have hz3 := empty_no h1
          obtain ⟨q2, hq2⟩ : ∃ q2, q2 = q.extract 1 q.size := ⟨_, rfl⟩
          have hqs : q2.size < q.size := by rw [hq2]; simp; omega
          have hqt : q.size ≤ q2.size + 1 := by rw [hq2]; simp; omega
          have HLd : Hid (q.data.toList = q[0] :: q2.data.toList) := Lib.hid (by rw [hq2, tail_list q 1]; exact head_list h1)
          have hq3 : q.extract 1 q.size = q2 := hq2.symm
          clear hq2
          have hd256 : q[0].toNat < 256 := q[0].toNat_lt
          by_cases hd39 : q[0].toNat = 39
          · have HEd := Lib.hid (of_nat 39 hd39)
            have zq39 : ((q[0].toNat : Int) == 39) = true := by simp; omega
            have yq39 : ((q[0].toNat : Int) != 39) = false := by simp; omega
            have zq92 : ((q[0].toNat : Int) == 92) = false := by simp; omega
            have pq92 : ¬ (q[0].toNat : Int) = 92 := by omega
            have yq92 : ((q[0].toNat : Int) != 92) = true := by simp; omega
            have zq110 : ((q[0].toNat : Int) == 110) = false := by simp; omega
            have pq110 : ¬ (q[0].toNat : Int) = 110 := by omega
            have yq110 : ((q[0].toNat : Int) != 110) = true := by simp; omega
            have zq114 : ((q[0].toNat : Int) == 114) = false := by simp; omega
            have pq114 : ¬ (q[0].toNat : Int) = 114 := by omega
            have yq114 : ((q[0].toNat : Int) != 114) = true := by simp; omega
            have zq116 : ((q[0].toNat : Int) == 116) = false := by simp; omega
            have pq116 : ¬ (q[0].toNat : Int) = 116 := by omega
            have yq116 : ((q[0].toNat : Int) != 116) = true := by simp; omega
            have zq120 : ((q[0].toNat : Int) == 120) = false := by simp; omega
            have pq120 : ¬ (q[0].toNat : Int) = 120 := by omega
            have yq120 : ((q[0].toNat : Int) != 120) = true := by simp; omega
            go_wp2_with (go_at_call 92; refine (writeByte_any w.heap.size w.heap.size _ 39  _ HB1.out (by rw [Lib.byteCells_length]; omega) (by omega)).mono ?_; rintro e w2 ⟨rfl, hw2⟩)
            go_roundw
            case rel => exact unq_rel (a := (39 : UInt8)) HR.out HP.out.1 (fun b u h => some_pair (by rw [HLc.out, HLd.out, HEc.out, HEd.out] at h; exact h)) (by omega) (by exact hw2) (by exact X1.out)
            case measure => simp only [strLen]; omega
          · have HNd := Lib.hid (no_nat 39 hd39)
            have zq39 : ((q[0].toNat : Int) == 39) = false := by simp; omega
            have pq39 : ¬ (q[0].toNat : Int) = 39 := by omega
            have yq39 : ((q[0].toNat : Int) != 39) = true := by simp; omega
            go_wp2
            go_ret2
            exact ⟨unqFail HR.out (ne_nil HLc.out) (by rw [HLc.out, HLd.out, HEc.out]; exact decQ_q HNd.out), X1.out⟩
        · have hz3 := empty_yes h1
          have HE := Lib.hid (empty_list h1)
          go_wp2
          go_ret2
          exact ⟨unqFail HR.out (ne_nil HLc.out) (by rw [HLc.out, HE.out, HEc.out]; rfl), X1.out⟩
      have HN39 := Lib.hid (no_nat 39 hc39)
      by_cases hc92 : r[0].toNat = 92
      · have ec : r[0] = 92 := of_nat 92 hc92
        have HEc := Lib.hid ec
        clear ec
        have zr39 : ((r[0].toNat : Int) == 39) = false := by simp; omega
        have pr39 : ¬ (r[0].toNat : Int) = 39 := by omega
        have yr39 : ((r[0].toNat : Int) != 39) = true := by simp; omega
        have zr92 : ((r[0].toNat : Int) == 92) = true := by simp; omega
        have yr92 : ((r[0].toNat : Int) != 92) = false := by simp; omega
        by_cases h1 : 0 < q.size
        · skip
          have hz3 := empty_no h1
          obtain ⟨q2, hq2⟩ : ∃ q2, q2 = q.extract 1 q.size := ⟨_, rfl⟩
          have hqs : q2.size < q.size := by rw [hq2]; simp; omega
          have hqt : q.size ≤ q2.size + 1 := by rw [hq2]; simp; omega
          have HLd : Hid (q.data.toList = q[0] :: q2.data.toList) := Lib.hid (by rw [hq2, tail_list q 1]; exact head_list h1)
          have hq3 : q.extract 1 q.size = q2 := hq2.symm
          clear hq2
          have hd256 : q[0].toNat < 256 := q[0].toNat_lt
          by_cases hd110 : q[0].toNat = 110
          · have HEd := Lib.hid (of_nat 110 hd110)
            have zq39 : ((q[0].toNat : Int) == 39) = false := by simp; omega
            have pq39 : ¬ (q[0].toNat : Int) = 39 := by omega
            have yq39 : ((q[0].toNat : Int) != 39) = true := by simp; omega
            have zq92 : ((q[0].toNat : Int) == 92) = false := by simp; omega
            have pq92 : ¬ (q[0].toNat : Int) = 92 := by omega
            have yq92 : ((q[0].toNat : Int) != 92) = true := by simp; omega
            have zq110 : ((q[0].toNat : Int) == 110) = true := by simp; omega
            have yq110 : ((q[0].toNat : Int) != 110) = false := by simp; omega
            have zq114 : ((q[0].toNat : Int) == 114) = false := by simp; omega
            have pq114 : ¬ (q[0].toNat : Int) = 114 := by omega
            have yq114 : ((q[0].toNat : Int) != 114) = true := by simp; omega
            have zq116 : ((q[0].toNat : Int) == 116) = false := by simp; omega
            have pq116 : ¬ (q[0].toNat : Int) = 116 := by omega
            have yq116 : ((q[0].toNat : Int) != 116) = true := by simp; omega
            have zq120 : ((q[0].toNat : Int) == 120) = false := by simp; omega
            have pq120 : ¬ (q[0].toNat : Int) = 120 := by omega
            have yq120 : ((q[0].toNat : Int) != 120) = true := by simp; omega
            have zrq : ((r[0].toNat : Int) != (q[0].toNat : Int)) = true := by simp; omega
            go_wp2_with (go_at_call 92; refine (writeByte_any w.heap.size w.heap.size _ 10  _ HB1.out (by rw [Lib.byteCells_length]; omega) (by omega)).mono ?_; rintro e w2 ⟨rfl, hw2⟩)
            go_roundw
            case rel => exact unq_rel (a := (10 : UInt8)) HR.out HP.out.1 (fun b u h => some_pair (by rw [HLc.out, HLd.out, HEc.out, HEd.out] at h; exact h)) (by omega) (by exact hw2) (by exact X1.out)
            case measure => simp only [strLen]; omega
          have HN110 := Lib.hid (no_nat 110 hd110)
          by_cases hd114 : q[0].toNat = 114
          · have HEd := Lib.hid (of_nat 114 hd114)
            have zq39 : ((q[0].toNat : Int) == 39) = false := by simp; omega
            have pq39 : ¬ (q[0].toNat : Int) = 39 := by omega
            have yq39 : ((q[0].toNat : Int) != 39) = true := by simp; omega
            have zq92 : ((q[0].toNat : Int) == 92) = false := by simp; omega
            have pq92 : ¬ (q[0].toNat : Int) = 92 := by omega
            have yq92 : ((q[0].toNat : Int) != 92) = true := by simp; omega
            have zq110 : ((q[0].toNat : Int) == 110) = false := by simp; omega
            have pq110 : ¬ (q[0].toNat : Int) = 110 := by omega
            have yq110 : ((q[0].toNat : Int) != 110) = true := by simp; omega
            have zq114 : ((q[0].toNat : Int) == 114) = true := by simp; omega
            have yq114 : ((q[0].toNat : Int) != 114) = false := by simp; omega
            have zq116 : ((q[0].toNat : Int) == 116) = false := by simp; omega
            have pq116 : ¬ (q[0].toNat : Int) = 116 := by omega
            have yq116 : ((q[0].toNat : Int) != 116) = true := by simp; omega
            have zq120 : ((q[0].toNat : Int) == 120) = false := by simp; omega
            have pq120 : ¬ (q[0].toNat : Int) = 120 := by omega
            have yq120 : ((q[0].toNat : Int) != 120) = true := by simp; omega
            have zrq : ((r[0].toNat : Int) != (q[0].toNat : Int)) = true := by simp; omega
            go_wp2_with (go_at_call 92; refine (writeByte_any w.heap.size w.heap.size _ 13  _ HB1.out (by rw [Lib.byteCells_length]; omega) (by omega)).mono ?_; rintro e w2 ⟨rfl, hw2⟩)
            go_roundw
            case rel => exact unq_rel (a := (13 : UInt8)) HR.out HP.out.1 (fun b u h => some_pair (by rw [HLc.out, HLd.out, HEc.out, HEd.out] at h; exact h)) (by omega) (by exact hw2) (by exact X1.out)
            case measure => simp only [strLen]; omega
          have HN114 := Lib.hid (no_nat 114 hd114)
          by_cases hd116 : q[0].toNat = 116
          · have HEd := Lib.hid (of_nat 116 hd116)
            have zq39 : ((q[0].toNat : Int) == 39) = false := by simp; omega
            have pq39 : ¬ (q[0].toNat : Int) = 39 := by omega
            have yq39 : ((q[0].toNat : Int) != 39) = true := by simp; omega
            have zq92 : ((q[0].toNat : Int) == 92) = false := by simp; omega
            have pq92 : ¬ (q[0].toNat : Int) = 92 := by omega
            have yq92 : ((q[0].toNat : Int) != 92) = true := by simp; omega
            have zq110 : ((q[0].toNat : Int) == 110) = false := by simp; omega
            have pq110 : ¬ (q[0].toNat : Int) = 110 := by omega
            have yq110 : ((q[0].toNat : Int) != 110) = true := by simp; omega
            have zq114 : ((q[0].toNat : Int) == 114) = false := by simp; omega
            have pq114 : ¬ (q[0].toNat : Int) = 114 := by omega
            have yq114 : ((q[0].toNat : Int) != 114) = true := by simp; omega
            have zq116 : ((q[0].toNat : Int) == 116) = true := by simp; omega
            have yq116 : ((q[0].toNat : Int) != 116) = false := by simp; omega
            have zq120 : ((q[0].toNat : Int) == 120) = false := by simp; omega
            have pq120 : ¬ (q[0].toNat : Int) = 120 := by omega
            have yq120 : ((q[0].toNat : Int) != 120) = true := by simp; omega
            have zrq : ((r[0].toNat : Int) != (q[0].toNat : Int)) = true := by simp; omega
            go_wp2_with (go_at_call 92; refine (writeByte_any w.heap.size w.heap.size _ 9  _ HB1.out (by rw [Lib.byteCells_length]; omega) (by omega)).mono ?_; rintro e w2 ⟨rfl, hw2⟩)
            go_roundw
            case rel => exact unq_rel (a := (9 : UInt8)) HR.out HP.out.1 (fun b u h => some_pair (by rw [HLc.out, HLd.out, HEc.out, HEd.out] at h; exact h)) (by omega) (by exact hw2) (by exact X1.out)
            case measure => simp only [strLen]; omega
          have HN116 := Lib.hid (no_nat 116 hd116)
          by_cases hd92 : q[0].toNat = 92
          · have HEd := Lib.hid (of_nat 92 hd92)
            have zq39 : ((q[0].toNat : Int) == 39) = false := by simp; omega
            have pq39 : ¬ (q[0].toNat : Int) = 39 := by omega
            have yq39 : ((q[0].toNat : Int) != 39) = true := by simp; omega
            have zq92 : ((q[0].toNat : Int) == 92) = true := by simp; omega
            have yq92 : ((q[0].toNat : Int) != 92) = false := by simp; omega
            have zq110 : ((q[0].toNat : Int) == 110) = false := by simp; omega
            have pq110 : ¬ (q[0].toNat : Int) = 110 := by omega
            have yq110 : ((q[0].toNat : Int) != 110) = true := by simp; omega
            have zq114 : ((q[0].toNat : Int) == 114) = false := by simp; omega
            have pq114 : ¬ (q[0].toNat : Int) = 114 := by omega
            have yq114 : ((q[0].toNat : Int) != 114) = true := by simp; omega
            have zq116 : ((q[0].toNat : Int) == 116) = false := by simp; omega
            have pq116 : ¬ (q[0].toNat : Int) = 116 := by omega
            have yq116 : ((q[0].toNat : Int) != 116) = true := by simp; omega
            have zq120 : ((q[0].toNat : Int) == 120) = false := by simp; omega
            have pq120 : ¬ (q[0].toNat : Int) = 120 := by omega
            have yq120 : ((q[0].toNat : Int) != 120) = true := by simp; omega
            have zrq : ((r[0].toNat : Int) != (q[0].toNat : Int)) = false := by simp; omega
            go_wp2_with (go_at_call 92; refine (writeByte_any w.heap.size w.heap.size _ 92  _ HB1.out (by rw [Lib.byteCells_length]; omega) (by omega)).mono ?_; rintro e w2 ⟨rfl, hw2⟩)
            go_roundw
            case rel => exact unq_rel (a := (92 : UInt8)) HR.out HP.out.1 (fun b u h => some_pair (by rw [HLc.out, HLd.out, HEc.out, HEd.out] at h; exact h)) (by omega) (by exact hw2) (by exact X1.out)
            case measure => simp only [strLen]; omega
          have HN92 := Lib.hid (no_nat 92 hd92)
          by_cases hd39 : q[0].toNat = 39
          · have HEd := Lib.hid (of_nat 39 hd39)
            have zq39 : ((q[0].toNat : Int) == 39) = true := by simp; omega
            have yq39 : ((q[0].toNat : Int) != 39) = false := by simp; omega
            have zq92 : ((q[0].toNat : Int) == 92) = false := by simp; omega
            have pq92 : ¬ (q[0].toNat : Int) = 92 := by omega
            have yq92 : ((q[0].toNat : Int) != 92) = true := by simp; omega
            have zq110 : ((q[0].toNat : Int) == 110) = false := by simp; omega
            have pq110 : ¬ (q[0].toNat : Int) = 110 := by omega
            have yq110 : ((q[0].toNat : Int) != 110) = true := by simp; omega
            have zq114 : ((q[0].toNat : Int) == 114) = false := by simp; omega
            have pq114 : ¬ (q[0].toNat : Int) = 114 := by omega
            have yq114 : ((q[0].toNat : Int) != 114) = true := by simp; omega
            have zq116 : ((q[0].toNat : Int) == 116) = false := by simp; omega
            have pq116 : ¬ (q[0].toNat : Int) = 116 := by omega
            have yq116 : ((q[0].toNat : Int) != 116) = true := by simp; omega
            have zq120 : ((q[0].toNat : Int) == 120) = false := by simp; omega
            have pq120 : ¬ (q[0].toNat : Int) = 120 := by omega
            have yq120 : ((q[0].toNat : Int) != 120) = true := by simp; omega
            have zrq : ((r[0].toNat : Int) != (q[0].toNat : Int)) = true := by simp; omega
            go_wp2
            go_ret2
            exact ⟨unqFail HR.out (ne_nil HLc.out) (by rw [HLc.out, HLd.out, HEc.out, HEd.out]; rfl), X1.out⟩
          by_cases hd120 : q[0].toNat = 120
          · have HEd := Lib.hid (of_nat 120 hd120)
            have zq39 : ((q[0].toNat : Int) == 39) = false := by simp; omega
            have pq39 : ¬ (q[0].toNat : Int) = 39 := by omega
            have yq39 : ((q[0].toNat : Int) != 39) = true := by simp; omega
            have zq92 : ((q[0].toNat : Int) == 92) = false := by simp; omega
            have pq92 : ¬ (q[0].toNat : Int) = 92 := by omega
            have yq92 : ((q[0].toNat : Int) != 92) = true := by simp; omega
            have zq110 : ((q[0].toNat : Int) == 110) = false := by simp; omega
            have pq110 : ¬ (q[0].toNat : Int) = 110 := by omega
            have yq110 : ((q[0].toNat : Int) != 110) = true := by simp; omega
            have zq114 : ((q[0].toNat : Int) == 114) = false := by simp; omega
            have pq114 : ¬ (q[0].toNat : Int) = 114 := by omega
            have yq114 : ((q[0].toNat : Int) != 114) = true := by simp; omega
            have zq116 : ((q[0].toNat : Int) == 116) = false := by simp; omega
            have pq116 : ¬ (q[0].toNat : Int) = 116 := by omega
            have yq116 : ((q[0].toNat : Int) != 116) = true := by simp; omega
            have zq120 : ((q[0].toNat : Int) == 120) = true := by simp; omega
            have yq120 : ((q[0].toNat : Int) != 120) = false := by simp; omega
            by_cases h2 : q2.size < 2
            · skip
              have hz62 : decide ((q2.size : Int) < 2) = true := by simp; omega
              have HS : Hid (q2.data.toList = [] ∨ ∃ a, q2.data.toList = [a]) := Lib.hid (by have e : q2.data.toList.length = q2.size := (by simp); match q2.data.toList, e with | [], _ => exact .inl rfl | [a], _ => exact .inr ⟨a, rfl⟩ | _ :: _ :: _, e => simp at e; omega)
              go_wp2
              go_ret2
              exact ⟨unqFail HR.out (ne_nil HLc.out) (by rw [HLc.out, HLd.out, HEc.out, HEd.out]; rcases HS.out with h | ⟨a, h⟩ <;> rw [h] <;> rfl), X1.out⟩
            · have hz62 : decide ((q2.size : Int) < 2) = false := by simp; omega
              obtain ⟨x, y, z, hxy⟩ : ∃ x y z, q2.data.toList = x :: y :: z := by have e : q2.data.toList.length = q2.size := (by simp); match q2.data.toList, e with | [], e => simp at e; omega | [a], e => simp at e; omega | a :: b :: z, _ => exact ⟨a, b, z, rfl⟩
              have HXY := Lib.hid hxy
              have HTK := Lib.hid (take2 hxy)
              have HG := Lib.hid (G.ext X1.out)
              obtain ⟨q4, hq4⟩ : ∃ q4, q4 = q2.extract 2 q2.size := ⟨_, rfl⟩
              have hq4s : q4.size + 2 ≤ q2.size := by rw [hq4]; simp; omega
              have HLz : Hid (q4.data.toList = z) := Lib.hid (by rw [hq4, tail_list q2 2, hxy]; rfl)
              have hq5 : q2.extract 2 q2.size = q4 := hq4.symm
              clear hq4 hxy
              go_wp2_with fail
              refine (parseUint_any _ x y HTK.out _ HG.out).mono ?_
              rintro e w3 ⟨he, x3⟩
              have HB3 : Hid (Lib.IsBuilder 91 5 w.heap.size w.heap.size (Lib.byteCells acc) w3) := Lib.hid (HB1.out.imp (fun h => h.ext x3) (fun h => h.ext x3))
              have X3 : Hid (Ext w w3) := Lib.hid (Ext.trans X1.out x3)
              have hs3 := X3.out.size
              rcases he with ⟨u, rfl, hu⟩ | ⟨hn, u, t, p, rfl⟩
              · have HU := Lib.hid hu
                have hwr := of_u8 u
                clear hu
                go_wp2_with (go_at_call 92; refine (writeByte_any w.heap.size w.heap.size _ ((UInt8.ofNat u).toNat : Int) _ HB3.out (by rw [Lib.byteCells_length]; omega) (by omega)).mono ?_; rintro e w2 ⟨rfl, hw2⟩)
                go_roundw
                case rel => exact unq_rel (a := UInt8.ofNat u) HR.out HP.out.1 (fun b v h => by rw [HLc.out, HLd.out, HEc.out, HEd.out, HXY.out] at h; have h' : (if hexOk x && hexOk y then some (UInt8.ofNat (16 * hexV x + hexV y), z) else none : Option (UInt8 × List UInt8)) = some (b, v) := h; exact hex_pair HU.out (by rw [HLz.out]; exact h')) (by omega) (by exact hw2) (by exact X3.out)
                case measure => simp only [strLen]; omega
              · have HN := Lib.hid hn
                clear hn
                go_wp2
                go_ret2
                exact ⟨unqFail HR.out (ne_nil HLc.out) (by rw [HLc.out, HLd.out, HEc.out, HEd.out, HXY.out]; show (if hexOk x && hexOk y then _ else none : Option (UInt8 × List UInt8)) = none; rw [HN.out]; rfl), X3.out⟩
          have HN120 := Lib.hid (no_nat 120 hd120)
          have zq39 : ((q[0].toNat : Int) == 39) = false := by simp; omega
          have pq39 : ¬ (q[0].toNat : Int) = 39 := by omega
          have yq39 : ((q[0].toNat : Int) != 39) = true := by simp; omega
          have zq92 : ((q[0].toNat : Int) == 92) = false := by simp; omega
          have pq92 : ¬ (q[0].toNat : Int) = 92 := by omega
          have yq92 : ((q[0].toNat : Int) != 92) = true := by simp; omega
          have zq110 : ((q[0].toNat : Int) == 110) = false := by simp; omega
          have pq110 : ¬ (q[0].toNat : Int) = 110 := by omega
          have yq110 : ((q[0].toNat : Int) != 110) = true := by simp; omega
          have zq114 : ((q[0].toNat : Int) == 114) = false := by simp; omega
          have pq114 : ¬ (q[0].toNat : Int) = 114 := by omega
          have yq114 : ((q[0].toNat : Int) != 114) = true := by simp; omega
          have zq116 : ((q[0].toNat : Int) == 116) = false := by simp; omega
          have pq116 : ¬ (q[0].toNat : Int) = 116 := by omega
          have yq116 : ((q[0].toNat : Int) != 116) = true := by simp; omega
          have zq120 : ((q[0].toNat : Int) == 120) = false := by simp; omega
          have pq120 : ¬ (q[0].toNat : Int) = 120 := by omega
          have yq120 : ((q[0].toNat : Int) != 120) = true := by simp; omega
          go_wp2
          go_ret2
          exact ⟨unqFail HR.out (ne_nil HLc.out) (by rw [HLc.out, HLd.out, HEc.out]; exact decQ_no HN92.out HN110.out HN114.out HN116.out HN120.out), X1.out⟩
        · have hz3 := empty_yes h1
          have HE := Lib.hid (empty_list h1)
          go_wp2
          go_ret2
          exact ⟨unqFail HR.out (ne_nil HLc.out) (by rw [HLc.out, HE.out, HEc.out]; rfl), X1.out⟩
      have HN92 := Lib.hid (no_nat 92 hc92)
      have zr39 : ((r[0].toNat : Int) == 39) = false := by simp; omega
      have pr39 : ¬ (r[0].toNat : Int) = 39 := by omega
      have yr39 : ((r[0].toNat : Int) != 39) = true := by simp; omega
      have zr92 : ((r[0].toNat : Int) == 92) = false := by simp; omega
      have pr92 : ¬ (r[0].toNat : Int) = 92 := by omega
      have yr92 : ((r[0].toNat : Int) != 92) = true := by simp; omega
      go_wp2_with (go_at_call 92; refine (writeByte_any w.heap.size w.heap.size _ (r[0].toNat : Int) _ HB1.out (by rw [Lib.byteCells_length]; omega) (by omega)).mono ?_; rintro e w2 ⟨rfl, hw2⟩)
      go_roundw
      case rel => exact unq_rel (a := r[0]) HR.out HP.out.1 (fun b u h => some_pair (by rw [HLc.out, decQ_plain HN39.out HN92.out] at h; exact h)) (by omega) (by exact hw2) (by exact X1.out)
      case measure => simp only [strLen]; omega
    · have hz2 := empty_yes h0
      have HE : Hid (Rd s.data.toList acc []) := Lib.hid (by have := HR.out; rw [empty_list h0] at this; exact this)
      have X0 := Lib.hid er
      go_wp2_with (go_at_call 96; refine (string_any w.heap.size w.heap.size acc _ HB.out X0.out.size).mono ?_; rintro e w3 ⟨rfl, x3⟩)
      go_ret2
      exact ⟨⟨_, _, rfl, fun x hx => ⟨rd_end HE.out x hx, rfl⟩, (by show acc.toArray.size ≤ s.size; rw [List.size_toArray]; omega)⟩, Below.trans X0.out x3⟩
end Go.Proofs.YtobgfegdfcpgfaaDoor
