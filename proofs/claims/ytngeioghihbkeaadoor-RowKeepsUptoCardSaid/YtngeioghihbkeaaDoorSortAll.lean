/- slices.SortStableFunc at rows with counts. Conditions: the rows lie in memory, apart from the list; not more than a milliard of them. -/
import Derived.Test.YtngeioghihbkeaaDoorSym
import Derived.Test.YtngeioghihbkeaaDoorSortSmall
namespace Go.Proofs.YtngeioghihbkeaaDoor
open Go.RowKit

/-- blocks sorted up to a -/
def Pass1 (B g c : Nat) (L : List Ct) (w wr : World) (a : Nat) (S T : List Ct) : Prop :=
  S.length = a ∧ a + T.length = L.length ∧ (∀ x ∈ T, x ∈ L) ∧ (∀ T', Bks cmpC 20 T T' → Bks cmpC 20 L (S ++ T')) ∧ Arr wr B g c (S ++ T) ∧ w.grownBy wr (some g)
theorem Pass1.step {B g c a : Nat} {L : List Ct} {w wr w1 : World} {S T1 T2 Z : List Ct} (h : Pass1 B g c L w wr a S (T1 ++ T2)) (h1 : T1.length = 20) (hz : Stable cmpC T1 Z) (ha : Arr w1 B g c (S ++ (Z ++ T2))) (hg : wr.grownBy w1 (some g)) : Pass1 B g c L w w1 (a + 20) (S ++ Z) T2 := by
  obtain ⟨q1, q2, q3, q4, q5, q6⟩ := h
  have lz := stable_len hz
  rw [List.length_append] at q2
  refine ⟨by rw [List.length_append]; omega, by omega, fun x hx => q3 x (List.mem_append_right _ hx), fun T' hT => ?_, by rw [List.append_assoc]; exact ha, q6.trans hg⟩
  rw [List.append_assoc]
  exact q4 (Z ++ T') (.more T1 Z T2 T' h1 hz hT)
theorem Pass1.last {B g c a : Nat} {L : List Ct} {w wr w1 : World} {S T Z : List Ct} (h : Pass1 B g c L w wr a S T) (h1 : T.length ≤ 20) (hz : Stable cmpC T Z) (ha : Arr w1 B g c (S ++ Z)) (hg : wr.grownBy w1 (some g)) : Bks cmpC 20 L (S ++ Z) ∧ Arr w1 B g c (S ++ Z) ∧ w.grownBy w1 (some g) :=
  ⟨h.2.2.2.1 Z (.last T Z h1 hz), ha, h.2.2.2.2.2.trans hg⟩
/-- blocks of so many, sorted -/
def Pass2 (B g c s : Nat) (L : List Ct) (w wr : World) (S : List Ct) : Prop := Bks cmpC s L S ∧ Arr wr B g c S ∧ w.grownBy wr (some g)
/-- two by two merged, up to a -/
def Pass3 (B g c s : Nat) (L : List Ct) (w wr : World) (a : Nat) (D O R : List Ct) : Prop :=
  D.length = a ∧ a + R.length = L.length ∧ Bks cmpC s O R ∧ (∀ x ∈ R, x ∈ L) ∧ (∀ R', Bks cmpC (2 * s) O R' → Bks cmpC (2 * s) L (D ++ R')) ∧ Arr wr B g c (D ++ R) ∧ w.grownBy wr (some g)
theorem bks_len {s : Nat} {O S : List Ct} (h : Bks cmpC s O S) : S.length = O.length := h.len stable_len
theorem Pass2.start {B g c s : Nat} {L : List Ct} {w wr : World} {S : List Ct} (h : Pass2 B g c s L w wr S) : Pass3 B g c s L w wr 0 [] L S :=
  ⟨rfl, by rw [bks_len h.1, Nat.zero_add], h.1, fun x hx => (h.1.mem cmpC_tot x).1 hx, fun _ h => h, h.2.1, h.2.2⟩
theorem Pass3.step {B g c s a : Nat} {L : List Ct} {w wr w1 : World} {D O1 O2 O3 S1 S2 S3 Z : List Ct} (h : Pass3 B g c s L w wr a D (O1 ++ (O2 ++ O3)) (S1 ++ (S2 ++ S3))) (l1 : O1.length = s) (l2 : O2.length = s) (s1 : Stable cmpC O1 S1) (s2 : Stable cmpC O2 S2) (h3 : Bks cmpC s O3 S3)
    (hz : Stable cmpC (S1 ++ S2) Z) (ha : Arr w1 B g c (D ++ (Z ++ S3))) (hg : wr.grownBy w1 (some g)) : Pass3 B g c s L w w1 (a + 2 * s) (D ++ Z) O3 S3 := by
  obtain ⟨q1, q2, q3, q4, q5, q6, q7⟩ := h
  have e1 := stable_len s1
  have e2 := stable_len s2
  have lz := stable_len hz
  rw [List.length_append] at lz
  simp only [List.length_append] at q2
  refine ⟨by rw [List.length_append]; omega, by omega, h3, fun x hx => q4 x (List.mem_append_right _ (List.mem_append_right _ hx)), fun R' hR => ?_, by rw [List.append_assoc]; exact ha, q7.trans hg⟩
  have := q5 (Z ++ R') (by
    rw [← List.append_assoc]
    exact .more (O1 ++ O2) Z O3 R' (by rw [List.length_append]; omega) (Stable.join s1 s2 hz) hR)
  rwa [List.append_assoc]
theorem Pass3.rest {B g c s a : Nat} {L : List Ct} {w wr w1 : World} {D O1 O2 S1 S2 Z : List Ct} (h : Pass3 B g c s L w wr a D (O1 ++ O2) (S1 ++ S2)) (hl : (O1 ++ O2).length ≤ 2 * s) (s1 : Stable cmpC O1 S1) (s2 : Stable cmpC O2 S2)
    (hz : Stable cmpC (S1 ++ S2) Z) (ha : Arr w1 B g c (D ++ (Z ++ []))) (hg : wr.grownBy w1 (some g)) : Pass2 B g c (2 * s) L w w1 (D ++ Z) := by
  obtain ⟨q1, q2, q3, q4, q5, q6, q7⟩ := h
  exact ⟨q5 Z (.last _ Z hl (Stable.join s1 s2 hz)), by rwa [List.append_nil] at ha, q7.trans hg⟩
theorem Pass3.none {B g c s a : Nat} {L : List Ct} {w wr : World} {D O R : List Ct} (h : Pass3 B g c s L w wr a D O R) (hs : 0 < s) (hl : O.length ≤ s) : Pass2 B g c (2 * s) L w wr (D ++ R) := by
  obtain ⟨q1, q2, q3, q4, q5, q6, q7⟩ := h
  exact ⟨q5 R (.last O R (by omega) (q3.all cmpC_tot hs hl)), q6, q7⟩
set_option maxRecDepth 100000 in
set_option maxHeartbeats 16000000 in
theorem stable_any (B g c n : Nat) (L : List Ct) (w : World) (hn : n = L.length) (hbig : n ≤ 1000000000) (h : Arr w B g c L) (hr : Rws w g L) :
    Calls Tryd.prog 97 #[.slice (some ⟨g, 0, none⟩) n c, .int .i64 n, .func (.func 59) #[] #[]] w (Sorted B g c L w) := by
  have HR := Lib.hid hr
  have HN := Lib.hid hn
  have HP0 : Hid (Pass1 B g c L w w 0 [] L) := Lib.hid ⟨rfl, Nat.zero_add _, fun _ h => h, fun _ h => h, h, World.grownBy.refl w _⟩
  clear h hr hn
  go_enter Tryd.func97, Tryd.ntmps97
  go_wp2
  go_loopg [7, 8] n (fun z u v wr => ∃ (a : Nat) (S T : List Ct), z = n - a ∧ a ≤ n ∧ u = .int .i64 a ∧ v = .int .i64 ((a + 20 : Nat) : Int) ∧ Hid (Pass1 B g c L w wr a S T))
  case atStart => exact ⟨0, [], L, rfl, Nat.zero_le _, rfl, by go_num, HP0⟩
  case round =>
    obtain ⟨a, S, T, rfl, han, rfl, rfl, HJ⟩ := hrel
    clear HP0
    by_cases hlt : a + 20 ≤ n
    · obtain ⟨T1, T2, rfl, ht⟩ := cut_at T 20 (by have := HJ.out.2.1; have := HN.out; omega)
      obtain ⟨x0, S0, rfl⟩ := cons_of (l := T1) (by omega)
      have HT := Lib.hid ht
      clear ht
      have zl : ((a + 20 : Nat) : Int) ≤ (n : Int) := by omega
      go_wp2_with (go_at_call 128; refine (insSort_some B g c n a (a + 20) S S0 T2 x0 _ HJ.out.1.symm (by have := HJ.out.1; have := HT.out; rw [List.length_cons] at this; omega) (by have := HJ.out; have e1 := this.1; have e2 := this.2.1; have e3 := HN.out; rw [List.length_append, e1]; omega) HJ.out.2.2.2.2.1 ((HR.out.upd HJ.out.2.2.2.2.2).sub fun x hx => HJ.out.2.2.1 x (List.mem_append_left _ hx))).mono ?_; rintro e w1 ⟨rfl, Z, s1, s2, s3⟩; have HJ1 := Lib.hid (HJ.out.step HT.out s1 s2 s3); clear s1 s2 s3)
      go_roundg (n - (a + 20))
      case measure => omega
      case rel => exact ⟨a + 20, S ++ Z, T2, rfl, hlt, by go_num, by go_num, HJ1⟩
    · have zl : ¬ ((a + 20 : Nat) : Int) ≤ (n : Int) := by omega
      have HX : ∃ P : World → Prop, (∀ w1, P w1 → ∃ S1, Pass2 B g c 20 L w w1 S1) ∧ Calls Tryd.prog 128 #[.slice (some ⟨g, 0, none⟩) n c, .int .i64 a, .int .i64 n, .func (.func 59) #[] #[]] wr fun e w' => e = .returned (.tuple #[]) ∧ P w' := by
        refine ⟨fun w1 => ∃ S1, Pass2 B g c 20 L w w1 S1, fun _ h => h, ?_⟩
        have hl := HJ.out.2.1
        rw [← HN.out] at hl
        by_cases ht : 0 < T.length
        · obtain ⟨x0, S0, rfl⟩ := cons_of ht
          refine (insSort_some B g c n a n S S0 [] x0 wr HJ.out.1.symm (by have := HJ.out.1; rw [List.length_cons] at hl; omega) (by rw [List.append_nil, List.length_append, HJ.out.1]; exact hl.symm) (by rw [List.append_nil]; exact HJ.out.2.2.2.2.1) ((HR.out.upd HJ.out.2.2.2.2.2).sub fun x hx => HJ.out.2.2.1 x hx)).mono ?_
          rintro e w1 ⟨rfl, Z, s1, s2, s3⟩
          rw [List.append_nil] at s2
          exact ⟨rfl, _, HJ.out.last (by omega) s1 s2 s3⟩
        · have e : T = [] := nil_or ht
          subst e
          refine (insSort_none _ n c a n wr (by rw [List.length_nil] at hl; omega) (by omega)).mono ?_
          rintro e w1 ⟨rfl, rfl⟩
          exact ⟨rfl, _, HJ.out.last (Nat.zero_le _) Stable.nil HJ.out.2.2.2.2.1 (World.grownBy.refl _ _)⟩
      obtain ⟨PP, hp1, hp2⟩ := HX
      have HP1 := Lib.hid hp1
      have HP2 := Lib.hid hp2
      clear hp1 hp2
      go_wp2_with (go_at_call 128; refine HP2.out.mono ?_; rintro e w1 ⟨rfl, s1⟩; obtain ⟨S1, s2⟩ := HP1.out _ s1; have HS := Lib.hid s2; clear s1 s2)
      clear HP1 HP2
      go_loopg [6, 7, 8] (n - 20) (fun z u v t wr => ∃ (s : Nat) (S : List Ct), z = n - s ∧ 0 < s ∧ s ≤ 3000000000 ∧ u = .int .i64 s ∧ Hid (Pass2 B g c s L w wr S))
      case atStart => exact ⟨20, S1, rfl, by omega, by omega, rfl, HS⟩
      case round =>
        obtain ⟨s, S, rfl, hs0, hs9, rfl, HQ⟩ := hrel
        clear HS HJ
        obtain ⟨wo, hwo⟩ : ∃ wo : World, wo = wr := ⟨_, rfl⟩
        rw [← hwo] at HQ ⊢
        clear hwo
        by_cases hsn : s < n
        · have HQ3 := Lib.hid HQ.out.start
          go_wp2
          go_loopg [7, 8] n (fun z u v wr => ∃ (a : Nat) (D O R : List Ct), z = n - a ∧ a ≤ n ∧ u = .int .i64 a ∧ v = .int .i64 ((a + 2 * s : Nat) : Int) ∧ Hid (Pass3 B g c s L w wr a D O R))
          case atStart => exact ⟨0, [], L, S, rfl, Nat.zero_le _, rfl, by go_num, HQ3⟩
          case round =>
            obtain ⟨a, D, O, R, rfl, han, rfl, rfl, HI⟩ := hrel
            clear HQ3
            have hOl : O.length = R.length := (bks_len HI.out.2.2.1).symm
            have hRl : a + R.length = n := by rw [HN.out]; exact HI.out.2.1
            by_cases hlt : a + 2 * s ≤ n
            · obtain ⟨O1, S1, O2, S2, O3, S3, rfl, rfl, l1, l2, s1, s2, s3⟩ := HI.out.2.2.1.two hs0 (by omega)
              obtain ⟨ms, hms⟩ : ∃ q, q = a + s := ⟨_, rfl⟩
              have zm : (a : Int) + (s : Int) = (ms : Int) := by omega
              have e1 := stable_len s1
              have e2 := stable_len s2
              have HG := Lib.hid (And.intro l1 (And.intro l2 (And.intro s1 (And.intro s2 s3))))
              have HE := Lib.hid (And.intro e1 (And.intro e2 hms))
              have hmn : ms ≤ n := by omega
              clear l1 l2 s1 s2 s3 e1 e2 hOl hRl hms
              have zl : ((a + 2 * s : Nat) : Int) ≤ (n : Int) := by omega
              go_wp2_with (go_at_call 129; refine (symM_all (S1.length + S2.length) B g c n a ms (a + 2 * s) D S1 S2 S3 _ (Nat.le_refl _) (by have := HE.out; have := HG.out; omega) (by have := HE.out; have := HG.out; omega) HI.out.1.symm (by have := HE.out; have := HG.out; omega) (by have := HE.out; have := HG.out; omega) (by have := HI.out.2.1; have := HI.out.1; have := HN.out; rw [List.length_append]; omega) HG.out.2.2.1.sorted HG.out.2.2.2.1.sorted HI.out.2.2.2.2.2.1 ((HR.out.upd HI.out.2.2.2.2.2.2).sub fun x hx => HI.out.2.2.2.1 x (by rcases List.mem_append.1 hx with hx | hx <;> simp [hx])) hbig).mono ?_; rintro e w1 ⟨rfl, Z, z1, z2, z3⟩; have HI1 := Lib.hid (HI.out.step HG.out.1 HG.out.2.1 HG.out.2.2.1 HG.out.2.2.2.1 HG.out.2.2.2.2 z1 z2 z3); clear z1 z2 z3)
              go_roundg (n - (a + 2 * s))
              case measure => omega
              case rel => exact ⟨a + 2 * s, D ++ Z, O3, S3, rfl, hlt, by go_num, by go_num, HI1⟩
            · have zl : ¬ ((a + 2 * s : Nat) : Int) ≤ (n : Int) := by omega
              obtain ⟨ms, hms⟩ : ∃ q, q = a + s := ⟨_, rfl⟩
              have zm : (a : Int) + (s : Int) = (ms : Int) := by omega
              by_cases hm : a + s < n
              · obtain ⟨O1, S1, O2, S2, rfl, rfl, l1, s1, s2⟩ := HI.out.2.2.1.rest cmpC_tot hs0 (by omega) (by omega)
                have e1 := stable_len s1
                have e2 := stable_len s2
                have HO : Hid ((O1 ++ O2).length ≤ 2 * s) := Lib.hid (by omega)
                have HG := Lib.hid (And.intro l1 (And.intro s1 s2))
                have HE := Lib.hid (And.intro e1 (And.intro e2 (And.intro hRl hms)))
                have zn : (ms : Int) < (n : Int) := by omega
                clear l1 s1 s2 e1 e2 hOl hRl hms
                go_wp2_with (go_at_call 129; refine (symM_all (S1.length + S2.length) B g c n a ms n D S1 S2 [] _ (Nat.le_refl _) (by have := HE.out; have := HG.out; omega) (by have := HE.out; have := HG.out; simp only [List.length_append] at *; omega) HI.out.1.symm (by have := HE.out; have := HG.out; omega) (by have := HE.out; have := HG.out; simp only [List.length_append] at *; omega) (by have := HI.out.2.1; have := HI.out.1; have := HN.out; rw [List.append_nil, List.length_append]; omega) HG.out.2.1.sorted HG.out.2.2.sorted (by rw [List.append_nil]; exact HI.out.2.2.2.2.2.1) ((HR.out.upd HI.out.2.2.2.2.2.2).sub fun x hx => HI.out.2.2.2.1 x hx) hbig).mono ?_; rintro e w1 ⟨rfl, Z, z1, z2, z3⟩; have HI1 := Lib.hid (HI.out.rest HO.out HG.out.2.1 HG.out.2.2 z1 z2 z3); clear z1 z2 z3)
                go_roundg (n - 2 * s)
                case measure => omega
                case rel => exact ⟨2 * s, D ++ Z, rfl, by omega, by omega, by go_num, HI1⟩
              · have zn : ¬ (ms : Int) < (n : Int) := by omega
                have HI1 := Lib.hid (HI.out.none hs0 (by omega))
                have hmb : ms ≤ 2000000000 := by omega
                clear hOl hRl hms
                go_wp2
                go_roundg (n - 2 * s)
                case measure => omega
                case rel => exact ⟨2 * s, D ++ R, rfl, by omega, by omega, by go_num, HI1⟩
        · have HE : Hid (Sorted B g c L w (.returned (.tuple #[])) wo) := Lib.hid ⟨rfl, S, HQ.out.1.all cmpC_tot hs0 (by rw [← HN.out]; omega), HQ.out.2.1, HQ.out.2.2⟩
          go_wp2
          go_end0
          exact HE.out
set_option maxRecDepth 100000 in
set_option maxHeartbeats 800000 in
theorem sortStable_any (B g c n : Nat) (L : List Ct) (w : World) (hn : n = L.length) (hbig : n ≤ 1000000000) (h : Arr w B g c L) (hr : Rws w g L) :
    Calls Tryd.prog 58 #[.slice (some ⟨g, 0, none⟩) n c, .func (.func 59) #[] #[]] w (Sorted B g c L w) := by
  have H := Lib.hid h
  have HR := Lib.hid hr
  have HN := Lib.hid hn
  clear h hr hn
  go_enter Tryd.func58, Tryd.ntmps58
  go_wp2_with (go_at_call 97; refine (stable_any B g c n L _ HN.out hbig H.out HR.out).mono ?_; rintro e w1 ⟨rfl, s1⟩; have S1 := Lib.hid s1; clear s1)
  go_end0
  exact ⟨rfl, S1.out⟩
end Go.Proofs.YtngeioghihbkeaaDoor
