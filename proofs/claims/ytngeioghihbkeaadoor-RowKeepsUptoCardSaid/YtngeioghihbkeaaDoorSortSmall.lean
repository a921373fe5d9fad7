/- slices.SortStableFunc at fewer than 20 rows with counts. Conditions: the rows lie in memory, apart from the list. -/
import Derived.Test.YtngeioghihbkeaaDoorInsS
namespace Go.Proofs.YtngeioghihbkeaaDoor
open Go.RowKit

/-- what a sort leaves behind -/
def Sorted (B g c : Nat) (L : List Ct) (w : World) (e : Ending) (w' : World) : Prop := e = .returned (.tuple #[]) ∧ ∃ L', Stable cmpC L L' ∧ Arr w' B g c L' ∧ w.grownBy w' (some g)
set_option maxRecDepth 100000 in
set_option maxHeartbeats 800000 in
theorem insSort_none (A : Option Addr) (n c a b : Nat) (w : World) (h : b ≤ a) (ha : a ≤ 1000000000) :
    Calls Tryd.prog 128 #[.slice A n c, .int .i64 a, .int .i64 b, .func (.func 59) #[] #[]] w fun e w' => e = .returned (.tuple #[]) ∧ w = w' := by
  have h1 : ¬ (a : Int) + 1 < b := by omega
  go_enter Tryd.func128, Tryd.ntmps128
  go_wp2
  go_loop [8] (fun v => v = .int .i64 ((a : Int) + 1)) (fun _ => 0)
  case atStart => rfl
  case round =>
    subst hrel
    go_wp2
    go_end0
    exact ⟨rfl, rfl⟩
set_option maxRecDepth 100000 in
set_option maxHeartbeats 1000000 in
theorem stable_small (B g c n : Nat) (L : List Ct) (w : World) (hn : n = L.length) (hlt : n < 20) (h : Arr w B g c L) (hr : Rws w g L) :
    Calls Tryd.prog 97 #[.slice (some ⟨g, 0, none⟩) n c, .int .i64 n, .func (.func 59) #[] #[]] w (Sorted B g c L w) := by
  have h1 : ¬ (20 : Int) ≤ n := by omega
  cases L with
  | nil =>
    have h0 : n = 0 := hn
    subst h0
    have H := Lib.hid h
    clear h hn
    go_enter Tryd.func97, Tryd.ntmps97
    go_wp2
    go_loop [7, 8] (fun u v => u = .int .i64 0 ∧ v = .int .i64 20) (fun _ _ => 0)
    case atStart => exact ⟨rfl, rfl⟩
    case round =>
      obtain ⟨rfl, rfl⟩ := hrel
      go_wp2_with (go_at_call 128; refine (insSort_none _ 0 c 0 0 _ (Nat.le_refl _) (by decide)).mono ?_; rintro e w1 ⟨rfl, rfl⟩)
      go_loop [6, 7, 8] (fun u v z => u = .int .i64 20) (fun _ _ _ => 0)
      case atStart => rfl
      case round =>
        subst hrel
        go_wp2
        go_end0
        exact ⟨rfl, [], Stable.nil, H.out, World.grownBy.refl w _⟩
  | cons x L =>
    have H := Lib.hid h
    have HR := Lib.hid hr
    have HN := Lib.hid hn
    clear h hr hn
    go_enter Tryd.func97, Tryd.ntmps97
    go_wp2
    go_loop [7, 8] (fun u v => u = .int .i64 0 ∧ v = .int .i64 20) (fun _ _ => 0)
    case atStart => exact ⟨rfl, rfl⟩
    case round =>
      obtain ⟨rfl, rfl⟩ := hrel
      go_wp2_with (go_at_call 128; refine (insSort_some B g c n 0 n [] L [] x _ rfl (by rw [HN.out, List.length_cons, List.length_nil, Nat.zero_add]) (by rw [List.append_nil, List.nil_append]; exact HN.out) (by rw [List.append_nil, List.nil_append]; exact H.out) HR.out).mono ?_; rintro e w1 ⟨rfl, L', s1, s2, s3⟩; have S1 := Lib.hid s1; have S2 := Lib.hid s2; have S3 := Lib.hid s3; clear s1 s2 s3)
      go_loop [6, 7, 8] (fun u v z => u = .int .i64 20) (fun _ _ _ => 0)
      case atStart => rfl
      case round =>
        subst hrel
        go_wp2
        go_end0
        exact ⟨rfl, L', S1.out, by have := S2.out; rwa [List.append_nil, List.nil_append] at this, S3.out⟩
set_option maxRecDepth 100000 in
set_option maxHeartbeats 800000 in
theorem sortStable_small (B g c n : Nat) (L : List Ct) (w : World) (hn : n = L.length) (hlt : n < 20) (h : Arr w B g c L) (hr : Rws w g L) :
    Calls Tryd.prog 58 #[.slice (some ⟨g, 0, none⟩) n c, .func (.func 59) #[] #[]] w (Sorted B g c L w) := by
  have H := Lib.hid h
  have HR := Lib.hid hr
  have HN := Lib.hid hn
  clear h hr hn
  go_enter Tryd.func58, Tryd.ntmps58
  go_wp2_with (go_at_call 97; refine (stable_small B g c n L _ HN.out hlt H.out HR.out).mono ?_; rintro e w1 ⟨rfl, s1⟩; have S1 := Lib.hid s1; clear s1)
  go_end0
  exact ⟨rfl, S1.out⟩
end Go.Proofs.YtngeioghihbkeaaDoor
