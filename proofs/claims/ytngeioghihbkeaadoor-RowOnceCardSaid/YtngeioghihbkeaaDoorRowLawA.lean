/- RowCmps: the walk. Conditions: the library's tables stand; the rows are as readings give them. -/
import Derived.Test.YtngeioghihbkeaaDoorRowKnown
import Derived.Test.YtngeioghihbkeaaDoorRowRCmp
namespace Go.Proofs.YtngeioghihbkeaaDoor
open Go.RowKit

theorem rowRCmp_lit {v : Int} (A1 A2 : Option Addr) (c1 c2 n1 n2 : Nat) (l m : List Dat) (w : World) (hv : Hid (cmpR l m = v)) (e1 : Hid (n1 = l.length)) (e2 : Hid (n2 = m.length)) (h1 : Hid (Rw w A1 c1 l)) (h2 : Hid (Rw w A2 c2 m)) :
    Calls Tryd.prog 15 #[.slice A1 n1 c1, .slice A2 n2 c2] w fun e w' => e = .returned (.int .i64 v) ∧ Ext w w' := hv.out ▸ rowRCmp_any A1 A2 c1 c2 n1 n2 l m w e1.out e2.out h1.out h2.out
set_option maxRecDepth 100000 in
set_option maxHeartbeats 1000000 in
theorem rowcmps_any (A1 A2 : Option Addr) (c1 c2 : Nat) (l m : List Dat) (w : World) (h1 : Rw w A1 c1 l) (h2 : Rw w A2 c2 m) (G : Good w) :
    Calls Tryd.prog 3 #[.slice A1 l.length c1, .slice A2 m.length c2] w fun e w' => e = .returned (.bool true) ∧ Ext w w' := by
  obtain ⟨n1, e1⟩ : ∃ n, n = l.length := ⟨_, rfl⟩
  obtain ⟨n2, e2⟩ : ∃ n, n = m.length := ⟨_, rfl⟩
  obtain ⟨v, hv⟩ : ∃ v, cmpR l m = v := ⟨_, rfl⟩
  obtain ⟨s, hs⟩ : ∃ s, IntKind.i64.wrap ((n1 : Int) + (n2 : Int)) = s := ⟨_, rfl⟩
  rw [← e1, ← e2]
  have E1 := Lib.hid e1
  have E2 := Lib.hid e2
  have HV := Lib.hid hv
  have H1 := Lib.hid h1
  have H2 := Lib.hid h2
  clear e1 e2 hv h1 h2
  by_cases hlt : 4000 < s
  · go_enter Tryd.func3, Tryd.ntmps3
    go_wp2
    go_ret
    exact ⟨rfl, Ext.refl w⟩
  · go_enter Tryd.func3, Tryd.ntmps3
    go_wp2_with (first
      | (go_at_call 13; refine (known_true _ G).mono ?_; rintro e w1 ⟨rfl, x1⟩; have R1 := Lib.hid (H1.out.ext x1); have R2 := Lib.hid (H2.out.ext x1))
      | (go_at_call 14; refine (rowCmp_lit A1 A2 c1 c2 n1 n2 l m _ HV E1 E2 R1 R2).mono ?_; rintro e w2 ⟨rfl, x2⟩; have S1 := Lib.hid (R1.out.ext x2); have S2 := Lib.hid (R2.out.ext x2))
      | (go_at_call 15; refine (rowRCmp_lit A1 A2 c1 c2 n1 n2 l m _ HV E1 E2 S1 S2).mono ?_; rintro e w3 ⟨rfl, x3⟩))
    go_ret
    exact ⟨rfl, (x1.trans x2).trans x3⟩
end Go.Proofs.YtngeioghihbkeaaDoor
