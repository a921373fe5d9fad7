/- penstockref01.of, numbers, Null, Bool: what they answer. Conditions: texts that lie in memory. -/
import Derived.Test.YtobgfegdfcpgfaaDoorRefCheck
import Derived.Test.YtobgfegdfcpgfaaDoorDKnown
namespace Go.Proofs.YtobgfegdfcpgfaaDoor
open Go.RowKit

def ofN (k : Int) (l : List Dat) : Int := if l.all (okD k) then (if l.any fun d => d.k == 1 then 1 else 0) else -1
def nulI (b : Bool) : Int := if b then 1 else 0

set_option maxRecDepth 100000 in
set_option maxHeartbeats 1600000 in
theorem rof_any (k : Int) (g c : Nat) (l : List Dat) (w : World) (hl : l.length ≤ 1000) (hd : Dats w g l) (hs : ∀ d ∈ l, d.s.size ≤ 140737488355328) :
    Calls Tryd.prog 61 #[.int .u8 k, .slice (some ⟨g, 0, none⟩) l.length c] w fun e w' => e = .returned (.int .i64 (ofN k l)) ∧ Ext w w' := by
  obtain ⟨m, hm⟩ : ∃ m, m = l.length := ⟨_, rfl⟩
  rw [← hm]
  have HM := Lib.hid hm
  have hm1 : m ≤ 1000 := by omega
  clear hm hl
  go_enter Tryd.func61, Tryd.ntmps61
  go_wp2
  go_loopw [5, 6] (fun u v wr => ∃ j : Nat, j ≤ m ∧ v = .int .i64 j ∧ (l.take j).all (okD k) = true ∧ u = .int .i64 (nulI ((l.take j).any fun d => d.k == 1)) ∧ Ext w wr) (fun _ v _ => m - (intOf v).toNat)
  case atStart => exact ⟨0, Nat.zero_le _, rfl, by simp, by simp [nulI], Ext.refl _⟩
  case round =>
    obtain ⟨j, hj, rfl, hall, rfl, er⟩ := hrel
    obtain ⟨u, hu⟩ : ∃ u, ((l.take j).any fun d => d.k == 1) = u := ⟨_, rfl⟩
    rw [hu]
    have HU := Lib.hid hu
    have HA := Lib.hid hall
    clear hu hall
    by_cases hlt : j < m
    · obtain ⟨d, hdd⟩ : ∃ d, l.getD j Dat.zero = d := ⟨_, rfl⟩
      have hjl : j < l.length := by rw [← HM.out]; exact hlt
      have hdr := hd.ext er
      obtain ⟨f0, f1, f2, f3⟩ := hdr j hjl
      rw [hdd] at f0 f1 f2 f3
      have hmem : d ∈ l := by rw [← hdd, List.getD_eq_getElem?_getD, List.getElem?_eq_getElem hjl]; exact List.getElem_mem _
      have hsz := hs d hmem
      have hsn : l.take (j + 1) = l.take j ++ [d] := by rw [take_snoc' hjl, hdd]
      have HS := Lib.hid hsn
      have HDD := Lib.hid hdd
      clear hsn hdd hs
      have HJL := Lib.hid hjl
      clear hjl
      have HMEM := Lib.hid hmem
      clear hmem
      have HDR := Lib.hid hdr
      clear hdr
      have i1 : (j : Int) < (m : Int) := by omega
      obtain ⟨dk, db, dn, ds⟩ := d
      simp only at f0 f1 f2 f3 hsz
      obtain ⟨cc, hc⟩ : ∃ cc, checkT dk db dn ds = cc := ⟨_, rfl⟩
      have HC := Lib.hid hc
      clear hc
      have hok : okD k ⟨dk, db, dn, ds⟩ = decide (cc = 0 ∧ (dk = k ∨ dk = 1)) := by unfold okD Dat.check; rw [HC.out]
      have HO := Lib.hid hok
      clear hok hd
      by_cases hcc : cc = 0
      · have z1 : (cc != 0) = false := by simpa using hcc
        have HCC := Lib.hid hcc
        clear hcc
        by_cases hk1 : dk = 1
        · subst hk1
          cases hz : ((1 : Int) != k)
          all_goals
            go_wp2_with (go_at_call 38; refine (rcheck_at 1 db dn ds _ HC hsz).mono ?_; rintro e w1 ⟨rfl, x1⟩; have y0 : w1.cell? ⟨g, j * 4, none⟩ = some (.int .u8 1) := x1.cell f0)
            go_roundw
            case rel =>
              refine ⟨j + 1, by omega, by go_num, ?_, ?_, er.trans x1⟩
              · rw [HS.out, List.all_append, HA.out, List.all_cons, List.all_nil, HO.out, HCC.out]
                simp
              · rw [HS.out, List.any_append, HU.out]
                simp [nulI]
            case measure => simp [intOf]; omega
        · have z3 : (dk == 1) = false := by simpa using hk1
          have z4 : (dk != 1) = true := by simpa using hk1
          have HK1 := Lib.hid hk1
          clear hk1
          by_cases hk : dk = k
          · have z2 : (dk != k) = false := by simpa using hk
            have HK := Lib.hid hk
            clear hk
            go_wp2_with (go_at_call 38; refine (rcheck_at dk db dn ds _ HC hsz).mono ?_; rintro e w1 ⟨rfl, x1⟩; have y0 : w1.cell? ⟨g, j * 4, none⟩ = some (.int .u8 dk) := x1.cell f0)
            go_roundw
            case rel =>
              refine ⟨j + 1, by omega, by go_num, ?_, ?_, er.trans x1⟩
              · rw [HS.out, List.all_append, HA.out, List.all_cons, List.all_nil, HO.out, HCC.out]
                simp <;> exact Or.inl HK.out
              · rw [HS.out, List.any_append, HU.out]
                have e3 : (dk == 1) = false := by simpa using HK1.out
                simp only [List.any_cons, List.any_nil, e3, Bool.or_false]
            case measure => simp [intOf]; omega
          · have z2 : (dk != k) = true := by simpa using hk
            have HK := Lib.hid hk
            clear hk
            go_wp2_with (go_at_call 38; refine (rcheck_at dk db dn ds _ HC hsz).mono ?_; rintro e w1 ⟨rfl, x1⟩; have y0 : w1.cell? ⟨g, j * 4, none⟩ = some (.int .u8 dk) := x1.cell f0)
            go_ret
            have hof : ofN k l = -1 := by
              unfold ofN
              rw [if_neg ?_]
              intro h
              have h2 := List.all_eq_true.1 h _ HMEM.out
              rw [HO.out] at h2
              have h3 := of_decide_eq_true h2
              rcases h3.2 with h4 | h4
              · exact HK.out h4
              · exact HK1.out h4
            rw [hof]
            exact ⟨rfl, er.trans x1⟩
      · have z1 : (cc != 0) = true := by simpa using hcc
        have HCC := Lib.hid hcc
        clear hcc
        go_wp2_with (go_at_call 38; refine (rcheck_at dk db dn ds _ HC hsz).mono ?_; rintro e w1 ⟨rfl, x1⟩)
        go_ret
        have hof : ofN k l = -1 := by
          unfold ofN
          rw [if_neg ?_]
          intro h
          have h2 := List.all_eq_true.1 h _ HMEM.out
          rw [HO.out] at h2
          have h3 := of_decide_eq_true h2
          exact HCC.out h3.1
        rw [hof]
        exact ⟨rfl, er.trans x1⟩
    · have e1 : j = m := by omega
      have E1 := Lib.hid e1
      clear e1
      have hlj : l.take j = l := by rw [E1.out, HM.out]; exact List.take_length
      have hof : ofN k l = nulI u := by
        have ha := HA.out
        have hu := HU.out
        rw [hlj] at ha hu
        unfold ofN nulI
        rw [if_pos ha, hu]
      have HF := Lib.hid hof
      clear hlj hof
      go_wp2
      go_ret
      rw [HF.out]
      exact ⟨rfl, er⟩
theorem rof_at {r : Int} (k : Int) (g c n : Nat) (l : List Dat) (w : World) (hr : Hid (ofN k l = r)) (hn : l.length = n) (hl : n ≤ 1000) (hd : Dats w g l) (hs : ∀ d ∈ l, d.s.size ≤ 140737488355328) :
    Calls Tryd.prog 61 #[.int .u8 k, .slice (some ⟨g, 0, none⟩) n c] w fun e w' => e = .returned (.int .i64 r) ∧ Ext w w' := by subst hn; exact hr.out ▸ rof_any k g c l w hl hd hs
theorem ofN_of (k : Int) (l : List Dat) : ofN k l = if (ofT k l).2 = 0 then nulI (ofT k l).1 else -1 := by
  unfold ofN ofT nulI
  split <;> rfl
theorem ofN_two (k : Int) (l : List Dat) : (ofN k l = -1 ∧ ∀ r, applyR k l r = (Dat.zero, 13)) ∨ (ofN k l = 1 ∧ ∀ r, applyR k l r = (Dat.null, 0)) ∨ (ofN k l = 0 ∧ ∀ r, applyR k l r = r) := by
  unfold applyR
  rw [ofN_of]
  unfold ofT
  split
  · cases l.any fun d => d.k == 1
    · exact .inr (.inr ⟨rfl, fun _ => rfl⟩)
    · exact .inr (.inl ⟨rfl, fun _ => rfl⟩)
  · exact .inl ⟨rfl, fun _ => rfl⟩
set_option maxRecDepth 100000 in
set_option maxHeartbeats 400000 in
theorem rnull_any (w : World) : Calls Tryd.prog 62 #[] w fun e w' => e = .returned (.agg #[.int .u8 1, .bool false, .int .i64 0, .string ⟨#[]⟩]) ∧ Ext w w' := by
  go_enter Tryd.func62, Tryd.ntmps62
  go_wp2
  go_returns
  exact ⟨rfl, (Ext.refl w).alloc _⟩
set_option maxRecDepth 100000 in
set_option maxHeartbeats 400000 in
theorem rbool_any (b : Bool) (w : World) : Calls Tryd.prog 63 #[.bool b] w fun e w' => e = .returned (.agg #[.int .u8 2, .bool b, .int .i64 0, .string ⟨#[]⟩]) ∧ Ext w w' := by
  go_enter Tryd.func63, Tryd.ntmps63
  go_wp2
  go_returns
  exact ⟨rfl, (Ext.refl w).alloc _⟩
def RefOut (w : World) (r : Dat × Int) (e : Ending) (w' : World) : Prop :=
  e = .returned (.tuple #[.agg #[.int .u8 r.1.k, .bool r.1.b, .int .i64 r.1.n, .string r.1.s], .int .i64 r.2]) ∧ Ext w w'
end Go.Proofs.YtobgfegdfcpgfaaDoor
