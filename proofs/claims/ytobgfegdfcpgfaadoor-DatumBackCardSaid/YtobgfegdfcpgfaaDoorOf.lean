/- datum.of, null, boolean, number, whole: what they answer. Conditions: the library's tables stand. -/
import Derived.Test.YtobgfegdfcpgfaaDoorCheck
namespace Go.Proofs.YtobgfegdfcpgfaaDoor
open Go.RowKit

/-- a datum, field by field -/
structure Dat where
  k : Int
  b : Bool
  n : Int
  s : ByteArray
def Dat.zero : Dat := ⟨0, false, 0, ⟨#[]⟩⟩
def Dat.check (d : Dat) : Int := checkT d.k d.b d.n d.s
/-- is it of kind k, or null, and may it be? -/
def okD (k : Int) (d : Dat) : Bool := decide (d.check = 0 ∧ (d.k = k ∨ d.k = 1))
def ofT (k : Int) (l : List Dat) : Bool × Int := if l.all (okD k) then (l.any fun d => d.k == 1, 0) else (false, 13)
/-- so many data lie from the head of a block on -/
def Dats (w : World) (g : Nat) (l : List Dat) : Prop := ∀ i, i < l.length →
  w.cell? ⟨g, i * 4, none⟩ = some (.int .u8 (l.getD i Dat.zero).k) ∧ w.cell? ⟨g, i * 4 + 1, none⟩ = some (.bool (l.getD i Dat.zero).b) ∧ w.cell? ⟨g, i * 4 + 2, none⟩ = some (.int .i64 (l.getD i Dat.zero).n) ∧ w.cell? ⟨g, i * 4 + 3, none⟩ = some (.string (l.getD i Dat.zero).s)
theorem Dats.ext {w w' : World} {g : Nat} {l : List Dat} (h : Dats w g l) (x : Ext w w') : Dats w' g l := fun i hi => ⟨x.cell (h i hi).1, x.cell (h i hi).2.1, x.cell (h i hi).2.2.1, x.cell (h i hi).2.2.2⟩

theorem take_snoc' {l : List Dat} {j : Nat} (h : j < l.length) : l.take (j + 1) = l.take j ++ [l.getD j Dat.zero] := by
  rw [List.take_succ_eq_append_getElem h, List.getD_eq_getElem?_getD, List.getElem?_eq_getElem h]
  rfl

set_option maxRecDepth 100000 in
set_option maxHeartbeats 1600000 in
theorem of_any (k : Int) (g c : Nat) (l : List Dat) (w : World) (hl : l.length ≤ 1000) (hd : Dats w g l) (hs : ∀ d ∈ l, d.s.size ≤ 9223372036854775807) (G : Good w) :
    Calls Tryd.prog 97 #[.int .u8 k, .slice (some ⟨g, 0, none⟩) l.length c] w fun e w' => e = .returned (.tuple #[.bool (ofT k l).1, .int .u16 (ofT k l).2]) ∧ Ext w w' := by
  obtain ⟨m, hm⟩ : ∃ m, m = l.length := ⟨_, rfl⟩
  rw [← hm]
  have HM := Lib.hid hm
  have hm1 : m ≤ 1000 := by omega
  clear hm hl
  go_enter Tryd.func97, Tryd.ntmps97
  go_wp2
  go_loopw [4, 10] (fun u v wr => ∃ j : Nat, j ≤ m ∧ v = .int .i64 j ∧ (l.take j).all (okD k) = true ∧ u = .bool ((l.take j).any fun d => d.k == 1) ∧ Ext w wr) (fun _ v _ => m - (intOf v).toNat)
  case atStart => exact ⟨0, Nat.zero_le _, rfl, by simp, by simp, Ext.refl _⟩
  case round =>
    obtain ⟨j, hj, rfl, hall, rfl, er⟩ := hrel
    obtain ⟨u, hu⟩ : ∃ u, ((l.take j).any fun d => d.k == 1) = u := ⟨_, rfl⟩
    rw [hu]
    have HU := Lib.hid hu
    have HA := Lib.hid hall
    clear hu hall
    by_cases hlt : j < m
    · obtain ⟨d, hdd⟩ : ∃ d, l.getD j Dat.zero = d := ⟨_, rfl⟩
      have hjl : j < l.length := by rw [← HM.out]; exact hlt
      obtain ⟨f0, f1, f2, f3⟩ := (hd.ext er) j hjl
      rw [hdd] at f0 f1 f2 f3
      have hmem : d ∈ l := by rw [← hdd, List.getD_eq_getElem?_getD, List.getElem?_eq_getElem hjl]; exact List.getElem_mem _
      have hsz := hs d hmem
      have hsn : l.take (j + 1) = l.take j ++ [d] := by rw [take_snoc' hjl, hdd]
      have HS := Lib.hid hsn
      clear hsn hdd hs hjl
      have HMEM := Lib.hid hmem
      clear hmem
      have i1 : (j : Int) < (m : Int) := by omega
      obtain ⟨dk, db, dn, ds⟩ := d
      simp only at f0 f1 f2 f3 hsz
      obtain ⟨cc, hc⟩ : ∃ cc, checkT dk db dn ds = cc := ⟨_, rfl⟩
      have HC := Lib.hid hc
      clear hc
      have CK : ∀ W : World, Ext w W → Calls Tryd.prog 15 #[.agg #[.int .u8 dk, .bool db, .int .i64 dn, .string ds]] W fun e w' => e = .returned (.int .u16 cc) ∧ Ext W w' := fun W x => HC.out ▸ check_any dk db dn ds W hsz (G.ext x)
      have CH := Lib.hid CK
      clear CK
      have hok : okD k ⟨dk, db, dn, ds⟩ = decide (cc = 0 ∧ (dk = k ∨ dk = 1)) := by unfold okD Dat.check; rw [HC.out]
      have HO := Lib.hid hok
      clear hok hd
      by_cases hcc : cc = 0
      · have z1 : (cc != 0) = false := by simpa using hcc
        have HCC := Lib.hid hcc
        clear hcc
        by_cases hk1 : dk = 1
        · subst hk1
          cases hz : ((1 : Int) != k)
          all_goals
            cases u
            all_goals
              go_wp2_with (go_at_call 15; refine (CH.out _ (er.alloc _)).mono ?_; rintro e w1 ⟨rfl, x1⟩; have b0 := (Bk.new wr 24 #[.int .u8 1, .bool db, .int .i64 dn, .string ds]).ext x1; have y0 : w1.cell? ⟨wr.heap.size, 0, none⟩ = some (.int .u8 1) := b0.cell 0)
              go_roundw
              case rel =>
                refine ⟨j + 1, by omega, by go_num, ?_, ?_, (er.alloc _).trans x1⟩
                · rw [HS.out, List.all_append, HA.out, List.all_cons, List.all_nil, HO.out, HCC.out]
                  simp
                · rw [HS.out, List.any_append, HU.out]
                  simp
              case measure => simp [intOf]; omega

        · have z3 : (dk == 1) = false := by simpa using hk1
          have z4 : (dk != 1) = true := by simpa using hk1
          have HK1 := Lib.hid hk1
          clear hk1
          by_cases hk : dk = k
          · have z2 : (dk != k) = false := by simpa using hk
            have HK := Lib.hid hk
            clear hk
            cases u
            all_goals
              go_wp2_with (go_at_call 15; refine (CH.out _ (er.alloc _)).mono ?_; rintro e w1 ⟨rfl, x1⟩; have b0 := (Bk.new wr 24 #[.int .u8 dk, .bool db, .int .i64 dn, .string ds]).ext x1; have y0 : w1.cell? ⟨wr.heap.size, 0, none⟩ = some (.int .u8 dk) := b0.cell 0)
              go_roundw
              case rel =>
                refine ⟨j + 1, by omega, by go_num, ?_, ?_, (er.alloc _).trans x1⟩
                · rw [HS.out, List.all_append, HA.out, List.all_cons, List.all_nil, HO.out, HCC.out]
                  simp <;> exact Or.inl HK.out
                · rw [HS.out, List.any_append, HU.out]
                  simp <;> first | exact HK1.out | simpa using HK1.out
              case measure => simp [intOf]; omega

          · have z2 : (dk != k) = true := by simpa using hk
            have HK := Lib.hid hk
            clear hk
            go_wp2_with (go_at_call 15; refine (CH.out _ (er.alloc _)).mono ?_; rintro e w1 ⟨rfl, x1⟩; have b0 := (Bk.new wr 24 #[.int .u8 dk, .bool db, .int .i64 dn, .string ds]).ext x1; have y0 : w1.cell? ⟨wr.heap.size, 0, none⟩ = some (.int .u8 dk) := b0.cell 0)
            refine bodyPost_ret (v := .tuple #[.bool false, .int .u16 13]) (by simp only [results, Tryd.results97]; go_simp) rfl ?_
            have hof : ofT k l = (false, 13) := by
              unfold ofT
              rw [if_neg ?_]
              intro h
              have h2 := List.all_eq_true.1 h _ HMEM.out
              rw [HO.out] at h2
              have h3 := of_decide_eq_true h2
              rcases h3.2 with h4 | h4
              · exact HK.out h4
              · exact HK1.out h4
            rw [hof]
            exact ⟨rfl, (er.alloc _).trans x1⟩

      · have z1 : (cc != 0) = true := by simpa using hcc
        have HCC := Lib.hid hcc
        clear hcc
        go_wp2_with (go_at_call 15; refine (CH.out _ (er.alloc _)).mono ?_; rintro e w1 ⟨rfl, x1⟩; have b0 := (Bk.new wr 24 #[.int .u8 dk, .bool db, .int .i64 dn, .string ds]).ext x1; have y0 : w1.cell? ⟨wr.heap.size, 0, none⟩ = some (.int .u8 dk) := b0.cell 0)
        refine bodyPost_ret (v := .tuple #[.bool false, .int .u16 13]) (by simp only [results, Tryd.results97]; go_simp) rfl ?_
        have hof : ofT k l = (false, 13) := by
          unfold ofT
          rw [if_neg ?_]
          intro h
          have h2 := List.all_eq_true.1 h _ HMEM.out
          rw [HO.out] at h2
          have h3 := of_decide_eq_true h2
          exact HCC.out h3.1
        rw [hof]
        exact ⟨rfl, (er.alloc _).trans x1⟩

    · have e1 : j = m := by omega
      have E1 := Lib.hid e1
      clear e1
      have hlj : l.take j = l := by rw [E1.out, HM.out]; exact List.take_length
      have hof : ofT k l = (u, 0) := by
        have ha := HA.out
        have hu := HU.out
        rw [hlj] at ha hu
        unfold ofT
        rw [if_pos ha, hu]
      have HF := Lib.hid hof
      clear hlj hof
      go_wp2
      refine bodyPost_ret (v := .tuple #[.bool u, .int .u16 0]) (by simp only [results, Tryd.results97]; go_simp) rfl ?_
      rw [HF.out]
      exact ⟨rfl, er⟩

/-! ### small makers -/
set_option maxRecDepth 100000 in
set_option maxHeartbeats 400000 in
theorem null_any (w : World) : Calls Tryd.prog 85 #[] w fun e w' => e = .returned (.agg #[.int .u8 1, .bool false, .int .i64 0, .string ⟨#[]⟩]) ∧ Ext w w' := by
  go_enter Tryd.func85, Tryd.ntmps85
  go_wp2
  go_returns
  exact ⟨rfl, (Ext.refl w).alloc _⟩
set_option maxRecDepth 100000 in
set_option maxHeartbeats 400000 in
theorem boolean_any (b : Bool) (w : World) : Calls Tryd.prog 59 #[.bool b] w fun e w' => e = .returned (.agg #[.int .u8 2, .bool b, .int .i64 0, .string ⟨#[]⟩]) ∧ Ext w w' := by
  go_enter Tryd.func59, Tryd.ntmps59
  go_wp2
  go_returns
  exact ⟨rfl, (Ext.refl w).alloc _⟩
set_option maxRecDepth 100000 in
set_option maxHeartbeats 400000 in
theorem number_any (n : Int) (w : World) : Calls Tryd.prog 67 #[.int .i64 n] w fun e w' => e = .returned (.agg #[.int .u8 3, .bool false, .int .i64 n, .string ⟨#[]⟩]) ∧ Ext w w' := by
  go_enter Tryd.func67, Tryd.ntmps67
  go_wp2
  go_returns
  exact ⟨rfl, (Ext.refl w).alloc _⟩
set_option maxRecDepth 100000 in
set_option maxHeartbeats 400000 in
theorem text_any (s : ByteArray) (w : World) : Calls Tryd.prog 83 #[.string s] w fun e w' => e = .returned (.agg #[.int .u8 4, .bool false, .int .i64 0, .string s]) ∧ Ext w w' := by
  go_enter Tryd.func83, Tryd.ntmps83
  go_wp2
  go_returns
  exact ⟨rfl, (Ext.refl w).alloc _⟩
end Go.Proofs.YtobgfegdfcpgfaaDoor
