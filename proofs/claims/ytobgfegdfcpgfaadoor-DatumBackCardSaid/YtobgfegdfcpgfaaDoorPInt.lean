/- strconv.ParseInt at base 10, 64 bits; the worlds in which it answers. Conditions: each theorem states its own. -/
import Derived.Test.YtobgfegdfcpgfaaDoorParsLaw
import Derived.Test.YtobgfegdfcpgfaaDoorShelfP
import Derived.Stop.LaidErr
import Derived.Lib.ParseIntBMem
namespace Go.Proofs.YtobgfegdfcpgfaaDoor
open Go.RowKit

theorem bytesExt (w : World) (e : TypeId) (s : ByteArray) : Ext w (Lib.bytesWorld w e s) :=
  ⟨rfl, rfl, rfl, by rw [Lib.bytesWorld_size]; omega, fun k hk => Lib.bytesWorld_at_old w e s k hk⟩
/-- the two errors' variables stand, and the library's functions that read tables answer -/
structure Good3 (w : World) : Prop where
  good : Good2 w
  syn : ∃ t p, w.cell? ⟨3, 0, none⟩ = some (.iface t p)
  ran : ∃ t p, w.cell? ⟨4, 0, none⟩ = some (.iface t p)
theorem Good3.ext {w w' : World} (h : Good3 w) (x : Ext w w') : Good3 w' := by
  obtain ⟨t, p, h1⟩ := h.syn
  obtain ⟨u, q, h2⟩ := h.ran
  exact ⟨h.good.ext x, ⟨t, p, x.cell h1⟩, ⟨u, q, x.cell h2⟩⟩
def parseOk (s : ByteArray) (v : Int) : Prop := Lib.parseIntB 64 s.data.toList = .ok v
theorem parseInt_any (s : ByteArray) (w : World) (hs : s.size ≤ 281474976710656) (G : Good3 w) :
    Calls Tryd.prog 87 #[.string s, .int .i64 10, .int .i64 64] w fun e w' => ((∃ v, parseOk s v ∧ e = .returned (.tuple #[.int .i64 v, .nilIface])) ∨ ((∀ v, ¬ parseOk s v) ∧ ∃ n t p, e = .returned (.tuple #[.int .i64 n, .iface t p]))) ∧ Ext w w' := by
  obtain ⟨t, p, h1⟩ := G.syn
  obtain ⟨u, q, h2⟩ := G.ran
  rcases hp : Lib.parseIntB 64 s.data.toList with v | _ | _
  · refine (Any.strconv_ParseInt_10_at64_ok Tryd.laysPIpub s (by omega) v hp w).mono ?_
    rintro e w' ⟨rfl, hw⟩
    refine ⟨.inl ⟨v, hp, rfl⟩, ?_⟩
    rcases hw with rfl | ⟨t, rfl⟩
    · exact Ext.refl _
    · exact bytesExt _ _ _
  · refine (Any.strconv_ParseInt_10_at64_syntax Tryd.laysPIpub s hs hp _ w h1 (.inr ⟨_, _, rfl⟩)).mono ?_
    rintro e w' ⟨N, rfl, _, _, hx⟩
    exact ⟨.inr ⟨fun v hv => (by unfold parseOk at hv; rw [hp] at hv; exact nomatch hv), _, _, _, rfl⟩, hx⟩
  · refine (Any.strconv_ParseInt_10_at64_range Tryd.laysPIpub s hs hp _ w h2 (.inr ⟨_, _, rfl⟩)).mono ?_
    rintro e w' ⟨N, rfl, _, _, hx⟩
    exact ⟨.inr ⟨fun v hv => (by unfold parseOk at hv; rw [hp] at hv; exact nomatch hv), _, _, _, rfl⟩, hx⟩
end Go.Proofs.YtobgfegdfcpgfaaDoor
