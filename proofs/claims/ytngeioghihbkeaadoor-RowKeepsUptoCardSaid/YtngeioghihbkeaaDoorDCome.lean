/- What comes in at this seat: data, texts, integers; and that the tables which are laid make the library's functions answer. Conditions: none. -/
import Derived.Test.YtngeioghihbkeaaDoorLaw
import Derived.Test.YtngeioghihbkeaaDoorGood
import Derived.Test.YtngeioghihbkeaaDoorShelf
import Derived.Lib.LaidU8T
namespace Go.Proofs.YtngeioghihbkeaaDoor
open Go.ChangeShapes Go.WideShapes Go.ChangeAt Go.RowKit Go.WideElems

theorem wf_i64 {n : Int} (h : (Lit.int .i64 n).wf = true) : -9223372036854775808 ≤ n ∧ n ≤ 9223372036854775807 := by
  simpa [Lit.wf, IntKind.min, IntKind.max, IntKind.signed, IntKind.bits] using h
theorem wf_u8 {n : Int} (h : (Lit.int .u8 n).wf = true) : 0 ≤ n ∧ n ≤ 255 := by
  simpa [Lit.wf, IntKind.min, IntKind.max, IntKind.signed, IntKind.bits] using h

theorem u8_extra : U8Extra Tryd.prog Tryd.laysValid_ren := ⟨by kernel_rfl, by kernel_rfl, by kernel_rfl, by kernel_rfl, by kernel_rfl, by kernel_rfl, by kernel_rfl⟩
theorem first_is : Rows.laid_unicode_utf8_first = Lib.firstData := by kernel_rfl
theorem accept_is : (Rows.laid_unicode_utf8_acceptRanges : DataW Unit) = Lib.acceptData := by kernel_rfl
theorem good_of {W : World} {l : List (String × DataW Unit)} (h : laidMet Tryd.prog l W) (h1 : ("unicode/utf8.first", Rows.laid_unicode_utf8_first) ∈ l) (h2 : ("unicode/utf8.acceptRanges", Rows.laid_unicode_utf8_acceptRanges) ∈ l) : Good W := by
  have a := Lib.laidMet.reads h h1
  have b := Lib.laidMet.reads h h2
  rw [first_is] at a
  rw [accept_is] at b
  have t := utf8Tabs_of_readsT (U8Types.of196 Tryd.laysValid) u8_extra a b
  exact ⟨fun s W' hs x => Any.utf8_ValidString Tryd.laysValid s W' hs (Utf8Tabs_below t x)⟩

section
variable {H : Type} {enc : TypeId × Value → H} {W : World}
set_option maxRecDepth 100000 in
theorem come_i64 {base : Nat} {v : Value} {d : DataW H} {p : List MemPlace} (hv : Value.okWide Tryd.prog W .any base 2 v) (h : DataW.Trod enc Tryd.prog W 0 (fun _ => true) true 2 v d p) :
    ∃ n, v = .int .i64 n ∧ -9223372036854775808 ≤ n ∧ n ≤ 9223372036854775807 := by
  obtain ⟨n, rfl, _, _, hw⟩ := open_int Tryd.underlying2 hv h
  exact ⟨n, rfl, wf_i64 hw⟩
set_option maxRecDepth 100000 in
theorem come_u8 {base : Nat} {v : Value} {d : DataW H} {p : List MemPlace} (hv : Value.okWide Tryd.prog W .any base 5 v) (h : DataW.Trod enc Tryd.prog W 0 (fun _ => true) true 5 v d p) :
    ∃ n, v = .int .u8 n ∧ 0 ≤ n ∧ n ≤ 255 := by
  obtain ⟨n, rfl, _, _, hw⟩ := open_int Tryd.underlying5 hv h
  exact ⟨n, rfl, wf_u8 hw⟩
set_option maxRecDepth 100000 in
theorem come_string {base : Nat} {v : Value} {d : DataW H} {p : List MemPlace} (hv : Value.okWide Tryd.prog W .any base 9 v) (h : DataW.Trod enc Tryd.prog W 0 (fun _ => true) true 9 v d p) :
    ∃ s : ByteArray, v = .string s ∧ s.size ≤ 9223372036854775807 := by
  obtain ⟨s, rfl, _, _, hs⟩ := Go.ChangeMaps.open_string Tryd.underlying9 hv h
  exact ⟨s, rfl, hs⟩
set_option maxRecDepth 100000 in
theorem come_datum {base : Nat} {v : Value} {d : DataW H} {p : List MemPlace} (hv : Value.okWide Tryd.prog W .any base 91 v) (h : DataW.Trod enc Tryd.prog W 0 (fun _ => true) true 91 v d p) :
    ∃ (k : Int) (b : Bool) (n : Int) (s : ByteArray), v = .agg #[.int .u8 k, .bool b, .int .i64 n, .string s] ∧ (0 ≤ k ∧ k ≤ 255) ∧ (-9223372036854775808 ≤ n ∧ n ≤ 9223372036854775807) ∧ s.size ≤ 9223372036854775807 := by
  obtain ⟨v0, v1, v2, v3, y0, y1, y2, y3, n, rfl, _, _, h0, h1, h2, h3⟩ := Go.Joins.open_agg4 Tryd.underlying91 (by kernel_rfl) (by kernel_rfl) hv h
  obtain ⟨k, e0, _, w0⟩ := DataW.trod_int Tryd.underlying89 h0
  obtain ⟨b, e1, _⟩ := DataW.trod_bool Tryd.underlying4 h1
  obtain ⟨m, e2, _, w2⟩ := DataW.trod_int Tryd.underlying2 h2
  obtain ⟨s, e3, _, w3⟩ := DataW.trod_string Tryd.underlying9 h3
  obtain rfl : v0 = .int .u8 k := by simpa using e0
  obtain rfl : v1 = .bool b := by simpa using e1
  obtain rfl : v2 = .int .i64 m := by simpa using e2
  obtain rfl : v3 = .string s := by simpa using e3
  exact ⟨k, b, m, s, rfl, wf_u8 w0, wf_i64 w2, w3⟩
end
end Go.Proofs.YtngeioghihbkeaaDoor
