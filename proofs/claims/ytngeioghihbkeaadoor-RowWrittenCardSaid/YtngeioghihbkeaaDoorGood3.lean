/- The two errors' variables, of what a row lays. Conditions: none. -/
import Derived.Test.YtngeioghihbkeaaDoorParsAll
namespace Go.Proofs.YtngeioghihbkeaaDoor
open Go.RowKit Go.ChangeShapes Go.WideShapes Go.ChangeAt

theorem star_err : "*" ++ "errors.errorString" = "*errors.errorString" := by decide
theorem row_err (u : TypeId) (h : Tryd.prog.typeName? 3 u = some "*errors.errorString") : u = 247 :=
  typeName_ptr_named (nm := "errors.errorString") (by rw [star_err]; kernel_rfl) (by kernel_rfl) (by decide) u (by rw [star_err]; exact h)
theorem cells_err : Tryd.prog.cellsOf 249 = 1 := by kernel_rfl
theorem cells_str : Tryd.prog.cellsOf 9 = 1 := by kernel_rfl
theorem good3_of {W : World} {a b c d e : String × DataW Unit} (h : laidMet Tryd.prog [a, b, c, d, ("strconv.ErrRange", Rows.laid_strconv_ErrRange), ("strconv.ErrSyntax", Rows.laid_strconv_ErrSyntax), e] W) (G : Good2 W) : Good3 W := by
  have hr := h.tail.tail.tail.tail
  have hs := hr.tail
  have gr : Tryd.prog.globalNamed "strconv.ErrRange" = some 5 := by kernel_rfl
  have gs : Tryd.prog.globalNamed "strconv.ErrSyntax" = some 4 := by kernel_rfl
  obtain ⟨a1, _, v1, _⟩ := laid_sentinel hr gr (by kernel_rfl) Tryd.underlying188 row_err Tryd.underlying247 Tryd.underlying249 rfl rfl Tryd.underlying9 cells_err cells_str
  obtain ⟨a2, _, v2, _⟩ := laid_sentinel hs gs (by kernel_rfl) Tryd.underlying188 row_err Tryd.underlying247 Tryd.underlying249 rfl rfl Tryd.underlying9 cells_err cells_str
  exact ⟨G, ⟨_, _, by simpa using World.var?_cell gs v2 0⟩, ⟨_, _, by simpa using World.var?_cell gr v1 0⟩⟩
end Go.Proofs.YtngeioghihbkeaaDoor
