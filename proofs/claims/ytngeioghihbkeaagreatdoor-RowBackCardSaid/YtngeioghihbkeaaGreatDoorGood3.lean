/- The two errors' variables, of what a row lays. Conditions: none. -/
import Derived.Test.YtngeioghihbkeaaGreatDoorParsAll
namespace Go.Proofs.YtngeioghihbkeaaGreatDoor
open Go.RowKit Go.ChangeShapes Go.WideShapes Go.ChangeAt

theorem star_err : "*" ++ "errors.errorString" = "*errors.errorString" := by decide
theorem row_err (u : TypeId) (h : Tryz.prog.typeName? 3 u = some "*errors.errorString") : u = 160 :=
  typeName_ptr_named (nm := "errors.errorString") (by rw [star_err]; kernel_rfl) (by kernel_rfl) (by decide) u (by rw [star_err]; exact h)
theorem cells_err : Tryz.prog.cellsOf 162 = 1 := by kernel_rfl
theorem cells_str : Tryz.prog.cellsOf 9 = 1 := by kernel_rfl
theorem good3_of {W : World} {a b c d e : String × DataW Unit} (h : laidMet Tryz.prog [a, b, c, d, ("strconv.ErrRange", Rows.laid_strconv_ErrRange), ("strconv.ErrSyntax", Rows.laid_strconv_ErrSyntax), e] W) (G : Good2 W) : Good3 W := by
  have hr := h.tail.tail.tail.tail
  have hs := hr.tail
  have gr : Tryz.prog.globalNamed "strconv.ErrRange" = some 3 := by kernel_rfl
  have gs : Tryz.prog.globalNamed "strconv.ErrSyntax" = some 2 := by kernel_rfl
  obtain ⟨a1, _, v1, _⟩ := laid_sentinel hr gr (by kernel_rfl) Tryz.underlying75 row_err Tryz.underlying160 Tryz.underlying162 rfl rfl Tryz.underlying9 cells_err cells_str
  obtain ⟨a2, _, v2, _⟩ := laid_sentinel hs gs (by kernel_rfl) Tryz.underlying75 row_err Tryz.underlying160 Tryz.underlying162 rfl rfl Tryz.underlying9 cells_err cells_str
  exact ⟨G, ⟨_, _, by simpa using World.var?_cell gs v2 0⟩, ⟨_, _, by simpa using World.var?_cell gr v1 0⟩⟩
end Go.Proofs.YtngeioghihbkeaaGreatDoor
