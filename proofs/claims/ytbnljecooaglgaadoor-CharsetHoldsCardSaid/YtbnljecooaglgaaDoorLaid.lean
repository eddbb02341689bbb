/-
  The condition on the listed variables gives the tables' cells. No condition of its own.
-/
import Derived.Test.YtbnljecooaglgaaDoorRows
import Derived.Test.YtbnljecooaglgaaDoorRead
import Derived.Test.YtbnljecooaglgaaDoorWc
import Derived.LaidMore
namespace Go.Proofs.YtbnljecooaglgaaDoor
open Go.ChangeShapes Go.WideShapes Go.RowKit
def shLines : Sh := (.pair (.int .i32) (.pair (.int .i32) (.pair (.int .i32) (.pair (.int .i32) (.pair (.int .i32) (.pair (.int .i32) (.pair (.int .i32) (.pair (.int .i32) (.pair (.int .i32) (.pair (.int .i32) (.pair (.int .i32) (.pair (.int .i32) (.pair (.int .i32) (.pair (.int .i32) (.pair (.int .i32) (.pair (.int .i32) (.pair (.int .i32) (.pair (.int .i32) (.pair (.int .i32) (.pair (.int .i32) (.pair (.int .i32) (.pair (.int .i32) (.pair (.int .i32) (.pair (.int .i32) (.pair (.int .i32) (.pair (.int .i32) (.pair (.int .i32) (.pair (.int .i32) (.pair (.int .i32) (.pair (.int .i32) (.pair (.int .i32) (.pair (.int .i32) .unit))))))))))))))))))))))))))))))))
def linesCells : List Value := linesL.map fun n => .int .i32 n
theorem lines_ok : shapeOk Tryd.prog 100 58 shLines = true := by kernel_rfl
theorem finals_shape : shapeOk Tryd.prog 100 59 (.pair (.int .i32) (.pair (.int .i32) .unit)) = true := by kernel_rfl
theorem laid_of {W : World} (h : laidMetH Tryd.prog [("scrollback/charset.lines", Rows.laid_scrollback_charset_lines), ("scrollback/charset.finals", Rows.laid_scrollback_charset_finals)] W) : Laid W := by
  rw [MakeChecks.laidMetH_plain _ _ _ (by kernel_rfl)] at h
  obtain ⟨ps, hl, _, _⟩ := h
  obtain ⟨h1, c1⟩ := laid_cell hl (name := "scrollback/charset.lines") (D := Rows.laid_scrollback_charset_lines) (cs := linesCells) (g := 0) (t := 58) (S := shLines) 100 (by simp) (by kernel_rfl) (by kernel_rfl) lines_ok (by kernel_rfl)
  obtain ⟨h2, c2⟩ := laid_cell hl (name := "scrollback/charset.finals") (D := Rows.laid_scrollback_charset_finals) (cs := [.int .i32 66, .int .i32 48]) (g := 1) (t := 59) (S := (.pair (.int .i32) (.pair (.int .i32) .unit))) 100 (by simp) (by kernel_rfl) (by kernel_rfl) finals_shape (by kernel_rfl)
  refine ⟨fun i hi => ?_, fun i hi => ?_, by omega⟩
  · rw [c1, linesCells, List.getElem?_map, List.getElem?_eq_getElem (show i < linesL.length from hi)]
    simp [List.getD_eq_getElem?_getD, List.getElem?_eq_getElem (show i < linesL.length from hi)]
  · rw [c2]
    have : i = 0 ∨ i = 1 := by omega
    rcases this with rfl | rfl <;> rfl
theorem rd_sets {W : World} {cs : Array Value} (h : Rd W (.pair (.pair (.int .i64) (.pair (.int .i64) .unit)) (.pair (.int .i64) .unit)) (Value.agg cs).cells.toList) : ∃ g0 g1 a : Int, Value.agg cs = .agg #[.int .i64 g0, .int .i64 g1, .int .i64 a] := by
  obtain ⟨x, y, e, ⟨x1, y1, e1, ⟨g0, rfl, _⟩, x2, y2, e2, ⟨g1, rfl, _⟩, rfl⟩, x3, y3, e3, ⟨a, rfl, _⟩, rfl⟩ := h
  refine ⟨g0, g1, a, ?_⟩
  obtain ⟨l⟩ := cs
  simp only [Value.cells] at e
  rw [e, e1, e2, e3]
  rfl
theorem wf_i32 {n : Int} (h : (Lit.int .i32 n).wf = true) : -2147483648 ≤ n ∧ n ≤ 2147483647 := by
  simp [Lit.wf, IntKind.min, IntKind.max, IntKind.signed, IntKind.bits] at h
  omega
end Go.Proofs.YtbnljecooaglgaaDoor
