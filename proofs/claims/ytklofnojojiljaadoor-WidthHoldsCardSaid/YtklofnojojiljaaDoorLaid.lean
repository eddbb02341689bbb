/-
  The condition on the listed variables gives the tables' cells. No condition of its own.
-/
import Derived.Test.YtklofnojojiljaaDoorRows
import Derived.Test.YtklofnojojiljaaDoorRead
import Derived.Test.YtklofnojojiljaaDoorWa
import Derived.LaidMore
namespace Go.Proofs.YtklofnojojiljaaDoor
open Go.ChangeShapes Go.WideShapes Go.RowKit
set_option linter.unusedSimpArgs false
set_option linter.unusedVariables false

def sh18 : Sh := (.pair (.pair (.int .i32) (.pair (.int .i32) .unit)) (.pair (.pair (.int .i32) (.pair (.int .i32) .unit)) (.pair (.pair (.int .i32) (.pair (.int .i32) .unit)) (.pair (.pair (.int .i32) (.pair (.int .i32) .unit)) (.pair (.pair (.int .i32) (.pair (.int .i32) .unit)) (.pair (.pair (.int .i32) (.pair (.int .i32) .unit)) (.pair (.pair (.int .i32) (.pair (.int .i32) .unit)) (.pair (.pair (.int .i32) (.pair (.int .i32) .unit)) (.pair (.pair (.int .i32) (.pair (.int .i32) .unit)) (.pair (.pair (.int .i32) (.pair (.int .i32) .unit)) (.pair (.pair (.int .i32) (.pair (.int .i32) .unit)) (.pair (.pair (.int .i32) (.pair (.int .i32) .unit)) (.pair (.pair (.int .i32) (.pair (.int .i32) .unit)) (.pair (.pair (.int .i32) (.pair (.int .i32) .unit)) (.pair (.pair (.int .i32) (.pair (.int .i32) .unit)) (.pair (.pair (.int .i32) (.pair (.int .i32) .unit)) (.pair (.pair (.int .i32) (.pair (.int .i32) .unit)) (.pair (.pair (.int .i32) (.pair (.int .i32) .unit)) .unit))))))))))))))))))
def sh19 : Sh := (.pair (.pair (.int .i32) (.pair (.int .i32) .unit)) (.pair (.pair (.int .i32) (.pair (.int .i32) .unit)) (.pair (.pair (.int .i32) (.pair (.int .i32) .unit)) (.pair (.pair (.int .i32) (.pair (.int .i32) .unit)) (.pair (.pair (.int .i32) (.pair (.int .i32) .unit)) (.pair (.pair (.int .i32) (.pair (.int .i32) .unit)) (.pair (.pair (.int .i32) (.pair (.int .i32) .unit)) (.pair (.pair (.int .i32) (.pair (.int .i32) .unit)) (.pair (.pair (.int .i32) (.pair (.int .i32) .unit)) (.pair (.pair (.int .i32) (.pair (.int .i32) .unit)) (.pair (.pair (.int .i32) (.pair (.int .i32) .unit)) (.pair (.pair (.int .i32) (.pair (.int .i32) .unit)) (.pair (.pair (.int .i32) (.pair (.int .i32) .unit)) (.pair (.pair (.int .i32) (.pair (.int .i32) .unit)) (.pair (.pair (.int .i32) (.pair (.int .i32) .unit)) (.pair (.pair (.int .i32) (.pair (.int .i32) .unit)) (.pair (.pair (.int .i32) (.pair (.int .i32) .unit)) (.pair (.pair (.int .i32) (.pair (.int .i32) .unit)) (.pair (.pair (.int .i32) (.pair (.int .i32) .unit)) .unit)))))))))))))))))))
def cells18 : List Value := marksL.map fun n => .int .i32 n
def cells19 : List Value := wideL.map fun n => .int .i32 n
theorem sh18_ok : shapeOk Tryd.prog 100 37 sh18 = true := by kernel_rfl
theorem sh19_ok : shapeOk Tryd.prog 100 38 sh19 = true := by kernel_rfl
theorem laidW_of {W : World} {l : List (String × DataW Unit)} {ps : List MemPlace} (hl : DataW.LaidVars Tryd.prog W l ps) (m1 : ("scrollback/width.marks", Rows.laid_scrollback_width_marks) ∈ l) (m2 : ("scrollback/width.wide", Rows.laid_scrollback_width_wide) ∈ l) : LaidW W := by
  obtain ⟨h1, c1⟩ := laid_cell hl (name := "scrollback/width.marks") (D := Rows.laid_scrollback_width_marks) (cs := cells18) (g := 0) (t := 37) (S := sh18) 100 m1 (by kernel_rfl) (by kernel_rfl) sh18_ok (by kernel_rfl)
  obtain ⟨h2, c2⟩ := laid_cell hl (name := "scrollback/width.wide") (D := Rows.laid_scrollback_width_wide) (cs := cells19) (g := 1) (t := 38) (S := sh19) 100 m2 (by kernel_rfl) (by kernel_rfl) sh19_ok (by kernel_rfl)
  refine ⟨fun i hi => ?_, fun i hi => ?_, by omega⟩
  · rw [c1, cells18, List.getElem?_map, List.getElem?_eq_getElem (show i < marksL.length from hi)]
    simp [marksF, List.getD_eq_getElem?_getD, List.getElem?_eq_getElem (show i < marksL.length from hi)]
  · rw [c2, cells19, List.getElem?_map, List.getElem?_eq_getElem (show i < wideL.length from hi)]
    simp [wideF, List.getD_eq_getElem?_getD, List.getElem?_eq_getElem (show i < wideL.length from hi)]

theorem laid_of {W : World} (h : laidMetH Tryd.prog [("scrollback/width.marks", Rows.laid_scrollback_width_marks), ("scrollback/width.wide", Rows.laid_scrollback_width_wide)] W) : LaidW W := by
  rw [MakeChecks.laidMetH_plain _ _ _ (by kernel_rfl)] at h
  obtain ⟨ps, hl, _, _⟩ := h
  exact laidW_of hl (by simp) (by simp)
end Go.Proofs.YtklofnojojiljaaDoor
