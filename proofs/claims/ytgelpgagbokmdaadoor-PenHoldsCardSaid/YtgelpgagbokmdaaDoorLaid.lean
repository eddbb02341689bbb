/-
  The condition on the listed variable gives the table's cells; a pen that came in. No condition of its own.
-/
import Derived.Test.YtgelpgagbokmdaaDoorRows
import Derived.Test.YtgelpgagbokmdaaDoorRead
import Derived.Test.YtgelpgagbokmdaaDoorWg
import Derived.LaidMore
namespace Go.Proofs.YtgelpgagbokmdaaDoor
open Go.ChangeShapes Go.WideShapes Go.RowKit
set_option linter.unusedSimpArgs false
set_option linter.unusedVariables false

def shWords : Sh := (.pair .str (.pair .str (.pair .str (.pair .str (.pair .str (.pair .str (.pair .str (.pair .str .unit))))))))
def wordCells : List Value := (List.range 8).map fun i => .string (wordB i)
theorem shWords_ok : shapeOk Tryd.prog 100 62 shWords = true := by kernel_rfl
theorem laid_of {W : World} (h : laidMetH Tryd.prog [("scrollback/pen.words", Rows.laid_scrollback_pen_words)] W) : Laid W := by
  rw [MakeChecks.laidMetH_plain _ _ _ (by kernel_rfl)] at h
  obtain ⟨ps, hl, _, _⟩ := h
  obtain ⟨h1, c1⟩ := laid_cell hl (name := "scrollback/pen.words") (D := Rows.laid_scrollback_pen_words) (cs := wordCells) (g := 0) (t := 62) (S := shWords) 100 (by simp) (by kernel_rfl) (by kernel_rfl) shWords_ok (by kernel_rfl)
  refine ⟨fun i hi => ?_, by omega⟩
  rw [c1]
  simp [wordCells, hi]
theorem rd_color {W : World} {l : List Value} (h : Rd W (.pair (.int .i64) (.pair (.int .u8) (.pair (.int .u8) (.pair (.int .u8) (.pair (.int .u8) .unit))))) l) : ∃ k i r g b : Int, l = [.int .i64 k, .int .u8 i, .int .u8 r, .int .u8 g, .int .u8 b] ∧ (0 ≤ i ∧ i ≤ 255) ∧ (0 ≤ r ∧ r ≤ 255) ∧ (0 ≤ g ∧ g ≤ 255) ∧ (0 ≤ b ∧ b ≤ 255) := by
  obtain ⟨x1, y1, e1, ⟨k, rfl, _⟩, x2, y2, e2, ⟨i, rfl, hi⟩, x3, y3, e3, ⟨r, rfl, hr⟩, x4, y4, e4, ⟨g, rfl, hg⟩, x5, y5, e5, ⟨b, rfl, hb⟩, rfl⟩ := h
  exact ⟨k, i, r, g, b, by rw [e1, e2, e3, e4, e5]; rfl, wf_u8 hi, wf_u8 hr, wf_u8 hg, wf_u8 hb⟩
theorem rd_pen {W : World} {cs : Array Value} (h : Rd W (.pair (.pair (.int .i64) (.pair (.int .u8) (.pair (.int .u8) (.pair (.int .u8) (.pair (.int .u8) .unit))))) (.pair (.pair (.int .i64) (.pair (.int .u8) (.pair (.int .u8) (.pair (.int .u8) (.pair (.int .u8) .unit))))) (.pair (.int .u8) .unit))) (Value.agg cs).cells.toList) : ∃ k1 i1 r1 g1 b1 k2 i2 r2 g2 b2 f : Int, Value.agg cs = .agg #[.int .i64 k1, .int .u8 i1, .int .u8 r1, .int .u8 g1, .int .u8 b1, .int .i64 k2, .int .u8 i2, .int .u8 r2, .int .u8 g2, .int .u8 b2, .int .u8 f] ∧ Bytes k1 i1 r1 g1 b1 k2 i2 r2 g2 b2 f := by
  obtain ⟨x1, y1, e1, h1, x2, y2, e2, h2, x3, y3, e3, ⟨f, rfl, hf⟩, rfl⟩ := h
  obtain ⟨k1, i1, r1, g1, b1, rfl, p1⟩ := rd_color h1
  obtain ⟨k2, i2, r2, g2, b2, rfl, p2⟩ := rd_color h2
  refine ⟨k1, i1, r1, g1, b1, k2, i2, r2, g2, b2, f, ?_, p1, p2, wf_u8 hf⟩
  obtain ⟨l⟩ := cs
  simp only [Value.cells] at e1
  rw [e1, e2, e3]
  rfl
end Go.Proofs.YtgelpgagbokmdaaDoor
