/-
  The conditions on the listed variables give the tables' cells; cells and runs that came in. No condition of its own.
-/
import Derived.Test.YtfbkoflapamicaaDoorRows
import Derived.Test.YtfbkoflapamicaaDoorRead
import Derived.Test.YtfbkoflapamicaaDoorWb
import Derived.Test.YtfbkoflapamicaaDoorPkd
import Derived.LaidMore
namespace Go.Proofs.YtfbkoflapamicaaDoor
open Go.ChangeShapes Go.WideShapes Go.RowKit
set_option linter.unusedSimpArgs false
set_option linter.unusedVariables false

def sh18 : Sh := (.pair (.pair (.int .i32) (.pair (.int .i32) .unit)) (.pair (.pair (.int .i32) (.pair (.int .i32) .unit)) (.pair (.pair (.int .i32) (.pair (.int .i32) .unit)) (.pair (.pair (.int .i32) (.pair (.int .i32) .unit)) (.pair (.pair (.int .i32) (.pair (.int .i32) .unit)) (.pair (.pair (.int .i32) (.pair (.int .i32) .unit)) (.pair (.pair (.int .i32) (.pair (.int .i32) .unit)) (.pair (.pair (.int .i32) (.pair (.int .i32) .unit)) (.pair (.pair (.int .i32) (.pair (.int .i32) .unit)) (.pair (.pair (.int .i32) (.pair (.int .i32) .unit)) (.pair (.pair (.int .i32) (.pair (.int .i32) .unit)) (.pair (.pair (.int .i32) (.pair (.int .i32) .unit)) (.pair (.pair (.int .i32) (.pair (.int .i32) .unit)) (.pair (.pair (.int .i32) (.pair (.int .i32) .unit)) (.pair (.pair (.int .i32) (.pair (.int .i32) .unit)) (.pair (.pair (.int .i32) (.pair (.int .i32) .unit)) (.pair (.pair (.int .i32) (.pair (.int .i32) .unit)) (.pair (.pair (.int .i32) (.pair (.int .i32) .unit)) .unit))))))))))))))))))
def sh19 : Sh := (.pair (.pair (.int .i32) (.pair (.int .i32) .unit)) (.pair (.pair (.int .i32) (.pair (.int .i32) .unit)) (.pair (.pair (.int .i32) (.pair (.int .i32) .unit)) (.pair (.pair (.int .i32) (.pair (.int .i32) .unit)) (.pair (.pair (.int .i32) (.pair (.int .i32) .unit)) (.pair (.pair (.int .i32) (.pair (.int .i32) .unit)) (.pair (.pair (.int .i32) (.pair (.int .i32) .unit)) (.pair (.pair (.int .i32) (.pair (.int .i32) .unit)) (.pair (.pair (.int .i32) (.pair (.int .i32) .unit)) (.pair (.pair (.int .i32) (.pair (.int .i32) .unit)) (.pair (.pair (.int .i32) (.pair (.int .i32) .unit)) (.pair (.pair (.int .i32) (.pair (.int .i32) .unit)) (.pair (.pair (.int .i32) (.pair (.int .i32) .unit)) (.pair (.pair (.int .i32) (.pair (.int .i32) .unit)) (.pair (.pair (.int .i32) (.pair (.int .i32) .unit)) (.pair (.pair (.int .i32) (.pair (.int .i32) .unit)) (.pair (.pair (.int .i32) (.pair (.int .i32) .unit)) (.pair (.pair (.int .i32) (.pair (.int .i32) .unit)) (.pair (.pair (.int .i32) (.pair (.int .i32) .unit)) .unit)))))))))))))))))))
def cells18 : List Value := marksL.map fun n => .int .i32 n
def cells19 : List Value := wideL.map fun n => .int .i32 n
theorem sh18_ok : shapeOk Tryd.prog 100 90 sh18 = true := by kernel_rfl
theorem sh19_ok : shapeOk Tryd.prog 100 91 sh19 = true := by kernel_rfl
theorem laidW_of {W : World} {l : List (String × DataW Unit)} {ps : List MemPlace} (hl : DataW.LaidVars Tryd.prog W l ps) (m1 : ("scrollback/width.marks", Rows.laid_scrollback_width_marks) ∈ l) (m2 : ("scrollback/width.wide", Rows.laid_scrollback_width_wide) ∈ l) : LaidW W := by
  obtain ⟨h1, c1⟩ := laid_cell hl (name := "scrollback/width.marks") (D := Rows.laid_scrollback_width_marks) (cs := cells18) (g := 0) (t := 90) (S := sh18) 100 m1 (by kernel_rfl) (by kernel_rfl) sh18_ok (by kernel_rfl)
  obtain ⟨h2, c2⟩ := laid_cell hl (name := "scrollback/width.wide") (D := Rows.laid_scrollback_width_wide) (cs := cells19) (g := 1) (t := 91) (S := sh19) 100 m2 (by kernel_rfl) (by kernel_rfl) sh19_ok (by kernel_rfl)
  refine ⟨fun i hi => ?_, fun i hi => ?_, by omega⟩
  · rw [c1, cells18, List.getElem?_map, List.getElem?_eq_getElem (show i < marksL.length from hi)]
    simp [marksF, List.getD_eq_getElem?_getD, List.getElem?_eq_getElem (show i < marksL.length from hi)]
  · rw [c2, cells19, List.getElem?_map, List.getElem?_eq_getElem (show i < wideL.length from hi)]
    simp [wideF, List.getD_eq_getElem?_getD, List.getElem?_eq_getElem (show i < wideL.length from hi)]

theorem laid_of {W : World} (h : laidMetH Tryd.prog [("scrollback/width.marks", Rows.laid_scrollback_width_marks), ("scrollback/width.wide", Rows.laid_scrollback_width_wide)] W) : LaidW W := by
  rw [MakeChecks.laidMetH_plain _ _ _ (by kernel_rfl)] at h
  obtain ⟨ps, hl, _, _⟩ := h
  exact laidW_of hl (by simp) (by simp)

theorem exists_list {α : Type} {p : Nat → α → Prop} : ∀ n, (∀ i, i < n → ∃ x, p i x) → ∃ xs : List α, xs.length = n ∧ ∀ i x, xs[i]? = some x → p i x
  | 0, _ => ⟨[], rfl, fun i x h => by simp at h⟩
  | n + 1, h => by
    obtain ⟨xs, h1, h2⟩ := exists_list n fun i hi => h i (by omega)
    obtain ⟨x, hx⟩ := h n (by omega)
    refine ⟨xs ++ [x], by simp [h1], fun i y hy => ?_⟩
    by_cases hi : i < n
    · exact h2 i y (by rwa [List.getElem?_append_left (by omega)] at hy)
    · have hl := (List.getElem?_eq_some_iff.1 hy).1
      simp only [List.length_append, List.length_cons, List.length_nil] at hl
      have e : i = n := by omega
      subst e
      rw [← h1] at hy
      simp at hy
      rw [← hy]
      exact hx

theorem okWide_array {P : Program} {w : World} {base : Nat} {t : TypeId} {v : Value} {n : Nat} {e : TypeId} (ht : P.underlying t = some (.array n e)) (h : Value.okWide P w .any base t v) : ∃ cs, v = .agg cs ∧ cs.size = P.cellsOf t := by
  simp only [Value.okWide, ht] at h
  obtain ⟨cs, h1, h2, _⟩ := h
  exact ⟨cs, h1, h2⟩
theorem rd_col {W : World} {vs : List Value} (h : Rd W (.pair (.int .i64) (.pair (.int .u8) (.pair (.int .u8) (.pair (.int .u8) (.pair (.int .u8) .unit))))) vs) : ∃ k i r g b : Int, vs = [.int .i64 k, .int .u8 i, .int .u8 r, .int .u8 g, .int .u8 b] ∧ ((0 ≤ i ∧ i ≤ 255) ∧ (0 ≤ r ∧ r ≤ 255) ∧ (0 ≤ g ∧ g ≤ 255) ∧ (0 ≤ b ∧ b ≤ 255)) := by
  obtain ⟨x1, y1, e1, ⟨k, rfl, _⟩, x2, y2, e2, ⟨i, rfl, hi⟩, x3, y3, e3, ⟨r, rfl, hr⟩, x4, y4, e4, ⟨g, rfl, hg⟩, x5, y5, e5, ⟨b, rfl, hb⟩, rfl⟩ := h
  exact ⟨k, i, r, g, b, by rw [e1, e2, e3, e4, e5]; rfl, wf_u8 hi, wf_u8 hr, wf_u8 hg, wf_u8 hb⟩
theorem rd_pen {W : World} {vs : List Value} (h : Rd W (.pair (.pair (.int .i64) (.pair (.int .u8) (.pair (.int .u8) (.pair (.int .u8) (.pair (.int .u8) .unit))))) (.pair (.pair (.int .i64) (.pair (.int .u8) (.pair (.int .u8) (.pair (.int .u8) (.pair (.int .u8) .unit))))) (.pair (.int .u8) .unit))) vs) : ∃ p : Pen, vs = p.l ∧ InP p := by
  obtain ⟨x1, y1, e1, h1, x2, y2, e2, h2, x3, y3, e3, ⟨f, rfl, hf⟩, rfl⟩ := h
  obtain ⟨k1, i1, r1, g1, b1, rfl, p1⟩ := rd_col h1
  obtain ⟨k2, i2, r2, g2, b2, rfl, p2⟩ := rd_col h2
  exact ⟨⟨k1, i1, r1, g1, b1, k2, i2, r2, g2, b2, f⟩, by rw [e1, e2, e3]; rfl, p1, p2, wf_u8 hf⟩
theorem rd_mk {W : World} {vs : List Value} (h : Rd W (.pair (.int .i32) (.pair (.int .i32) (.pair (.int .i32) .unit))) vs) : ∃ a b c : Int, vs = [.int .i32 a, .int .i32 b, .int .i32 c] := by
  obtain ⟨x1, y1, e1, ⟨a, rfl, _⟩, x2, y2, e2, ⟨b, rfl, _⟩, x3, y3, e3, ⟨c, rfl, _⟩, rfl⟩ := h
  exact ⟨a, b, c, by rw [e1, e2, e3]; rfl⟩
theorem rd_cell {W : World} {vs : List Value} (h : Rd W (.pair (.int .i32) (.pair (.pair (.int .i32) (.pair (.int .i32) (.pair (.int .i32) .unit))) (.pair (.int .i64) (.pair (.pair (.pair (.int .i64) (.pair (.int .u8) (.pair (.int .u8) (.pair (.int .u8) (.pair (.int .u8) .unit))))) (.pair (.pair (.int .i64) (.pair (.int .u8) (.pair (.int .u8) (.pair (.int .u8) (.pair (.int .u8) .unit))))) (.pair (.int .u8) .unit))) .unit)))) vs) : ∃ c : Cl, vs = c.l ∧ InP c.pen := by
  obtain ⟨x1, y1, e1, ⟨r, rfl, _⟩, x2, y2, e2, h2, x3, y3, e3, ⟨wd, rfl, _⟩, x4, y4, e4, h4, rfl⟩ := h
  obtain ⟨a, b, c, rfl⟩ := rd_mk h2
  obtain ⟨p, rfl, hp⟩ := rd_pen h4
  exact ⟨⟨r, a, b, c, wd, p⟩, by rw [e1, e2, e3, e4, List.append_nil]; rfl, hp⟩
theorem rd_words {W : World} {vs : List Value} (h : Rd W (.pair (.int .u64) (.pair (.int .u64) (.pair (.int .u64) .unit))) vs) : ∃ x : W3, vs = x.l ∧ InW x := by
  obtain ⟨x1, y1, e1, ⟨a, rfl, ha⟩, x2, y2, e2, ⟨b, rfl, hb⟩, x3, y3, e3, ⟨c, rfl, hc⟩, rfl⟩ := h
  have q1 := wf_u64 ha
  have q2 := wf_u64 hb
  have q3 := wf_u64 hc
  exact ⟨⟨a, b, c⟩, by rw [e1, e2, e3]; rfl, ⟨q1.1, by show a < _; omega⟩, ⟨q2.1, by show b < _; omega⟩, ⟨q3.1, by show c < _; omega⟩⟩
theorem rd_run {W : World} {vs : List Value} (h : Rd W (.pair (.int .i64) (.pair (.pair (.int .u64) (.pair (.int .u64) (.pair (.int .u64) .unit))) .unit)) vs) : ∃ x : Rn, vs = x.l ∧ InW x.w := by
  obtain ⟨x1, y1, e1, ⟨n, rfl, _⟩, x2, y2, e2, h2, rfl⟩ := h
  obtain ⟨x, rfl, hx⟩ := rd_words h2
  exact ⟨⟨n, x⟩, by rw [e1, e2, List.append_nil]; rfl, hx⟩
theorem arg_cells {W : World} {A : Option Addr} {n c : Nat} (h : Rd W (.sl (.pair (.int .i32) (.pair (.pair (.int .i32) (.pair (.int .i32) (.pair (.int .i32) .unit))) (.pair (.int .i64) (.pair (.pair (.pair (.int .i64) (.pair (.int .u8) (.pair (.int .u8) (.pair (.int .u8) (.pair (.int .u8) .unit))))) (.pair (.pair (.int .i64) (.pair (.int .u8) (.pair (.int .u8) (.pair (.int .u8) (.pair (.int .u8) .unit))))) (.pair (.int .u8) .unit))) .unit))))) [.slice A n c]) : ∃ xs : List Cl, CsR (fun b => W.heap[b]?) A n c xs ∧ ∀ x ∈ xs, InP x.pen := by
  obtain ⟨h1, h2, h3, h4⟩ := rd_sl h (by decide)
  by_cases hn : 0 < n
  · obtain ⟨b, off, e, _, hc⟩ := h4 hn
    obtain ⟨xs, g1, g2⟩ := exists_list (p := fun i (x : Cl) => InP x.pen ∧ ∀ j, j < 16 → W.cell? ⟨b, off + (i * 16 + j), none⟩ = x.l[j]?) n fun i hi => by
      obtain ⟨es, r, hcell⟩ := hc i hi
      obtain ⟨x, rfl, hx⟩ := rd_cell r
      exact ⟨x, hx, fun j hj => hcell j hj⟩
    refine ⟨xs, ⟨g1, h2, by simpa [maxLen] using h3, fun hA => (h1 hA).2, fun _ => ⟨b, off, e, fun i x hx => ⟨x.l, rfl, Cl.l_length x, fun j v hj => At.of_cell ?_⟩⟩⟩, fun x hx => ?_⟩
    · have hj2 := (List.getElem?_eq_some_iff.1 hj).1
      rw [Cl.l_length] at hj2
      rw [Nat.add_assoc, (g2 i x hx).2 j hj2, hj]
    · obtain ⟨i, hi, e⟩ := List.getElem_of_mem hx
      exact (g2 i x (by rw [List.getElem?_eq_getElem hi, e])).1
  · have e : n = 0 := by omega
    subst e
    exact ⟨[], ⟨rfl, h2, by simpa [maxLen] using h3, fun hA => (h1 hA).2, fun h => absurd h (by omega)⟩, fun x hx => (by cases hx)⟩
theorem arg_runs {W : World} {A : Option Addr} {n c : Nat} (h : Rd W (.sl (.pair (.int .i64) (.pair (.pair (.int .u64) (.pair (.int .u64) (.pair (.int .u64) .unit))) .unit))) [.slice A n c]) : ∃ xs : List Rn, RsR (fun b => W.heap[b]?) A n c xs ∧ ∀ x ∈ xs, InW x.w := by
  obtain ⟨h1, h2, h3, h4⟩ := rd_sl h (by decide)
  by_cases hn : 0 < n
  · obtain ⟨b, off, e, _, hc⟩ := h4 hn
    obtain ⟨xs, g1, g2⟩ := exists_list (p := fun i (x : Rn) => InW x.w ∧ ∀ j, j < 4 → W.cell? ⟨b, off + (i * 4 + j), none⟩ = x.l[j]?) n fun i hi => by
      obtain ⟨es, r, hcell⟩ := hc i hi
      obtain ⟨x, rfl, hx⟩ := rd_run r
      exact ⟨x, hx, fun j hj => hcell j hj⟩
    refine ⟨xs, ⟨g1, h2, by simpa [maxLen] using h3, fun hA => (h1 hA).2, fun _ => ⟨b, off, e, fun i x hx => ⟨x.l, rfl, Rn.l_length x, fun j v hj => At.of_cell ?_⟩⟩⟩, fun x hx => ?_⟩
    · have hj2 := (List.getElem?_eq_some_iff.1 hj).1
      rw [Rn.l_length] at hj2
      rw [Nat.add_assoc, (g2 i x hx).2 j hj2, hj]
    · obtain ⟨i, hi, e⟩ := List.getElem_of_mem hx
      exact (g2 i x (by rw [List.getElem?_eq_getElem hi, e])).1
  · have e : n = 0 := by omega
    subst e
    exact ⟨[], ⟨rfl, h2, by simpa [maxLen] using h3, fun hA => (h1 hA).2, fun h => absurd h (by omega)⟩, fun x hx => (by cases hx)⟩
end Go.Proofs.YtfbkoflapamicaaDoor
