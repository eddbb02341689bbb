/-
  The conditions on the listed variables give the tables' cells; rows and places that came in. No condition of its own.
-/
import Derived.Test.YtdmpodpdpncobaaDoorRows
import Derived.Test.YtdmpodpdpncobaaDoorRead
import Derived.Test.YtdmpodpdpncobaaDoorWb
import Derived.Test.YtdmpodpdpncobaaDoorRep
import Derived.Test.YtdmpodpdpncobaaDoorVa
import Derived.LaidMore
namespace Go.Proofs.YtdmpodpdpncobaaDoor
open Go.ChangeShapes Go.WideShapes Go.RowKit
set_option linter.unusedSimpArgs false
set_option linter.unusedVariables false

def sh18 : Sh := (.pair (.pair (.int .i32) (.pair (.int .i32) .unit)) (.pair (.pair (.int .i32) (.pair (.int .i32) .unit)) (.pair (.pair (.int .i32) (.pair (.int .i32) .unit)) (.pair (.pair (.int .i32) (.pair (.int .i32) .unit)) (.pair (.pair (.int .i32) (.pair (.int .i32) .unit)) (.pair (.pair (.int .i32) (.pair (.int .i32) .unit)) (.pair (.pair (.int .i32) (.pair (.int .i32) .unit)) (.pair (.pair (.int .i32) (.pair (.int .i32) .unit)) (.pair (.pair (.int .i32) (.pair (.int .i32) .unit)) (.pair (.pair (.int .i32) (.pair (.int .i32) .unit)) (.pair (.pair (.int .i32) (.pair (.int .i32) .unit)) (.pair (.pair (.int .i32) (.pair (.int .i32) .unit)) (.pair (.pair (.int .i32) (.pair (.int .i32) .unit)) (.pair (.pair (.int .i32) (.pair (.int .i32) .unit)) (.pair (.pair (.int .i32) (.pair (.int .i32) .unit)) (.pair (.pair (.int .i32) (.pair (.int .i32) .unit)) (.pair (.pair (.int .i32) (.pair (.int .i32) .unit)) (.pair (.pair (.int .i32) (.pair (.int .i32) .unit)) .unit))))))))))))))))))
def sh19 : Sh := (.pair (.pair (.int .i32) (.pair (.int .i32) .unit)) (.pair (.pair (.int .i32) (.pair (.int .i32) .unit)) (.pair (.pair (.int .i32) (.pair (.int .i32) .unit)) (.pair (.pair (.int .i32) (.pair (.int .i32) .unit)) (.pair (.pair (.int .i32) (.pair (.int .i32) .unit)) (.pair (.pair (.int .i32) (.pair (.int .i32) .unit)) (.pair (.pair (.int .i32) (.pair (.int .i32) .unit)) (.pair (.pair (.int .i32) (.pair (.int .i32) .unit)) (.pair (.pair (.int .i32) (.pair (.int .i32) .unit)) (.pair (.pair (.int .i32) (.pair (.int .i32) .unit)) (.pair (.pair (.int .i32) (.pair (.int .i32) .unit)) (.pair (.pair (.int .i32) (.pair (.int .i32) .unit)) (.pair (.pair (.int .i32) (.pair (.int .i32) .unit)) (.pair (.pair (.int .i32) (.pair (.int .i32) .unit)) (.pair (.pair (.int .i32) (.pair (.int .i32) .unit)) (.pair (.pair (.int .i32) (.pair (.int .i32) .unit)) (.pair (.pair (.int .i32) (.pair (.int .i32) .unit)) (.pair (.pair (.int .i32) (.pair (.int .i32) .unit)) (.pair (.pair (.int .i32) (.pair (.int .i32) .unit)) .unit)))))))))))))))))))
def cells18 : List Value := marksL.map fun n => .int .i32 n
def cells19 : List Value := wideL.map fun n => .int .i32 n
theorem sh18_ok : shapeOk Tryd.prog 100 143 sh18 = true := by kernel_rfl
theorem sh19_ok : shapeOk Tryd.prog 100 144 sh19 = true := by kernel_rfl
theorem laidW_of {W : World} {l : List (String × DataW Unit)} {ps : List MemPlace} (hl : DataW.LaidVars Tryd.prog W l ps) (m1 : ("scrollback/width.marks", Rows.laid_scrollback_width_marks) ∈ l) (m2 : ("scrollback/width.wide", Rows.laid_scrollback_width_wide) ∈ l) : LaidW W := by
  obtain ⟨h1, c1⟩ := laid_cell hl (name := "scrollback/width.marks") (D := Rows.laid_scrollback_width_marks) (cs := cells18) (g := 0) (t := 143) (S := sh18) 100 m1 (by kernel_rfl) (by kernel_rfl) sh18_ok (by kernel_rfl)
  obtain ⟨h2, c2⟩ := laid_cell hl (name := "scrollback/width.wide") (D := Rows.laid_scrollback_width_wide) (cs := cells19) (g := 1) (t := 144) (S := sh19) 100 m2 (by kernel_rfl) (by kernel_rfl) sh19_ok (by kernel_rfl)
  refine ⟨fun i hi => ?_, fun i hi => ?_, by omega⟩
  · rw [c1, cells18, List.getElem?_map, List.getElem?_eq_getElem (show i < marksL.length from hi)]
    simp [marksF, List.getD_eq_getElem?_getD, List.getElem?_eq_getElem (show i < marksL.length from hi)]
  · rw [c2, cells19, List.getElem?_map, List.getElem?_eq_getElem (show i < wideL.length from hi)]
    simp [wideF, List.getD_eq_getElem?_getD, List.getElem?_eq_getElem (show i < wideL.length from hi)]

theorem laid_of {W : World} (h : laidMetH Tryd.prog [("scrollback/width.marks", Rows.laid_scrollback_width_marks), ("scrollback/width.wide", Rows.laid_scrollback_width_wide)] W) : LaidW W := by
  rw [MakeChecks.laidMetH_plain _ _ _ (by kernel_rfl)] at h
  obtain ⟨ps, hl, _, _⟩ := h
  exact laidW_of hl (by simp) (by simp)

theorem exists_list {α : Type} {p : Nat → α → Prop} : ∀ n, (∀ i, i < n → ∃ x, p i x) → ∃ xs : List α, xs.length = n ∧ ∀ i x, xs[i]? = some x → p i x
  | 0, _ => ⟨[], rfl, fun i x h => by simp at h⟩
  | n + 1, h => by
    obtain ⟨xs, h1, h2⟩ := exists_list n fun i hi => h i (by omega)
    obtain ⟨x, hx⟩ := h n (by omega)
    refine ⟨xs ++ [x], by simp [h1], fun i y hy => ?_⟩
    by_cases hi : i < n
    · exact h2 i y (by rwa [List.getElem?_append_left (by omega)] at hy)
    · have hl := (List.getElem?_eq_some_iff.1 hy).1
      simp only [List.length_append, List.length_cons, List.length_nil] at hl
      have e : i = n := by omega
      subst e
      rw [← h1] at hy
      simp at hy
      rw [← hy]
      exact hx
theorem rd_col {W : World} {vs : List Value} (h : Rd W (.pair (.int .i64) (.pair (.int .u8) (.pair (.int .u8) (.pair (.int .u8) (.pair (.int .u8) .unit))))) vs) : ∃ k i r g b : Int, vs = [.int .i64 k, .int .u8 i, .int .u8 r, .int .u8 g, .int .u8 b] := by
  obtain ⟨x1, y1, e1, ⟨k, rfl, _⟩, x2, y2, e2, ⟨i, rfl, _⟩, x3, y3, e3, ⟨r, rfl, _⟩, x4, y4, e4, ⟨g, rfl, _⟩, x5, y5, e5, ⟨b, rfl, _⟩, rfl⟩ := h
  exact ⟨k, i, r, g, b, by rw [e1, e2, e3, e4, e5]; rfl⟩
theorem rd_pen {W : World} {vs : List Value} (h : Rd W (.pair (.pair (.int .i64) (.pair (.int .u8) (.pair (.int .u8) (.pair (.int .u8) (.pair (.int .u8) .unit))))) (.pair (.pair (.int .i64) (.pair (.int .u8) (.pair (.int .u8) (.pair (.int .u8) (.pair (.int .u8) .unit))))) (.pair (.int .u8) .unit))) vs) : ∃ p : Pen, vs = p.l := by
  obtain ⟨x1, y1, e1, h1, x2, y2, e2, h2, x3, y3, e3, ⟨f, rfl, _⟩, rfl⟩ := h
  obtain ⟨k1, i1, r1, g1, b1, rfl⟩ := rd_col h1
  obtain ⟨k2, i2, r2, g2, b2, rfl⟩ := rd_col h2
  exact ⟨⟨k1, i1, r1, g1, b1, k2, i2, r2, g2, b2, f⟩, by rw [e1, e2, e3]; rfl⟩
theorem rd_mk {W : World} {vs : List Value} (h : Rd W (.pair (.int .i32) (.pair (.int .i32) (.pair (.int .i32) .unit))) vs) : ∃ a b c : Int, vs = [.int .i32 a, .int .i32 b, .int .i32 c] := by
  obtain ⟨x1, y1, e1, ⟨a, rfl, _⟩, x2, y2, e2, ⟨b, rfl, _⟩, x3, y3, e3, ⟨c, rfl, _⟩, rfl⟩ := h
  exact ⟨a, b, c, by rw [e1, e2, e3]; rfl⟩
theorem rd_cell {W : World} {vs : List Value} (h : Rd W (.pair (.int .i32) (.pair (.pair (.int .i32) (.pair (.int .i32) (.pair (.int .i32) .unit))) (.pair (.int .i64) (.pair (.pair (.pair (.int .i64) (.pair (.int .u8) (.pair (.int .u8) (.pair (.int .u8) (.pair (.int .u8) .unit))))) (.pair (.pair (.int .i64) (.pair (.int .u8) (.pair (.int .u8) (.pair (.int .u8) (.pair (.int .u8) .unit))))) (.pair (.int .u8) .unit))) .unit)))) vs) : ∃ c : Cl, vs = c.l := by
  obtain ⟨x1, y1, e1, ⟨r, rfl, _⟩, x2, y2, e2, h2, x3, y3, e3, ⟨wd, rfl, _⟩, x4, y4, e4, h4, rfl⟩ := h
  obtain ⟨a, b, c, rfl⟩ := rd_mk h2
  obtain ⟨p, rfl⟩ := rd_pen h4
  exact ⟨⟨r, a, b, c, wd, p⟩, by rw [e1, e2, e3, e4, List.append_nil]; rfl⟩
theorem arg_cells {W : World} {A : Option Addr} {n c : Nat} (h : Rd W (.sl (.pair (.int .i32) (.pair (.pair (.int .i32) (.pair (.int .i32) (.pair (.int .i32) .unit))) (.pair (.int .i64) (.pair (.pair (.pair (.int .i64) (.pair (.int .u8) (.pair (.int .u8) (.pair (.int .u8) (.pair (.int .u8) .unit))))) (.pair (.pair (.int .i64) (.pair (.int .u8) (.pair (.int .u8) (.pair (.int .u8) (.pair (.int .u8) .unit))))) (.pair (.int .u8) .unit))) .unit))))) [.slice A n c]) : ∃ xs : List Cl, CsR (fun b => W.heap[b]?) A n c xs := by
  obtain ⟨h1, h2, h3, h4⟩ := rd_sl h (by decide)
  by_cases hn : 0 < n
  · obtain ⟨b, off, e, _, hc⟩ := h4 hn
    obtain ⟨xs, g1, g2⟩ := exists_list (p := fun i (x : Cl) => ∀ j, j < 16 → W.cell? ⟨b, off + (i * 16 + j), none⟩ = x.l[j]?) n fun i hi => by
      obtain ⟨es, r, hcell⟩ := hc i hi
      obtain ⟨x, rfl⟩ := rd_cell r
      exact ⟨x, fun j hj => hcell j hj⟩
    refine ⟨xs, g1, h2, by simpa [maxLen] using h3, fun hA => (h1 hA).2, fun _ => ⟨b, off, e, fun i x hx => ⟨x.l, rfl, Cl.l_length x, fun j v hj => At.of_cell ?_⟩⟩⟩
    have hj2 := (List.getElem?_eq_some_iff.1 hj).1
    rw [Cl.l_length] at hj2
    rw [Nat.add_assoc, g2 i x hx j hj2, hj]
  · have e : n = 0 := by omega
    subst e
    exact ⟨[], rfl, h2, by simpa [maxLen] using h3, fun hA => (h1 hA).2, fun h => absurd h (by omega)⟩
theorem rd_ln {W : World} {vs : List Value} (h : Rd W (.pair (.sl (.pair (.int .i32) (.pair (.pair (.int .i32) (.pair (.int .i32) (.pair (.int .i32) .unit))) (.pair (.int .i64) (.pair (.pair (.pair (.int .i64) (.pair (.int .u8) (.pair (.int .u8) (.pair (.int .u8) (.pair (.int .u8) .unit))))) (.pair (.pair (.int .i64) (.pair (.int .u8) (.pair (.int .u8) (.pair (.int .u8) (.pair (.int .u8) .unit))))) (.pair (.int .u8) .unit))) .unit))))) (.pair .bool .unit)) vs) : ∃ l : LnA, vs = l.l ∧ CsR (fun b => W.heap[b]?) l.A l.n l.c l.cells := by
  obtain ⟨x1, y1, e1, h1, x2, y2, e2, ⟨b, rfl⟩, rfl⟩ := h
  have h1' := h1
  obtain ⟨A, n, c, rfl, _⟩ := h1'
  obtain ⟨xs, hx⟩ := arg_cells h1
  exact ⟨⟨A, n, c, xs, b⟩, by rw [e1, e2]; rfl, hx⟩
theorem arg_lines {W : World} {A : Option Addr} {n c : Nat} (h : Rd W (.sl (.pair (.sl (.pair (.int .i32) (.pair (.pair (.int .i32) (.pair (.int .i32) (.pair (.int .i32) .unit))) (.pair (.int .i64) (.pair (.pair (.pair (.int .i64) (.pair (.int .u8) (.pair (.int .u8) (.pair (.int .u8) (.pair (.int .u8) .unit))))) (.pair (.pair (.int .i64) (.pair (.int .u8) (.pair (.int .u8) (.pair (.int .u8) (.pair (.int .u8) .unit))))) (.pair (.int .u8) .unit))) .unit))))) (.pair .bool .unit))) [.slice A n c]) : ∃ ls : List LnA, LsA (fun b => W.heap[b]?) A n c ls := by
  obtain ⟨h1, h2, h3, h4⟩ := rd_sl h (by decide)
  by_cases hn : 0 < n
  · obtain ⟨b, off, e, _, hc⟩ := h4 hn
    obtain ⟨ls, g1, g2⟩ := exists_list (p := fun i (x : LnA) => CsR (fun b => W.heap[b]?) x.A x.n x.c x.cells ∧ ∀ j, j < 2 → W.cell? ⟨b, off + (i * 2 + j), none⟩ = x.l[j]?) n fun i hi => by
      obtain ⟨es, r, hcell⟩ := hc i hi
      obtain ⟨x, rfl, hx⟩ := rd_ln r
      exact ⟨x, hx, fun j hj => hcell j hj⟩
    refine ⟨ls, ⟨g1, h2, by simpa [maxLen] using h3, fun hA => (h1 hA).2, fun _ => ⟨b, off, e, fun i x hx => ⟨x.l, rfl, LnA.l_length x, fun j v hj => At.of_cell ?_⟩⟩⟩, fun l hl => ?_⟩
    · have hj2 := (List.getElem?_eq_some_iff.1 hj).1
      rw [LnA.l_length] at hj2
      rw [Nat.add_assoc, (g2 i x hx).2 j hj2, hj]
    · obtain ⟨i, hi, e⟩ := List.getElem_of_mem hl
      exact (g2 i l (by rw [List.getElem?_eq_getElem hi, e])).1
  · have e : n = 0 := by omega
    subst e
    exact ⟨[], ⟨rfl, h2, by simpa [maxLen] using h3, fun hA => (h1 hA).2, fun h => absurd h (by omega)⟩, fun l hl => (by cases hl)⟩

theorem rd_an {W : World} {vs : List Value} (h : Rd W (.pair (.int .i64) (.pair (.int .i64) .unit)) vs) : ∃ x : Int × Int, vs = aL x := by
  obtain ⟨x1, y1, e1, ⟨a, rfl, _⟩, x2, y2, e2, ⟨b, rfl, _⟩, rfl⟩ := h
  exact ⟨(a, b), by rw [e1, e2]; rfl⟩
theorem arg_ans {W : World} {A : Option Addr} {n c : Nat} (h : Rd W (.sl (.pair (.int .i64) (.pair (.int .i64) .unit))) [.slice A n c]) : ∃ xs : List (Int × Int), AsR (fun b => W.heap[b]?) A n c xs := by
  obtain ⟨h1, h2, h3, h4⟩ := rd_sl h (by decide)
  by_cases hn : 0 < n
  · obtain ⟨b, off, e, _, hc⟩ := h4 hn
    obtain ⟨xs, g1, g2⟩ := exists_list (p := fun i (x : Int × Int) => ∀ j, j < 2 → W.cell? ⟨b, off + (i * 2 + j), none⟩ = (aL x)[j]?) n fun i hi => by
      obtain ⟨es, r, hcell⟩ := hc i hi
      obtain ⟨x, rfl⟩ := rd_an r
      exact ⟨x, fun j hj => hcell j hj⟩
    refine ⟨xs, g1, h2, by simpa [maxLen] using h3, fun hA => (h1 hA).2, fun _ => ⟨b, off, e, fun i x hx => ⟨aL x, rfl, aL_len x, fun j v hj => At.of_cell ?_⟩⟩⟩
    have hj2 := (List.getElem?_eq_some_iff.1 hj).1
    rw [aL_len] at hj2
    rw [Nat.add_assoc, g2 i x hx j hj2, hj]
  · have e : n = 0 := by omega
    subst e
    exact ⟨[], rfl, h2, by simpa [maxLen] using h3, fun hA => (h1 hA).2, fun h => absurd h (by omega)⟩
end Go.Proofs.YtdmpodpdpncobaaDoor
