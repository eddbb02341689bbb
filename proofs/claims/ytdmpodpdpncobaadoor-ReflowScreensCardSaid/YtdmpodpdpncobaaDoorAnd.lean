/-
  What is carried, in order, and back. No condition.
-/
import Derived.Test.YtdmpodpdpncobaaDoorVc
namespace Go.Proofs.YtdmpodpdpncobaaDoor
open Go.RowKit
set_option linter.unusedSimpArgs false
set_option linter.unusedVariables false
/-! ### Places in order -/
/-! ### Logical lines in order -/
/-! ### The cells of a logical line -/
theorem fine_of {X : List Ln} {cols : Int} (hv : vLs X = true) (h12 : X.length ≤ 1000) (hc : 1 ≤ cols ∧ cols ≤ 1000) : fineB (lgG [] 0 X) cols = true := by
  have h0 : vW [] cols = true := by simp [vW, hc, rowR, rowFrom]
  rw [fineB, h0, Bool.true_and, List.all_eq_true]
  intro g hg
  have h1 := (linesV_bd (fun x hx => vLs_row hv hx) g hg).1
  have h2 : ∀ (G : List Lg) (n : Nat), OkG X n G → ∀ g ∈ G, rowR g.cells = true := by
    intro G
    induction G with
    | nil => intro n _ g hg; cases hg
    | cons y t ih =>
      intro n h g hg
      obtain ⟨r, _, _, _, _, e5, _, _, ht⟩ := h
      rcases List.mem_cons.1 hg with rfl | hg
      · exact e5
      · exact ih _ ht g hg
  have h3 := h2 _ 0 (ok_lines hv) g hg
  have h4 : X.length * 1000 ≤ 1000 * 1000 := Nat.mul_le_mul_right _ h12
  rw [vW, h3, decide_eq_true hc.1, decide_eq_true hc.2, decide_eq_true (by omega)]
  rfl
/-! ### Wrapped, carried, and back -/
theorem ChR.row {n : Nat} {l : List Cl} {rows : List Ln} (h : ChR n l rows) : rowR l = true := by
  induction h with
  | last h1 h2 => exact h1
  | full h1 h2 h3 ih => exact rowR_append ih _ h1
  | left h1 h2 _ _ h3 ih => exact rowR_append ih _ h1
theorem NoB.right {c l : List Cl} (hb : NoB (c ++ l)) : NoB l := fun i x y hx hy => hb (c.length + i) x y (by rw [List.getElem?_append_right (by omega), Nat.add_sub_cancel_left]; exact hx) (by rw [List.getElem?_append_right (by omega), show c.length + i + 1 - c.length = i + 1 by omega]; exact hy)
end Go.Proofs.YtdmpodpdpncobaaDoor
