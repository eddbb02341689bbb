/-
  Marks, kinds and calls that came in. No condition.
-/
import Derived.Test.YtaoepaonjeilgaaRows
import Derived.Test.YtaoepaonjeilgaaRead
import Derived.Test.YtaoepaonjeilgaaMm
namespace Go.Proofs.Ytaoepaonjeilgaa
open Go.ChangeShapes Go.WideShapes Go.RowKit
set_option linter.unusedSimpArgs false
set_option linter.unusedVariables false
theorem exists_list {α : Type} {p : Nat → α → Prop} : ∀ n, (∀ i, i < n → ∃ x, p i x) → ∃ xs : List α, xs.length = n ∧ ∀ i x, xs[i]? = some x → p i x
  | 0, _ => ⟨[], rfl, fun i x h => by simp at h⟩
  | n + 1, h => by
    obtain ⟨xs, h1, h2⟩ := exists_list n fun i hi => h i (by omega)
    obtain ⟨x, hx⟩ := h n (by omega)
    refine ⟨xs ++ [x], by simp [h1], fun i y hy => ?_⟩
    by_cases hi : i < n
    · exact h2 i y (by rwa [List.getElem?_append_left (by omega)] at hy)
    · have hl := (List.getElem?_eq_some_iff.1 hy).1
      simp only [List.length_append, List.length_cons, List.length_nil] at hl
      have e : i = n := by omega
      subst e
      rw [← h1] at hy
      simp at hy
      rw [← hy]
      exact hx
theorem rd_i {W : World} {vs : List Value} (h : Rd W (.int .i64) vs) : ∃ x : Int, vs = iL x ∧ True := by
  obtain ⟨a, rfl, _⟩ := h
  exact ⟨a, rfl, trivial⟩
theorem rd_mk {W : World} {vs : List Value} (h : Rd W (.pair (.int .i64) (.pair (.int .i64) (.pair (.int .i64) .unit))) vs) : ∃ x : Mk, vs = x.l ∧ True := by
  obtain ⟨x1, y1, e1, ⟨a, rfl, _⟩, x2, y2, e2, ⟨b, rfl, _⟩, x3, y3, e3, ⟨c, rfl, _⟩, rfl⟩ := h
  exact ⟨⟨a, b, c⟩, by rw [e1, e2, e3]; rfl, trivial⟩
theorem arg_is {W : World} {A : Option Addr} {n c : Nat} (h : Rd W (.sl (.int .i64)) [.slice A n c]) : ∃ xs : List Int, IsR (fun b => W.heap[b]?) A n c xs ∧ ∀ x ∈ xs, True := by
  obtain ⟨h1, h2, h3, h4⟩ := rd_sl h (by decide)
  by_cases hn : 0 < n
  · obtain ⟨b, off, e, _, hc⟩ := h4 hn
    obtain ⟨xs, g1, g2⟩ := exists_list (p := fun i (x : Int) => True ∧ ∀ j, j < 1 → W.cell? ⟨b, off + (i * 1 + j), none⟩ = (iL x)[j]?) n fun i hi => by
      obtain ⟨es, r, hcell⟩ := hc i hi
      obtain ⟨x, rfl, hx⟩ := rd_i r
      exact ⟨x, hx, fun j hj => hcell j hj⟩
    refine ⟨xs, ⟨g1, h2, by simpa [maxLen] using h3, fun hA => (h1 hA).2, fun _ => ⟨b, off, e, fun i x hx j v hj => At.of_cell ?_⟩⟩, fun x hx => ?_⟩
    · have hj2 := (List.getElem?_eq_some_iff.1 hj).1
      rw [show (iL x).length = 1 from rfl] at hj2
      rw [Nat.add_assoc, (g2 i x hx).2 j hj2, hj]
    · obtain ⟨i, hi, e⟩ := List.getElem_of_mem hx
      exact (g2 i x (by rw [List.getElem?_eq_getElem hi, e])).1
  · have e : n = 0 := by omega
    subst e
    exact ⟨[], ⟨rfl, h2, by simpa [maxLen] using h3, fun hA => (h1 hA).2, fun h => absurd h (by omega)⟩, fun x hx => (by cases hx)⟩
theorem arg_ms {W : World} {A : Option Addr} {n c : Nat} (h : Rd W (.sl (.pair (.int .i64) (.pair (.int .i64) (.pair (.int .i64) .unit)))) [.slice A n c]) : ∃ xs : List Mk, MsR (fun b => W.heap[b]?) A n c xs ∧ ∀ x ∈ xs, True := by
  obtain ⟨h1, h2, h3, h4⟩ := rd_sl h (by decide)
  by_cases hn : 0 < n
  · obtain ⟨b, off, e, _, hc⟩ := h4 hn
    obtain ⟨xs, g1, g2⟩ := exists_list (p := fun i (x : Mk) => True ∧ ∀ j, j < 3 → W.cell? ⟨b, off + (i * 3 + j), none⟩ = (Mk.l x)[j]?) n fun i hi => by
      obtain ⟨es, r, hcell⟩ := hc i hi
      obtain ⟨x, rfl, hx⟩ := rd_mk r
      exact ⟨x, hx, fun j hj => hcell j hj⟩
    refine ⟨xs, ⟨g1, h2, by simpa [maxLen] using h3, fun hA => (h1 hA).2, fun _ => ⟨b, off, e, fun i x hx j v hj => At.of_cell ?_⟩⟩, fun x hx => ?_⟩
    · have hj2 := (List.getElem?_eq_some_iff.1 hj).1
      rw [show (Mk.l x).length = 3 from rfl] at hj2
      rw [Nat.add_assoc, (g2 i x hx).2 j hj2, hj]
    · obtain ⟨i, hi, e⟩ := List.getElem_of_mem hx
      exact (g2 i x (by rw [List.getElem?_eq_getElem hi, e])).1
  · have e : n = 0 := by omega
    subst e
    exact ⟨[], ⟨rfl, h2, by simpa [maxLen] using h3, fun hA => (h1 hA).2, fun h => absurd h (by omega)⟩, fun x hx => (by cases hx)⟩
def ActK (W : World) (a : AcA) : Prop := ∃ ks : List Int, IsR (fun b => W.heap[b]?) a.A a.n a.c ks
theorem rd_act {W : World} {vs : List Value} (h : Rd W (.pair (.int .i64) (.pair (.pair (.int .i64) (.pair (.int .i64) (.pair (.int .i64) .unit))) (.pair (.int .i64) (.pair (.sl (.int .i64)) .unit)))) vs) : ∃ x : AcA, vs = x.l ∧ ActK W x := by
  obtain ⟨x1, y1, e1, ⟨a, rfl, _⟩, x2, y2, e2, h2, x3, y3, e3, ⟨b, rfl, _⟩, x4, y4, e4, h4, rfl⟩ := h
  obtain ⟨m, rfl, _⟩ := rd_mk h2
  have h4' := h4
  obtain ⟨A, n, c, rfl, _⟩ := h4'
  obtain ⟨ks, hk, _⟩ := arg_is h4
  exact ⟨⟨a, m, b, A, n, c⟩, by rw [e1, e2, e3, e4, List.append_nil]; rfl, ks, hk⟩
theorem arg_acts {W : World} {A : Option Addr} {n c : Nat} (h : Rd W (.sl (.pair (.int .i64) (.pair (.pair (.int .i64) (.pair (.int .i64) (.pair (.int .i64) .unit))) (.pair (.int .i64) (.pair (.sl (.int .i64)) .unit))))) [.slice A n c]) : ∃ xs : List AcA, SlR 6 AcA.l (fun b => W.heap[b]?) A n c xs ∧ ∀ x ∈ xs, ActK W x := by
  obtain ⟨h1, h2, h3, h4⟩ := rd_sl h (by decide)
  by_cases hn : 0 < n
  · obtain ⟨b, off, e, _, hc⟩ := h4 hn
    obtain ⟨xs, g1, g2⟩ := exists_list (p := fun i (x : AcA) => ActK W x ∧ ∀ j, j < 6 → W.cell? ⟨b, off + (i * 6 + j), none⟩ = (AcA.l x)[j]?) n fun i hi => by
      obtain ⟨es, r, hcell⟩ := hc i hi
      obtain ⟨x, rfl, hx⟩ := rd_act r
      exact ⟨x, hx, fun j hj => hcell j hj⟩
    refine ⟨xs, ⟨g1, h2, by simpa [maxLen] using h3, fun hA => (h1 hA).2, fun _ => ⟨b, off, e, fun i x hx j v hj => At.of_cell ?_⟩⟩, fun x hx => ?_⟩
    · have hj2 := (List.getElem?_eq_some_iff.1 hj).1
      rw [show (AcA.l x).length = 6 from rfl] at hj2
      rw [Nat.add_assoc, (g2 i x hx).2 j hj2, hj]
    · obtain ⟨i, hi, e⟩ := List.getElem_of_mem hx
      exact (g2 i x (by rw [List.getElem?_eq_getElem hi, e])).1
  · have e : n = 0 := by omega
    subst e
    exact ⟨[], ⟨rfl, h2, by simpa [maxLen] using h3, fun hA => (h1 hA).2, fun h => absurd h (by omega)⟩, fun x hx => (by cases hx)⟩
end Go.Proofs.Ytaoepaonjeilgaa
