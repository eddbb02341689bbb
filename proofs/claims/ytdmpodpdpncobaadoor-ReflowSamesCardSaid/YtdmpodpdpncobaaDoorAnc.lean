/-
  Places in logical lines, as plain data. No condition.
-/
import Derived.Test.YtdmpodpdpncobaaDoorUnp
namespace Go.Proofs.YtdmpodpdpncobaaDoor
open Go.RowKit
set_option linter.unusedSimpArgs false
set_option linter.unusedVariables false
/-! ### Places in logical lines -/
def hasP (X : List Ln) (a : Int × Int) : Bool := decide (0 ≤ a.1) && (match X[a.1.toNat]? with
  | some x => decide (0 ≤ a.2) && decide (a.2 < (x.cells.length : Int))
  | none => false)
theorem hasP_parts {X : List Ln} {a : Int × Int} (h : hasP X a = true) : ∃ (k : Nat) (x : Ln), a.1 = (k : Int) ∧ X[k]? = some x ∧ k < X.length ∧ 0 ≤ a.2 ∧ a.2 < (x.cells.length : Int) := by
  unfold hasP at h
  rw [Bool.and_eq_true] at h
  have h0 := of_decide_eq_true h.1
  split at h
  · rename_i x hx
    rw [Bool.and_eq_true] at h
    exact ⟨a.1.toNat, x, by omega, hx, (List.getElem?_eq_some_iff.1 hx).1, of_decide_eq_true h.2.1, of_decide_eq_true h.2.2⟩
  · exact absurd h.2 (by decide)
theorem hasP_yes {X : List Ln} {k : Nat} {x : Ln} {c : Int} (hx : X[k]? = some x) (h0 : 0 ≤ c) (h1 : c < (x.cells.length : Int)) : hasP X ((k : Int), c) = true := by
  simp [hasP, hx, h0, h1]
theorem hasP_row {X : List Ln} {a : Int × Int} (h : a.1 < 0 ∨ (X.length : Int) ≤ a.1) : hasP X a = false := by
  cases hb : hasP X a with
  | false => rfl
  | true =>
    obtain ⟨k, x, h1, h2, h3, _⟩ := hasP_parts hb
    omega
theorem hasP_col {X : List Ln} {k : Nat} {x : Ln} {c : Int} (hx : X[k]? = some x) (h : c < 0 ∨ (x.cells.length : Int) ≤ c) : hasP X ((k : Int), c) = false := by
  cases hb : hasP X ((k : Int), c) with
  | false => rfl
  | true =>
    obtain ⟨k2, x2, h1, h2, h3, h4, h5⟩ := hasP_parts hb
    have e : k = k2 := by simp only at h1; omega
    subst e
    rw [hx] at h2
    cases h2
    simp only at h4 h5
    omega
theorem keptV_len (x y : List Cl) : (keptV x y).length = keptN x y := by rw [keptV, List.length_take, Nat.min_eq_left (keptN_le x y)]
/-- how many cells of the first rows count -/
def sumK : List (List Cl) → Nat → Nat
  | [], _ => 0
  | _ :: _, 0 => 0
  | x :: l, k + 1 => (kept1 x l).length + sumK l k
theorem sumK_zero (L : List (List Cl)) : sumK L 0 = 0 := by cases L <;> rfl
theorem sumK_snoc : ∀ (L : List (List Cl)) (k : Nat) (x y : List Cl), L[k]? = some x → L[k + 1]? = some y → sumK L (k + 1) = sumK L k + keptN x y
  | [], k, x, y, h, _ => by simp at h
  | [z], k, x, y, _, h => by simp at h
  | z :: z2 :: l, 0, x, y, h, h2 => by
    simp only [List.getElem?_cons_zero, Option.some.injEq, List.getElem?_cons_succ] at h h2
    subst h h2
    rw [sumK_zero]
    show (kept1 z (z2 :: l)).length + sumK (z2 :: l) 0 = _
    rw [sumK_zero, kept1, keptV_len]
    omega
  | z :: z2 :: l, k + 1, x, y, h, h2 => by
    rw [List.getElem?_cons_succ] at h h2
    rw [sumK, sumK_snoc (z2 :: l) k x y h h2, sumK]
    omega
theorem sumK_le : ∀ (L : List (List Cl)) (k : Nat), sumK L k ≤ sumL L
  | [], _ => Nat.le_refl _
  | _ :: _, 0 => by rw [sumK]; omega
  | x :: l, k + 1 => by
    have := sumK_le l k
    have := kept1_len x l
    rw [sumK]
    simp only [sumL, List.map_cons, List.sum_cons] at *
    omega
theorem all_take : ∀ (L : List (List Cl)) (k : Nat) (x : List Cl), L[k]? = some x → (allV (L.take (k + 1))).length = sumK L k + x.length
  | [], k, x, h => by simp at h
  | z :: l, 0, x, h => by
    simp only [List.getElem?_cons_zero, Option.some.injEq] at h
    subst h
    simp [allV, kept1, sumK]
  | [z], k + 1, x, h => by simp at h
  | z :: z2 :: l, k + 1, x, h => by
    rw [List.getElem?_cons_succ] at h
    have ih := all_take (z2 :: l) k x h
    simp only [List.take_succ_cons] at ih ⊢
    rw [allV, List.length_append, ih, sumK]
    show (keptV z z2).length + _ = (keptV z z2).length + _ + _
    omega
/-- a logical line that has a row -/
theorem find_ok {X : List Ln} : ∀ (G : List Lg) (n row : Nat), OkG X n G → n ≤ row → row < X.length →
    ∃ (i : Nat) (g : Lg) (f r : Nat), (∀ j, j < i → ∀ y, G[j]? = some y → hasR (row : Int) y = false) ∧ G[i]? = some g ∧ g.frm = (f : Int) ∧ g.rows = (r : Int) ∧ n ≤ f ∧ f ≤ row ∧ row < f + r ∧ f + r ≤ X.length
  | [], n, row, h, h1, h2 => by
    rw [OkG] at h
    omega
  | y :: t, n, row, h, h1, h2 => by
    obtain ⟨r, e1, e2, e3, e4, _, _, _, ht⟩ := h
    by_cases hr : row < n + r
    · exact ⟨0, y, n, r, fun j hj => absurd hj (Nat.not_lt_zero _), rfl, e2, e1, Nat.le_refl _, h1, hr, e4⟩
    · obtain ⟨i, g, f, r2, g1, g2, g3, g4, g5, g6⟩ := find_ok t (n + r) row ht (by omega) h2
      refine ⟨i + 1, g, f, r2, fun j hj z hz => ?_, by rw [List.getElem?_cons_succ]; exact g2, g3, g4, by omega, g6⟩
      cases j with
      | zero =>
        simp only [List.getElem?_cons_zero, Option.some.injEq] at hz
        subst hz
        exact hasR_not (by rw [e1, e2]; omega)
      | succ j =>
        rw [List.getElem?_cons_succ] at hz
        exact g1 j (by omega) z hz
def frmOf (G : List Lg) (i : Nat) : Nat := match G[i]? with
  | some g => g.frm.toNat
  | none => 0
/-- where a place is in its logical line -/
def toV (X : List Ln) (a : Int × Int) : Int × Int :=
  ((findV (lgG [] 0 X) a.1).1, a.2 + (sumK ((X.drop (frmOf (lgG [] 0 X) (findV (lgG [] 0 X) a.1).1.toNat)).map Ln.cells) (a.1.toNat - frmOf (lgG [] 0 X) (findV (lgG [] 0 X) a.1).1.toNat) : Int))
theorem to_find {X : List Ln} (hv : vLs X = true) {row : Nat} (h : row < X.length) : ∃ (i : Nat) (g : Lg) (f r : Nat), findV (lgG [] 0 X) (row : Int) = ((i : Int), 0) ∧ (lgG [] 0 X)[i]? = some g ∧ g.frm = (f : Int) ∧ g.rows = (r : Int) ∧ f ≤ row ∧ row < f + r ∧ f + r ≤ X.length ∧ frmOf (lgG [] 0 X) i = f := by
  obtain ⟨i, g, f, r, g1, g2, g3, g4, _, g6, g7, g8⟩ := find_ok (lgG [] 0 X) 0 row (ok_lines hv) (Nat.zero_le _) h
  exact ⟨i, g, f, r, find_some g1 g2 (hasR_yes (by rw [g3, g4]; omega)), g2, g3, g4, g6, g7, g8, by rw [frmOf, g2]; simp only; omega⟩
theorem to_eq {X : List Ln} {row i f : Nat} {c : Int} {e : Int} (hf : findV (lgG [] 0 X) (row : Int) = ((i : Int), e)) (hi : frmOf (lgG [] 0 X) i = f) : toV X ((row : Int), c) = ((i : Int), c + (sumK ((X.drop f).map Ln.cells) (row - f) : Int)) := by
  rw [toV]
  simp only [hf, Int.toNat_natCast, hi]
def plAV (X : List Ln) (a : Int × Int) : Int × Int := if hasP X a then toV X a else (0, 0)
def plAE (X : List Ln) (a : Int × Int) : Int := if hasP X a then 0 else 3
/-! ### Rows of logical lines -/
def fineB (G : List Lg) (cols : Int) : Bool := vW [] cols && G.all fun g => vW g.cells cols
def rwS (cols : Int) (G : List Lg) : Int := (G.map fun g => rowsV g.cells cols).sum
theorem rwS_snoc {cols : Int} {G : List Lg} {i : Nat} {g : Lg} (h : G[i]? = some g) : rwS cols (G.take (i + 1)) = rwS cols (G.take i) + rowsV g.cells cols := by
  rw [rwS, take_snoc h, List.map_append, List.sum_append]
  simp [rwS]
def stV (cols : Int) (G : List Lg) (k : Nat) : List Int := (List.range k).map fun i => rwS cols (G.take i)
theorem stV_succ (cols : Int) (G : List Lg) (k : Nat) : stV cols G (k + 1) = stV cols G k ++ [rwS cols (G.take k)] := by
  rw [stV, List.range_succ, List.map_append]
  rfl
theorem stV_len (cols : Int) (G : List Lg) (k : Nat) : (stV cols G k).length = k := by simp [stV]
theorem stV_get {cols : Int} {G : List Lg} {i k : Nat} (h : i < k) : (stV cols G k)[i]? = some (rwS cols (G.take i)) := by
  rw [stV, List.getElem?_map, List.getElem?_range h]
  rfl
def startsE (G : List Lg) (cols : Int) : Int := if fineB G cols then 0 else 2
def startsV (G : List Lg) (cols : Int) : List Int := if fineB G cols then stV cols G (G.length + 1) else []
/-- where so many cells of a logical line are -/
def fromV (xs : List Cl) (cols start cell : Int) : Int × Int :=
  (start + (plV xs cols (min cell.toNat xs.length)).1, (plV xs cols (min cell.toNat xs.length)).2 + min (cell - (min cell.toNat xs.length : Nat)) (cols - 1 - (plV xs cols (min cell.toNat xs.length)).2))
def frV (G : List Lg) (cols line cell : Int) : Int × Int := match G[line.toNat]? with
  | some g => fromV g.cells cols (rwS cols (G.take line.toNat)) cell
  | none => (0, 0)
/-- where a place is carried to -/
def car1 (X : List Ln) (cols : Int) (a : Int × Int) : Int × Int := frV (lgG [] 0 X) cols (toV X a).1 (toV X a).2
def carE (X : List Ln) (cols : Int) (l : List (Int × Int)) : Int := if vLs X then (if fineB (lgG [] 0 X) cols then (if l.all (hasP X) then 0 else 3) else 2) else 2
def carV (X : List Ln) (cols : Int) (l : List (Int × Int)) : List (Int × Int) := if carE X cols l = 0 then l.map (car1 X cols) else []
/-! ### The reference -/
theorem plV_in {xs : List Cl} {cols : Int} (h : vW xs cols = true) {q : Nat} (hq : q ≤ xs.length) : (0 ≤ (plV xs cols q).1 ∧ (plV xs cols q).1 < rowsV xs cols) ∧ 0 ≤ (plV xs cols q).2 ∧ (plV xs cols q).2 < cols := by
  obtain ⟨hc, hl30, hr⟩ := vW_parts h
  rw [plV_eq h hq]
  have hb := plR_bd cols xs
  have h1 := rows_eq h
  unfold rplV
  split
  · rename_i p hp
    have := plR_in h hp
    rw [rowsN] at this
    omega
  · simp only
    refine ⟨by omega, ?_⟩
    unfold fw
    split <;> omega
theorem vLs_row {X : List Ln} (h : vLs X = true) {x : Ln} (hx : x ∈ X) : x.cells.length ≤ 1000 := by
  rw [vLs, Bool.and_eq_true, List.all_eq_true] at h
  have h1 := h.2 x hx
  rw [vLine, Bool.and_eq_true] at h1
  have := of_decide_eq_true h1.1
  omega
theorem hasP_at {X : List Ln} {k : Nat} {x : Ln} {c : Int} (hx : X[k]? = some x) (h0 : 0 ≤ c) : hasP X ((k : Int), c) = decide (c < (x.cells.length : Int)) := by
  simp [hasP, hx, h0]
/-- where the reference says that a place is -/
theorem rfrom_in {xs : List Cl} {cols start cell : Int} (h : vW xs cols = true) (h0 : 0 ≤ cell) (hc : cell < (xs.length : Int)) : fromV xs cols start cell = (start + (rplV cols xs cell.toNat).1, (rplV cols xs cell.toNat).2) := by
  have e : min cell.toNat xs.length = cell.toNat := by omega
  have hp := plV_in h (q := cell.toNat) (by omega)
  rw [fromV, e, plV_eq h (by omega)] at *
  have h2 : cell - ((cell.toNat : Nat) : Int) = 0 := by omega
  rw [h2, Int.min_eq_left (by omega), Int.add_zero]
theorem rfrom_out {xs : List Cl} {cols start cell : Int} (h : vW xs cols = true) (hc : (xs.length : Int) ≤ cell) : fromV xs cols start cell = (start + (rplV cols xs xs.length).1, (rplV cols xs xs.length).2 + min (cell - (xs.length : Int)) (cols - 1 - (rplV cols xs xs.length).2)) := by
  have e : min cell.toNat xs.length = xs.length := by omega
  rw [fromV, e, plV_eq h (Nat.le_refl _)]
/-! ### What the laws ask -/
def few29V (X : List Ln) : Bool := ((X.take 13).all fun x => decide ((x.cells.length : Int) ≤ 16)) && decide ((X.length : Int) ≤ 12)
theorem few29_bd {X : List Ln} (h : few29V X = true) : X.length ≤ 12 ∧ ∀ x ∈ X, x.cells.length ≤ 16 := by
  rw [few29V, Bool.and_eq_true, List.all_eq_true] at h
  have h1 := of_decide_eq_true h.2
  refine ⟨by omega, fun x hx => ?_⟩
  rw [List.take_of_length_le (by omega)] at h
  have := of_decide_eq_true (h.1 x hx)
  omega
end Go.Proofs.YtdmpodpdpncobaaDoor
