/-
  Places in logical lines, as plain data. No condition.
-/
import Derived.Test.YtdmpodpdpncobaaDoorUnp
namespace Go.Proofs.YtdmpodpdpncobaaDoor
open Go.RowKit
set_option linter.unusedSimpArgs false
set_option linter.unusedVariables false
/-! ### Places in logical lines -/
def hasP (X : List Ln) (a : Int × Int) : Bool := decide (0 ≤ a.1) && (match X[a.1.toNat]? with
  | some x => decide (0 ≤ a.2) && decide (a.2 < (x.cells.length : Int))
  | none => false)
theorem hasP_parts {X : List Ln} {a : Int × Int} (h : hasP X a = true) : ∃ (k : Nat) (x : Ln), a.1 = (k : Int) ∧ X[k]? = some x ∧ k < X.length ∧ 0 ≤ a.2 ∧ a.2 < (x.cells.length : Int) := by
  unfold hasP at h
  rw [Bool.and_eq_true] at h
  have h0 := of_decide_eq_true h.1
  split at h
  · rename_i x hx
    rw [Bool.and_eq_true] at h
    exact ⟨a.1.toNat, x, by omega, hx, (List.getElem?_eq_some_iff.1 hx).1, of_decide_eq_true h.2.1, of_decide_eq_true h.2.2⟩
  · exact absurd h.2 (by decide)
theorem hasP_yes {X : List Ln} {k : Nat} {x : Ln} {c : Int} (hx : X[k]? = some x) (h0 : 0 ≤ c) (h1 : c < (x.cells.length : Int)) : hasP X ((k : Int), c) = true := by
  simp [hasP, hx, h0, h1]
theorem hasP_row {X : List Ln} {a : Int × Int} (h : a.1 < 0 ∨ (X.length : Int) ≤ a.1) : hasP X a = false := by
  cases hb : hasP X a with
  | false => rfl
  | true =>
    obtain ⟨k, x, h1, h2, h3, _⟩ := hasP_parts hb
    omega
theorem hasP_col {X : List Ln} {k : Nat} {x : Ln} {c : Int} (hx : X[k]? = some x) (h : c < 0 ∨ (x.cells.length : Int) ≤ c) : hasP X ((k : Int), c) = false := by
  cases hb : hasP X ((k : Int), c) with
  | false => rfl
  | true =>
    obtain ⟨k2, x2, h1, h2, h3, h4, h5⟩ := hasP_parts hb
    have e : k = k2 := by simp only at h1; omega
    subst e
    rw [hx] at h2
    cases h2
    simp only at h4 h5
    omega
theorem keptV_len (x y : List Cl) : (keptV x y).length = keptN x y := by rw [keptV, List.length_take, Nat.min_eq_left (keptN_le x y)]
/-- how many cells of the first rows count -/
def sumK : List (List Cl) → Nat → Nat
  | [], _ => 0
  | _ :: _, 0 => 0
  | x :: l, k + 1 => (kept1 x l).length + sumK l k
theorem sumK_zero (L : List (List Cl)) : sumK L 0 = 0 := by cases L <;> rfl
theorem sumK_snoc : ∀ (L : List (List Cl)) (k : Nat) (x y : List Cl), L[k]? = some x → L[k + 1]? = some y → sumK L (k + 1) = sumK L k + keptN x y
  | [], k, x, y, h, _ => by simp at h
  | [z], k, x, y, _, h => by simp at h
  | z :: z2 :: l, 0, x, y, h, h2 => by
    simp only [List.getElem?_cons_zero, Option.some.injEq, List.getElem?_cons_succ] at h h2
    subst h h2
    rw [sumK_zero]
    show (kept1 z (z2 :: l)).length + sumK (z2 :: l) 0 = _
    rw [sumK_zero, kept1, keptV_len]
    omega
  | z :: z2 :: l, k + 1, x, y, h, h2 => by
    rw [List.getElem?_cons_succ] at h h2
    rw [sumK, sumK_snoc (z2 :: l) k x y h h2, sumK]
    omega
theorem sumK_mono : ∀ (L : List (List Cl)) (j k : Nat), j ≤ k → sumK L j ≤ sumK L k
  | [], _, _, _ => Nat.le_refl _
  | _ :: _, 0, k, _ => by rw [sumK]; omega
  | x :: l, j + 1, 0, h => by omega
  | x :: l, j + 1, k + 1, h => by
    have := sumK_mono l j k (by omega)
    rw [sumK, sumK]
    omega
theorem sumK_le : ∀ (L : List (List Cl)) (k : Nat), sumK L k ≤ sumL L
  | [], _ => Nat.le_refl _
  | _ :: _, 0 => by rw [sumK]; omega
  | x :: l, k + 1 => by
    have := sumK_le l k
    have := kept1_len x l
    rw [sumK]
    simp only [sumL, List.map_cons, List.sum_cons] at *
    omega
theorem all_take : ∀ (L : List (List Cl)) (k : Nat) (x : List Cl), L[k]? = some x → (allV (L.take (k + 1))).length = sumK L k + x.length
  | [], k, x, h => by simp at h
  | z :: l, 0, x, h => by
    simp only [List.getElem?_cons_zero, Option.some.injEq] at h
    subst h
    simp [allV, kept1, sumK]
  | [z], k + 1, x, h => by simp at h
  | z :: z2 :: l, k + 1, x, h => by
    rw [List.getElem?_cons_succ] at h
    have ih := all_take (z2 :: l) k x h
    simp only [List.take_succ_cons] at ih ⊢
    rw [allV, List.length_append, ih, sumK]
    show (keptV z z2).length + _ = (keptV z z2).length + _ + _
    omega
/-- the cells of so many rows, as they are found in all cells -/
theorem all_get : ∀ (L : List (List Cl)) (k c : Nat) (x : List Cl) (v : Cl), L[k]? = some x → x[c]? = some v →
    (allV L)[sumK L k + c]? = some v ∨ (isB v = true ∧ ∃ v2, (allV L)[sumK L k + c]? = some v2 ∧ v2.w = 2)
  | [], k, c, x, v, h, _ => by simp at h
  | z :: l, 0, c, x, v, h, hc => by
    simp only [List.getElem?_cons_zero, Option.some.injEq] at h
    subst h
    rw [sumK, Nat.zero_add, allV]
    cases l with
    | nil => left; rw [kept1, List.getElem?_append_left (List.getElem?_eq_some_iff.1 hc).1]; exact hc
    | cons y l =>
      have hcl := (List.getElem?_eq_some_iff.1 hc).1
      rw [kept1]
      by_cases hk : c < keptN z y
      · left
        rw [List.getElem?_append_left (by rw [keptV_len]; exact hk), keptV, List.getElem?_take, if_pos hk]
        exact hc
      · right
        have hkn : keptN z y = z.length - 1 ∧ ∃ q, z[z.length - 1]? = some q ∧ isB q = true ∧ wideH y = true := by
          unfold keptN at hk ⊢
          split at hk
          · rename_i q hq
            split at hk
            · rename_i hb
              rw [Bool.and_eq_true] at hb
              simp only [hq]
              rw [if_pos (by rw [Bool.and_eq_true]; exact hb)]
              exact ⟨rfl, q, rfl, hb⟩
            · omega
          · omega
        obtain ⟨h1, q, hq, hqb, hw⟩ := hkn
        have ec : c = z.length - 1 := by omega
        rw [← ec, hc] at hq
        cases hq
        refine ⟨hqb, ?_⟩
        rw [List.getElem?_append_right (by rw [keptV_len]; omega), keptV_len, h1, ec, Nat.sub_self]
        cases y with
        | nil => cases hw
        | cons y0 y1 =>
          rw [allV]
          have hy : y0.w = 2 := by simpa [wideH] using hw
          refine ⟨y0, ?_, hy⟩
          have h0 : 0 < (kept1 (y0 :: y1) l).length := by
            cases l with
            | nil => simp [kept1]
            | cons y2 l =>
              rw [kept1, keptV_len]
              unfold keptN
              split
              · rename_i q2 hq2
                split
                · rename_i hb2
                  rw [Bool.and_eq_true] at hb2
                  have := isB_w hb2.1
                  by_cases hl : y1 = []
                  · subst hl
                    simp at hq2
                    rw [hq2] at hy
                    omega
                  · have := List.length_pos_iff.2 hl
                    simp only [List.length_cons]
                    omega
                · simp
              · simp
          rw [List.getElem?_append_left h0]
          cases l with
          | nil => rfl
          | cons y2 l =>
            rw [kept1, keptV, List.getElem?_take, if_pos (by rw [kept1, keptV_len] at h0; exact h0)]
            rfl
  | z :: l, k + 1, c, x, v, h, hc => by
    rw [List.getElem?_cons_succ] at h
    have ih := all_get l k c x v h hc
    rw [sumK, allV]
    have e : ∀ m, (kept1 z l ++ allV l)[(kept1 z l).length + m]? = (allV l)[m]? := fun m => by
      rw [List.getElem?_append_right (by omega), Nat.add_sub_cancel_left]
    rw [Nat.add_assoc, e]
    exact ih
/-- a logical line that has a row -/
theorem find_ok {X : List Ln} : ∀ (G : List Lg) (n row : Nat), OkG X n G → n ≤ row → row < X.length →
    ∃ (i : Nat) (g : Lg) (f r : Nat), (∀ j, j < i → ∀ y, G[j]? = some y → hasR (row : Int) y = false) ∧ G[i]? = some g ∧ g.frm = (f : Int) ∧ g.rows = (r : Int) ∧ n ≤ f ∧ f ≤ row ∧ row < f + r ∧ f + r ≤ X.length
  | [], n, row, h, h1, h2 => by
    rw [OkG] at h
    omega
  | y :: t, n, row, h, h1, h2 => by
    obtain ⟨r, e1, e2, e3, e4, _, _, _, ht⟩ := h
    by_cases hr : row < n + r
    · exact ⟨0, y, n, r, fun j hj => absurd hj (Nat.not_lt_zero _), rfl, e2, e1, Nat.le_refl _, h1, hr, e4⟩
    · obtain ⟨i, g, f, r2, g1, g2, g3, g4, g5, g6⟩ := find_ok t (n + r) row ht (by omega) h2
      refine ⟨i + 1, g, f, r2, fun j hj z hz => ?_, by rw [List.getElem?_cons_succ]; exact g2, g3, g4, by omega, g6⟩
      cases j with
      | zero =>
        simp only [List.getElem?_cons_zero, Option.some.injEq] at hz
        subst hz
        exact hasR_not (by rw [e1, e2]; omega)
      | succ j =>
        rw [List.getElem?_cons_succ] at hz
        exact g1 j (by omega) z hz
def frmOf (G : List Lg) (i : Nat) : Nat := match G[i]? with
  | some g => g.frm.toNat
  | none => 0
/-- where a place is in its logical line -/
def toV (X : List Ln) (a : Int × Int) : Int × Int :=
  ((findV (lgG [] 0 X) a.1).1, a.2 + (sumK ((X.drop (frmOf (lgG [] 0 X) (findV (lgG [] 0 X) a.1).1.toNat)).map Ln.cells) (a.1.toNat - frmOf (lgG [] 0 X) (findV (lgG [] 0 X) a.1).1.toNat) : Int))
theorem to_find {X : List Ln} (hv : vLs X = true) {row : Nat} (h : row < X.length) : ∃ (i : Nat) (g : Lg) (f r : Nat), findV (lgG [] 0 X) (row : Int) = ((i : Int), 0) ∧ (lgG [] 0 X)[i]? = some g ∧ g.frm = (f : Int) ∧ g.rows = (r : Int) ∧ f ≤ row ∧ row < f + r ∧ f + r ≤ X.length ∧ frmOf (lgG [] 0 X) i = f := by
  obtain ⟨i, g, f, r, g1, g2, g3, g4, _, g6, g7, g8⟩ := find_ok (lgG [] 0 X) 0 row (ok_lines hv) (Nat.zero_le _) h
  exact ⟨i, g, f, r, find_some g1 g2 (hasR_yes (by rw [g3, g4]; omega)), g2, g3, g4, g6, g7, g8, by rw [frmOf, g2]; simp only; omega⟩
theorem to_eq {X : List Ln} {row i f : Nat} {c : Int} {e : Int} (hf : findV (lgG [] 0 X) (row : Int) = ((i : Int), e)) (hi : frmOf (lgG [] 0 X) i = f) : toV X ((row : Int), c) = ((i : Int), c + (sumK ((X.drop f).map Ln.cells) (row - f) : Int)) := by
  rw [toV]
  simp only [hf, Int.toNat_natCast, hi]
def plAV (X : List Ln) (a : Int × Int) : Int × Int := if hasP X a then toV X a else (0, 0)
def plAE (X : List Ln) (a : Int × Int) : Int := if hasP X a then 0 else 3
/-! ### Rows of logical lines -/
def fineB (G : List Lg) (cols : Int) : Bool := vW [] cols && G.all fun g => vW g.cells cols
def rwS (cols : Int) (G : List Lg) : Int := (G.map fun g => rowsV g.cells cols).sum
theorem rwS_snoc {cols : Int} {G : List Lg} {i : Nat} {g : Lg} (h : G[i]? = some g) : rwS cols (G.take (i + 1)) = rwS cols (G.take i) + rowsV g.cells cols := by
  rw [rwS, take_snoc h, List.map_append, List.sum_append]
  simp [rwS]
def stV (cols : Int) (G : List Lg) (k : Nat) : List Int := (List.range k).map fun i => rwS cols (G.take i)
theorem stV_succ (cols : Int) (G : List Lg) (k : Nat) : stV cols G (k + 1) = stV cols G k ++ [rwS cols (G.take k)] := by
  rw [stV, List.range_succ, List.map_append]
  rfl
theorem stV_len (cols : Int) (G : List Lg) (k : Nat) : (stV cols G k).length = k := by simp [stV]
theorem stV_get {cols : Int} {G : List Lg} {i k : Nat} (h : i < k) : (stV cols G k)[i]? = some (rwS cols (G.take i)) := by
  rw [stV, List.getElem?_map, List.getElem?_range h]
  rfl
def startsE (G : List Lg) (cols : Int) : Int := if fineB G cols then 0 else 2
def startsV (G : List Lg) (cols : Int) : List Int := if fineB G cols then stV cols G (G.length + 1) else []
/-- where so many cells of a logical line are -/
def fromV (xs : List Cl) (cols start cell : Int) : Int × Int :=
  (start + (plV xs cols (min cell.toNat xs.length)).1, (plV xs cols (min cell.toNat xs.length)).2 + min (cell - (min cell.toNat xs.length : Nat)) (cols - 1 - (plV xs cols (min cell.toNat xs.length)).2))
def frV (G : List Lg) (cols line cell : Int) : Int × Int := match G[line.toNat]? with
  | some g => fromV g.cells cols (rwS cols (G.take line.toNat)) cell
  | none => (0, 0)
def inG (G : List Lg) (line cell : Int) : Bool := decide (0 ≤ line) && (decide (line < (G.length : Int)) && decide (0 ≤ cell))
def fromE (G : List Lg) (cols line cell : Int) : Int := if fineB G cols then (if inG G line cell then 0 else 3) else 2
def fromAV (G : List Lg) (cols line cell : Int) : Int × Int := if fromE G cols line cell = 0 then frV G cols line cell else (0, 0)
/-- where a place is carried to -/
def car1 (X : List Ln) (cols : Int) (a : Int × Int) : Int × Int := frV (lgG [] 0 X) cols (toV X a).1 (toV X a).2
def carE (X : List Ln) (cols : Int) (l : List (Int × Int)) : Int := if vLs X then (if fineB (lgG [] 0 X) cols then (if l.all (hasP X) then 0 else 3) else 2) else 2
def carV (X : List Ln) (cols : Int) (l : List (Int × Int)) : List (Int × Int) := if carE X cols l = 0 then l.map (car1 X cols) else []
def toE (X : List Ln) (a : Int × Int) : Int := if vLs X then plAE X a else 2
def toAV (X : List Ln) (a : Int × Int) : Int × Int := if vLs X then plAV X a else (0, 0)
/-! ### The reference -/
def rTo (X : List Ln) (a : Int × Int) : Int × Int := toV X a
theorem plV_in {xs : List Cl} {cols : Int} (h : vW xs cols = true) {q : Nat} (hq : q ≤ xs.length) : (0 ≤ (plV xs cols q).1 ∧ (plV xs cols q).1 < rowsV xs cols) ∧ 0 ≤ (plV xs cols q).2 ∧ (plV xs cols q).2 < cols := by
  obtain ⟨hc, hl30, hr⟩ := vW_parts h
  rw [plV_eq h hq]
  have hb := plR_bd cols xs
  have h1 := rows_eq h
  unfold rplV
  split
  · rename_i p hp
    have := plR_in h hp
    rw [rowsN] at this
    omega
  · simp only
    refine ⟨by omega, ?_⟩
    unfold fw
    split <;> omega
theorem vLs_row {X : List Ln} (h : vLs X = true) {x : Ln} (hx : x ∈ X) : x.cells.length ≤ 1000 := by
  rw [vLs, Bool.and_eq_true, List.all_eq_true] at h
  have h1 := h.2 x hx
  rw [vLine, Bool.and_eq_true] at h1
  have := of_decide_eq_true h1.1
  omega
theorem hasP_at {X : List Ln} {k : Nat} {x : Ln} {c : Int} (hx : X[k]? = some x) (h0 : 0 ≤ c) : hasP X ((k : Int), c) = decide (c < (x.cells.length : Int)) := by
  simp [hasP, hx, h0]
/-- where the reference says that a place is -/
theorem rfrom_in {xs : List Cl} {cols start cell : Int} (h : vW xs cols = true) (h0 : 0 ≤ cell) (hc : cell < (xs.length : Int)) : fromV xs cols start cell = (start + (rplV cols xs cell.toNat).1, (rplV cols xs cell.toNat).2) := by
  have e : min cell.toNat xs.length = cell.toNat := by omega
  have hp := plV_in h (q := cell.toNat) (by omega)
  rw [fromV, e, plV_eq h (by omega)] at *
  have h2 : cell - ((cell.toNat : Nat) : Int) = 0 := by omega
  rw [h2, Int.min_eq_left (by omega), Int.add_zero]
theorem rfrom_out {xs : List Cl} {cols start cell : Int} (h : vW xs cols = true) (hc : (xs.length : Int) ≤ cell) : fromV xs cols start cell = (start + (rplV cols xs xs.length).1, (rplV cols xs xs.length).2 + min (cell - (xs.length : Int)) (cols - 1 - (rplV cols xs xs.length).2)) := by
  have e : min cell.toNat xs.length = xs.length := by omega
  rw [fromV, e, plV_eq h (Nat.le_refl _)]
/-! ### What the laws ask -/
def toLawV (X : List Ln) (a : Int × Int) (l c no : Int) : Bool := (toAV X a).1 == l && ((toAV X a).2 == c && toE X a == no)
def fromLawV (G : List Lg) (cols line cell : Int) (want : Int × Int) (no : Int) : Bool := decide (fromAV G cols line cell = want) && fromE G cols line cell == no
def carLawV (X : List Ln) (cols : Int) (l : List (Int × Int)) (no : Int) (want : List (Int × Int)) : Bool := decide (carV X cols l = want) && carE X cols l == no
def few29V (X : List Ln) : Bool := ((X.take 13).all fun x => decide ((x.cells.length : Int) ≤ 16)) && decide ((X.length : Int) ≤ 12)
theorem few29_bd {X : List Ln} (h : few29V X = true) : X.length ≤ 12 ∧ ∀ x ∈ X, x.cells.length ≤ 16 := by
  rw [few29V, Bool.and_eq_true, List.all_eq_true] at h
  have h1 := of_decide_eq_true h.2
  refine ⟨by omega, fun x hx => ?_⟩
  rw [List.take_of_length_le (by omega)] at h
  have := of_decide_eq_true (h.1 x hx)
  omega
theorem to_bad {X : List Ln} {a : Int × Int} (h : vLs X = false) : toLawV X a 0 0 2 = true := by simp [toLawV, toAV, toE, h]
theorem to_out {X : List Ln} {a : Int × Int} (h : vLs X = true) (hp : hasP X a = false) : toLawV X a 0 0 3 = true := by simp [toLawV, toAV, toE, h, plAV, plAE, hp]
theorem to_ok {X : List Ln} {a : Int × Int} (h : vLs X = true) (hp : hasP X a = true) : toLawV X a (toV X a).1 (toV X a).2 0 = true := by simp [toLawV, toAV, toE, h, plAV, plAE, hp]
theorem from_bad {G : List Lg} {cols line cell : Int} (h : fineB G cols = false) : fromLawV G cols line cell (0, 0) 2 = true := by simp [fromLawV, fromAV, fromE, h]
theorem from_out {G : List Lg} {cols line cell : Int} (h : fineB G cols = true) (hi : inG G line cell = false) : fromLawV G cols line cell (0, 0) 3 = true := by simp [fromLawV, fromAV, fromE, h, hi]
theorem from_ok {G : List Lg} {cols line cell : Int} (h : fineB G cols = true) (hi : inG G line cell = true) : fromLawV G cols line cell (frV G cols line cell) 0 = true := by simp [fromLawV, fromAV, fromE, h, hi]
theorem car_bad {X : List Ln} {cols : Int} {l : List (Int × Int)} (h : vLs X = false ∨ fineB (lgG [] 0 X) cols = false) : carLawV X cols l 2 [] = true := by
  have he : carE X cols l = 2 := by
    unfold carE
    rcases h with h | h
    · rw [h]; rfl
    · rw [h]; split <;> rfl
  simp [carLawV, carV, he]
theorem car_out {X : List Ln} {cols : Int} {l : List (Int × Int)} (hv : vLs X = true) (hf : fineB (lgG [] 0 X) cols = true) {a : Int × Int} (ha : a ∈ l) (hp : hasP X a = false) : carLawV X cols l 3 [] = true := by
  have he : carE X cols l = 3 := by
    rw [carE, hv, hf, show l.all (hasP X) = false by rw [List.all_eq_false]; exact ⟨a, ha, by rw [hp]; decide⟩]
    rfl
  simp [carLawV, carV, he]
theorem car_ok {X : List Ln} {cols : Int} {l : List (Int × Int)} (hv : vLs X = true) (hf : fineB (lgG [] 0 X) cols = true) (hp : l.all (hasP X) = true) : carLawV X cols l 0 (l.map (car1 X cols)) = true := by
  have he : carE X cols l = 0 := by
    rw [carE, hv, hf, hp]
    rfl
  simp [carLawV, carV, he]
end Go.Proofs.YtdmpodpdpncobaaDoor
