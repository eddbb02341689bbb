/-
  Logical lines, as plain data. No condition.
-/
import Derived.Test.YtdmpodpdpncobaaDoorWrp
import Derived.Laws.Cover4
namespace Go.Proofs.YtdmpodpdpncobaaDoor
open Go.RowKit
set_option linter.unusedSimpArgs false
set_option linter.unusedVariables false
/-! ### Logical lines -/
/-- a logical line -/
structure Lg where
  cells : List Cl
  frm : Int
  rows : Int
  deriving DecidableEq
/-- are lines rows? -/
def vLs (l : List Ln) : Bool := decide ((l.length : Int) ≤ 1073741824) && l.all fun x => vLine x.cells
def isB (c : Cl) : Bool := decide (c = blank Pen.zero)
def wideH : List Cl → Bool
  | [] => false
  | c :: _ => c.w == 2
/-- how many cells of a row count, if another one follows it -/
def keptN (x y : List Cl) : Nat := match x[x.length - 1]? with
  | some c => if isB c && wideH y then x.length - 1 else x.length
  | none => x.length
def keptV (x y : List Cl) : List Cl := x.take (keptN x y)
theorem keptN_le (x y : List Cl) : keptN x y ≤ x.length := by
  unfold keptN
  split
  · split <;> omega
  · omega
def kept1 (x : List Cl) : List (List Cl) → List Cl
  | [] => x
  | y :: _ => keptV x y
/-- all cells of rows that are one logical line -/
def allV : List (List Cl) → List Cl
  | [] => []
  | x :: l => kept1 x l ++ allV l
theorem kept1_len (x : List Cl) (l : List (List Cl)) : (kept1 x l).length ≤ x.length := by
  cases l with
  | nil => exact Nat.le_refl _
  | cons y l => rw [kept1, keptV, List.length_take]; exact Nat.min_le_right _ _
def sumL (l : List (List Cl)) : Nat := (l.map List.length).sum
theorem allV_len : ∀ l, (allV l).length ≤ sumL l
  | [] => Nat.le_refl _
  | x :: l => by
    have h1 := allV_len l
    have h2 := kept1_len x l
    simp only [allV, List.length_append, sumL, List.map_cons, List.sum_cons] at h1 ⊢
    omega
theorem sumL_take {l : List (List Cl)} {i : Nat} {x : List Cl} (h : l[i]? = some x) : sumL (l.take (i + 1)) = sumL (l.take i) + x.length := by
  rw [sumL, List.take_add_one, h, Option.toList_some, List.map_append, List.sum_append]
  simp [sumL]
theorem sumL_le {l : List (List Cl)} (h : ∀ x ∈ l, x.length ≤ 1000) : sumL l ≤ l.length * 1000 := by
  induction l with
  | nil => exact Nat.le_refl _
  | cons x l ih =>
    have h1 := ih fun y hy => h y (List.mem_cons_of_mem _ hy)
    have h2 := h x (List.mem_cons_self ..)
    simp only [sumL, List.map_cons, List.sum_cons, List.length_cons] at h1 ⊢
    omega
/-- without the empty cells at the end -/
def trimV (l : List Cl) : List Cl := (l.reverse.dropWhile isB).reverse
theorem trimV_nil : trimV [] = [] := rfl
theorem trimV_snoc (a : List Cl) (c : Cl) : trimV (a ++ [c]) = if isB c then trimV a else a ++ [c] := by
  unfold trimV
  rw [List.reverse_append, List.reverse_singleton, List.singleton_append, List.dropWhile_cons]
  split <;> simp
theorem take_snoc {α : Type} {l : List α} {i : Nat} {x : α} (h : l[i]? = some x) : l.take (i + 1) = l.take i ++ [x] := by
  rw [List.take_add_one, h]; rfl
theorem trimV_pre : ∀ (n : Nat) (l : List Cl), l.length = n → ∃ k, k ≤ l.length ∧ trimV l = l.take k := by
  intro n
  induction n with
  | zero => intro l h; obtain rfl := List.length_eq_zero_iff.1 h; exact ⟨0, Nat.le_refl _, rfl⟩
  | succ n ih =>
    intro l h
    obtain ⟨x, hx⟩ : ∃ x, l[n]? = some x := ⟨l[n], List.getElem?_eq_getElem (by omega)⟩
    have e : l = l.take n ++ [x] := by
      have := take_snoc hx
      rwa [List.take_of_length_le (by omega)] at this
    have ht := trimV_snoc (l.take n) x
    rw [← e] at ht
    rw [ht]
    split
    · obtain ⟨k, h1, h2⟩ := ih (l.take n) (by simp; omega)
      simp only [List.length_take] at h1
      exact ⟨k, by omega, by rw [h2, List.take_take, Nat.min_eq_left (by omega)]⟩
    · exact ⟨n + 1, by omega, by rw [List.take_of_length_le (by omega)]⟩
/-- the logical lines of rows: of these, cur stand already in the next one -/
def lgG : List Ln → Nat → List Ln → List Lg
  | _, _, [] => []
  | cur, f, x :: l => if x.soft && !l.isEmpty then lgG (cur ++ [x]) f l
    else ⟨trimV (allV ((cur ++ [x]).map Ln.cells)), (f : Int), ((cur.length + 1 : Nat) : Int)⟩ :: lgG [] (f + cur.length + 1) l
def linesV (X : List Ln) : List Lg := if vLs X then lgG [] 0 X else []
def linesE (X : List Ln) : Int := if vLs X then 0 else 2
theorem lgG_soft {X : List Ln} {cur : List Ln} {f i : Nat} {x : Ln} (hx : X[i]? = some x) (hs : x.soft = true) (hi : i + 1 < X.length) : lgG cur f (X.drop i) = lgG (cur ++ [x]) f (X.drop (i + 1)) := by
  obtain ⟨h1, e⟩ := List.getElem?_eq_some_iff.1 hx
  rw [List.drop_eq_getElem_cons h1, e, lgG, hs]
  have : (X.drop (i + 1)).isEmpty = false := by
    cases h : X.drop (i + 1) with
    | nil => rw [List.drop_eq_nil_iff] at h; omega
    | cons => rfl
  rw [this]
  rfl
theorem lgG_end {X : List Ln} {cur : List Ln} {f i : Nat} {x : Ln} (hx : X[i]? = some x) (hs : x.soft = false ∨ i + 1 = X.length) : lgG cur f (X.drop i) = ⟨trimV (allV ((cur ++ [x]).map Ln.cells)), (f : Int), ((cur.length + 1 : Nat) : Int)⟩ :: lgG [] (f + cur.length + 1) (X.drop (i + 1)) := by
  obtain ⟨h1, e⟩ := List.getElem?_eq_some_iff.1 hx
  rw [List.drop_eq_getElem_cons h1, e, lgG]
  have : (x.soft && !(X.drop (i + 1)).isEmpty) = false := by
    rcases hs with hs | hs
    · rw [hs]; rfl
    · have : X.drop (i + 1) = [] := by rw [List.drop_eq_nil_iff]; omega
      rw [this]; simp
  rw [this]
  rfl
/-- the index of the first logical line that has a row -/
def hasR (row : Int) (x : Lg) : Bool := decide (x.frm ≤ row) && (decide (0 < x.rows) && decide (row - x.frm < x.rows))
def findV (l : List Lg) (row : Int) : Int × Int := match l.findIdx? (hasR row) with
  | some i => ((i : Int), 0)
  | none => (0, 3)
theorem find_none {l : List Lg} {row : Int} (h : ∀ i, i < l.length → ∀ x, l[i]? = some x → hasR row x = false) : findV l row = (0, 3) := by
  have : l.findIdx? (hasR row) = none := by
    rw [List.findIdx?_eq_none_iff]
    intro x hx
    obtain ⟨i, hi, e⟩ := List.getElem_of_mem hx
    exact h i hi x (by rw [List.getElem?_eq_getElem hi, e])
  rw [findV, this]
theorem find_some {l : List Lg} {row : Int} {i : Nat} {x : Lg} (h : ∀ j, j < i → ∀ y, l[j]? = some y → hasR row y = false) (hx : l[i]? = some x) (hr : hasR row x = true) : findV l row = ((i : Int), 0) := by
  have : l.findIdx? (hasR row) = some i := by
    obtain ⟨hi, e⟩ := List.getElem?_eq_some_iff.1 hx
    rw [List.findIdx?_eq_some_iff_getElem]
    refine ⟨hi, by rw [e]; exact hr, fun j hj => ?_⟩
    have := h j hj l[j] (List.getElem?_eq_getElem (by omega))
    rw [this]; decide
  rw [findV, this]
/-! ### Texts -/
/-- a row that a string tells, with a hyphen behind it if it is soft -/
def softS (s : List UInt8) : Bool := match s[s.length - 1]? with
  | some u => u == 45
  | none => false
def rowS (s : List UInt8) : Ln := if softS s then ⟨ofL (s.take (s.length - 1)), true⟩ else ⟨ofL s, false⟩
theorem hasR_yes {row : Int} {x : Lg} (h : x.frm ≤ row ∧ 0 < x.rows ∧ row - x.frm < x.rows) : hasR row x = true := by
  rw [hasR, decide_eq_true h.1, decide_eq_true h.2.1, decide_eq_true h.2.2]; rfl
theorem hasR_not {row : Int} {x : Lg} (h : ¬ (x.frm ≤ row ∧ 0 < x.rows ∧ row - x.frm < x.rows)) : hasR row x = false := by
  cases hb : hasR row x with
  | false => rfl
  | true =>
    simp only [hasR, Bool.and_eq_true] at hb
    exact absurd ⟨of_decide_eq_true hb.1, of_decide_eq_true hb.2.1, of_decide_eq_true hb.2.2⟩ h
def rowB (s : ByteArray) : Ln := rowS s.data.toList
theorem rowB_no {s : ByteArray} (h : ∀ u, s[s.size - 1]? = some u → u ≠ 45) : rowB s = ⟨ofL s.data.toList, false⟩ := by
  have hs : softS s.data.toList = false := by
    unfold softS
    split
    · rename_i u hu
      have : s[s.size - 1]? = some u := by
        rw [Array.length_toList, Array.getElem?_toList] at hu
        exact hu
      simpa using h u this
    · rfl
  rw [rowB, rowS, hs]; rfl
theorem rowB_yes {s : ByteArray} (h : s[s.size - 1]? = some 45) : rowB s = ⟨ofL (s.extract 0 (s.size - 1)).data.toList, true⟩ := by
  have hs : softS s.data.toList = true := by
    unfold softS
    have : s.data.toList[s.data.toList.length - 1]? = some 45 := by
      rw [Array.length_toList, Array.getElem?_toList]
      exact h
    rw [this]; rfl
  have e : (s.extract 0 (s.size - 1)).data.toList = s.data.toList.take (s.data.toList.length - 1) := by
    rw [ByteArray.data_extract, Array.toList_extract]
    simp
  rw [rowB, rowS, hs, if_pos rfl, e]
end Go.Proofs.YtdmpodpdpncobaaDoor
