/-
  Wrapping, as plain data. No condition.
-/
import Derived.Test.YtdmpodpdpncobaaDoorRow
namespace Go.Proofs.YtdmpodpdpncobaaDoor
open Go.RowKit
set_option linter.unusedSimpArgs false
set_option linter.unusedVariables false

/-- is a logical line with so many columns one that may be wrapped? -/
def vW (xs : List Cl) (cols : Int) : Bool := decide ((xs.length : Int) ≤ 1073741824) && (decide (1 ≤ cols) && (decide (cols ≤ 1000) && rowR xs))
def vLine (xs : List Cl) : Bool := decide ((xs.length : Int) ≤ 1000) && rowR xs
/-- how many columns a cell needs -/
def need (cols w : Int) : Int := if cols < (if w < 1 then 1 else w) then cols else (if w < 1 then 1 else w)
/-- to the place of a cell of a width -/
def nx (cols : Int) (s : Int × Int) (w : Int) : Int × Int := if cols < s.2 + need cols w then (s.1 + 1, 0) else s
def fw (cols w : Int) : Int := if cols < w then cols else w
def stp (cols : Int) (s : Int × Int) (c : Cl) : Int × Int := if 0 < c.w then ((nx cols s c.w).1, (nx cols s c.w).2 + fw cols c.w) else s
def goW (cols : Int) (xs : List Cl) : Int × Int := xs.foldl (stp cols) (0, 0)
theorem goW_take {cols : Int} {xs : List Cl} {i : Nat} {x : Cl} (h : xs[i]? = some x) : goW cols (xs.take (i + 1)) = stp cols (goW cols (xs.take i)) x := by
  obtain ⟨hi, e⟩ := List.getElem?_eq_some_iff.1 h
  rw [List.take_add_one, h, goW, Option.toList_some, List.foldl_append]
  rfl
theorem need_bd {cols : Int} (h : 1 ≤ cols) (w : Int) : 1 ≤ need cols w ∧ need cols w ≤ cols := by
  unfold need
  by_cases h1 : w < 1
  · rw [if_pos h1]; split <;> omega
  · rw [if_neg h1]; split <;> omega
theorem nx_bd {cols : Int} (h : 1 ≤ cols) {s : Int × Int} {m : Int} (w : Int) (h1 : 0 ≤ s.1 ∧ s.1 ≤ m) (h2 : 0 ≤ s.2 ∧ s.2 ≤ cols) : (0 ≤ (nx cols s w).1 ∧ (nx cols s w).1 ≤ m + 1) ∧ (0 ≤ (nx cols s w).2 ∧ (nx cols s w).2 + need cols w ≤ cols) := by
  have := need_bd h w
  unfold nx
  split
  · refine ⟨⟨?_, ?_⟩, ?_, ?_⟩ <;> simp only <;> omega
  · omega
theorem fw_bd {cols w : Int} (h : 0 < w) (hc : 1 ≤ cols) : 1 ≤ fw cols w ∧ fw cols w = need cols w := by
  unfold fw need
  have : ¬ w < 1 := by omega
  rw [if_neg this]
  split <;> omega
theorem stp_bd {cols : Int} (h : 1 ≤ cols) {s : Int × Int} {m : Int} (c : Cl) (h1 : 0 ≤ s.1 ∧ s.1 ≤ m) (h2 : 0 ≤ s.2 ∧ s.2 ≤ cols) : (0 ≤ (stp cols s c).1 ∧ (stp cols s c).1 ≤ m + 1) ∧ (0 ≤ (stp cols s c).2 ∧ (stp cols s c).2 ≤ cols) := by
  unfold stp
  split
  · rename_i hw
    have h3 := nx_bd h c.w h1 h2
    have h4 := fw_bd hw h
    simp only
    omega
  · omega
theorem goW_bd {cols : Int} (h : 1 ≤ cols) : ∀ (xs : List Cl), (0 ≤ (goW cols xs).1 ∧ (goW cols xs).1 ≤ xs.length) ∧ (0 ≤ (goW cols xs).2 ∧ (goW cols xs).2 ≤ cols) := by
  intro xs
  have : ∀ (xs : List Cl) (s : Int × Int) (m : Int), (0 ≤ s.1 ∧ s.1 ≤ m) → (0 ≤ s.2 ∧ s.2 ≤ cols) → (0 ≤ (xs.foldl (stp cols) s).1 ∧ (xs.foldl (stp cols) s).1 ≤ m + xs.length) ∧ (0 ≤ (xs.foldl (stp cols) s).2 ∧ (xs.foldl (stp cols) s).2 ≤ cols) := by
    intro xs
    induction xs with
    | nil => intro s m h1 h2; simp only [List.foldl_nil, List.length_nil]; omega
    | cons c t ih =>
      intro s m h1 h2
      have h3 := stp_bd h c h1 h2
      have h4 := ih _ (m + 1) h3.1 h3.2
      simp only [List.foldl_cons, List.length_cons]
      omega
  have h1 := this xs (0, 0) 0 (by simp) (by simp; omega)
  unfold goW
  omega
theorem vW_parts {xs : List Cl} {cols : Int} (h : vW xs cols = true) : (1 ≤ cols ∧ cols ≤ 1000) ∧ (xs.length : Int) ≤ 1073741824 ∧ rowR xs = true := by
  unfold vW at h
  simp only [Bool.and_eq_true, decide_eq_true_eq] at h
  exact ⟨⟨h.2.1, h.2.2.1⟩, h.1, h.2.2.2⟩
theorem rowFrom_v : ∀ (l : List Cl) (pv : Option Cl), rowFrom pv l = true → ∀ c ∈ l, vCl c = true := by
  intro l
  induction l with
  | nil => intro pv _ c hc; cases hc
  | cons a t ih =>
    intro pv h c hc
    rw [rowFrom, Bool.and_eq_true] at h
    rcases List.mem_cons.1 hc with rfl | hc
    · have h1 := h.1
      unfold okC at h1
      split at h1 <;> (rw [Bool.and_eq_true] at h1; exact h1.1)
    · exact ih _ h.2 c hc
theorem rowR_w {xs : List Cl} (h : rowR xs = true) {i : Nat} {x : Cl} (hx : xs[i]? = some x) : 0 ≤ x.w ∧ x.w ≤ 2 := by
  have := vCl_w x (rowFrom_v xs none h x (List.mem_of_getElem? hx))
  omega
/-- Rows, Place, Index -/
def rowsV (xs : List Cl) (cols : Int) : Int := if vW xs cols then (goW cols xs).1 + 1 else 0
def rowsE (xs : List Cl) (cols : Int) : Int := if vW xs cols then 0 else 2
/-- the place of the cell q -/
def plV (xs : List Cl) (cols : Int) (q : Nat) : Int × Int :=
  if bh xs q then ((goW cols (xs.take q)).1, (goW cols (xs.take q)).2 - 1)
  else match xs[q]? with
    | some y => ((nx cols (goW cols (xs.take q)) y.w).1, fw (cols - 1) (nx cols (goW cols (xs.take q)) y.w).2)
    | none => ((goW cols (xs.take q)).1, fw (cols - 1) (goW cols (xs.take q)).2)
def inI (xs : List Cl) (i : Int) : Bool := decide (0 ≤ i) && decide (i ≤ (xs.length : Int))
def placeV (xs : List Cl) (cols i : Int) : Int × Int := if vW xs cols && inI xs i then plV xs cols i.toNat else (0, 0)
def placeE (xs : List Cl) (cols i : Int) : Int := if vW xs cols then (if inI xs i then 0 else 3) else 2
/-! ### Wrapping -/
def endV (cols : Int) (soft : Bool) (st : List Ln × List Cl) : List Ln × List Cl := (st.1 ++ [⟨st.2 ++ List.replicate (cols.toNat - st.2.length) (blank Pen.zero), soft⟩], [])
/-- is there no place left for so many cells? -/
def full (cols : Int) (k : Nat) (st : List Ln × List Cl) : Bool := decide (cols < (st.2.length : Int) + fw cols k)
def addV (cols : Int) (cs : List Cl) (p : Pen) (st : List Ln × List Cl) : List Ln × List Cl := (st.1, st.2 ++ (if cols < (cs.length : Int) then [blank p] else cs))
def putV (cols : Int) (cs : List Cl) (p : Pen) (st : List Ln × List Cl) : List Ln × List Cl := addV cols cs p (if full cols cs.length st then endV cols true st else st)
def wrapG (cols : Int) : List Ln × List Cl → List Cl → List Ln × List Cl
  | st, [] => st
  | st, [c] => putV cols [c] c.pen st
  | st, c :: d :: l => if c.w = 2 then wrapG cols (putV cols [c, d] c.pen st) l else wrapG cols (putV cols [c] c.pen st) (d :: l)
def wid (x : Cl) : Nat := if x.w = 2 then 2 else 1
theorem wrapG_drop {cols : Int} {xs : List Cl} {i : Nat} {x : Cl} (st : List Ln × List Cl) (hx : xs[i]? = some x) (hr : rowR (xs.drop i) = true) :
    i + wid x ≤ xs.length ∧ rowR (xs.drop (i + wid x)) = true ∧ wrapG cols st (xs.drop i) = wrapG cols (putV cols ((xs.take (i + wid x)).drop i) x.pen st) (xs.drop (i + wid x)) := by
  have hi := (List.getElem?_eq_some_iff.1 hx).1
  rw [drop_at hx] at hr ⊢
  have hv := rowFrom_v _ none hr x (by simp)
  have hw := vCl_w x hv
  have e0 : (xs.take (i + 1)).drop i = [x] := by
    rw [List.drop_take, show i + 1 - i = 1 by omega, drop_at hx]
    rfl
  rcases hw with hw | hw | hw
  · rw [rowR_zero x _ hw] at hr; cases hr
  · have e1 : wid x = 1 := by simp [wid, hw]
    rw [rowR_one x _ hw, Bool.and_eq_true] at hr
    rw [e1, e0]
    refine ⟨by omega, hr.2, ?_⟩
    cases hd : xs.drop (i + 1) with
    | nil => rfl
    | cons d l => rw [wrapG, if_neg (by omega)]
  · have e1 : wid x = 2 := by simp [wid, hw]
    cases hd : xs.drop (i + 1) with
    | nil => rw [hd, rowR_two_nil x hw] at hr; cases hr
    | cons d l =>
      have hi2 : i + 1 < xs.length := by
        have := congrArg List.length hd
        simp at this
        omega
      have hy : xs[i + 1]? = some d := by
        have h1 : (xs.drop (i + 1))[0]? = some d := by rw [hd]; rfl
        rwa [List.getElem?_drop] at h1
      have e2 : (xs.take (i + 2)).drop i = [x, d] := by
        rw [List.drop_take, show i + 2 - i = 2 by omega, drop_at hx, hd]
        rfl
      have e3 : xs.drop (i + 2) = l := by
        rw [drop_at hy] at hd
        injection hd
      rw [hd, rowR_two x d l hw, Bool.and_eq_true, Bool.and_eq_true] at hr
      rw [e1, e2, e3, wrapG, if_pos hw]
      exact ⟨by omega, hr.2.2, rfl⟩
def wrapV (xs : List Cl) (cols : Int) : List Ln := if vW xs cols then (endV cols false (wrapG cols ([], []) xs)).1 else []
/-! ### The reference: where all cells are put -/
def goesOn (cols col : Int) (c : Cl) : Bool := decide (col = cols) || (decide (col = cols - 1) && (decide (c.w = 2) && decide (1 < cols)))
def pstep (cols : Int) (s : List (Int × Int) × Int × Int) (c : Cl) : List (Int × Int) × Int × Int :=
  if c.w = 0 then (s.1 ++ [(s.2.1, (if 1 < cols then s.2.2 + 1 else s.2.2) - 1)], s.2.1, if 1 < cols then s.2.2 + 1 else s.2.2)
  else if goesOn cols s.2.2 c then (s.1 ++ [(s.2.1 + 1, 0)], s.2.1 + 1, 1)
  else (s.1 ++ [(s.2.1, s.2.2)], s.2.1, s.2.2 + 1)
def plR (cols : Int) (xs : List Cl) : List (Int × Int) × Int × Int := xs.foldl (pstep cols) ([], 0, 0)
theorem plR_take {cols : Int} {xs : List Cl} {i : Nat} {x : Cl} (h : xs[i]? = some x) : plR cols (xs.take (i + 1)) = pstep cols (plR cols (xs.take i)) x := by
  rw [List.take_add_one, h, plR, Option.toList_some, List.foldl_append]
  rfl
theorem plR_bd (cols : Int) (xs : List Cl) : (plR cols xs).1.length = xs.length ∧ (0 ≤ (plR cols xs).2.1 ∧ (plR cols xs).2.1 ≤ xs.length) ∧ (0 ≤ (plR cols xs).2.2 ∧ (plR cols xs).2.2 ≤ xs.length) := by
  have : ∀ (xs : List Cl) (s : List (Int × Int) × Int × Int) (m : Nat), s.1.length = m → (0 ≤ s.2.1 ∧ s.2.1 ≤ m) → (0 ≤ s.2.2 ∧ s.2.2 ≤ m) →
      (xs.foldl (pstep cols) s).1.length = m + xs.length ∧ (0 ≤ (xs.foldl (pstep cols) s).2.1 ∧ (xs.foldl (pstep cols) s).2.1 ≤ ((m + xs.length : Nat) : Int)) ∧ (0 ≤ (xs.foldl (pstep cols) s).2.2 ∧ (xs.foldl (pstep cols) s).2.2 ≤ ((m + xs.length : Nat) : Int)) := by
    intro xs
    induction xs with
    | nil => intro s m h1 h2 h3; simp only [List.foldl_nil, List.length_nil, Nat.add_zero]; exact ⟨h1, h2, h3⟩
    | cons c t ih =>
      intro s m h1 h2 h3
      have h4 : (pstep cols s c).1.length = m + 1 ∧ (0 ≤ (pstep cols s c).2.1 ∧ (pstep cols s c).2.1 ≤ ((m + 1 : Nat) : Int)) ∧ (0 ≤ (pstep cols s c).2.2 ∧ (pstep cols s c).2.2 ≤ ((m + 1 : Nat) : Int)) := by
        unfold pstep
        split
        · refine ⟨by simp [h1], by simp only; omega, ?_⟩
          simp only
          split <;> omega
        · split
          · exact ⟨by simp [h1], by simp only; omega, by simp only; omega⟩
          · exact ⟨by simp [h1], by simp only; omega, by simp only; omega⟩
      have h5 := ih _ (m + 1) h4.1 h4.2.1 h4.2.2
      simp only [List.foldl_cons, List.length_cons]
      rw [show m + (t.length + 1) = m + 1 + t.length by omega]
      exact h5
  have h1 := this xs ([], 0, 0) 0 rfl (by simp) (by simp)
  rw [Nat.zero_add] at h1
  exact h1
def rplV (cols : Int) (xs : List Cl) (q : Nat) : Int × Int := match (plR cols xs).1[q]? with
  | some p => p
  | none => ((plR cols xs).2.1, fw (cols - 1) (plR cols xs).2.2)
def bf (a p : Int × Int) : Bool := decide (p.1 < a.1) || (decide (p.1 = a.1) && decide (p.2 < a.2))
theorem plR_get (cols : Int) {xs : List Cl} {q : Nat} (h : q < xs.length) : ∃ p, (plR cols xs).1[q]? = some p := ⟨_, List.getElem?_eq_getElem (by rw [(plR_bd cols xs).1]; exact h)⟩
/-! ### The laws' helpers -/
def ofB (b : Nat) : List Cl := if b = 87 then [⟨19968, 0, 0, 0, 2, Pen.zero⟩, Cl.zero] else if b = 95 then [blank Pen.zero] else [⟨b, 0, 0, 0, 1, Pen.zero⟩]
def ofL (bs : List UInt8) : List Cl := bs.flatMap fun b => ofB b.toNat
theorem ofL_snoc (bs : List UInt8) (b : UInt8) : ofL (bs ++ [b]) = ofL bs ++ ofB b.toNat := by simp [ofL]
theorem length_ofB (b : Nat) : (ofB b).length ≤ 2 := by
  unfold ofB
  split
  · exact Nat.le_refl _
  · split <;> exact Nat.le_succ _
theorem length_ofL : ∀ bs : List UInt8, (ofL bs).length ≤ 2 * bs.length
  | [] => Nat.le_refl _
  | b :: l => by
    have h1 := length_ofL l
    have h2 := length_ofB b.toNat
    rw [ofL, List.flatMap_cons, List.length_append, ← ofL, List.length_cons]
    omega
end Go.Proofs.YtdmpodpdpncobaaDoor
