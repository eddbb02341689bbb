/-
  Rows of cells, as plain data. No condition.
-/
import Derived.Test.YtdmpodpdpncobaaDoorDat
namespace Go.Proofs.YtdmpodpdpncobaaDoor
open Go.RowKit
set_option linter.unusedSimpArgs false
set_option linter.unusedVariables false

/-- is this cell right behind that one? -/
def okC (c : Cl) (pv : Option Cl) (last : Bool) : Bool :=
  match pv with
  | some d => vCl c && ((c.w == 0) == (d.w == 2) && (!(d.w == 2 && decide (c.pen ≠ d.pen)) && !(c.w == 2 && last)))
  | none => vCl c && ((c.w == 0) == false && !(c.w == 2 && last))
def rowFrom (pv : Option Cl) : List Cl → Bool
  | [] => true
  | c :: l => okC c pv l.isEmpty && rowFrom (some c) l
/-- are cells a row? -/
def rowR (l : List Cl) : Bool := rowFrom none l
theorem spacer_of (d : Cl) (h : vCl d = true) (hw : d.w = 0) : d = spacer d.pen := by
  obtain ⟨r, m0, m1, m2, w, p⟩ := d
  simp only at hw
  subst hw
  unfold vCl at h
  simp only [Bool.and_eq_true] at h
  have h2 := h.2
  split at h2
  · rename_i hr
    simp at h2
    obtain ⟨h3, h4, h5⟩ := h2
    subst hr h3 h4 h5
    rfl
  · simp at h2
theorem vCl_pen (d : Cl) (h : vCl d = true) : vPn d.pen = true := by
  unfold vCl at h
  simp only [Bool.and_eq_true] at h
  exact h.1
theorem okC_any (c : Cl) (pv : Option Cl) (last : Bool) (hpv : ∀ d, pv = some d → d.w ≠ 2) : okC c pv last = (vCl c && (!(c.w == 0) && !(c.w == 2 && last))) := by
  unfold okC
  cases pv with
  | none => cases c.w == 0 <;> rfl
  | some d =>
    have : (d.w == 2) = false := by simpa using hpv d rfl
    simp only [this, Bool.false_and, Bool.not_false, Bool.true_and]
    cases c.w == 0 <;> rfl
theorem rowFrom_any (l : List Cl) (pv : Option Cl) (hpv : ∀ d, pv = some d → d.w ≠ 2) : rowFrom pv l = rowR l := by
  cases l with
  | nil => rfl
  | cons c l => rw [rowR, rowFrom, rowFrom, okC_any c pv _ hpv, okC_any c none _ fun d h => by cases h]
theorem rowR_nil : rowR [] = true := rfl
theorem rowR_bad (c : Cl) (l : List Cl) (h : vCl c = false) : rowR (c :: l) = false := by
  rw [rowR, rowFrom, okC_any c none _ (fun d h => by cases h), h]
  simp
theorem rowR_zero (c : Cl) (l : List Cl) (h : c.w = 0) : rowR (c :: l) = false := by
  rw [rowR, rowFrom, okC_any c none _ fun d h => by cases h]
  simp [h]
theorem rowR_one (c : Cl) (l : List Cl) (h : c.w = 1) : rowR (c :: l) = (vCl c && rowR l) := by
  rw [rowR, rowFrom, okC_any c none _ (fun d h => by cases h), rowFrom_any l (some c) (fun d hd => by cases hd; omega)]
  simp [h]
theorem rowR_two_nil (c : Cl) (h : c.w = 2) : rowR [c] = false := by
  rw [rowR, rowFrom, okC_any c none _ fun d h => by cases h]
  simp [h]
theorem rowR_two (c d : Cl) (l : List Cl) (h : c.w = 2) : rowR (c :: d :: l) = (vCl c && (decide (d = spacer c.pen) && rowR l)) := by
  rw [rowR, rowFrom, okC_any c none _ (fun d h => by cases h)]
  conv => lhs; rw [rowFrom]
  cases hv : vCl c with
  | false => simp
  | true =>
    have h2 : (c.w == 2) = true := by simpa using h
    unfold okC
    simp only [h, h2, Bool.true_and, List.isEmpty_cons, Bool.and_false, Bool.not_false, Bool.and_true, beq_self_eq_true]
    by_cases hc : d = spacer c.pen
    · subst hc
      have h3 : rowFrom (some (spacer c.pen)) l = rowR l := rowFrom_any l _ fun d' hd' => by cases hd'; simp [spacer]
      rw [h3, vCl_spacer, vCl_pen c hv]
      simp [spacer]
    · simp only [hc, decide_false, Bool.false_and]
      cases hv' : vCl d with
      | false => simp
      | true =>
        by_cases h0 : d.w = 0
        · have h1 := spacer_of d hv' h0
          have h3 : d.pen ≠ c.pen := fun e => hc (by rw [← e]; exact h1)
          simp [h3]
        · simp [h0]
def pvAt (l : List Cl) (i : Nat) : Option Cl := if i = 0 then none else l[i - 1]?
/-- does the cell i stand behind a wide one? -/
def bh (l : List Cl) (i : Nat) : Bool := match pvAt l i with | some d => d.w == 2 | none => false
theorem bh_pos {l : List Cl} {i : Nat} (h : bh l i = true) : 0 < i := by
  unfold bh pvAt at h
  split at h
  · rename_i d hd
    split at hd
    · cases hd
    · omega
  · cases h
theorem bh_at {l : List Cl} {i : Nat} {d : Cl} (hi : 0 < i) (h : l[i - 1]? = some d) : bh l i = (d.w == 2) := by
  unfold bh pvAt
  rw [if_neg (by omega), h]
theorem bh_zero {l : List Cl} {i : Nat} (hi : ¬ 0 < i) : bh l i = false := by
  unfold bh pvAt
  rw [if_pos (by omega)]
theorem drop_at {l : List Cl} {i : Nat} {c : Cl} (h : l[i]? = some c) : l.drop i = c :: l.drop (i + 1) := by
  obtain ⟨hi, e⟩ := List.getElem?_eq_some_iff.1 h
  rw [List.drop_eq_getElem_cons hi, e]
theorem row_step {l : List Cl} {i : Nat} {c : Cl} (h : l[i]? = some c) : rowFrom (pvAt l i) (l.drop i) = (okC c (pvAt l i) (decide (i + 1 = l.length)) && rowFrom (pvAt l (i + 1)) (l.drop (i + 1))) := by
  have hi := (List.getElem?_eq_some_iff.1 h).1
  have h1 : pvAt l (i + 1) = some c := by unfold pvAt; rw [if_neg (by omega), Nat.add_sub_cancel, h]
  have h2 : (l.drop (i + 1)).isEmpty = decide (i + 1 = l.length) := by
    rw [Bool.eq_iff_iff, List.isEmpty_iff, List.drop_eq_nil_iff, decide_eq_true_eq]
    omega
  rw [drop_at h, rowFrom, h1, h2]
/-- what is asked of cell i, as the program asks it -/
theorem ok_at {l : List Cl} {i : Nat} {c d : Cl} (h : l[i]? = some c) (hd : 0 < i → l[i - 1]? = some d) :
    okC c (pvAt l i) (decide (i + 1 = l.length)) = (vCl c && ((c.w == 0) == bh l i && (!(bh l i && decide (c.pen ≠ d.pen)) && !(c.w == 2 && decide (i + 1 = l.length))))) := by
  by_cases hi : 0 < i
  · rw [bh_at hi (hd hi)]
    unfold pvAt okC
    rw [if_neg (by omega), hd hi]
  · rw [bh_zero hi]
    unfold pvAt okC
    rw [if_pos (by omega)]
    simp
/-- the reference's marks -/
def mkN (c : Cl) : Int := if c.m0 = 0 then 0 else if ofV c.m0 ≠ 0 then 0 else if c.m1 = 0 then 1 else if ofV c.m1 ≠ 0 then 1 else if c.m2 = 0 then 2 else if ofV c.m2 ≠ 0 then 2 else 3
def mkB (c : Cl) : Bool := if c.m0 = 0 then c.m1 == 0 && c.m2 == 0 else if ofV c.m0 ≠ 0 then false else if c.m1 = 0 then c.m2 == 0 else if ofV c.m1 ≠ 0 then false else if c.m2 = 0 then true else ofV c.m2 == 0
def rvCl (c : Cl) : Bool := vPn c.pen && (mkB c && (if c.w = 0 then c.r == 0 && mkN c == 0 else if c.w = 1 then (c.r == 0 && mkN c == 0) || (c.r != 0 && ofV c.r == 1) else if c.w = 2 then ofV c.r == 2 else false))
theorem rvCl_eq (c : Cl) : rvCl c = vCl c := by
  have h0 := ofV_zero
  have h1 := ofV_bd c.r
  obtain ⟨r, m0, m1, m2, w, p⟩ := c
  simp only at h1
  unfold rvCl vCl mkB mkN bad
  simp only
  cases vPn p
  · simp
  · simp only [Bool.true_and]
    by_cases hr : r = 0
    · subst hr
      rw [h0]
      by_cases a : m0 = 0 <;> by_cases b : m1 = 0 <;> by_cases d : m2 = 0 <;> by_cases w0 : w = 0 <;> by_cases w1 : w = 1 <;> simp [a, b, d, w0, w1] <;> grind
    · generalize ofV r = v at *
      by_cases a : m0 = 0 <;> by_cases b : m1 = 0 <;> by_cases d : m2 = 0 <;> by_cases e0 : ofV m0 = 0 <;> by_cases e1 : ofV m1 = 0 <;> by_cases e2 : ofV m2 = 0 <;> simp [a, b, d, e0, e1, e2, hr] <;> grind
end Go.Proofs.YtdmpodpdpncobaaDoor
