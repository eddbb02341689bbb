/-
  What the rows of a logical line are. No condition.
-/
import Derived.Test.YtdmpodpdpncobaaDoorRfw
namespace Go.Proofs.YtdmpodpdpncobaaDoor
open Go.RowKit
set_option linter.unusedSimpArgs false
set_option linter.unusedVariables false
/-! ### What the rows of a logical line are -/
theorem row_ind2 {motive : List Cl → Prop} (nil : motive []) (one : ∀ c l, vCl c = true → c.w = 1 → rowR l = true → motive l → motive (c :: l))
    (two : ∀ c d l, vCl c = true → c.w = 2 → d = spacer c.pen → rowR l = true → motive l → motive (c :: d :: l)) : ∀ l, rowR l = true → motive l := by
  have := row_ind (motive := fun l => rowR l = true → motive l) (fun _ => nil) (fun c l hw hl ih h => ?_) (fun c d l hw hd hl ih h => ?_)
  · exact fun l h => this l h h
  · rw [rowR_one c l hw, Bool.and_eq_true] at h
    exact one c l h.1 hw hl (ih hl)
  · rw [rowR_two c d l hw, Bool.and_eq_true] at h
    exact two c d l h.1 hw hd hl (ih hl)
theorem rowR_append {b : List Cl} (hb : rowR b = true) : ∀ a, rowR a = true → rowR (a ++ b) = true := by
  refine row_ind2 (motive := fun a => rowR (a ++ b) = true) hb (fun c l hv hw _ ih => ?_) (fun c d l hv hw hd _ ih => ?_)
  · rw [List.cons_append, rowR_one c _ hw, hv, ih]; rfl
  · rw [List.cons_append, List.cons_append, rowR_two c d _ hw, hv, ih, hd]; simp
theorem rowR_blanks : ∀ k, rowR (List.replicate k (blank Pen.zero)) = true
  | 0 => rfl
  | k + 1 => by
    have : vCl (blank Pen.zero) = true := by decide
    rw [List.replicate_succ, rowR_one _ _ rfl, rowR_blanks k, this]; rfl
/-- the rows of so many cells of a logical line -/
inductive ChR (n : Nat) : List Cl → List Ln → Prop where
  | last {l : List Cl} : rowR l = true → l.length ≤ n → ChR n l [⟨l ++ List.replicate (n - l.length) (blank Pen.zero), false⟩]
  | full {c l : List Cl} {rows : List Ln} : rowR c = true → c.length = n → ChR n l rows → ChR n (c ++ l) (⟨c, true⟩ :: rows)
  | left {c l : List Cl} {rows : List Ln} {x : Cl} : rowR c = true → c.length + 1 = n → l[0]? = some x → x.w = 2 → ChR n l rows → ChR n (c ++ l) (⟨c ++ [blank Pen.zero], true⟩ :: rows)
def WcM (n : Nat) (l : List Cl) : Prop := ∀ st : List Ln × List Cl, rowR st.2 = true → st.2.length ≤ n → ∃ Y, (endV (n : Int) false (wrapG (n : Int) st l)).1 = st.1 ++ Y ∧ ChR n (st.2 ++ l) Y
theorem wrap_ch {n : Nat} (hn : 2 ≤ n) : ∀ l, rowR l = true → WcM n l := by
  refine row_ind2 (fun st h1 h2 => ?_) (fun c l hv hw hl ih st h1 h2 => ?_) (fun c d l hv hw hd hl ih st h1 h2 => ?_)
  · refine ⟨[⟨st.2 ++ List.replicate (n - st.2.length) (blank Pen.zero), false⟩], rfl, ?_⟩
    rw [List.append_nil]
    exact .last h1 h2
  · have hc : rowR [c] = true := by rw [rowR_one c [] hw, hv]; rfl
    rw [wrapG_one hw]
    have hfw : fw (n : Int) ((1 : Nat) : Int) = 1 := by unfold fw; split <;> omega
    by_cases hf : st.2.length = n
    · have e : putV (n : Int) [c] c.pen st = (st.1 ++ [⟨st.2, true⟩], [c]) := by
        have hff : full (n : Int) 1 st = true := by rw [full, hfw]; simp; omega
        rw [putV, show [c].length = 1 from rfl, hff, if_pos rfl, addV, if_neg (by simp; omega), endV, hf]
        simp
      rw [e]
      obtain ⟨Y, y1, y2⟩ := ih (st.1 ++ [⟨st.2, true⟩], [c]) hc (by simp; omega)
      exact ⟨⟨st.2, true⟩ :: Y, by rw [y1]; simp, .full h1 hf y2⟩
    · have e : putV (n : Int) [c] c.pen st = (st.1, st.2 ++ [c]) := by
        have hff : full (n : Int) 1 st = false := by rw [full, hfw]; simp; omega
        rw [putV, show [c].length = 1 from rfl, hff, if_neg (by decide), addV, if_neg (by simp; omega)]
      rw [e]
      obtain ⟨Y, y1, y2⟩ := ih (st.1, st.2 ++ [c]) (rowR_append hc _ h1) (by simp; omega)
      exact ⟨Y, y1, by simpa using y2⟩
  · have hc : rowR [c, d] = true := by rw [rowR_two c d [] hw, hv, hd]; simp [rowR_nil]
    rw [wrapG_two hw]
    have hfw : fw (n : Int) ((2 : Nat) : Int) = 2 := by unfold fw; split <;> omega
    by_cases hf : n < st.2.length + 2
    · have e : putV (n : Int) [c, d] c.pen st = (st.1 ++ [⟨st.2 ++ List.replicate (n - st.2.length) (blank Pen.zero), true⟩], [c, d]) := by
        have hff : full (n : Int) 2 st = true := by rw [full, hfw]; simp; omega
        rw [putV, show [c, d].length = 2 from rfl, hff, if_pos rfl, addV, if_neg (by simp; omega), endV]
        simp
      rw [e]
      obtain ⟨Y, y1, y2⟩ := ih (st.1 ++ [⟨st.2 ++ List.replicate (n - st.2.length) (blank Pen.zero), true⟩], [c, d]) hc (by simp; omega)
      refine ⟨_ :: Y, by rw [y1, List.append_assoc]; rfl, ?_⟩
      by_cases hf2 : st.2.length = n
      · rw [hf2, Nat.sub_self, List.replicate_zero, List.append_nil]
        exact .full h1 hf2 y2
      · rw [show n - st.2.length = 1 by omega]
        exact .left (x := c) h1 (by omega) rfl hw y2
    · have e : putV (n : Int) [c, d] c.pen st = (st.1, st.2 ++ [c, d]) := by
        have hff : full (n : Int) 2 st = false := by rw [full, hfw]; simp; omega
        rw [putV, show [c, d].length = 2 from rfl, hff, if_neg (by decide), addV, if_neg (by simp; omega)]
      rw [e]
      obtain ⟨Y, y1, y2⟩ := ih (st.1, st.2 ++ [c, d]) (rowR_append hc _ h1) (by simp; omega)
      exact ⟨Y, y1, by simpa using y2⟩
theorem wrapV_ch {xs : List Cl} {n : Nat} (h : vW xs (n : Int) = true) (hn : 2 ≤ n) : ChR n xs (wrapV xs (n : Int)) := by
  obtain ⟨_, _, hr⟩ := vW_parts h
  obtain ⟨Y, y1, y2⟩ := wrap_ch hn xs hr ([], []) rfl (Nat.zero_le _)
  rw [wrapV, h, if_pos rfl, y1]
  exact y2
theorem ChR.ne {n : Nat} {l : List Cl} {rows : List Ln} (h : ChR n l rows) : 0 < rows.length := by cases h <;> simp
theorem ChR.rows {n : Nat} {l : List Cl} {rows : List Ln} (h : ChR n l rows) : ∀ i r, rows[i]? = some r → r.cells.length = n ∧ rowR r.cells = true ∧ r.soft = decide (i + 1 < rows.length) := by
  induction h with
  | last h1 h2 =>
    intro i r hr
    cases i with
    | zero =>
      simp only [List.getElem?_cons_zero, Option.some.injEq] at hr
      subst hr
      exact ⟨by simp; omega, rowR_append (rowR_blanks _) _ h1, by simp⟩
    | succ i => simp at hr
  | full h1 h2 h3 ih =>
    intro i r hr
    have := h3.ne
    cases i with
    | zero =>
      simp only [List.getElem?_cons_zero, Option.some.injEq] at hr
      subst hr
      exact ⟨h2, h1, by simp; omega⟩
    | succ i =>
      rw [List.getElem?_cons_succ] at hr
      obtain ⟨g1, g2, g3⟩ := ih i r hr
      exact ⟨g1, g2, by rw [g3]; simp⟩
  | left h1 h2 _ _ h3 ih =>
    intro i r hr
    have := h3.ne
    cases i with
    | zero =>
      simp only [List.getElem?_cons_zero, Option.some.injEq] at hr
      subst hr
      exact ⟨by simp; omega, rowR_append (rowR_blanks 1) _ h1, by simp; omega⟩
    | succ i =>
      rw [List.getElem?_cons_succ] at hr
      obtain ⟨g1, g2, g3⟩ := ih i r hr
      exact ⟨g1, g2, by rw [g3]; simp⟩
theorem ChR.len {n : Nat} {l : List Cl} {rows : List Ln} (h : ChR n l rows) : l.length ≤ rows.length * n := by
  induction h with
  | last h1 h2 => simp; omega
  | full h1 h2 h3 ih => simp only [List.length_append, List.length_cons, Nat.add_mul]; omega
  | left h1 h2 _ _ h3 ih => simp only [List.length_append, List.length_cons, Nat.add_mul]; omega
theorem ChR.head {n : Nat} (hn : 2 ≤ n) {l : List Cl} {rows : List Ln} (h : ChR n l rows) {x : Cl} (hx : l[0]? = some x) : ∃ r rest, rows = r :: rest ∧ r.cells[0]? = some x := by
  cases h with
  | last h1 h2 =>
    refine ⟨_, _, rfl, ?_⟩
    rw [List.getElem?_append_left (List.getElem?_eq_some_iff.1 hx).1]
    exact hx
  | full h1 h2 h3 =>
    refine ⟨_, _, rfl, ?_⟩
    rwa [List.getElem?_append_left (by omega)] at hx
  | left h1 h2 _ _ h3 =>
    refine ⟨_, _, rfl, ?_⟩
    rw [List.getElem?_append_left (by omega)] at hx
    show (_ ++ _)[0]? = _
    rw [List.getElem?_append_left (by omega)]
    exact hx
theorem drop_of {α : Type} {X : List α} {i : Nat} {r : α} {rest : List α} (h : X.drop i = r :: rest) : X[i]? = some r ∧ X.drop (i + 1) = rest ∧ i + 1 + rest.length = X.length := by
  have h1 : X[i]? = some r := by
    have : (X.drop i)[0]? = some r := by rw [h]; rfl
    rwa [List.getElem?_drop] at this
  have h2 : X.drop (i + 1) = rest := by
    have : (X.drop i).drop 1 = rest := by rw [h]; rfl
    rwa [List.drop_drop] at this
  refine ⟨h1, h2, ?_⟩
  have h3 := congrArg List.length h
  have h4 := (List.getElem?_eq_some_iff.1 h1).1
  simp at h3
  omega
/-! ### The places of the cells -/
end Go.Proofs.YtdmpodpdpncobaaDoor
