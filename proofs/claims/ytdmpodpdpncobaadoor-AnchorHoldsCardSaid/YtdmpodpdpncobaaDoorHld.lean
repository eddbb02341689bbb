/-
  What the rows of a logical line are. No condition.
-/
import Derived.Test.YtdmpodpdpncobaaDoorRfw
namespace Go.Proofs.YtdmpodpdpncobaaDoor
open Go.RowKit
set_option linter.unusedSimpArgs false
set_option linter.unusedVariables false
/-! ### What the rows of a logical line are -/
theorem row_ind2 {motive : List Cl → Prop} (nil : motive []) (one : ∀ c l, vCl c = true → c.w = 1 → rowR l = true → motive l → motive (c :: l))
    (two : ∀ c d l, vCl c = true → c.w = 2 → d = spacer c.pen → rowR l = true → motive l → motive (c :: d :: l)) : ∀ l, rowR l = true → motive l := by
  have := row_ind (motive := fun l => rowR l = true → motive l) (fun _ => nil) (fun c l hw hl ih h => ?_) (fun c d l hw hd hl ih h => ?_)
  · exact fun l h => this l h h
  · rw [rowR_one c l hw, Bool.and_eq_true] at h
    exact one c l h.1 hw hl (ih hl)
  · rw [rowR_two c d l hw, Bool.and_eq_true] at h
    exact two c d l h.1 hw hd hl (ih hl)
theorem rowR_append {b : List Cl} (hb : rowR b = true) : ∀ a, rowR a = true → rowR (a ++ b) = true := by
  refine row_ind2 (motive := fun a => rowR (a ++ b) = true) hb (fun c l hv hw _ ih => ?_) (fun c d l hv hw hd _ ih => ?_)
  · rw [List.cons_append, rowR_one c _ hw, hv, ih]; rfl
  · rw [List.cons_append, List.cons_append, rowR_two c d _ hw, hv, ih, hd]; simp
theorem rowR_blanks : ∀ k, rowR (List.replicate k (blank Pen.zero)) = true
  | 0 => rfl
  | k + 1 => by
    have : vCl (blank Pen.zero) = true := by decide
    rw [List.replicate_succ, rowR_one _ _ rfl, rowR_blanks k, this]; rfl
theorem rowR_lastw {a : List Cl} (h : rowR a = true) {x : Cl} (hx : a[a.length - 1]? = some x) : x.w ≠ 2 := by
  have h0 : 0 < a.length := by
    cases a with
    | nil => simp at hx
    | cons => simp
  have h1 := bh_at h0 hx
  rw [bh_end a h] at h1
  intro e
  rw [e] at h1
  cases h1
/-- the rows of so many cells of a logical line -/
inductive ChR (n : Nat) : List Cl → List Ln → Prop where
  | last {l : List Cl} : rowR l = true → l.length ≤ n → ChR n l [⟨l ++ List.replicate (n - l.length) (blank Pen.zero), false⟩]
  | full {c l : List Cl} {rows : List Ln} : rowR c = true → c.length = n → ChR n l rows → ChR n (c ++ l) (⟨c, true⟩ :: rows)
  | left {c l : List Cl} {rows : List Ln} {x : Cl} : rowR c = true → c.length + 1 = n → l[0]? = some x → x.w = 2 → ChR n l rows → ChR n (c ++ l) (⟨c ++ [blank Pen.zero], true⟩ :: rows)
def WcM (n : Nat) (l : List Cl) : Prop := ∀ st : List Ln × List Cl, rowR st.2 = true → st.2.length ≤ n → ∃ Y, (endV (n : Int) false (wrapG (n : Int) st l)).1 = st.1 ++ Y ∧ ChR n (st.2 ++ l) Y
theorem wrap_ch {n : Nat} (hn : 2 ≤ n) : ∀ l, rowR l = true → WcM n l := by
  refine row_ind2 (fun st h1 h2 => ?_) (fun c l hv hw hl ih st h1 h2 => ?_) (fun c d l hv hw hd hl ih st h1 h2 => ?_)
  · refine ⟨[⟨st.2 ++ List.replicate (n - st.2.length) (blank Pen.zero), false⟩], rfl, ?_⟩
    rw [List.append_nil]
    exact .last h1 h2
  · have hc : rowR [c] = true := by rw [rowR_one c [] hw, hv]; rfl
    rw [wrapG_one hw]
    have hfw : fw (n : Int) ((1 : Nat) : Int) = 1 := by unfold fw; split <;> omega
    by_cases hf : st.2.length = n
    · have e : putV (n : Int) [c] c.pen st = (st.1 ++ [⟨st.2, true⟩], [c]) := by
        have hff : full (n : Int) 1 st = true := by rw [full, hfw]; simp; omega
        rw [putV, show [c].length = 1 from rfl, hff, if_pos rfl, addV, if_neg (by simp; omega), endV, hf]
        simp
      rw [e]
      obtain ⟨Y, y1, y2⟩ := ih (st.1 ++ [⟨st.2, true⟩], [c]) hc (by simp; omega)
      exact ⟨⟨st.2, true⟩ :: Y, by rw [y1]; simp, .full h1 hf y2⟩
    · have e : putV (n : Int) [c] c.pen st = (st.1, st.2 ++ [c]) := by
        have hff : full (n : Int) 1 st = false := by rw [full, hfw]; simp; omega
        rw [putV, show [c].length = 1 from rfl, hff, if_neg (by decide), addV, if_neg (by simp; omega)]
      rw [e]
      obtain ⟨Y, y1, y2⟩ := ih (st.1, st.2 ++ [c]) (rowR_append hc _ h1) (by simp; omega)
      exact ⟨Y, y1, by simpa using y2⟩
  · have hc : rowR [c, d] = true := by rw [rowR_two c d [] hw, hv, hd]; simp [rowR_nil]
    rw [wrapG_two hw]
    have hfw : fw (n : Int) ((2 : Nat) : Int) = 2 := by unfold fw; split <;> omega
    by_cases hf : n < st.2.length + 2
    · have e : putV (n : Int) [c, d] c.pen st = (st.1 ++ [⟨st.2 ++ List.replicate (n - st.2.length) (blank Pen.zero), true⟩], [c, d]) := by
        have hff : full (n : Int) 2 st = true := by rw [full, hfw]; simp; omega
        rw [putV, show [c, d].length = 2 from rfl, hff, if_pos rfl, addV, if_neg (by simp; omega), endV]
        simp
      rw [e]
      obtain ⟨Y, y1, y2⟩ := ih (st.1 ++ [⟨st.2 ++ List.replicate (n - st.2.length) (blank Pen.zero), true⟩], [c, d]) hc (by simp; omega)
      refine ⟨_ :: Y, by rw [y1, List.append_assoc]; rfl, ?_⟩
      by_cases hf2 : st.2.length = n
      · rw [hf2, Nat.sub_self, List.replicate_zero, List.append_nil]
        exact .full h1 hf2 y2
      · rw [show n - st.2.length = 1 by omega]
        exact .left (x := c) h1 (by omega) rfl hw y2
    · have e : putV (n : Int) [c, d] c.pen st = (st.1, st.2 ++ [c, d]) := by
        have hff : full (n : Int) 2 st = false := by rw [full, hfw]; simp; omega
        rw [putV, show [c, d].length = 2 from rfl, hff, if_neg (by decide), addV, if_neg (by simp; omega)]
      rw [e]
      obtain ⟨Y, y1, y2⟩ := ih (st.1, st.2 ++ [c, d]) (rowR_append hc _ h1) (by simp; omega)
      exact ⟨Y, y1, by simpa using y2⟩
theorem wrapV_ch {xs : List Cl} {n : Nat} (h : vW xs (n : Int) = true) (hn : 2 ≤ n) : ChR n xs (wrapV xs (n : Int)) := by
  obtain ⟨_, _, hr⟩ := vW_parts h
  obtain ⟨Y, y1, y2⟩ := wrap_ch hn xs hr ([], []) rfl (Nat.zero_le _)
  rw [wrapV, h, if_pos rfl, y1]
  exact y2
theorem ChR.ne {n : Nat} {l : List Cl} {rows : List Ln} (h : ChR n l rows) : 0 < rows.length := by cases h <;> simp
theorem ChR.rows {n : Nat} {l : List Cl} {rows : List Ln} (h : ChR n l rows) : ∀ i r, rows[i]? = some r → r.cells.length = n ∧ rowR r.cells = true ∧ r.soft = decide (i + 1 < rows.length) := by
  induction h with
  | last h1 h2 =>
    intro i r hr
    cases i with
    | zero =>
      simp only [List.getElem?_cons_zero, Option.some.injEq] at hr
      subst hr
      exact ⟨by simp; omega, rowR_append (rowR_blanks _) _ h1, by simp⟩
    | succ i => simp at hr
  | full h1 h2 h3 ih =>
    intro i r hr
    have := h3.ne
    cases i with
    | zero =>
      simp only [List.getElem?_cons_zero, Option.some.injEq] at hr
      subst hr
      exact ⟨h2, h1, by simp; omega⟩
    | succ i =>
      rw [List.getElem?_cons_succ] at hr
      obtain ⟨g1, g2, g3⟩ := ih i r hr
      exact ⟨g1, g2, by rw [g3]; simp⟩
  | left h1 h2 _ _ h3 ih =>
    intro i r hr
    have := h3.ne
    cases i with
    | zero =>
      simp only [List.getElem?_cons_zero, Option.some.injEq] at hr
      subst hr
      exact ⟨by simp; omega, rowR_append (rowR_blanks 1) _ h1, by simp; omega⟩
    | succ i =>
      rw [List.getElem?_cons_succ] at hr
      obtain ⟨g1, g2, g3⟩ := ih i r hr
      exact ⟨g1, g2, by rw [g3]; simp⟩
theorem ChR.len {n : Nat} {l : List Cl} {rows : List Ln} (h : ChR n l rows) : l.length ≤ rows.length * n := by
  induction h with
  | last h1 h2 => simp; omega
  | full h1 h2 h3 ih => simp only [List.length_append, List.length_cons, Nat.add_mul]; omega
  | left h1 h2 _ _ h3 ih => simp only [List.length_append, List.length_cons, Nat.add_mul]; omega
theorem ChR.head {n : Nat} (hn : 2 ≤ n) {l : List Cl} {rows : List Ln} (h : ChR n l rows) {x : Cl} (hx : l[0]? = some x) : ∃ r rest, rows = r :: rest ∧ r.cells[0]? = some x := by
  cases h with
  | last h1 h2 =>
    refine ⟨_, _, rfl, ?_⟩
    rw [List.getElem?_append_left (List.getElem?_eq_some_iff.1 hx).1]
    exact hx
  | full h1 h2 h3 =>
    refine ⟨_, _, rfl, ?_⟩
    rwa [List.getElem?_append_left (by omega)] at hx
  | left h1 h2 _ _ h3 =>
    refine ⟨_, _, rfl, ?_⟩
    rw [List.getElem?_append_left (by omega)] at hx
    show (_ ++ _)[0]? = _
    rw [List.getElem?_append_left (by omega)]
    exact hx
/-- the cells that were taken from the rows before i -/
def CInv (n : Nat) (xs : List Cl) (X : List Ln) (i : Nat) (all : List Cl) : Prop :=
  (i < X.length ∧ ∃ l, xs = all ++ l ∧ ChR n l (X.drop i)) ∨ (i = X.length ∧ ∃ k, all = xs ++ List.replicate k (blank Pen.zero))
theorem drop_of {α : Type} {X : List α} {i : Nat} {r : α} {rest : List α} (h : X.drop i = r :: rest) : X[i]? = some r ∧ X.drop (i + 1) = rest ∧ i + 1 + rest.length = X.length := by
  have h1 : X[i]? = some r := by
    have : (X.drop i)[0]? = some r := by rw [h]; rfl
    rwa [List.getElem?_drop] at this
  have h2 : X.drop (i + 1) = rest := by
    have : (X.drop i).drop 1 = rest := by rw [h]; rfl
    rwa [List.drop_drop] at this
  refine ⟨h1, h2, ?_⟩
  have h3 := congrArg List.length h
  have h4 := (List.getElem?_eq_some_iff.1 h1).1
  simp at h3
  omega
/-- one row more: how many of its cells are taken, and what the law asks -/
theorem ch_step {n : Nat} (hn : 2 ≤ n) {xs : List Cl} {X : List Ln} {i : Nat} {all : List Cl} (h : CInv n xs X i all) {r : Ln} (hr : X[i]? = some r) :
    ∃ k, k ≤ n ∧ CInv n xs X (i + 1) (all ++ r.cells.take k) ∧ (¬ i + 1 < X.length → k = n) ∧
      (∀ y z, X[i + 1]? = some y → y.cells[0]? = some z → z.w ≠ 2 → k = n) ∧
      (∀ q, all.length + n ≤ xs.length → xs[all.length + n - 1]? = some q → q.w ≠ 2 → k = n) ∧
      (∀ y z, X[i + 1]? = some y → y.cells[0]? = some z → z.w = 2 → xs.length < all.length + n → k + 1 = n) ∧
      (∀ y z q, X[i + 1]? = some y → y.cells[0]? = some z → z.w = 2 → xs[all.length + n - 1]? = some q → q.w = 2 → k + 1 = n) := by
  have hi := (List.getElem?_eq_some_iff.1 hr).1
  rcases h with ⟨_, l, e, h⟩ | ⟨e, _⟩
  · generalize hX : X.drop i = R at h
    cases h with
    | last h1 h2 =>
      obtain ⟨g1, g2, g3⟩ := drop_of hX
      rw [hr] at g1
      cases g1
      simp only [List.length_nil, Nat.add_zero] at g3
      have hno : ∀ y, X[i + 1]? ≠ some y := fun y hy => by have := (List.getElem?_eq_some_iff.1 hy).1; omega
      refine ⟨n, Nat.le_refl _, .inr ⟨g3, n - l.length, ?_⟩, fun _ => rfl, fun y z hy => absurd hy (hno y), fun q hq _ _ => rfl, fun y z hy => absurd hy (hno y), fun y z q hy => absurd hy (hno y)⟩
      rw [List.take_of_length_le (by simp; omega), e, List.append_assoc]
    | @full c l rows h1 h2 h3 =>
      obtain ⟨g1, g2, g3⟩ := drop_of hX
      rw [hr] at g1
      cases g1
      have := h3.ne
      have hlast : ∀ q, xs[all.length + n - 1]? = some q → q.w ≠ 2 := fun q hq => by
        rw [e, List.getElem?_append_right (by omega), show all.length + n - 1 - all.length = c.length - 1 by omega, List.getElem?_append_left (by omega)] at hq
        exact rowR_lastw h1 hq
      refine ⟨n, Nat.le_refl _, .inl ⟨by omega, l, ?_, by rw [g2]; exact h3⟩, fun _ => rfl, fun _ _ _ _ _ => rfl, fun _ _ _ _ => rfl, fun y z hy hz hw hl => ?_, fun y z q hy hz hw hq hw2 => absurd hw2 (hlast q hq)⟩
      · simp only
        rw [List.take_of_length_le (by omega), e, List.append_assoc]
      · rw [e] at hl
        simp only [List.length_append] at hl
        omega
    | @left c l rows x h1 h2 hx hw h3 =>
      obtain ⟨g1, g2, g3⟩ := drop_of hX
      rw [hr] at g1
      cases g1
      obtain ⟨r2, rest, hrows, hr2⟩ := h3.head hn hx
      have hnext : X[i + 1]? = some r2 := by
        have : (X.drop (i + 1))[0]? = some r2 := by rw [g2, hrows]; rfl
        rwa [List.getElem?_drop] at this
      have := h3.ne
      refine ⟨n - 1, by omega, .inl ⟨by omega, l, ?_, by rw [g2]; exact h3⟩, fun h => absurd h (by omega), fun y z hy hz hw2 => ?_, fun q hle hq hw2 => ?_, fun _ _ _ _ _ _ => by omega, fun _ _ _ _ _ _ _ _ => by omega⟩
      · simp only
        rw [List.take_append_of_le_length (by omega), List.take_of_length_le (by omega), e, List.append_assoc]
      · rw [hnext] at hy
        cases hy
        rw [hr2] at hz
        cases hz
        exact absurd hw hw2
      · rw [e, List.getElem?_append_right (by omega), show all.length + n - 1 - all.length = c.length by omega, List.getElem?_append_right (by omega), Nat.sub_self, hx] at hq
        cases hq
        exact absurd hw hw2
  · omega
theorem ch_start {n : Nat} {xs : List Cl} {X : List Ln} (h : ChR n xs X) : CInv n xs X 0 [] := .inl ⟨h.ne, xs, rfl, by rw [List.drop_zero]; exact h⟩
theorem ch_end {n : Nat} {xs : List Cl} {X : List Ln} {i : Nat} {all : List Cl} (h : CInv n xs X i all) (hi : ¬ i < X.length) : ∃ k, all = xs ++ List.replicate k (blank Pen.zero) := by
  rcases h with ⟨h1, _⟩ | ⟨_, h⟩
  · omega
  · exact h
theorem ch_bd {n : Nat} {xs : List Cl} {X : List Ln} {i : Nat} {all : List Cl} (h : CInv n xs X i all) (hi : i < X.length) : all.length ≤ xs.length := by
  rcases h with ⟨_, l, e, _⟩ | ⟨h1, _⟩
  · rw [e]; simp
  · omega
/-! ### The places of the cells -/
theorem put_one {cols : Int} {st : List Ln × List Cl} {c : Cl} (hc : 1 ≤ cols) (hs : (st.2.length : Int) ≤ cols) (hw : c.w = 1) :
    putV cols [c] c.pen st = ((stE cols 1 st).1, (stE cols 1 st).2 ++ [c]) ∧ posn (putV cols [c] c.pen st) = stp cols (posn st) c ∧ posn (stE cols 1 st) = nx cols (posn st) 1 ∧ ((putV cols [c] c.pen st).2.length : Int) ≤ cols := by
  have hs2 : 0 ≤ (posn st).2 ∧ (posn st).2 ≤ cols := ⟨by simp only [posn]; omega, hs⟩
  have hnb := nx_bd (s := posn st) hc 1 (m := (posn st).1) ⟨by simp only [posn]; omega, Int.le_refl _⟩ hs2
  have hnd := need_bd hc 1
  have hfw : fw cols 1 = 1 := by unfold fw; split <;> omega
  have hpe := posn_stE (cols := cols) (st := st) hc (m := 1) (by omega)
  rw [show ((1 : Nat) : Int) = 1 from rfl] at hpe
  have hst : stp cols (posn st) c = ((nx cols (posn st) 1).1, (nx cols (posn st) 1).2 + 1) := by rw [stp, if_pos (by omega), hw, hfw]
  have hput : putV cols [c] c.pen st = ((stE cols 1 st).1, (stE cols 1 st).2 ++ [c]) := by
    show addV cols [c] c.pen (stE cols 1 st) = _
    rw [addV, if_neg (by simp; omega)]
  have hp2 : ((stE cols 1 st).2.length : Int) = (nx cols (posn st) 1).2 := congrArg Prod.snd hpe
  refine ⟨hput, ?_, hpe, ?_⟩
  · rw [hput, hst, ← hpe]
    simp [posn]
  · rw [hput]
    simp only [List.length_append, List.length_cons, List.length_nil]
    omega
theorem put_two {cols : Int} {st : List Ln × List Cl} {c d : Cl} (hc : 1 < cols) (hs : (st.2.length : Int) ≤ cols) (hw : c.w = 2) :
    putV cols [c, d] c.pen st = ((stE cols 2 st).1, (stE cols 2 st).2 ++ [c] ++ [d]) ∧ posn (putV cols [c, d] c.pen st) = stp cols (posn st) c ∧ posn (stE cols 2 st) = nx cols (posn st) 2 ∧ ((putV cols [c, d] c.pen st).2.length : Int) ≤ cols := by
  have hs2 : 0 ≤ (posn st).2 ∧ (posn st).2 ≤ cols := ⟨by simp only [posn]; omega, hs⟩
  have hnb := nx_bd (s := posn st) (by omega) 2 (m := (posn st).1) ⟨by simp only [posn]; omega, Int.le_refl _⟩ hs2
  have hfw : fw cols 2 = 2 := by unfold fw; split <;> omega
  have hnd := (fw_bd (cols := cols) (w := 2) (by omega) (by omega)).2
  have hpe := posn_stE (cols := cols) (st := st) (by omega) (m := 2) (by omega)
  rw [show ((2 : Nat) : Int) = 2 from rfl] at hpe
  have hst : stp cols (posn st) c = ((nx cols (posn st) 2).1, (nx cols (posn st) 2).2 + 2) := by rw [stp, if_pos (by omega), hw, hfw]
  have hput : putV cols [c, d] c.pen st = ((stE cols 2 st).1, (stE cols 2 st).2 ++ [c] ++ [d]) := by
    show addV cols [c, d] c.pen (stE cols 2 st) = _
    rw [addV, if_neg (by simp; omega)]
    simp
  have hp2 : ((stE cols 2 st).2.length : Int) = (nx cols (posn st) 2).2 := congrArg Prod.snd hpe
  refine ⟨hput, ?_, hpe, ?_⟩
  · rw [hput, hst, ← hpe]
    simp [posn, Int.add_assoc]
  · rw [hput]
    simp only [List.length_append, List.length_cons, List.length_nil]
    omega
def WeM (cols : Int) (l : List Cl) : Prop := ∀ st : List Ln × List Cl, (st.2.length : Int) ≤ cols → ∃ more s rest, (endV cols false (wrapG cols st l)).1 = st.1 ++ ⟨st.2 ++ more, s⟩ :: rest
theorem stE_ext {cols : Int} {m : Nat} {st : List Ln × List Cl} {F : List Ln} {now : List Cl} (h : ∃ more s rest, F = (stE cols m st).1 ++ ⟨(stE cols m st).2 ++ now ++ more, s⟩ :: rest) : ∃ more s rest, F = st.1 ++ ⟨st.2 ++ more, s⟩ :: rest := by
  obtain ⟨more, s, rest, h⟩ := h
  unfold stE at h
  split at h
  · exact ⟨List.replicate (cols.toNat - st.2.length) (blank Pen.zero), true, ⟨now ++ more, s⟩ :: rest, by rw [h]; simp [endV]⟩
  · exact ⟨now ++ more, s, rest, by rw [h, List.append_assoc]⟩
theorem wrapG_ext {cols : Int} (hc : 1 < cols) : ∀ l, rowR l = true → WeM cols l := by
  refine row_ind (fun st _ => ⟨_, _, [], rfl⟩) (fun c l hw _ ih st hs => ?_) (fun c d l hw hd _ ih st hs => ?_)
  · obtain ⟨h1, _, _, h4⟩ := put_one (by omega) hs hw
    rw [wrapG_one hw]
    have := ih _ h4
    rw [h1] at this ⊢
    exact stE_ext this
  · obtain ⟨h1, _, _, h4⟩ := put_two (d := d) hc hs hw
    rw [wrapG_two hw]
    have := ih _ h4
    rw [h1] at this ⊢
    obtain ⟨more, s, rest, e⟩ := this
    refine stE_ext (cols := cols) (m := 2) (now := [c] ++ [d]) ⟨more, s, rest, ?_⟩
    rw [e]
    simp
def WpM (cols : Int) (l : List Cl) : Prop := ∀ st : List Ln × List Cl, (st.2.length : Int) ≤ cols → ∀ (q : Nat) p x, (psG cols (posn st) l)[q]? = some p → l[q]? = some x → ∃ r : Ln, (endV cols false (wrapG cols st l)).1[p.1.toNat]? = some r ∧ r.cells[p.2.toNat]? = some x
theorem wrap_place {cols : Int} (hc : 1 < cols) : ∀ l, rowR l = true → WpM cols l := by
  refine row_ind (fun st _ q p x _ h => by simp at h) (fun c l hw hl ih st hs q p x hp hx => ?_) (fun c d l hw hd hl ih st hs q p x hp hx => ?_)
  · have hs2 : 0 ≤ (posn st).2 ∧ (posn st).2 ≤ cols := ⟨by simp only [posn]; omega, hs⟩
    obtain ⟨h1, h2, h3, h4⟩ := put_one (by omega) hs hw
    rw [wrapG_one hw]
    rw [(psG_one (by omega) hs2 hw l).1] at hp
    cases q with
    | zero =>
      simp only [List.getElem?_cons_zero, Option.some.injEq] at hp hx
      obtain ⟨more, s, rest, hF⟩ := wrapG_ext hc l hl _ h4
      rw [h1] at hF ⊢
      rw [hF, ← hp, ← h3, ← hx]
      refine ⟨⟨(stE cols 1 st).2 ++ [c] ++ more, s⟩, ?_, ?_⟩ <;> simp [posn]
    | succ q =>
      rw [List.getElem?_cons_succ] at hp hx
      exact ih _ h4 q p x (by rw [h2]; exact hp) hx
  · have hs2 : 0 ≤ (posn st).2 ∧ (posn st).2 ≤ cols := ⟨by simp only [posn]; omega, hs⟩
    obtain ⟨h1, h2, h3, h4⟩ := put_two (d := d) hc hs hw
    have hd0 : d.w = 0 := by rw [hd]; rfl
    rw [wrapG_two hw]
    rw [(psG_two (by omega) hs2 hw hd0 l).1, show dl cols = 1 from if_pos hc, ← h3] at hp
    match q with
    | 0 =>
      simp only [List.getElem?_cons_zero, Option.some.injEq] at hp hx
      obtain ⟨more, s, rest, hF⟩ := wrapG_ext hc l hl _ h4
      rw [h1] at hF ⊢
      rw [hF, ← hp, ← hx]
      refine ⟨⟨(stE cols 2 st).2 ++ [c] ++ [d] ++ more, s⟩, ?_, ?_⟩ <;> simp [posn]
    | 1 =>
      simp only [List.getElem?_cons_succ, List.getElem?_cons_zero, Option.some.injEq] at hp hx
      obtain ⟨more, s, rest, hF⟩ := wrapG_ext hc l hl _ h4
      rw [h1] at hF ⊢
      rw [hF, ← hp, ← hx]
      refine ⟨⟨(stE cols 2 st).2 ++ [c] ++ [d] ++ more, s⟩, ?_, ?_⟩
      · simp [posn]
      · have e : ((posn (stE cols 2 st)).2 + 1).toNat = (stE cols 2 st).2.length + 1 := by simp only [posn]; omega
        simp only [e]
        rw [List.append_assoc, List.append_assoc, List.getElem?_append_right (by omega), Nat.add_sub_cancel_left]
        rfl
    | q + 2 =>
      rw [List.getElem?_cons_succ, List.getElem?_cons_succ] at hp hx
      exact ih _ h4 q p x (by rw [h2]; exact hp) hx
def CtM (cols : Int) (l : List Cl) : Prop := ∀ s : Int × Int, 0 ≤ s.2 ∧ s.2 ≤ cols → ∀ (q : Nat) p, (psG cols s l)[q]? = some p → ((psG cols s l).filter (bf p)).length = q
theorem bf_true {a p : Int × Int} (h : ¬ ge2 a p) : bf a p = true := by
  cases hb : bf a p with
  | true => rfl
  | false => exact absurd (bf_ge.1 hb) h
theorem psG_count {cols : Int} (hc : 1 < cols) : ∀ l, rowR l = true → CtM cols l := by
  refine row_ind (fun s _ q p h => by simp [psG] at h) (fun c l hw hl ih s hs q p hp => ?_) (fun c d l hw hd hl ih s hs q p hp => ?_)
  · obtain ⟨g1, g2, g3⟩ := stp_ge (cols := cols) (by omega) s c (by omega)
    rw [hw] at g1 g2 g3
    rw [(psG_one (by omega) hs hw l).1] at hp ⊢
    cases q with
    | zero =>
      simp only [List.getElem?_cons_zero, Option.some.injEq] at hp
      subst hp
      have h0 : bf (nx cols s 1) (nx cols s 1) = false := bf_ge.2 (.inr ⟨rfl, Int.le_refl _⟩)
      rw [List.filter_cons, h0, none_before (by omega) hl (stp_col (by omega) hs c) g1]
      rfl
    | succ q =>
      rw [List.getElem?_cons_succ] at hp
      have hge := psG_ge (cols := cols) (by omega) l hl _ (stp_col (by omega) hs c) p (List.mem_of_getElem? hp)
      have h0 : bf p (nx cols s 1) = true := bf_true fun h => by rw [g2] at hge; unfold ge2 at h hge; simp only at hge; omega
      rw [List.filter_cons, h0, if_pos rfl, List.length_cons, ih _ (stp_col (by omega) hs c) q p hp]
  · have hd0 : d.w = 0 := by rw [hd]; rfl
    obtain ⟨g1, g2, g3⟩ := stp_ge (cols := cols) (by omega) s c (by omega)
    have hfw : fw cols 2 = 2 := by unfold fw; split <;> omega
    rw [hw] at g1 g2 g3
    rw [hfw] at g2
    rw [(psG_two (by omega) hs hw hd0 l).1, show dl cols = 1 from if_pos hc] at hp ⊢
    match q with
    | 0 =>
      simp only [List.getElem?_cons_zero, Option.some.injEq] at hp
      subst hp
      have h0 : bf (nx cols s 2) (nx cols s 2) = false := bf_ge.2 (.inr ⟨rfl, Int.le_refl _⟩)
      have h1 : bf (nx cols s 2) ((nx cols s 2).1, (nx cols s 2).2 + 1) = false := bf_ge.2 (.inr ⟨rfl, by simp only; omega⟩)
      rw [List.filter_cons, h0, List.filter_cons, h1, none_before (by omega) hl (stp_col (by omega) hs c) g1]
      rfl
    | 1 =>
      simp only [List.getElem?_cons_succ, List.getElem?_cons_zero, Option.some.injEq] at hp
      subst hp
      have h0 : bf ((nx cols s 2).1, (nx cols s 2).2 + 1) (nx cols s 2) = true := bf_true fun h => by unfold ge2 at h; simp only at h; omega
      have h1 : bf ((nx cols s 2).1, (nx cols s 2).2 + 1) ((nx cols s 2).1, (nx cols s 2).2 + 1) = false := bf_ge.2 (.inr ⟨rfl, Int.le_refl _⟩)
      rw [List.filter_cons, h0, if_pos rfl, List.filter_cons, h1, none_before (by omega) hl (stp_col (by omega) hs c) (by rw [g2]; exact .inr ⟨rfl, by simp only; omega⟩)]
      rfl
    | q + 2 =>
      rw [List.getElem?_cons_succ, List.getElem?_cons_succ] at hp
      have hge := psG_ge (cols := cols) (by omega) l hl _ (stp_col (by omega) hs c) p (List.mem_of_getElem? hp)
      rw [g2] at hge
      have h0 : bf p (nx cols s 2) = true := bf_true fun h => by unfold ge2 at h hge; simp only at hge; omega
      have h1 : bf p ((nx cols s 2).1, (nx cols s 2).2 + 1) = true := bf_true fun h => by unfold ge2 at h hge; simp only at hge h; omega
      rw [List.filter_cons, h0, if_pos rfl, List.filter_cons, h1, if_pos rfl, List.length_cons, List.length_cons, ih _ (stp_col (by omega) hs c) q p hp]
/-- a place, and what stands there -/
theorem hold_place {xs : List Cl} {cols : Int} (h : vW xs cols = true) (hc1 : 1 < cols) {q : Nat} (hq : q ≤ xs.length) :
    ((0 ≤ (rplV cols xs q).1 ∧ (rplV cols xs q).1 < ((wrapV xs cols).length : Int)) ∧ 0 ≤ (rplV cols xs q).2 ∧ (rplV cols xs q).2 < cols) ∧
    (∀ x, xs[q]? = some x → ∃ r : Ln, (wrapV xs cols)[(rplV cols xs q).1.toNat]? = some r ∧ r.cells[(rplV cols xs q).2.toNat]? = some x) ∧
    inA xs cols (rplV cols xs q) = true ∧ (q < xs.length → indexV xs cols (rplV cols xs q) = (q : Int)) ∧ (0 ≤ indexV xs cols (rplV cols xs q) ∧ indexV xs cols (rplV cols xs q) ≤ (q : Int)) := by
  obtain ⟨hc, hl30, hr⟩ := vW_parts h
  have hs : (0 : Int) ≤ ((0, 0) : Int × Int).2 ∧ ((0, 0) : Int × Int).2 ≤ cols := by simp only; omega
  have hb := plR_bd cols xs
  have hlen : (wrapV xs cols).length = rowsN cols xs := by rw [wrapV_ref h, refW_length]
  have hin : ((0 ≤ (rplV cols xs q).1 ∧ (rplV cols xs q).1 < ((wrapV xs cols).length : Int)) ∧ 0 ≤ (rplV cols xs q).2 ∧ (rplV cols xs q).2 < cols) := by
    rw [hlen]
    unfold rplV
    split
    · rename_i p hp
      exact plR_in h hp
    · simp only [rowsN]
      refine ⟨by omega, ?_⟩
      unfold fw
      split <;> omega
  have hA : inA xs cols (rplV cols xs q) = true := by
    have h1 := rows_eq h
    rw [hlen, rowsN] at hin
    simp [inA, h1]
    omega
  have hix := index_eq h hA
  refine ⟨hin, fun x hx => ?_, hA, fun hq2 => ?_, ?_⟩
  · obtain ⟨p, hp⟩ := plR_get cols (xs := xs) (List.getElem?_eq_some_iff.1 hx).1
    have e : rplV cols xs q = p := by unfold rplV; simp only [hp]
    rw [e, wrapV, h, if_pos rfl]
    rw [plR_eq] at hp
    exact wrap_place hc1 xs hr ([], []) (by simp; omega) q p x hp hx
  · obtain ⟨p, hp⟩ := plR_get cols (xs := xs) hq2
    have e : rplV cols xs q = p := by unfold rplV; simp only [hp]
    rw [hix, e, rixV]
    rw [plR_eq] at hp ⊢
    rw [psG_count hc1 xs hr (0, 0) hs q p hp]
  · rw [hix]
    by_cases hq2 : q < xs.length
    · obtain ⟨p, hp⟩ := plR_get cols (xs := xs) hq2
      have e : rplV cols xs q = p := by unfold rplV; simp only [hp]
      rw [e, rixV]
      rw [plR_eq] at hp ⊢
      rw [psG_count hc1 xs hr (0, 0) hs q p hp]
      omega
    · have h1 := List.length_filter_le (bf (rplV cols xs q)) (plR cols xs).1
      rw [rixV]
      omega
end Go.Proofs.YtdmpodpdpncobaaDoor
