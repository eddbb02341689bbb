/-
  What logical lines are. No condition.
-/
import Derived.Test.YtdmpodpdpncobaaDoorUnm
import Derived.Test.YtdmpodpdpncobaaDoorHld
namespace Go.Proofs.YtdmpodpdpncobaaDoor
open Go.RowKit
set_option linter.unusedSimpArgs false
set_option linter.unusedVariables false
/-! ### What logical lines are -/
theorem rowR_dropL : ∀ l, rowR l = true → ∀ a c, l = a ++ [c] → c.w = 1 → rowR a = true := by
  refine row_ind2 (motive := fun l => ∀ a c, l = a ++ [c] → c.w = 1 → rowR a = true) (fun a c e _ => by simp at e) (fun x l hv hw _ ih a c e hc => ?_) (fun x d l hv hw hd _ ih a c e hc => ?_)
  · cases a with
    | nil => rfl
    | cons y a =>
      rw [List.cons_append] at e
      injection e with e1 e2
      subst e1
      rw [rowR_one x _ hw, hv, ih a c e2 hc]; rfl
  · match a with
    | [] => simp at e
    | [y] =>
      simp only [List.cons_append, List.nil_append, List.cons.injEq] at e
      rw [← e.2.1, hd] at hc
      simp [spacer] at hc
    | y :: z :: a =>
      simp only [List.cons_append, List.cons.injEq] at e
      obtain ⟨rfl, rfl, e3⟩ := e
      rw [rowR_two x d _ hw, hv, ih a c e3 hc, hd]; simp
theorem isB_w {c : Cl} (h : isB c = true) : c.w = 1 := by
  rw [of_decide_eq_true h]; rfl
theorem snoc_ind {motive : List Cl → Prop} (nil : motive []) (snoc : ∀ a c, motive a → motive (a ++ [c])) : ∀ l, motive l := by
  have : ∀ n l, l.length = n → motive l := by
    intro n
    induction n with
    | zero => intro l h; obtain rfl := List.length_eq_zero_iff.1 h; exact nil
    | succ n ih =>
      intro l h
      obtain ⟨x, hx⟩ : ∃ x, l[n]? = some x := ⟨l[n], List.getElem?_eq_getElem (by omega)⟩
      have e : l = l.take n ++ [x] := by
        have := take_snoc hx
        rwa [List.take_of_length_le (by omega)] at this
      rw [e]
      exact snoc _ _ (ih _ (by simp; omega))
  exact fun l => this _ l rfl
theorem rowR_trim : ∀ l, rowR l = true → rowR (trimV l) = true := by
  refine snoc_ind (motive := fun l => rowR l = true → rowR (trimV l) = true) (fun h => h) (fun a c ih h => ?_)
  rw [trimV_snoc]
  split
  · rename_i hb
    exact ih (rowR_dropL _ h a c rfl (isB_w hb))
  · exact h
theorem trim_last : ∀ l, ∀ x, (trimV l)[(trimV l).length - 1]? = some x → isB x = false := by
  refine snoc_ind (motive := fun l => ∀ x, (trimV l)[(trimV l).length - 1]? = some x → isB x = false) (fun x h => by simp [trimV_nil] at h) (fun a c ih x h => ?_)
  rw [trimV_snoc] at h
  split at h
  · exact ih x h
  · rename_i hb
    simp at h
    rw [← h]
    simpa using hb
theorem trim_blanks (l : List Cl) : ∀ k, trimV (l ++ List.replicate k (blank Pen.zero)) = trimV l
  | 0 => by simp
  | k + 1 => by
    rw [List.replicate_succ', ← List.append_assoc, trimV_snoc, if_pos (by simp [isB]), trim_blanks l k]
theorem rowR_kept {x y : List Cl} (h : rowR x = true) : rowR (keptV x y) = true := by
  unfold keptV keptN
  split
  · rename_i c hc
    split
    · rename_i hb
      rw [Bool.and_eq_true] at hb
      have h0 : 0 < x.length := by
        cases x with
        | nil => simp at hc
        | cons => simp
      have e : x = x.take (x.length - 1) ++ [c] := by
        have := take_snoc hc
        rwa [show x.length - 1 + 1 = x.length by omega, List.take_length] at this
      exact rowR_dropL x h _ c e (isB_w hb.1)
    · rw [List.take_length]; exact h
  · rw [List.take_length]; exact h
theorem rowR_all : ∀ l : List (List Cl), (∀ x ∈ l, rowR x = true) → rowR (allV l) = true
  | [], _ => rfl
  | x :: l, h => by
    rw [allV]
    refine rowR_append (rowR_all l fun y hy => h y (List.mem_cons_of_mem _ hy)) _ ?_
    have hx := h x (List.mem_cons_self ..)
    cases l with
    | nil => exact hx
    | cons y l => exact rowR_kept hx
/-- logical lines have all rows from n on, in order -/
def OkG (X : List Ln) : Nat → List Lg → Prop
  | n, [] => n = X.length
  | n, y :: t => ∃ r : Nat, y.rows = (r : Int) ∧ y.frm = (n : Int) ∧ 1 ≤ r ∧ n + r ≤ X.length ∧ rowR y.cells = true ∧ (∀ x, y.cells[y.cells.length - 1]? = some x → isB x = false) ∧
    (∀ k z, k < r → X[n + k]? = some z → z.soft = decide (k + 1 < r) ∨ X.length ≤ n + k + 1) ∧ OkG X (n + r) t
theorem ok_lg {X : List Ln} (hv : ∀ x ∈ X, rowR x.cells = true) : ∀ (l : List Ln) (i f : Nat), X.drop i = l → f ≤ i → (l = [] → f = i) → i ≤ X.length → (∀ j z, f ≤ j → j < i → X[j]? = some z → z.soft = true) → OkG X f (lgG ((X.take i).drop f) f l)
  | [], i, f, hd, hf, he, hi, hs => by
    rw [List.drop_eq_nil_iff] at hd
    rw [lgG, OkG, he rfl]
    omega
  | x :: l, i, f, hd, hf, he, hi, hs => by
    obtain ⟨h1, h2, h3⟩ := drop_of hd
    have hcur : (X.take (i + 1)).drop f = (X.take i).drop f ++ [x] := cur_snoc h1 hf
    have hcl : ((X.take i).drop f).length = i - f := by rw [List.length_drop, List.length_take]; omega
    rw [lgG]
    split
    · rename_i hsx
      rw [Bool.and_eq_true] at hsx
      rw [← hcur]
      refine ok_lg hv l (i + 1) f h2 (by omega) (fun e => by rw [e] at hsx; cases hsx.2) (by omega) fun j z hj1 hj2 hz => ?_
      by_cases hj : j = i
      · subst hj
        rw [h1] at hz
        cases hz
        exact hsx.1
      · exact hs j z hj1 (by omega) hz
    · rename_i hsx
      refine ⟨i + 1 - f, ?_, rfl, by omega, by omega, ?_, trim_last _, ?_, ?_⟩
      · simp only [hcl]; omega
      · refine rowR_trim _ (rowR_all _ fun c hc => ?_)
        obtain ⟨z, hz, rfl⟩ := List.mem_map.1 hc
        rw [← hcur] at hz
        exact hv z (List.mem_of_mem_take (List.mem_of_mem_drop hz))
      · intro k z hk hz
        by_cases hk2 : f + k = i
        · rw [hk2, h1] at hz
          cases hz
          by_cases hl : l = []
          · right
            rw [hl] at h3
            simp at h3
            omega
          · left
            have hsf : x.soft = false := by
              cases hx : x.soft with
              | false => rfl
              | true =>
                rw [hx] at hsx
                cases l with
                | nil => exact absurd rfl hl
                | cons => simp at hsx
            rw [hsf, decide_eq_false (by omega)]
        · left
          rw [hs (f + k) z (by omega) (by omega) hz, decide_eq_true (by omega)]
      · rw [hcl, show f + (i - f) + 1 = i + 1 by omega, show f + (i + 1 - f) = i + 1 by omega]
        have := ok_lg hv l (i + 1) (i + 1) h2 (Nat.le_refl _) (fun _ => rfl) (by omega) fun j z hj1 hj2 => by omega
        rwa [cur_nil] at this
theorem ok_lines {X : List Ln} (hv : vLs X = true) : OkG X 0 (lgG [] 0 X) := by
  rw [vLs, Bool.and_eq_true, List.all_eq_true] at hv
  have := ok_lg (X := X) (fun x hx => by
    have h1 := hv.2 x hx
    rw [vLine, Bool.and_eq_true] at h1
    exact h1.2) X 0 0 rfl (Nat.le_refl _) (fun _ => rfl) (Nat.zero_le _) fun j z h1 h2 => by omega
  rwa [List.take_zero, List.drop_nil] at this
/-! ### What was wrapped is one logical line -/
theorem ChR.nilhead {n : Nat} (hn : 2 ≤ n) {l : List Cl} {rows : List Ln} (h : ChR n l rows) (e : l = []) : ∃ r rest, rows = r :: rest ∧ wideH r.cells = false := by
  cases h with
  | last h1 h2 =>
    subst e
    refine ⟨_, _, rfl, ?_⟩
    rw [List.nil_append, List.length_nil, Nat.sub_zero]
    obtain ⟨m, rfl⟩ : ∃ m, n = m + 1 := ⟨n - 1, by omega⟩
    rw [List.replicate_succ]
    rfl
  | full h1 h2 h3 =>
    have := congrArg List.length e
    simp only [List.length_append, List.length_nil] at this
    omega
  | left h1 h2 _ _ h3 =>
    have := congrArg List.length e
    simp only [List.length_append, List.length_nil] at this
    omega
def NoB (l : List Cl) : Prop := ∀ (i : Nat) (x y : Cl), l[i]? = some x → l[i + 1]? = some y → isB x = true → y.w ≠ 2
theorem ch_all {n : Nat} (hn : 2 ≤ n) {l : List Cl} {rows : List Ln} (h : ChR n l rows) : NoB l → ∃ k, allV (rows.map Ln.cells) = l ++ List.replicate k (blank Pen.zero) := by
  induction h with
  | @last l h1 h2 => exact fun _ => ⟨n - l.length, by simp [allV, kept1]⟩
  | @full c l rows h1 h2 h3 ih =>
    intro hb
    obtain ⟨k, hk⟩ := ih fun i x y hx hy => hb (c.length + i) x y (by rw [List.getElem?_append_right (by omega), Nat.add_sub_cancel_left]; exact hx) (by rw [List.getElem?_append_right (by omega), show c.length + i + 1 - c.length = i + 1 by omega]; exact hy)
    refine ⟨k, ?_⟩
    have hkept : kept1 c (rows.map Ln.cells) = c := by
      cases rows with
      | nil => rfl
      | cons r t =>
        show keptV c r.cells = c
        obtain ⟨q, hq⟩ : ∃ q, c[c.length - 1]? = some q := ⟨c[c.length - 1], List.getElem?_eq_getElem (by omega)⟩
        have hno : (isB q && wideH r.cells) = false := by
          cases hbq : isB q with
          | false => rfl
          | true =>
            cases hw : wideH r.cells with
            | false => rfl
            | true =>
              exfalso
              cases l with
              | nil =>
                obtain ⟨r2, rest, e1, e2⟩ := h3.nilhead hn rfl
                injection e1 with e3 _
                rw [e3, e2] at hw
                cases hw
              | cons z l =>
                obtain ⟨r2, rest, e1, e2⟩ := h3.head hn (x := z) rfl
                injection e1 with e3 _
                rw [e3, wideH_get e2] at hw
                exact hb (c.length - 1) q z (by rw [List.getElem?_append_left (by omega)]; exact hq) (by rw [List.getElem?_append_right (by omega), show c.length - 1 + 1 - c.length = 0 by omega]; rfl) hbq (by simpa using hw)
        rw [keptV, keptN_some hq, hno, if_neg (by decide), List.take_length]
    rw [List.map_cons, allV, hkept, hk, List.append_assoc]
  | @left c l rows x h1 h2 hx hw h3 ih =>
    intro hb
    obtain ⟨k, hk⟩ := ih fun i x y hx hy => hb (c.length + i) x y (by rw [List.getElem?_append_right (by omega), Nat.add_sub_cancel_left]; exact hx) (by rw [List.getElem?_append_right (by omega), show c.length + i + 1 - c.length = i + 1 by omega]; exact hy)
    refine ⟨k, ?_⟩
    obtain ⟨r2, rest, e1, e2⟩ := h3.head hn hx
    have hkept : kept1 (c ++ [blank Pen.zero]) (rows.map Ln.cells) = c := by
      rw [e1]
      show keptV (c ++ [blank Pen.zero]) r2.cells = c
      have hl : (c ++ [blank Pen.zero]).length = c.length + 1 := by simp
      rw [keptV, keptN_some (c := blank Pen.zero) (by rw [hl, Nat.add_sub_cancel, List.getElem?_append_right (Nat.le_refl _), Nat.sub_self]; rfl), wideH_get e2, hw, hl]
      simp [isB]
    rw [List.map_cons, allV, hkept, hk, List.append_assoc]
/-! ### What the laws ask -/
end Go.Proofs.YtdmpodpdpncobaaDoor
