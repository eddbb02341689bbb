/-
  Places and indices as the program and as the reference see them. No condition.
-/
import Derived.Test.YtdmpodpdpncobaaDoorWrp
namespace Go.Proofs.YtdmpodpdpncobaaDoor
open Go.RowKit
set_option linter.unusedSimpArgs false
set_option linter.unusedVariables false
/-! ### The places of a row's cells, as both see them -/
/-- what may be shown of rows -/
theorem row_ind {motive : List Cl → Prop} (nil : motive []) (one : ∀ c l, c.w = 1 → rowR l = true → motive l → motive (c :: l))
    (two : ∀ c d l, c.w = 2 → d = spacer c.pen → rowR l = true → motive l → motive (c :: d :: l)) : ∀ l, rowR l = true → motive l := by
  have : ∀ n (l : List Cl), l.length ≤ n → rowR l = true → motive l := by
    intro n
    induction n with
    | zero =>
      intro l h _
      obtain rfl : l = [] := List.length_eq_zero_iff.1 (by omega)
      exact nil
    | succ n ih =>
      intro l h hr
      cases l with
      | nil => exact nil
      | cons c l =>
        have hw := vCl_w c (rowFrom_v _ none hr c (by simp))
        simp only [List.length_cons] at h
        rcases hw with hw | hw | hw
        · rw [rowR_zero c l hw] at hr; cases hr
        · rw [rowR_one c l hw, Bool.and_eq_true] at hr
          exact one c l hw hr.2 (ih l (by omega) hr.2)
        · cases l with
          | nil => rw [rowR_two_nil c hw] at hr; cases hr
          | cons d l =>
            rw [rowR_two c d l hw, Bool.and_eq_true, Bool.and_eq_true, decide_eq_true_eq] at hr
            simp only [List.length_cons] at h
            exact two c d l hw hr.2.1 hr.2.2 (ih l (by omega) hr.2.2)
  exact fun l => this l.length l (Nat.le_refl _)
def dl (cols : Int) : Int := if 1 < cols then 1 else 0
/-- where a cell is put, and the state behind it -/
def pos1 (cols : Int) (s : Int × Int) (c : Cl) : Int × Int := if c.w = 0 then (s.1, s.2 + dl cols - 1) else if goesOn cols s.2 c then (s.1 + 1, 0) else s
def st1 (cols : Int) (s : Int × Int) (c : Cl) : Int × Int := if c.w = 0 then (s.1, s.2 + dl cols) else if goesOn cols s.2 c then (s.1 + 1, 1) else (s.1, s.2 + 1)
def psG (cols : Int) : Int × Int → List Cl → List (Int × Int)
  | _, [] => []
  | s, c :: l => pos1 cols s c :: psG cols (st1 cols s c) l
theorem plR_fold (cols : Int) : ∀ (l : List Cl) (ps : List (Int × Int)) (s : Int × Int), l.foldl (pstep cols) (ps, s) = (ps ++ psG cols s l, l.foldl (st1 cols) s)
  | [], ps, s => by simp [psG]
  | c :: l, ps, s => by
    have h : pstep cols (ps, s) c = (ps ++ [pos1 cols s c], st1 cols s c) := by
      unfold pstep pos1 st1 dl
      split
      · split <;> simp
      · split <;> rfl
    rw [List.foldl_cons, h, plR_fold cols l, psG, List.foldl_cons, List.append_assoc]
    rfl
theorem plR_eq (cols : Int) (xs : List Cl) : plR cols xs = (psG cols (0, 0) xs, xs.foldl (st1 cols) (0, 0)) := by
  rw [plR, plR_fold, List.nil_append]
section
variable {cols : Int} (hc : 1 ≤ cols) {s : Int × Int} (hs : 0 ≤ s.2 ∧ s.2 ≤ cols)
include hc hs
theorem pos1_nx {c : Cl} (hw : c.w = 1 ∨ c.w = 2) : pos1 cols s c = nx cols s c.w ∧ st1 cols s c = ((nx cols s c.w).1, (nx cols s c.w).2 + 1) := by
  obtain ⟨r, k⟩ := s
  simp only at hs
  have hg : goesOn cols k c = decide (cols < k + need cols c.w) := by
    rw [Bool.eq_iff_iff]
    simp only [goesOn, Bool.or_eq_true, Bool.and_eq_true, decide_eq_true_eq, need]
    rcases hw with hw | hw <;> rw [hw] <;> simp <;> split <;> omega
  have h0 : ¬ c.w = 0 := by omega
  unfold pos1 st1 nx
  rw [if_neg h0, if_neg h0, hg]
  simp only [decide_eq_true_eq]
  split <;> simp
theorem psG_one {c : Cl} (hw : c.w = 1) (l : List Cl) : psG cols s (c :: l) = nx cols s 1 :: psG cols (stp cols s c) l ∧ st1 cols s c = stp cols s c := by
  obtain ⟨h1, h2⟩ := pos1_nx hc hs (.inl hw)
  have h3 : stp cols s c = st1 cols s c := by
    rw [h2, stp, if_pos (by omega), hw]
    have : fw cols 1 = 1 := by unfold fw; split <;> omega
    rw [this]
  exact ⟨by rw [psG, h1, h3, hw], h3.symm⟩
theorem psG_two {c d : Cl} (hw : c.w = 2) (hd : d.w = 0) (l : List Cl) : psG cols s (c :: d :: l) = nx cols s 2 :: ((nx cols s 2).1, (nx cols s 2).2 + dl cols) :: psG cols (stp cols s c) l ∧ st1 cols (st1 cols s c) d = stp cols s c := by
  obtain ⟨h1, h2⟩ := pos1_nx hc hs (.inr hw)
  have h3 : stp cols s c = st1 cols (st1 cols s c) d := by
    rw [h2, stp, if_pos (by omega), hw, st1, if_pos hd]
    have : fw cols 2 = 1 + dl cols := by unfold fw dl; split <;> split <;> omega
    rw [this, Int.add_assoc]
  refine ⟨?_, h3.symm⟩
  rw [psG, psG, ← h3, h1, h2, hw, pos1, if_pos hd]
  simp only [List.cons.injEq, Prod.mk.injEq, true_and, and_true]
  omega
theorem stp_col (c : Cl) : 0 ≤ (stp cols s c).2 ∧ (stp cols s c).2 ≤ cols := by
  unfold stp
  split
  · rename_i hw
    have h4 := fw_bd hw hc
    have h5 := need_bd hc c.w
    unfold nx
    split <;> simp only <;> omega
  · exact hs
end
theorem stp_zero {cols : Int} {s : Int × Int} {d : Cl} (hd : d.w = 0) : stp cols s d = s := by rw [stp, if_neg (by omega)]
/-- behind a row both are at the same place -/
theorem fold_eq {cols : Int} (hc : 1 ≤ cols) : ∀ l, rowR l = true → ∀ s : Int × Int, 0 ≤ s.2 ∧ s.2 ≤ cols → l.foldl (st1 cols) s = l.foldl (stp cols) s := by
  refine row_ind (motive := fun l => ∀ s : Int × Int, 0 ≤ s.2 ∧ s.2 ≤ cols → l.foldl (st1 cols) s = l.foldl (stp cols) s) (fun s _ => rfl) (fun c l hw _ ih s hs => ?_) (fun c d l hw hd _ ih s hs => ?_)
  · rw [List.foldl_cons, List.foldl_cons, (psG_one hc hs hw l).2]
    exact ih _ (stp_col hc hs c)
  · have hd0 : d.w = 0 := by rw [hd]; rfl
    rw [List.foldl_cons, List.foldl_cons, List.foldl_cons, List.foldl_cons, (psG_two hc hs hw hd0 l).2, stp_zero hd0]
    exact ih _ (stp_col hc hs c)
theorem bh_cons (c : Cl) (l : List Cl) (q : Nat) : bh (c :: l) (q + 1) = if q = 0 then c.w == 2 else bh l q := by
  unfold bh pvAt
  cases q with
  | zero => simp
  | succ q => simp
def atP (cols : Int) (s : Int × Int) (l : List Cl) (q : Nat) (y : Cl) : Int × Int := if bh l q then (((l.take q).foldl (stp cols) s).1, ((l.take q).foldl (stp cols) s).2 - 1) else nx cols ((l.take q).foldl (stp cols) s) y.w
def PsM (cols : Int) (l : List Cl) : Prop := ∀ s : Int × Int, 0 ≤ s.2 ∧ s.2 ≤ cols → ∀ q y, l[q]? = some y → (psG cols s l)[q]? = some (atP cols s l q y)
/-- the place of a cell, as the reference sees it -/
theorem psG_get {cols : Int} (hc : 1 ≤ cols) : ∀ l, rowR l = true → PsM cols l := by
  refine row_ind (fun s _ q y h => by simp at h) (fun c l hw _ ih s hs q y h => ?_) (fun c d l hw hd _ ih s hs q y h => ?_) <;> unfold atP
  · rw [(psG_one hc hs hw l).1]
    cases q with
    | zero =>
      simp only [List.getElem?_cons_zero, Option.some.injEq] at h
      subst h
      rw [bh_zero (by omega), hw, List.getElem?_cons_zero, List.take_zero, List.foldl_nil]
      simp only [Bool.false_eq_true, if_false]
    | succ q =>
      rw [List.getElem?_cons_succ] at h ⊢
      rw [ih _ (stp_col hc hs c) q y h, atP, bh_cons, List.take_succ_cons, List.foldl_cons]
      cases q with
      | zero => rw [bh_zero (by omega), if_pos rfl, hw]; rfl
      | succ q => rw [if_neg (show ¬ q + 1 = 0 by omega)]
  · have hd0 : d.w = 0 := by rw [hd]; rfl
    rw [(psG_two hc hs hw hd0 l).1]
    match q with
    | 0 =>
      simp only [List.getElem?_cons_zero, Option.some.injEq] at h
      subst h
      rw [bh_zero (by omega), hw, List.getElem?_cons_zero, List.take_zero, List.foldl_nil]
      simp only [Bool.false_eq_true, if_false]
    | 1 =>
      have h1 : bh (c :: d :: l) 1 = true := by rw [bh_cons, if_pos rfl, hw]; rfl
      have h2 : stp cols s c = ((nx cols s 2).1, (nx cols s 2).2 + fw cols 2) := by rw [stp, if_pos (by omega), hw]
      have h3 : fw cols 2 = 1 + dl cols := by unfold fw dl; split <;> split <;> omega
      rw [h1, if_pos rfl, List.take_succ_cons, List.take_zero, List.foldl_cons, List.foldl_nil, h2, h3]
      simp only [List.getElem?_cons_succ, List.getElem?_cons_zero, Option.some.injEq, Prod.mk.injEq, true_and]
      omega
    | q + 2 =>
      rw [List.getElem?_cons_succ, List.getElem?_cons_succ] at h ⊢
      rw [ih _ (stp_col hc hs c) q y h, atP, bh_cons, if_neg (show ¬ q + 1 = 0 by omega), bh_cons, List.take_succ_cons, List.take_succ_cons, List.foldl_cons, List.foldl_cons, stp_zero hd0]
      cases q with
      | zero => rw [bh_zero (by omega), if_pos rfl, hd0]; rfl
      | succ q => rw [if_neg (show ¬ q + 1 = 0 by omega)]
theorem bh_end : ∀ l, rowR l = true → bh l l.length = false := by
  refine row_ind (motive := fun l => bh l l.length = false) rfl (fun c l hw _ ih => ?_) (fun c d l hw hd _ ih => ?_)
  · rw [List.length_cons, bh_cons]
    split
    · rw [hw]; rfl
    · exact ih
  · rw [List.length_cons, bh_cons, List.length_cons, if_neg (by omega), bh_cons]
    split
    · rw [hd]; rfl
    · exact ih
/-- Place is what the reference says -/
theorem plV_eq {xs : List Cl} {cols : Int} (h : vW xs cols = true) {q : Nat} (hq : q ≤ xs.length) : plV xs cols q = rplV cols xs q := by
  obtain ⟨hc, _, hr⟩ := vW_parts h
  have hs : 0 ≤ ((0, 0) : Int × Int).2 ∧ ((0, 0) : Int × Int).2 ≤ cols := by simp only; omega
  unfold plV rplV
  rw [plR_eq]
  by_cases hq2 : q < xs.length
  · obtain ⟨y, hy⟩ : ∃ y, xs[q]? = some y := ⟨_, List.getElem?_eq_getElem hq2⟩
    simp only [psG_get hc.1 xs hr (0, 0) hs q y hy, hy, atP]
    have hw := rowR_w hr hy
    have hb := goW_bd hc.1 (xs.take q)
    have hn := nx_bd (s := goW cols (xs.take q)) hc.1 y.w hb.1 hb.2
    have hnd := need_bd hc.1 y.w
    split
    · rfl
    · show _ = nx cols (goW cols (xs.take q)) y.w
      rw [fw, if_neg (by omega)]
  · have e : q = xs.length := by omega
    subst e
    have hn : (psG cols (0, 0) xs)[xs.length]? = none := by
      have h1 := (plR_bd cols xs).1
      rw [plR_eq] at h1
      simp only at h1
      simp [h1]
    have hn2 : xs[xs.length]? = none := by simp
    simp only [hn, hn2, bh_end xs hr, fold_eq hc.1 xs hr (0, 0) hs, List.take_length]
    rfl
/-- Rows is what the reference says -/
theorem rows_eq {xs : List Cl} {cols : Int} (h : vW xs cols = true) : rowsV xs cols = (plR cols xs).2.1 + 1 := by
  obtain ⟨hc, _, hr⟩ := vW_parts h
  rw [rowsV, if_pos h, plR_eq]
  simp only [fold_eq hc.1 xs hr (0, 0) (by simp only; omega)]
  rfl
/-! ### Index -/
end Go.Proofs.YtdmpodpdpncobaaDoor
