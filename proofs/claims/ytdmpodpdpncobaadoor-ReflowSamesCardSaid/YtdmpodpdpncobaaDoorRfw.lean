/-
  The rows of the reference are those of the program. No condition.
-/
import Derived.Test.YtdmpodpdpncobaaDoorPla
namespace Go.Proofs.YtdmpodpdpncobaaDoor
open Go.RowKit
set_option linter.unusedSimpArgs false
set_option linter.unusedVariables false
/-! ### The rows of the reference -/
def rcell (cols : Int) (c : Cl) : Cl := if 1 < cols then c else if c.w = 1 then c else blank c.pen
def rcol (cols : Int) (p : Int × Int) : Nat := if 1 < cols then p.2.toNat else 0
def Ln.put (l : Ln) (k : Nat) (c : Cl) : Ln := { l with cells := l.cells.set k c }
def rput (cols : Int) (out : List Ln) (q : (Int × Int) × Cl) : List Ln := match out[q.1.1.toNat]? with
  | some l => out.set q.1.1.toNat (l.put (rcol cols q.1) (rcell cols q.2))
  | none => out
/-- the last rows, k of them, of which the first one has begun -/
def tl (cols : Int) : Nat → List Cl → List Ln
  | 0, _ => []
  | k + 1, now => ⟨now ++ List.replicate (cols.toNat - now.length) (blank Pen.zero), decide (0 < k)⟩ :: tl cols k []
def rowsN (cols : Int) (xs : List Cl) : Nat := ((plR cols xs).2.1 + 1).toNat
def refW (cols : Int) (xs : List Cl) : List Ln := ((plR cols xs).1.zip xs).foldl (rput cols) (tl cols (rowsN cols xs) [])
def lay (cols : Int) (R : Nat) (st : List Ln × List Cl) : List Ln := st.1 ++ tl cols (R - st.1.length) st.2
theorem tl_length (cols : Int) : ∀ (k : Nat) (now : List Cl), (tl cols k now).length = k
  | 0, _ => rfl
  | k + 1, _ => by rw [tl, List.length_cons, tl_length cols k]
theorem tl_get (cols : Int) : ∀ (k r : Nat), r < k → (tl cols k [])[r]? = some ⟨List.replicate cols.toNat (blank Pen.zero), decide (r + 1 < k)⟩
  | k + 1, 0, _ => by simp [tl]
  | k + 1, r + 1, h => by
    rw [tl, List.getElem?_cons_succ, tl_get cols k r (by omega)]
    simp
theorem set_end {α : Type} (a : List α) (m : Nat) (y c : α) (hm : 0 < m) : (a ++ List.replicate m y).set a.length c = a ++ [c] ++ List.replicate (m - 1) y := by
  obtain ⟨m, rfl⟩ : ∃ q, m = q + 1 := ⟨m - 1, by omega⟩
  rw [List.set_append_right _ _ (Nat.le_refl _), Nat.sub_self, List.replicate_succ]
  simp
section
variable {cols : Int} {R : Nat} {st : List Ln × List Cl}
theorem lay_open (h : st.1.length < R) : lay cols R st = st.1 ++ ⟨st.2 ++ List.replicate (cols.toNat - st.2.length) (blank Pen.zero), decide (1 < R - st.1.length)⟩ :: tl cols (R - st.1.length - 1) [] := by
  obtain ⟨k, hk⟩ : ∃ k, R - st.1.length = k + 1 := ⟨R - st.1.length - 1, by omega⟩
  rw [lay, hk, tl]
  simp
theorem rput_lay {p : Int × Int} {c : Cl} (h : st.1.length < R) (hn : (st.2.length : Int) < cols) (hp : p.1 = (st.1.length : Int)) (hq : rcol cols p = st.2.length) : rput cols (lay cols R st) (p, c) = lay cols R (st.1, st.2 ++ [rcell cols c]) := by
  have h2 : (st.1, st.2 ++ [rcell cols c]).1.length < R := h
  rw [lay_open h, lay_open h2, rput, hp, Int.toNat_natCast, List.getElem?_append_right (Nat.le_refl _), Nat.sub_self]
  simp only [List.getElem?_cons_zero, hq]
  rw [List.set_append_right _ _ (Nat.le_refl _), Nat.sub_self, List.set_cons_zero]
  simp only [Ln.put]
  rw [set_end _ _ _ _ (by omega)]
  simp only [List.length_append, List.length_cons, List.length_nil, Nat.zero_add]
  rw [show cols.toNat - st.2.length - 1 = cols.toNat - (st.2.length + 1) by omega]
theorem rput_again {p : Int × Int} {c : Cl} {rows : List Ln} {y : Cl} (h : rows.length < R) (hp : p.1 = (rows.length : Int)) (hq : rcol cols p = 0) (hc : rcell cols c = y) : rput cols (lay cols R (rows, [y])) (p, c) = lay cols R (rows, [y]) := by
  have h2 : (rows, [y]).1.length < R := h
  rw [lay_open h2, rput, hp, Int.toNat_natCast]
  simp only
  rw [List.getElem?_append_right (Nat.le_refl _), Nat.sub_self]
  simp only [List.getElem?_cons_zero, hq, hc, Ln.put]
  rw [List.set_append_right _ _ (Nat.le_refl _), Nat.sub_self, List.set_cons_zero]
  simp
theorem lay_end (h : st.1.length + 1 < R) : lay cols R (endV cols true st) = lay cols R st := by
  have h2 : (endV cols true st).1.length < R := by simp [endV]; omega
  rw [lay_open h2, lay_open (by omega)]
  obtain ⟨k, hk⟩ : ∃ k, R - st.1.length = k + 2 := ⟨R - st.1.length - 2, by omega⟩
  have hk2 : R - (st.1.length + 1) = k + 1 := by omega
  simp only [endV, List.length_append, List.length_cons, List.length_nil, Nat.zero_add, hk, hk2, Nat.add_sub_cancel, List.append_assoc]
  have e : tl cols (k + 2 - 1) [] = ⟨[] ++ List.replicate (cols.toNat - 0) (blank Pen.zero), decide (0 < k)⟩ :: tl cols k [] := by rw [show k + 2 - 1 = k + 1 by omega, tl]; rfl
  rw [e]
  simp
/-- behind a row that is ended if there is no place left -/
def stE (cols : Int) (m : Nat) (st : List Ln × List Cl) : List Ln × List Cl := if full cols m st then endV cols true st else st
def posn (st : List Ln × List Cl) : Int × Int := ((st.1.length : Int), (st.2.length : Int))
theorem posn_stE (hc : 1 ≤ cols) {m : Nat} (hm : 0 < m) : posn (stE cols m st) = nx cols (posn st) (m : Int) := by
  have h := (fw_bd (cols := cols) (w := (m : Int)) (by omega) hc).2
  unfold stE nx full posn
  rw [h]
  simp only [decide_eq_true_eq]
  split
  · simp [endV]
  · rfl
theorem lay_stE (hc : 1 ≤ cols) {m : Nat} (hm : 0 < m) (h : (nx cols (posn st) (m : Int)).1 < (R : Int)) : lay cols R (stE cols m st) = lay cols R st := by
  rw [← posn_stE hc hm] at h
  unfold stE at h ⊢
  split
  · rename_i hf
    rw [if_pos hf] at h
    simp only [posn, endV, List.length_append, List.length_cons, List.length_nil] at h
    exact lay_end (by omega)
  · rfl
end
theorem fold_ge {cols : Int} : ∀ (l : List Cl) (s : Int × Int), s.1 ≤ (l.foldl (stp cols) s).1
  | [], s => Int.le_refl _
  | c :: l, s => by
    have h1 := fold_ge (cols := cols) l (stp cols s c)
    have h2 : s.1 ≤ (stp cols s c).1 := by
      unfold stp nx
      split
      · split <;> simp only <;> omega
      · omega
    rw [List.foldl_cons]
    omega
def WM (cols : Int) (l : List Cl) : Prop := ∀ (st : List Ln × List Cl) (R : Nat), (st.2.length : Int) ≤ cols → (l.foldl (stp cols) (posn st)).1 + 1 = (R : Int) →
  ((psG cols (posn st) l).zip l).foldl (rput cols) (lay cols R st) = lay cols R (wrapG cols st l) ∧ l.foldl (stp cols) (posn st) = posn (wrapG cols st l)
theorem wrapG_one {cols : Int} {st : List Ln × List Cl} {c : Cl} (hw : c.w = 1) (l : List Cl) : wrapG cols st (c :: l) = wrapG cols (putV cols [c] c.pen st) l := by
  cases l with
  | nil => rfl
  | cons d l => rw [wrapG, if_neg (by omega)]
theorem wrapG_two {cols : Int} {st : List Ln × List Cl} {c d : Cl} (hw : c.w = 2) (l : List Cl) : wrapG cols st (c :: d :: l) = wrapG cols (putV cols [c, d] c.pen st) l := by
  rw [wrapG, if_pos hw]
theorem wrap_ref {cols : Int} (hc : 1 ≤ cols) : ∀ l, rowR l = true → WM cols l := by
  refine row_ind (fun st R _ _ => ⟨rfl, rfl⟩) (fun c l hw _ ih st R hs hR => ?_) (fun c d l hw hd _ ih st R hs hR => ?_)
  · have hs2 : 0 ≤ (posn st).2 ∧ (posn st).2 ≤ cols := ⟨by simp only [posn]; omega, hs⟩
    obtain ⟨g1, g2⟩ := psG_one hc hs2 hw l
    have hnb := nx_bd (s := posn st) hc 1 (m := (posn st).1) ⟨by simp only [posn]; omega, Int.le_refl _⟩ hs2
    have hnd := need_bd hc 1
    have hfw : fw cols 1 = 1 := by unfold fw; split <;> omega
    have hpe := posn_stE (cols := cols) (st := st) hc (m := 1) (by omega)
    rw [show ((1 : Nat) : Int) = 1 from rfl] at hpe
    have hst : stp cols (posn st) c = ((nx cols (posn st) 1).1, (nx cols (posn st) 1).2 + 1) := by rw [stp, if_pos (by omega), hw, hfw]
    rw [List.foldl_cons] at hR
    have hge := fold_ge (cols := cols) l (stp cols (posn st) c)
    rw [show (stp cols (posn st) c).1 = _ from congrArg Prod.fst hst] at hge
    simp only at hge
    have hp1 : ((stE cols 1 st).1.length : Int) = (nx cols (posn st) 1).1 := congrArg Prod.fst hpe
    have hp2 : ((stE cols 1 st).2.length : Int) = (nx cols (posn st) 1).2 := congrArg Prod.snd hpe
    have hps : (posn st).2 = (st.2.length : Int) := rfl
    have hput : putV cols [c] c.pen st = ((stE cols 1 st).1, (stE cols 1 st).2 ++ [c]) := by
      show addV cols [c] c.pen (stE cols 1 st) = _
      rw [addV, if_neg (by simp; omega)]
    have hrc : rcell cols c = c := by simp [rcell, hw]
    have hpos : posn (putV cols [c] c.pen st) = stp cols (posn st) c := by
      rw [hput, hst, ← hpe]
      simp [posn]
    rw [g1, List.zip_cons_cons, List.foldl_cons, List.foldl_cons, wrapG_one hw, ← lay_stE (st := st) hc (m := 1) (by omega) (by rw [show ((1 : Nat) : Int) = 1 from rfl]; omega),
      rput_lay (by omega) (by omega) hp1.symm (by simp only [rcol]; split <;> omega), hrc, ← hput, ← hpos]
    exact ih _ R (by rw [hput]; simp only [List.length_append, List.length_cons, List.length_nil]; omega) (by rw [hpos]; exact hR)
  · have hd0 : d.w = 0 := by rw [hd]; rfl
    have hs2 : 0 ≤ (posn st).2 ∧ (posn st).2 ≤ cols := ⟨by simp only [posn]; omega, hs⟩
    obtain ⟨g1, g2⟩ := psG_two hc hs2 hw hd0 l
    have hnb := nx_bd (s := posn st) hc 2 (m := (posn st).1) ⟨by simp only [posn]; omega, Int.le_refl _⟩ hs2
    have hnd := need_bd hc 2
    have hfn := fw_bd (cols := cols) (w := 2) (by omega) hc
    have hpe := posn_stE (cols := cols) (st := st) hc (m := 2) (by omega)
    rw [show ((2 : Nat) : Int) = 2 from rfl] at hpe
    have hst : stp cols (posn st) c = ((nx cols (posn st) 2).1, (nx cols (posn st) 2).2 + fw cols 2) := by rw [stp, if_pos (by omega), hw]
    rw [List.foldl_cons, List.foldl_cons, stp_zero hd0] at hR
    have hge := fold_ge (cols := cols) l (stp cols (posn st) c)
    rw [show (stp cols (posn st) c).1 = _ from congrArg Prod.fst hst] at hge
    simp only at hge
    have hp1 : ((stE cols 2 st).1.length : Int) = (nx cols (posn st) 2).1 := congrArg Prod.fst hpe
    have hp2 : ((stE cols 2 st).2.length : Int) = (nx cols (posn st) 2).2 := congrArg Prod.snd hpe
    have hps : (posn st).2 = (st.2.length : Int) := rfl
    rw [g1, List.zip_cons_cons, List.zip_cons_cons, List.foldl_cons, List.foldl_cons, List.foldl_cons, List.foldl_cons, stp_zero hd0, wrapG_two hw, ← lay_stE (st := st) hc (m := 2) (by omega) (by rw [show ((2 : Nat) : Int) = 2 from rfl]; omega)]
    by_cases h1 : 1 < cols
    · have hfw : fw cols 2 = 2 := by unfold fw; split <;> omega
      have hput : putV cols [c, d] c.pen st = ((stE cols 2 st).1, (stE cols 2 st).2 ++ [c] ++ [d]) := by
        show addV cols [c, d] c.pen (stE cols 2 st) = _
        rw [addV, if_neg (by simp; omega)]
        simp
      have hpos : posn (putV cols [c, d] c.pen st) = stp cols (posn st) c := by
        rw [hput, hst, ← hpe, hfw]
        simp [posn, Int.add_assoc]
      have hdl : dl cols = 1 := if_pos h1
      have hrc : ∀ x, rcell cols x = x := fun x => if_pos h1
      rw [rput_lay (by omega) (by omega) hp1.symm (by rw [rcol, if_pos h1]; omega),
        rput_lay (st := ((stE cols 2 st).1, (stE cols 2 st).2 ++ [rcell cols c])) (p := ((nx cols (posn st) 2).1, (nx cols (posn st) 2).2 + dl cols)) (by simp only; omega) (by simp only [List.length_append, List.length_cons, List.length_nil]; omega) hp1.symm (by rw [rcol, if_pos h1, hdl]; simp only [List.length_append, List.length_cons, List.length_nil]; omega), hrc, hrc, ← hput, ← hpos]
      exact ih _ R (by rw [hput]; simp only [List.length_append, List.length_cons, List.length_nil]; omega) (by rw [hpos]; exact hR)
    · have hfw : fw cols 2 = 1 := by unfold fw; split <;> omega
      have hl0 : (stE cols 2 st).2 = [] := List.length_eq_zero_iff.1 (by omega)
      have hput : putV cols [c, d] c.pen st = ((stE cols 2 st).1, (stE cols 2 st).2 ++ [blank c.pen]) := by
        show addV cols [c, d] c.pen (stE cols 2 st) = _
        rw [addV, if_pos (by simp; omega)]
      have hpos : posn (putV cols [c, d] c.pen st) = stp cols (posn st) c := by
        rw [hput, hst, ← hpe, hfw]
        simp [posn]
      have hrc : rcell cols c = blank c.pen := by rw [rcell, if_neg h1, if_neg (by omega)]
      have hrd : rcell cols d = blank c.pen := by rw [rcell, if_neg h1, if_neg (by omega), hd]; rfl
      have hr0 : ∀ p, rcol cols p = 0 := fun p => if_neg h1
      rw [rput_lay (by omega) (by omega) hp1.symm (by rw [hr0, hl0]; rfl), hrc, hl0, List.nil_append,
        rput_again (p := ((nx cols (posn st) 2).1, (nx cols (posn st) 2).2 + dl cols)) (by omega) hp1.symm (hr0 _) hrd]
      rw [hl0, List.nil_append] at hput
      rw [← hput, ← hpos]
      exact ih _ R (by rw [hput]; simp only [List.length_cons, List.length_nil]; omega) (by rw [hpos]; exact hR)
/-- the rows of the reference are the program's -/
theorem wrapV_ref {xs : List Cl} {cols : Int} (h : vW xs cols = true) : wrapV xs cols = refW cols xs := by
  obtain ⟨hc, _, hr⟩ := vW_parts h
  have hs : (0 : Int) ≤ ((0, 0) : Int × Int).2 ∧ ((0, 0) : Int × Int).2 ≤ cols := by simp only; omega
  have hb := (plR_bd cols xs).2.1
  have hR : (xs.foldl (stp cols) (posn ([], []))).1 + 1 = ((rowsN cols xs : Nat) : Int) := by
    have h1 : (plR cols xs).2.1 = (xs.foldl (stp cols) (0, 0)).1 := by rw [plR_eq]; simp only [fold_eq hc.1 xs hr (0, 0) hs]
    show (xs.foldl (stp cols) (0, 0)).1 + 1 = _
    rw [rowsN]
    omega
  obtain ⟨h1, h2⟩ := wrap_ref hc.1 xs hr ([], []) (rowsN cols xs) (by simp; omega) hR
  have h3 := congrArg Prod.fst h2
  rw [h3] at hR
  simp only [posn] at hR
  have h4 : (plR cols xs).1 = psG cols (posn ([], [])) xs := by rw [plR_eq]; rfl
  have h5 : lay cols (rowsN cols xs) (([], []) : List Ln × List Cl) = tl cols (rowsN cols xs) [] := by simp [lay]
  rw [refW, h4, ← h5, h1, wrapV, h, if_pos rfl, lay, show rowsN cols xs - (wrapG cols ([], []) xs).1.length = 1 by omega]
  rfl
/-- where a cell is put, there is a place -/
theorem psG_in {cols : Int} (hc : 1 ≤ cols) : ∀ l, rowR l = true → ∀ s : Int × Int, 0 ≤ s.2 ∧ s.2 ≤ cols → ∀ p ∈ psG cols s l, s.1 ≤ p.1 ∧ p.1 ≤ (l.foldl (stp cols) s).1 ∧ 0 ≤ p.2 ∧ p.2 < cols := by
  refine row_ind (motive := fun l => ∀ s : Int × Int, 0 ≤ s.2 ∧ s.2 ≤ cols → ∀ p ∈ psG cols s l, s.1 ≤ p.1 ∧ p.1 ≤ (l.foldl (stp cols) s).1 ∧ 0 ≤ p.2 ∧ p.2 < cols) (fun s _ p hp => by cases hp) (fun c l hw _ ih s hs p hp => ?_) (fun c d l hw hd _ ih s hs p hp => ?_)
  · obtain ⟨g1, g2⟩ := psG_one hc hs hw l
    rw [g1] at hp
    have hge := fold_ge (cols := cols) l (stp cols s c)
    have hst : (stp cols s c).1 = (nx cols s 1).1 := by rw [stp, if_pos (by omega), hw]
    have hn : s.1 ≤ (nx cols s 1).1 := by unfold nx; split <;> first | omega | (simp only; omega)
    have hn2 : 0 ≤ (nx cols s 1).2 ∧ (nx cols s 1).2 < cols := by have := need_bd hc 1; unfold nx; split <;> first | omega | (simp only; omega)
    rw [List.foldl_cons]
    rcases List.mem_cons.1 hp with rfl | hp
    · omega
    · have := ih _ (stp_col hc hs c) p hp
      omega
  · have hd0 : d.w = 0 := by rw [hd]; rfl
    obtain ⟨g1, g2⟩ := psG_two hc hs hw hd0 l
    rw [g1] at hp
    have hge := fold_ge (cols := cols) l (stp cols s c)
    have hst : (stp cols s c).1 = (nx cols s 2).1 := by rw [stp, if_pos (by omega), hw]
    have hn : s.1 ≤ (nx cols s 2).1 := by unfold nx; split <;> first | omega | (simp only; omega)
    have hn2 : 0 ≤ (nx cols s 2).2 ∧ (nx cols s 2).2 + dl cols < cols := by
      have := need_bd hc 2
      have h2 : need cols 2 = 1 + dl cols := by unfold need dl; split <;> split <;> omega
      unfold nx; split <;> first | omega | (simp only; omega)
    have hdl : 0 ≤ dl cols := by unfold dl; split <;> omega
    rw [List.foldl_cons, List.foldl_cons, stp_zero hd0]
    rcases List.mem_cons.1 hp with rfl | hp
    · omega
    · rcases List.mem_cons.1 hp with rfl | hp
      · omega
      · have := ih _ (stp_col hc hs c) p hp
        omega
theorem plR_in {xs : List Cl} {cols : Int} (h : vW xs cols = true) {i : Nat} {p : Int × Int} (hp : (plR cols xs).1[i]? = some p) : (0 ≤ p.1 ∧ p.1 < (rowsN cols xs : Int)) ∧ 0 ≤ p.2 ∧ p.2 < cols := by
  obtain ⟨hc, _, hr⟩ := vW_parts h
  have hs : (0 : Int) ≤ ((0, 0) : Int × Int).2 ∧ ((0, 0) : Int × Int).2 ≤ cols := by simp only; omega
  have hb := (plR_bd cols xs).2.1
  have h1 : (plR cols xs).2.1 = (xs.foldl (stp cols) (0, 0)).1 := by rw [plR_eq]; simp only [fold_eq hc.1 xs hr (0, 0) hs]
  have h2 : p ∈ psG cols (0, 0) xs := by rw [plR_eq] at hp; exact List.mem_of_getElem? hp
  have h3 := psG_in hc.1 xs hr (0, 0) hs p h2
  simp only at h3
  rw [rowsN]
  omega
theorem zip_get {xs : List Cl} {ps : List (Int × Int)} {i : Nat} {p : Int × Int} {x : Cl} (hp : ps[i]? = some p) (hx : xs[i]? = some x) : (ps.zip xs)[i]? = some (p, x) := by
  rw [List.getElem?_zip_eq_some]
  exact ⟨hp, hx⟩
theorem fold_take {cols : Int} {zs : List ((Int × Int) × Cl)} {i : Nat} {z : (Int × Int) × Cl} {out : List Ln} (h : zs[i]? = some z) : (zs.take (i + 1)).foldl (rput cols) out = rput cols ((zs.take i).foldl (rput cols) out) z := by
  rw [List.take_add_one, h, Option.toList_some, List.foldl_append]
  rfl
theorem rput_length (cols : Int) (out : List Ln) (z : (Int × Int) × Cl) : (rput cols out z).length = out.length := by
  unfold rput
  split
  · rw [List.length_set]
  · rfl
theorem refW_length (cols : Int) (xs : List Cl) : (refW cols xs).length = rowsN cols xs := by
  have : ∀ (zs : List ((Int × Int) × Cl)) (out : List Ln), (zs.foldl (rput cols) out).length = out.length := by
    intro zs
    induction zs with
    | nil => intro out; rfl
    | cons z t ih => intro out; rw [List.foldl_cons, ih, rput_length]
  rw [refW, this, tl_length]
/-! ### Long lines -/
def xC : Cl := ⟨120, 0, 0, 0, 1, Pen.zero⟩
end Go.Proofs.YtdmpodpdpncobaaDoor
