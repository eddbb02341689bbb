/-
  What is carried, in order, and back. No condition.
-/
import Derived.Test.YtdmpodpdpncobaaDoorVc
namespace Go.Proofs.YtdmpodpdpncobaaDoor
open Go.RowKit
set_option linter.unusedSimpArgs false
set_option linter.unusedVariables false
/-! ### Places in order -/
theorem ge2_rfl (s : Int × Int) : ge2 s s := .inr ⟨rfl, Int.le_refl _⟩
theorem fold_ge2 {cols : Int} (hc : 1 ≤ cols) : ∀ (l : List Cl) (s : Int × Int), ge2 s (l.foldl (stp cols) s)
  | [], s => ge2_rfl s
  | c :: l, s => by
    rw [List.foldl_cons]
    refine ge2_trans ?_ (fold_ge2 hc l _)
    by_cases hw : 0 < c.w
    · exact ge2_trans (nx_ge cols s c.w) (stp_ge hc s c hw).1
    · rw [stp, if_neg hw]; exact ge2_rfl s
def PwM (cols : Int) (l : List Cl) : Prop := ∀ s : Int × Int, 0 ≤ s.2 ∧ s.2 ≤ cols → (psG cols s l).Pairwise ge2 ∧ ∀ p ∈ psG cols s l, ge2 p (l.foldl (stp cols) s)
theorem psG_pw {cols : Int} (hc : 1 ≤ cols) : ∀ l, rowR l = true → PwM cols l := by
  refine row_ind (fun s _ => ⟨.nil, fun p h => by cases h⟩) (fun c l hw hl ih s hs => ?_) (fun c d l hw hd hl ih s hs => ?_)
  · rw [(psG_one hc hs hw l).1]
    obtain ⟨i1, i2⟩ := ih _ (stp_col hc hs c)
    have h2 := (stp_ge hc s c (by omega)).1
    rw [hw] at h2
    refine ⟨List.pairwise_cons.2 ⟨fun p hp => ge2_trans h2 (psG_ge hc l hl _ (stp_col hc hs c) p hp), i1⟩, fun p hp => ?_⟩
    rw [List.foldl_cons]
    rcases List.mem_cons.1 hp with rfl | hp
    · exact ge2_trans h2 (fold_ge2 hc l _)
    · exact i2 p hp
  · have hd0 : d.w = 0 := by rw [hd]; rfl
    rw [(psG_two hc hs hw hd0 l).1]
    obtain ⟨i1, i2⟩ := ih _ (stp_col hc hs c)
    obtain ⟨h2, h3, h4⟩ := stp_ge hc s c (by omega)
    rw [hw] at h2 h3 h4
    have hdl : 0 ≤ dl cols ∧ dl cols ≤ fw cols 2 := by unfold dl fw; split <;> split <;> omega
    have a1 : ge2 (nx cols s 2) ((nx cols s 2).1, (nx cols s 2).2 + dl cols) := .inr ⟨rfl, by simp only; omega⟩
    have a2 : ge2 ((nx cols s 2).1, (nx cols s 2).2 + dl cols) (stp cols s c) := by rw [h3]; exact .inr ⟨rfl, by simp only; omega⟩
    have a3 := fun p hp => psG_ge hc l hl _ (stp_col hc hs c) p hp
    refine ⟨List.pairwise_cons.2 ⟨fun p hp => ?_, List.pairwise_cons.2 ⟨fun p hp => ge2_trans a2 (a3 p hp), i1⟩⟩, fun p hp => ?_⟩
    · rcases List.mem_cons.1 hp with rfl | hp
      · exact a1
      · exact ge2_trans h2 (a3 p hp)
    · rw [List.foldl_cons, List.foldl_cons, stp_zero hd0]
      rcases List.mem_cons.1 hp with rfl | hp
      · exact ge2_trans h2 (fold_ge2 hc l _)
      · rcases List.mem_cons.1 hp with rfl | hp
        · exact ge2_trans a2 (fold_ge2 hc l _)
        · exact i2 p hp
theorem plV_mono {xs : List Cl} {cols : Int} (h : vW xs cols = true) {q q2 : Nat} (hq : q ≤ q2) (hq2 : q2 ≤ xs.length) : ge2 (plV xs cols q) (plV xs cols q2) := by
  obtain ⟨hc, hl30, hr⟩ := vW_parts h
  have hs : (0 : Int) ≤ ((0, 0) : Int × Int).2 ∧ ((0, 0) : Int × Int).2 ≤ cols := by simp only; omega
  rcases Nat.lt_or_eq_of_le hq with hlt | rfl
  · obtain ⟨p, hp⟩ := plR_get cols (xs := xs) (show q < xs.length by omega)
    have e1 : rplV cols xs q = p := by unfold rplV; simp only [hp]
    rw [plV_eq h (by omega), plV_eq h hq2, e1]
    obtain ⟨i1, i2⟩ := psG_pw hc.1 xs hr (0, 0) hs
    have hin := plR_in h hp
    rcases Nat.lt_or_eq_of_le hq2 with hlt2 | rfl
    · obtain ⟨p2, hp2⟩ := plR_get cols hlt2
      have e2 : rplV cols xs q2 = p2 := by unfold rplV; simp only [hp2]
      rw [e2]
      rw [plR_eq] at hp hp2
      obtain ⟨g1, g2⟩ := List.getElem?_eq_some_iff.1 hp
      obtain ⟨g3, g4⟩ := List.getElem?_eq_some_iff.1 hp2
      have := List.pairwise_iff_getElem.1 i1 q q2 g1 g3 hlt
      rwa [g2, g4] at this
    · have e2 : rplV cols xs xs.length = ((plR cols xs).2.1, fw (cols - 1) (plR cols xs).2.2) := by
        unfold rplV
        rw [List.getElem?_eq_none (by rw [(plR_bd cols xs).1]; omega)]
      rw [e2]
      have h3 : (plR cols xs).2 = xs.foldl (stp cols) (0, 0) := by rw [plR_eq]; exact fold_eq hc.1 xs hr (0, 0) hs
      rw [plR_eq] at hp
      have h4 := i2 p (List.mem_of_getElem? hp)
      rw [← h3] at h4
      unfold ge2 at h4 ⊢
      simp only
      unfold fw
      split <;> omega
  · exact ge2_rfl _
theorem fromV_lo {xs : List Cl} {cols : Int} (h : vW xs cols = true) (start : Int) {cell : Int} (h0 : 0 ≤ cell) : start ≤ (fromV xs cols start cell).1 ∧ (fromV xs cols start cell).1 < start + rowsV xs cols := by
  have := plV_in h (q := min cell.toNat xs.length) (by omega)
  rw [fromV]
  simp only
  omega
theorem fromV_mono {xs : List Cl} {cols : Int} (h : vW xs cols = true) (start : Int) {c d : Int} (h0 : 0 ≤ c) (hcd : c ≤ d) : ge2 (fromV xs cols start c) (fromV xs cols start d) := by
  have h1 := plV_in h (q := min c.toNat xs.length) (by omega)
  have h2 := plV_in h (q := min d.toNat xs.length) (by omega)
  have h3 := plV_mono h (q := min c.toNat xs.length) (q2 := min d.toNat xs.length) (by omega) (by omega)
  rw [fromV, fromV]
  by_cases hc : c.toNat < xs.length
  · have e : c - ((min c.toNat xs.length : Nat) : Int) = 0 := by omega
    rw [e, Int.min_eq_left (by omega)]
    unfold ge2 at h3 ⊢
    simp only
    omega
  · have e1 : min c.toNat xs.length = xs.length := by omega
    have e2 : min d.toNat xs.length = xs.length := by omega
    rw [e1, e2] at *
    refine .inr ⟨rfl, ?_⟩
    simp only
    omega
theorem rwS_mono {cols : Int} {G : List Lg} : ∀ (j i : Nat), i ≤ j → rwS cols (G.take i) ≤ rwS cols (G.take j)
  | 0, i, h => by
    obtain rfl : i = 0 := by omega
    exact Int.le_refl _
  | j + 1, i, h => by
    rcases Nat.lt_or_eq_of_le h with h | rfl
    · have h1 := rwS_mono (cols := cols) (G := G) j i (by omega)
      by_cases hj : j < G.length
      · have h2 := rwS_snoc (cols := cols) (G := G) (List.getElem?_eq_getElem hj)
        have h3 := rowsV_bd (xs := G[j].cells) (cols := cols)
        omega
      · have e1 : G.take j = G := List.take_of_length_le (by omega)
        have e2 : G.take (j + 1) = G := List.take_of_length_le (by omega)
        rw [e1] at h1
        rwa [e2]
    · exact Int.le_refl _
theorem frV_mono {G : List Lg} {cols : Int} (hf : fineB G cols = true) {p p2 : Int × Int} (h : ge2 p p2) (h0 : 0 ≤ p.1 ∧ 0 ≤ p.2) (h02 : 0 ≤ p2.2) (h1 : p2.1 < (G.length : Int)) : ge2 (frV G cols p.1 p.2) (frV G cols p2.1 p2.2) := by
  obtain ⟨i, hi⟩ : ∃ i : Nat, p.1 = (i : Int) := ⟨p.1.toNat, by omega⟩
  obtain ⟨j, hj⟩ : ∃ j : Nat, p2.1 = (j : Int) := ⟨p2.1.toNat, by unfold ge2 at h; omega⟩
  obtain ⟨g, hg⟩ : ∃ g, G[i]? = some g := ⟨_, List.getElem?_eq_getElem (by unfold ge2 at h; omega)⟩
  obtain ⟨g2, hg2⟩ : ∃ g, G[j]? = some g := ⟨_, List.getElem?_eq_getElem (by omega)⟩
  rw [frV, frV, hi, hj, Int.toNat_natCast, Int.toNat_natCast, hg, hg2]
  simp only
  have hv := fine_at hf hg
  have hv2 := fine_at hf hg2
  rcases h with h | ⟨h, h'⟩
  · have h3 := rwS_snoc (cols := cols) hg
    have h4 := rwS_mono (cols := cols) (G := G) j (i + 1) (by omega)
    have h5 := fromV_lo hv (rwS cols (G.take i)) h0.2
    have h6 := fromV_lo hv2 (rwS cols (G.take j)) h02
    exact .inl (by omega)
  · obtain rfl : i = j := by omega
    rw [hg] at hg2
    cases hg2
    exact fromV_mono hv _ h0.2 h'
/-! ### Logical lines in order -/
theorem okG_from {X : List Ln} : ∀ (G : List Lg) (n : Nat), OkG X n G → ∀ g ∈ G, (n : Int) ≤ g.frm
  | [], _, _, g, h => by cases h
  | y :: t, n, h, g, hg => by
    obtain ⟨r, e1, e2, e3, e4, _, _, _, ht⟩ := h
    rcases List.mem_cons.1 hg with rfl | hg
    · omega
    · have := okG_from t (n + r) ht g hg
      omega
theorem okG_order {X : List Ln} : ∀ (G : List Lg) (n : Nat), OkG X n G → ∀ (i j : Nat) g g2, i < j → G[i]? = some g → G[j]? = some g2 → g.frm + g.rows ≤ g2.frm
  | [], _, _, i, j, g, g2, _, h, _ => by simp at h
  | y :: t, n, h, i, j, g, g2, hij, hg, hg2 => by
    obtain ⟨r, e1, e2, e3, e4, _, _, _, ht⟩ := h
    obtain ⟨j, rfl⟩ : ∃ k, j = k + 1 := ⟨j - 1, by omega⟩
    rw [List.getElem?_cons_succ] at hg2
    cases i with
    | zero =>
      simp only [List.getElem?_cons_zero, Option.some.injEq] at hg
      subst hg
      have := okG_from t (n + r) ht g2 (List.mem_of_getElem? hg2)
      omega
    | succ i =>
      rw [List.getElem?_cons_succ] at hg
      exact okG_order t (n + r) ht i j g g2 (by omega) hg hg2
theorem keptN_ge (x y : List Cl) : x.length ≤ keptN x y + 1 := by
  unfold keptN
  split
  · split <;> omega
  · omega
/-- a place that is there, where it is -/
theorem to_at {X : List Ln} (hv : vLs X = true) {k : Nat} {x : Ln} (hx : X[k]? = some x) (c : Int) : ∃ (i : Nat) (g : Lg) (f r : Nat), (lgG [] 0 X)[i]? = some g ∧ g.frm = (f : Int) ∧ g.rows = (r : Int) ∧ f ≤ k ∧ k < f + r ∧ f + r ≤ X.length ∧ toV X ((k : Int), c) = ((i : Int), c + (sumK ((X.drop f).map Ln.cells) (k - f) : Int)) := by
  obtain ⟨i, g, f, r, h1, h2, h3, h4, h5, h6, h7, h8⟩ := to_find hv (List.getElem?_eq_some_iff.1 hx).1
  exact ⟨i, g, f, r, h2, h3, h4, h5, h6, h7, to_eq h1 h8⟩
theorem toV_mono {X : List Ln} (hv : vLs X = true) {a b : Int × Int} (ha : hasP X a = true) (hb : hasP X b = true) (h : ge2 a b) : ge2 (toV X a) (toV X b) := by
  obtain ⟨k, x, e1, hx, hk, c0, c1⟩ := hasP_parts ha
  obtain ⟨k2, x2, e2, hx2, hk2, d0, d1⟩ := hasP_parts hb
  obtain ⟨i, g, f, r, g1, g2, g3, g4, g5, g6, g7⟩ := to_at hv hx a.2
  obtain ⟨i2, y, f2, r2, y1, y2, y3, y4, y5, y6, y7⟩ := to_at hv hx2 b.2
  rw [← e1] at g7
  rw [← e2] at y7
  rw [show a = (a.1, a.2) from rfl, show b = (b.1, b.2) from rfl, g7, y7]
  have hkk : k ≤ k2 := by unfold ge2 at h; omega
  have ho := okG_order _ 0 (ok_lines hv)
  rcases Nat.lt_trichotomy i i2 with hi | rfl | hi
  · exact .inl (by simp only; omega)
  · rw [g1] at y1
    cases y1
    obtain rfl : f = f2 := by omega
    refine .inr ⟨rfl, ?_⟩
    simp only
    rcases Nat.lt_or_eq_of_le hkk with hlt | rfl
    · have hx3 : ((X.drop f).map Ln.cells)[k - f]? = some x.cells := by rw [List.getElem?_map, List.getElem?_drop, show f + (k - f) = k by omega, hx]; rfl
      obtain ⟨z, hz⟩ : ∃ z, X[k + 1]? = some z := ⟨_, List.getElem?_eq_getElem (by omega)⟩
      have hz3 : ((X.drop f).map Ln.cells)[k - f + 1]? = some z.cells := by rw [List.getElem?_map, List.getElem?_drop, show f + (k - f + 1) = k + 1 by omega, hz]; rfl
      have h3 := sumK_snoc _ _ _ _ hx3 hz3
      have h4 := keptN_ge x.cells z.cells
      have h5 := sumK_mono ((X.drop f).map Ln.cells) (k - f + 1) (k2 - f) (by omega)
      omega
    · unfold ge2 at h
      omega
  · have := ho i2 i y g hi y1 g1
    omega
theorem toV_in {X : List Ln} (hv : vLs X = true) {a : Int × Int} (ha : hasP X a = true) : (0 ≤ (toV X a).1 ∧ (toV X a).1 < ((lgG [] 0 X).length : Int)) ∧ 0 ≤ (toV X a).2 := by
  obtain ⟨k, x, e1, hx, hk, c0, c1⟩ := hasP_parts ha
  obtain ⟨i, g, f, r, g1, g2, g3, g4, g5, g6, g7⟩ := to_at hv hx a.2
  rw [← e1] at g7
  rw [show a = (a.1, a.2) from rfl, g7]
  have := (List.getElem?_eq_some_iff.1 g1).1
  simp only
  omega
/-- two places are carried in order -/
theorem car1_mono {X : List Ln} {cols : Int} (hv : vLs X = true) (hf : fineB (lgG [] 0 X) cols = true) {a b : Int × Int} (ha : hasP X a = true) (hb : hasP X b = true) (h : ge2 a b) : ge2 (car1 X cols a) (car1 X cols b) := by
  have h1 := toV_in hv ha
  have h2 := toV_in hv hb
  exact frV_mono hf (toV_mono hv ha hb h) ⟨h1.1.1, h1.2⟩ h2.2 h2.1.2
/-! ### The cells of a logical line -/
theorem lg_mem {X : List Ln} : ∀ (l : List Ln) (i f : Nat), X.drop i = l → f ≤ i → ∀ g ∈ lgG ((X.take i).drop f) f l, ∃ f' r : Nat, g.frm = (f' : Int) ∧ g.rows = (r : Int) ∧ g.cells = trimV (allV (((X.drop f').take r).map Ln.cells))
  | [], i, f, _, _, g, hg => by simp [lgG] at hg
  | x :: l, i, f, hd, hf, g, hg => by
    obtain ⟨h1, h2, h3⟩ := drop_of hd
    have hcur : (X.take (i + 1)).drop f = (X.take i).drop f ++ [x] := cur_snoc h1 hf
    have hi := (List.getElem?_eq_some_iff.1 h1).1
    have hcl : ((X.take i).drop f).length = i - f := by rw [List.length_drop, List.length_take]; omega
    rw [lgG] at hg
    split at hg
    · rw [← hcur] at hg
      exact lg_mem l (i + 1) f h2 (by omega) g hg
    · rcases List.mem_cons.1 hg with rfl | hg
      · refine ⟨f, i + 1 - f, rfl, by simp only [hcl]; omega, ?_⟩
        simp only
        rw [← hcur, List.drop_take]
      · rw [hcl, show f + (i - f) + 1 = i + 1 by omega] at hg
        have := lg_mem (X := X) l (i + 1) (i + 1) h2 (Nat.le_refl _) g
        rw [cur_nil] at this
        exact this hg
theorem lg_cells {X : List Ln} {g : Lg} {f r : Nat} (hg : g ∈ lgG [] 0 X) (h1 : g.frm = (f : Int)) (h2 : g.rows = (r : Int)) : g.cells = trimV (allV (((X.drop f).take r).map Ln.cells)) := by
  have := lg_mem (X := X) X 0 0 rfl (Nat.le_refl _) g
  rw [List.take_zero, List.drop_nil] at this
  obtain ⟨f', r', e1, e2, e3⟩ := this hg
  obtain rfl : f' = f := by omega
  obtain rfl : r' = r := by omega
  exact e3
theorem kept1_pre (x : List Cl) (L : List (List Cl)) (m : Nat) (h : 0 < m) : kept1 x (L.take m) = kept1 x L := by
  cases L with
  | nil => rw [List.take_nil]
  | cons y l =>
    obtain ⟨m, rfl⟩ : ∃ k, m = k + 1 := ⟨m - 1, by omega⟩
    rfl
theorem sumK_take : ∀ (L : List (List Cl)) (k r : Nat), k < r → sumK (L.take r) k = sumK L k
  | [], k, r, _ => by rw [List.take_nil]
  | x :: L, 0, r, _ => by rw [sumK_zero, sumK_zero]
  | x :: L, k + 1, r, h => by
    obtain ⟨r, rfl⟩ : ∃ q, r = q + 1 := ⟨r - 1, by omega⟩
    rw [List.take_succ_cons, sumK, sumK, sumK_take L k r (by omega), kept1_pre x L r (by omega)]
/-- a cell that counts, and where it is carried to -/
theorem hold_carry {X : List Ln} {cols : Int} (hv : vLs X = true) (hf : fineB (lgG [] 0 X) cols = true) (hc1 : 1 < cols) {a : Int × Int} (ha : hasP X a = true) {k i : Nat} {x : Ln} {g : Lg} {v : Cl} {n : Int} (e1 : a.1 = (k : Int)) (hx : X[k]? = some x) (hvx : x.cells[a.2.toNat]? = some v)
    (ht : toV X a = ((i : Int), n)) (hg : (lgG [] 0 X)[i]? = some g) (hn : n < (g.cells.length : Int)) :
    (∃ (y : Ln) (u : Cl), (0 ≤ (car1 X cols a).1 - rwS cols ((lgG [] 0 X).take i) ∧ (car1 X cols a).1 - rwS cols ((lgG [] 0 X).take i) < ((wrapV g.cells cols).length : Int)) ∧ (wrapV g.cells cols)[((car1 X cols a).1 - rwS cols ((lgG [] 0 X).take i)).toNat]? = some y ∧
      y.cells[(car1 X cols a).2.toNat]? = some u ∧ g.cells[n.toNat]? = some u ∧ (u = v ∨ (isB v = true ∧ u.w = 2))) ∧ 0 ≤ (car1 X cols a).2 := by
  obtain ⟨k', x', e1', hx', hk, c0, c1⟩ := hasP_parts ha
  obtain rfl : k' = k := by omega
  rw [hx] at hx'
  cases hx'
  obtain ⟨i', g', f, r, g1, g2, g3, g4, g5, g6, g7⟩ := to_at hv hx a.2
  rw [← e1, show (a.1, a.2) = a from rfl, ht] at g7
  have ei : i' = i := by have := congrArg Prod.fst g7; simp only at this; omega
  subst ei
  rw [hg] at g1
  cases g1
  have en : n = a.2 + (sumK ((X.drop f).map Ln.cells) (k' - f) : Int) := congrArg Prod.snd g7
  have hn0 : 0 ≤ n := by omega
  have hcells := lg_cells (List.mem_of_getElem? hg) g2 g3
  have hx3 : (((X.drop f).take r).map Ln.cells)[k' - f]? = some x.cells := by rw [List.getElem?_map, List.getElem?_take, if_pos (by omega), List.getElem?_drop, show f + (k' - f) = k' by omega, hx]; rfl
  have hall := all_get _ _ a.2.toNat _ v hx3 hvx
  rw [List.map_take, sumK_take _ _ _ (by omega)] at hall
  have hnn : n.toNat = sumK ((X.drop f).map Ln.cells) (k' - f) + a.2.toNat := by omega
  rw [← hnn, ← List.map_take] at hall
  obtain ⟨u, hu⟩ : ∃ u, g.cells[n.toNat]? = some u := ⟨_, List.getElem?_eq_getElem (by omega)⟩
  have hu2 : (allV (((X.drop f).take r).map Ln.cells))[n.toNat]? = some u := by
    obtain ⟨q, hq, e⟩ := trimV_pre _ (allV (((X.drop f).take r).map Ln.cells)) rfl
    rw [hcells, e, List.getElem?_take] at hu
    split at hu
    · exact hu
    · cases hu
  rw [hu2] at hall
  have hvg := fine_at hf hg
  have hcar : car1 X cols a = (rwS cols ((lgG [] 0 X).take i') + (rplV cols g.cells n.toNat).1, (rplV cols g.cells n.toNat).2) := by
    rw [car1, ht, frV]
    simp only [Int.toNat_natCast, hg]
    exact rfrom_in hvg hn0 hn
  obtain ⟨p1, p2, _⟩ := hold_place hvg hc1 (q := n.toNat) (by omega)
  obtain ⟨y, hy, hyu⟩ := p2 u hu
  rw [hcar]
  have e9 : ∀ s t : Int, s + t - s = t := fun s t => by omega
  simp only [e9]
  exact ⟨⟨y, u, p1.1, hy, hyu, hu, by
    rcases hall with h | ⟨h1, u2, h2, h3⟩
    · cases h; exact .inl rfl
    · cases h2; exact .inr ⟨h1, h3⟩⟩, p1.2.1⟩
theorem fine_of {X : List Ln} {cols : Int} (hv : vLs X = true) (h12 : X.length ≤ 1000) (hc : 1 ≤ cols ∧ cols ≤ 1000) : fineB (lgG [] 0 X) cols = true := by
  have h0 : vW [] cols = true := by simp [vW, hc, rowR, rowFrom]
  rw [fineB, h0, Bool.true_and, List.all_eq_true]
  intro g hg
  have h1 := (linesV_bd (fun x hx => vLs_row hv hx) g hg).1
  have h2 : ∀ (G : List Lg) (n : Nat), OkG X n G → ∀ g ∈ G, rowR g.cells = true := by
    intro G
    induction G with
    | nil => intro n _ g hg; cases hg
    | cons y t ih =>
      intro n h g hg
      obtain ⟨r, _, _, _, _, e5, _, _, ht⟩ := h
      rcases List.mem_cons.1 hg with rfl | hg
      · exact e5
      · exact ih _ ht g hg
  have h3 := h2 _ 0 (ok_lines hv) g hg
  have h4 : X.length * 1000 ≤ 1000 * 1000 := Nat.mul_le_mul_right _ h12
  rw [vW, h3, decide_eq_true hc.1, decide_eq_true hc.2, decide_eq_true (by omega)]
  rfl
/-! ### Wrapped, carried, and back -/
theorem psG_app (cols : Int) : ∀ (a b : List Cl) (s : Int × Int), psG cols s (a ++ b) = psG cols s a ++ psG cols (a.foldl (st1 cols) s) b
  | [], _, _ => rfl
  | c :: a, b, s => by rw [List.cons_append, psG, psG, psG_app cols a b, List.foldl_cons]; rfl
theorem psG_len (cols : Int) : ∀ (l : List Cl) (s : Int × Int), (psG cols s l).length = l.length
  | [], _ => rfl
  | c :: l, s => by rw [psG, List.length_cons, psG_len cols l, List.length_cons]
def FitM (cols : Int) (l : List Cl) : Prop := ∀ s : Int × Int, 0 ≤ s.2 → s.2 + (l.length : Int) ≤ cols → (∀ q, q < l.length → (psG cols s l)[q]? = some (s.1, s.2 + (q : Int))) ∧ l.foldl (st1 cols) s = (s.1, s.2 + (l.length : Int))
theorem psG_fit {cols : Int} (hc : 1 < cols) : ∀ l, rowR l = true → FitM cols l := by
  refine row_ind (fun s h0 h1 => ⟨fun q hq => by simp at hq, by simp⟩) (fun c l hw _ ih s h0 h1 => ?_) (fun c d l hw hd _ ih s h0 h1 => ?_)
  · simp only [List.length_cons] at h1 ⊢
    have hn : nx cols s 1 = s := by rw [nx, if_neg]; unfold need; split <;> split <;> omega
    have hfw : fw cols 1 = 1 := by unfold fw; split <;> omega
    obtain ⟨g1, g2⟩ := psG_one (cols := cols) (by omega) ⟨h0, by omega⟩ hw l
    have hst : stp cols s c = (s.1, s.2 + 1) := by rw [stp, if_pos (by omega), hw, hn, hfw]
    rw [hst] at g1 g2
    obtain ⟨i1, i2⟩ := ih (s.1, s.2 + 1) (by simp only; omega) (by simp only; omega)
    rw [g1, List.foldl_cons, g2, i2, hn]
    refine ⟨fun q hq => ?_, by simp only [Prod.mk.injEq, true_and]; omega⟩
    cases q with
    | zero => simp
    | succ q =>
      rw [List.getElem?_cons_succ, i1 q (by omega)]
      simp only [Option.some.injEq, Prod.mk.injEq, true_and]
      omega
  · simp only [List.length_cons] at h1 ⊢
    have hd0 : d.w = 0 := by rw [hd]; rfl
    have hn : nx cols s 2 = s := by rw [nx, if_neg]; unfold need; split <;> split <;> omega
    have hfw : fw cols 2 = 2 := by unfold fw; split <;> omega
    have hdl : dl cols = 1 := if_pos hc
    obtain ⟨g1, g2⟩ := psG_two (cols := cols) (by omega) ⟨h0, by omega⟩ hw hd0 l
    have hst : stp cols s c = (s.1, s.2 + 2) := by rw [stp, if_pos (by omega), hw, hn, hfw]
    rw [hst] at g1 g2
    obtain ⟨i1, i2⟩ := ih (s.1, s.2 + 2) (by simp only; omega) (by simp only; omega)
    rw [g1, List.foldl_cons, List.foldl_cons, g2, i2, hn, hdl]
    refine ⟨fun q hq => ?_, by simp only [Prod.mk.injEq, true_and]; omega⟩
    match q with
    | 0 => simp
    | 1 => simp
    | q + 2 =>
      rw [List.getElem?_cons_succ, List.getElem?_cons_succ, i1 q (by omega)]
      simp only [Option.some.injEq, Prod.mk.injEq, true_and]
      omega
/-- where a row is full, the next cell begins another one -/
theorem psG_next {cols : Int} (hc : 1 < cols) {r : Int} {c : Cl} {l : List Cl} (h : rowR (c :: l) = true) {k : Int} (hk : k = cols ∨ (k = cols - 1 ∧ c.w = 2)) : psG cols (r, k) (c :: l) = psG cols (r + 1, 0) (c :: l) := by
  have hw := vCl_w c (rowFrom_v _ none h c (by simp))
  have hw0 : ¬ c.w = 0 := by
    intro e
    rw [rowR_zero c l e] at h
    cases h
  have hg : goesOn cols k c = true := by
    simp only [goesOn, Bool.or_eq_true, Bool.and_eq_true, decide_eq_true_eq]
    omega
  have hg2 : goesOn cols 0 c = false := by
    cases hb : goesOn cols 0 c with
    | false => rfl
    | true =>
      simp only [goesOn, Bool.or_eq_true, Bool.and_eq_true, decide_eq_true_eq] at hb
      omega
  rw [psG, psG, pos1, pos1, st1, st1, if_neg hw0, if_neg hw0, if_neg hw0, if_neg hw0]
  simp only [hg, hg2, if_true, Bool.false_eq_true, if_false]
  rfl
theorem ChR.row {n : Nat} {l : List Cl} {rows : List Ln} (h : ChR n l rows) : rowR l = true := by
  induction h with
  | last h1 h2 => exact h1
  | full h1 h2 h3 ih => exact rowR_append ih _ h1
  | left h1 h2 _ _ h3 ih => exact rowR_append ih _ h1
theorem kept_full {n : Nat} (hn : 2 ≤ n) {c l : List Cl} {rows : List Ln} (h2 : c.length = n) (h3 : ChR n l rows) (hb : NoB (c ++ l)) : kept1 c (rows.map Ln.cells) = c := by
  cases rows with
  | nil => rfl
  | cons r t =>
    show keptV c r.cells = c
    obtain ⟨q, hq⟩ : ∃ q, c[c.length - 1]? = some q := ⟨c[c.length - 1], List.getElem?_eq_getElem (by omega)⟩
    have hno : (isB q && wideH r.cells) = false := by
      cases hbq : isB q with
      | false => rfl
      | true =>
        cases hw : wideH r.cells with
        | false => rfl
        | true =>
          exfalso
          cases l with
          | nil =>
            obtain ⟨r2, rest, e1, e2⟩ := h3.nilhead hn rfl
            injection e1 with e3 _
            rw [e3, e2] at hw
            cases hw
          | cons z l =>
            obtain ⟨r2, rest, e1, e2⟩ := h3.head hn (x := z) rfl
            injection e1 with e3 _
            rw [e3, wideH_get e2] at hw
            exact hb (c.length - 1) q z (by rw [List.getElem?_append_left (by omega)]; exact hq) (by rw [List.getElem?_append_right (by omega), show c.length - 1 + 1 - c.length = 0 by omega]; rfl) hbq (by simpa using hw)
    rw [keptV, keptN_some hq, hno, if_neg (by decide), List.take_length]
theorem kept_left {n : Nat} (hn : 2 ≤ n) {c l : List Cl} {rows : List Ln} {x : Cl} (hx : l[0]? = some x) (hw : x.w = 2) (h3 : ChR n l rows) : kept1 (c ++ [blank Pen.zero]) (rows.map Ln.cells) = c := by
  obtain ⟨r2, rest, e1, e2⟩ := h3.head hn hx
  rw [e1]
  show keptV (c ++ [blank Pen.zero]) r2.cells = c
  have hl : (c ++ [blank Pen.zero]).length = c.length + 1 := by simp
  rw [keptV, keptN_some (c := blank Pen.zero) (by rw [hl, Nat.add_sub_cancel, List.getElem?_append_right (Nat.le_refl _), Nat.sub_self]; rfl), wideH_get e2, hw, hl]
  simp [isB]
theorem NoB.right {c l : List Cl} (hb : NoB (c ++ l)) : NoB l := fun i x y hx hy => hb (c.length + i) x y (by rw [List.getElem?_append_right (by omega), Nat.add_sub_cancel_left]; exact hx) (by rw [List.getElem?_append_right (by omega), show c.length + i + 1 - c.length = i + 1 by omega]; exact hy)
/-- the rows' places, and how many cells come before -/
theorem ch_pos {n : Nat} (hn : 2 ≤ n) {l : List Cl} {rows : List Ln} (h : ChR n l rows) : NoB l → ∀ (r0 : Int) (q : Nat) (p : Int × Int), (psG (n : Int) (r0, 0) l)[q]? = some p → ∃ k : Nat, p.1 = r0 + (k : Int) ∧ k < rows.length ∧ (0 ≤ p.2 ∧ p.2 < (n : Int)) ∧ p.2 + (sumK (rows.map Ln.cells) k : Int) = (q : Int) := by
  induction h with
  | @last l h1 h2 =>
    intro hb r0 q p hp
    have hq : q < l.length := by have := (List.getElem?_eq_some_iff.1 hp).1; rwa [psG_len] at this
    obtain ⟨g1, _⟩ := psG_fit (cols := (n : Int)) (by omega) l h1 (r0, 0) (by simp) (by simp only; omega)
    rw [g1 q hq] at hp
    cases hp
    exact ⟨0, by simp, by simp, by simp only; omega, by rw [sumK_zero]; simp⟩
  | @full c l rows h1 h2 h3 ih =>
    intro hb r0 q p hp
    obtain ⟨g1, g2⟩ := psG_fit (cols := (n : Int)) (by omega) c h1 (r0, 0) (by simp) (by simp only; omega)
    rw [psG_app, g2] at hp
    by_cases hq : q < c.length
    · rw [List.getElem?_append_left (by rw [psG_len]; exact hq), g1 q hq] at hp
      cases hp
      exact ⟨0, by simp, by simp, by simp only; omega, by rw [sumK_zero]; simp⟩
    · rw [List.getElem?_append_right (by rw [psG_len]; omega), psG_len] at hp
      cases hl : l with
      | nil => rw [hl] at hp; simp [psG] at hp
      | cons z l' =>
        have hr := h3.row
        rw [hl] at hp hr
        rw [psG_next (by omega) hr (.inl (by simp only; omega)), ← hl] at hp
        obtain ⟨k, k1, k2, k3, k4⟩ := ih hb.right (r0 + 1) (q - c.length) p hp
        refine ⟨k + 1, by omega, by simp only [List.length_cons]; omega, k3, ?_⟩
        rw [List.map_cons, sumK, kept_full hn h2 h3 hb]
        omega
  | @left c l rows x h1 h2 hx hw h3 ih =>
    intro hb r0 q p hp
    obtain ⟨g1, g2⟩ := psG_fit (cols := (n : Int)) (by omega) c h1 (r0, 0) (by simp) (by simp only; omega)
    rw [psG_app, g2] at hp
    by_cases hq : q < c.length
    · rw [List.getElem?_append_left (by rw [psG_len]; exact hq), g1 q hq] at hp
      cases hp
      exact ⟨0, by simp, by simp, by simp only; omega, by rw [sumK_zero]; simp⟩
    · rw [List.getElem?_append_right (by rw [psG_len]; omega), psG_len] at hp
      cases hl : l with
      | nil => rw [hl] at hp; simp [psG] at hp
      | cons z l' =>
        have hr := h3.row
        have hz : z = x := by rw [hl] at hx; simpa using hx
        rw [hl] at hp hr
        rw [psG_next (by omega) hr (.inr ⟨by simp only; omega, by rw [hz]; exact hw⟩), ← hl] at hp
        obtain ⟨k, k1, k2, k3, k4⟩ := ih hb.right (r0 + 1) (q - c.length) p hp
        refine ⟨k + 1, by omega, by simp only [List.length_cons]; omega, k3, ?_⟩
        rw [List.map_cons, sumK, kept_left hn hx hw h3]
        omega
theorem trim_same {xs : List Cl} (h : (trimV xs).length = xs.length) : trimV xs = xs := by
  obtain ⟨k, hk, e⟩ := trimV_pre _ xs rfl
  rw [e] at h ⊢
  rw [List.length_take] at h
  exact List.take_of_length_le (by omega)
theorem wrap_lines {xs : List Cl} {n : Nat} (h : vW xs (n : Int) = true) (hn : 2 ≤ n) (hb : NoB xs) (hlen : xs.length ≤ 1000) : vLs (wrapV xs (n : Int)) = true ∧ lgG [] 0 (wrapV xs (n : Int)) = [⟨trimV xs, 0, ((wrapV xs (n : Int)).length : Int)⟩] := by
  have hch := wrapV_ch h hn
  have hvp := vW_parts h
  have hr := hch.rows
  obtain ⟨k, hk⟩ := ch_all hn hch hb
  have hrows : (wrapV xs (n : Int)).length ≤ 1001 := by
    rw [wrapV_ref h, refW_length]
    have h8 := (plR_bd (n : Int) xs).2.1
    rw [rowsN]
    omega
  have hv : vLs (wrapV xs (n : Int)) = true := by
    refine vLs_ok (by omega) ?_
    rw [List.all_eq_true]
    intro x hx
    obtain ⟨i, hi, e⟩ := List.getElem_of_mem hx
    obtain ⟨h1, h2, _⟩ := hr i x (by rw [List.getElem?_eq_getElem hi, e])
    rw [vLine, h1, h2, Bool.and_true]
    exact decide_eq_true (by omega)
  have hl := lgG_softs (wrapV xs (n : Int)) [] 0 hch.ne fun i x hx => (hr i x hx).2.2
  rw [List.nil_append, hk, trim_blanks] at hl
  refine ⟨hv, ?_⟩
  rw [hl]
  simp
/-- a place of what was wrapped, carried -/
theorem back_ok {xs : List Cl} {n : Nat} {other : Int} (h : vW xs (n : Int) = true) (hn : 2 ≤ n) (hb : NoB xs) (hlen : xs.length ≤ 1000) (ht : trimV xs = xs) (ho : vW xs other = true) {q : Nat} (hq : q < xs.length) :
    carLawV (wrapV xs (n : Int)) other [rplV (n : Int) xs q] 0 [rplV other xs q] = true := by
  obtain ⟨hv, hl⟩ := wrap_lines h hn hb hlen
  rw [ht] at hl
  have hch := wrapV_ch h hn
  obtain ⟨p, hp⟩ := plR_get (n : Int) hq
  have e : rplV (n : Int) xs q = p := by unfold rplV; simp only [hp]
  rw [plR_eq] at hp
  obtain ⟨k, k1, k2, k3, k4⟩ := ch_pos hn hch hb 0 q p hp
  rw [Int.zero_add] at k1
  obtain ⟨x, hx⟩ : ∃ x, (wrapV xs (n : Int))[k]? = some x := ⟨_, List.getElem?_eq_getElem k2⟩
  have hxl := (hch.rows k x hx).1
  have hpe : p = ((k : Int), p.2) := by rw [← k1]
  have hP : hasP (wrapV xs (n : Int)) p = true := by
    rw [hpe]
    exact hasP_yes hx k3.1 (by omega)
  obtain ⟨i, g, f, r, g1, g2, g3, g4, g5, g6, g7⟩ := to_at hv hx p.2
  rw [hl] at g1
  have hi : i = 0 := by have := (List.getElem?_eq_some_iff.1 g1).1; simp at this; omega
  subst hi
  simp only [List.getElem?_cons_zero, Option.some.injEq] at g1
  subst g1
  have hf0 : f = 0 := by simp only at g2; omega
  subst hf0
  rw [List.drop_zero, Nat.sub_zero, k4, ← hpe] at g7
  have hfi : fineB (lgG [] 0 (wrapV xs (n : Int))) other = true := by
    obtain ⟨c1, _, _⟩ := vW_parts ho
    rw [hl, fineB, List.all_cons, ho]
    simp [vW, c1, rowR, rowFrom]
  have hcar : car1 (wrapV xs (n : Int)) other p = rplV other xs q := by
    rw [car1, g7, frV, hl]
    simp only [Int.natCast_zero, Int.toNat_zero, List.getElem?_cons_zero]
    rw [rfrom_in ho (by omega) (by omega), Int.toNat_natCast]
    simp [rwS]
  have := car_ok (cols := other) hv hfi (l := [p]) (by simp [hP])
  rw [List.map_cons, List.map_nil, hcar] at this
  rw [e]
  exact this
end Go.Proofs.YtdmpodpdpncobaaDoor
