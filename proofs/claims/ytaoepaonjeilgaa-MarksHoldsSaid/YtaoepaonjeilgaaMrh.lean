/-
  What the law MarksHolds keeps, as plain data. No condition.
-/
import Derived.Test.YtaoepaonjeilgaaMrs
namespace Go.Proofs.Ytaoepaonjeilgaa
open Go.RowKit
set_option linter.unusedSimpArgs false
set_option linter.unusedVariables false
/-! ### What the law MarksHolds keeps -/
def HdI (k : List Int) (xs : List Mk) (L : List Int) : Prop := MOk xs ∧ L.Pairwise (· < ·) ∧ ∀ v, v ∈ L ↔ ∃ x ∈ xs, hasK k x.kd = true ∧ x.ln = v
theorem HdI.nil (k : List Int) : HdI k [] [] := ⟨MOk.nil, .nil, fun v => ⟨fun h => (by cases h), fun ⟨x, h, _⟩ => (by cases h)⟩⟩
theorem snoc_le {xs : List Mk} {x : Mk} (h : MOk (xs ++ [x])) : ∀ y ∈ xs, y.ln ≤ x.ln := fun y hy => (List.pairwise_append.1 h.2.1).2.2 y hy x (by simp)
theorem HdI.no {k : List Int} {xs : List Mk} {L : List Int} {x : Mk} (h : HdI k xs L) (hm : MOk (xs ++ [x])) (hk : hasK k x.kd = false) : HdI k (xs ++ [x]) L := ⟨hm, h.2.1, fun v => (h.2.2 v).trans ⟨fun ⟨y, h1, h2⟩ => ⟨y, by simp [h1], h2⟩, fun ⟨y, h1, h2, h3⟩ => by
  rcases List.mem_append.1 h1 with h1 | h1
  · exact ⟨y, h1, h2, h3⟩
  · rw [List.mem_singleton.1 h1, hk] at h2
    cases h2⟩⟩
theorem last_max {L : List Int} {w : Int} (h : L.Pairwise (· < ·)) (hw : L[L.length - 1]? = some w) : ∀ v ∈ L, v ≤ w := fun v hv => by
  obtain ⟨i, hi, e⟩ := List.getElem_of_mem hv
  obtain ⟨h1, h2⟩ := List.getElem?_eq_some_iff.1 hw
  by_cases he : i = L.length - 1
  · subst he
    rw [← e, ← h2]
    exact Int.le_refl _
  · have := List.pairwise_iff_getElem.1 h i (L.length - 1) hi h1 (by omega)
    rw [e, h2] at this
    omega
theorem HdI.same {k : List Int} {xs : List Mk} {L : List Int} {x : Mk} (h : HdI k xs L) (hm : MOk (xs ++ [x])) (hw : L[L.length - 1]? = some x.ln) : HdI k (xs ++ [x]) L := ⟨hm, h.2.1, fun v => (h.2.2 v).trans ⟨fun ⟨y, h1, h2⟩ => ⟨y, by simp [h1], h2⟩, fun ⟨y, h1, h2, h3⟩ => by
  rcases List.mem_append.1 h1 with h1 | h1
  · exact ⟨y, h1, h2, h3⟩
  · rw [List.mem_singleton.1 h1] at h3
    rw [← h3]
    exact (h.2.2 x.ln).1 (List.mem_of_getElem? hw)⟩⟩
theorem HdI.new {k : List Int} {xs : List Mk} {L : List Int} {x : Mk} (h : HdI k xs L) (hm : MOk (xs ++ [x])) (hk : hasK k x.kd = true) (hw : ∀ w, L[L.length - 1]? = some w → w ≠ x.ln) : HdI k (xs ++ [x]) (L ++ [x.ln]) := by
  refine ⟨hm, List.pairwise_append.2 ⟨h.2.1, List.pairwise_singleton _ _, fun v hv u hu => ?_⟩, fun v => ⟨fun hv => ?_, fun ⟨y, h1, h2, h3⟩ => ?_⟩⟩
  · rw [List.mem_singleton.1 hu]
    have hl : L.length - 1 < L.length := by have := List.length_pos_of_mem hv; omega
    have hg : L[L.length - 1]? = some L[L.length - 1] := List.getElem?_eq_getElem hl
    have h1 := last_max h.2.1 hg v hv
    have h2 := hw _ hg
    obtain ⟨y, h3, _, h4⟩ := (h.2.2 _).1 (List.mem_of_getElem? hg)
    have h5 := snoc_le hm y h3
    omega
  · rcases List.mem_append.1 hv with hv | hv
    · obtain ⟨y, h1, h2⟩ := (h.2.2 v).1 hv
      exact ⟨y, by simp [h1], h2⟩
    · rw [List.mem_singleton.1 hv]
      exact ⟨x, by simp, hk, rfl⟩
  · rcases List.mem_append.1 h1 with h1 | h1
    · exact List.mem_append.2 (.inl ((h.2.2 v).2 ⟨y, h1, h2, h3⟩))
    · rw [List.mem_singleton.1 h1] at h3
      rw [← h3]
      simp
/-- from where Next is asked, and Prev -/
def fromL (L : List Int) : Nat → Int
  | 0 => -1
  | u + 1 => (L[u]?).getD 0
def toL (L : List Int) (u : Nat) : Int := (L[u]?).getD 1099511627777
theorem pw_get {L : List Int} (h : L.Pairwise (· < ·)) {i j : Nat} {a b : Int} (hi : L[i]? = some a) (hj : L[j]? = some b) : (i < j → a < b) ∧ (a < b → i < j) := by
  obtain ⟨h1, e1⟩ := List.getElem?_eq_some_iff.1 hi
  obtain ⟨h2, e2⟩ := List.getElem?_eq_some_iff.1 hj
  have key : ∀ i j (h1 : i < L.length) (h2 : j < L.length), i < j → L[i] < L[j] := fun i j h1 h2 h3 => List.pairwise_iff_getElem.1 h i j h1 h2 h3
  refine ⟨fun h3 => by rw [← e1, ← e2]; exact key i j h1 h2 h3, fun h3 => ?_⟩
  rw [← e1, ← e2] at h3
  rcases Nat.lt_trichotomy i j with h4 | h4 | h4
  · exact h4
  · subst h4; omega
  · have := key j i h2 h1 h4; omega
theorem next_line {k : List Int} {xs : List Mk} {L : List Int} (h : HdI k xs L) {u : Nat} (hu : u < L.length) : ∃ y, nextO (fromL L u) k xs = some y ∧ L[u]? = some y.ln ∧ fromL L (u + 1) = y.ln := by
  obtain ⟨v, hv⟩ : ∃ v, L[u]? = some v := ⟨L[u], List.getElem?_eq_getElem hu⟩
  obtain ⟨x, hx, hxk, hxv⟩ := (h.2.2 v).1 (List.mem_of_getElem? hv)
  have h0 := (okM_parts (h.1.1 x hx)).1
  have hlt : fromL L u < v := by
    cases u with
    | zero => rw [fromL]; omega
    | succ q =>
      have hq : L[q]? = some L[q] := List.getElem?_eq_getElem (by omega)
      rw [fromL, hq]
      exact (pw_get h.2.1 hq hv).1 (by omega)
  have hp : nextP (fromL L u) k x = true := by rw [nextP, hxk, decide_eq_true (by omega)]; rfl
  cases hf : nextO (fromL L u) k xs with
  | none =>
    have := List.find?_eq_none.1 hf x hx
    exact absurd hp this
  | some y =>
    obtain ⟨hyp, pa, pb, e, hn⟩ := List.find?_eq_some_iff_append.1 hf
    have hym : y ∈ xs := by rw [e]; simp
    rw [nextP, Bool.and_eq_true, decide_eq_true_eq] at hyp
    obtain ⟨j, hj, ej⟩ := List.getElem_of_mem ((h.2.2 y.ln).2 ⟨y, hym, hyp.2, rfl⟩)
    have hj2 : L[j]? = some y.ln := by rw [List.getElem?_eq_getElem hj, ej]
    have hle : v ≤ y.ln := by
      by_cases hju : j < u
      · obtain ⟨q, rfl⟩ : ∃ q, u = q + 1 := ⟨u - 1, by omega⟩
        have hq : L[q]? = some L[q] := List.getElem?_eq_getElem (by omega)
        have h1 := hyp.1
        rw [fromL, hq] at h1
        have h2 := (pw_get h.2.1 hq hj2).2 h1
        omega
      · by_cases hju2 : j = u
        · rw [hju2, hv] at hj2; cases hj2; omega
        · have := (pw_get h.2.1 hv hj2).1 (by omega); omega
    have hge : y.ln ≤ v := by
      have hxm : x ∈ pa ++ y :: pb := by rw [← e]; exact hx
      rcases List.mem_append.1 hxm with h1 | h1
      · have := hn x h1; rw [hp] at this; cases this
      · rcases List.mem_cons.1 h1 with rfl | h1
        · omega
        · have h2 := h.1.2.1
          rw [e] at h2
          have h3 := (List.pairwise_cons.1 (List.pairwise_append.1 h2).2.1).1 x h1
          omega
    have hyv : y.ln = v := by omega
    exact ⟨y, rfl, by rw [hv, hyv], by rw [fromL, hv, hyv]; rfl⟩
theorem next_end {k : List Int} {xs : List Mk} {L : List Int} (h : HdI k xs L) : nextO (fromL L L.length) k xs = none := by
  refine List.find?_eq_none.2 fun y hy hp => ?_
  rw [nextP, Bool.and_eq_true, decide_eq_true_eq] at hp
  obtain ⟨j, hj, ej⟩ := List.getElem_of_mem ((h.2.2 y.ln).2 ⟨y, hy, hp.2, rfl⟩)
  obtain ⟨q, hq⟩ : ∃ q, L.length = q + 1 := ⟨L.length - 1, by omega⟩
  have hg : L[q]? = some L[q] := List.getElem?_eq_getElem (by omega)
  have h1 := hp.1
  rw [hq, fromL, hg] at h1
  have h2 := (pw_get h.2.1 hg (show L[j]? = some y.ln by rw [List.getElem?_eq_getElem hj, ej])).2 h1
  omega
theorem prev_line {k : List Int} {xs : List Mk} {L : List Int} (h : HdI k xs L) {u : Nat} (hu : u < L.length) : ∃ y, prevO (toL L (u + 1)) k xs = some y ∧ L[u]? = some y.ln ∧ toL L u = y.ln := by
  obtain ⟨v, hv⟩ : ∃ v, L[u]? = some v := ⟨L[u], List.getElem?_eq_getElem hu⟩
  obtain ⟨x, hx, hxk, hxv⟩ := (h.2.2 v).1 (List.mem_of_getElem? hv)
  have h0 := (okM_parts (h.1.1 x hx)).1
  have hlt : v < toL L (u + 1) := by
    by_cases h1 : u + 1 < L.length
    · have hq : L[u + 1]? = some L[u + 1] := List.getElem?_eq_getElem h1
      rw [toL, hq]
      exact (pw_get h.2.1 hv hq).1 (by omega)
    · rw [toL, List.getElem?_eq_none (by omega)]
      show v < 1099511627777
      omega
  have hp : prevP (toL L (u + 1)) k x = true := by rw [prevP, hxk, decide_eq_true (by omega)]; rfl
  cases hf : prevO (toL L (u + 1)) k xs with
  | none =>
    have := List.find?_eq_none.1 hf x (List.mem_reverse.2 hx)
    exact absurd hp this
  | some y =>
    obtain ⟨hyp, pa, pb, e, hn⟩ := List.find?_eq_some_iff_append.1 hf
    have hym : y ∈ xs := List.mem_reverse.1 (by rw [e]; simp)
    rw [prevP, Bool.and_eq_true, decide_eq_true_eq] at hyp
    obtain ⟨j, hj, ej⟩ := List.getElem_of_mem ((h.2.2 y.ln).2 ⟨y, hym, hyp.2, rfl⟩)
    have hj2 : L[j]? = some y.ln := by rw [List.getElem?_eq_getElem hj, ej]
    have hge : y.ln ≤ v := by
      by_cases hju : u < j
      · have hq : L[u + 1]? = some L[u + 1] := List.getElem?_eq_getElem (by omega)
        have h1 := hyp.1
        rw [toL, hq] at h1
        have h2 := (pw_get h.2.1 hj2 hq).2 h1
        omega
      · by_cases hju2 : j = u
        · rw [hju2, hv] at hj2; cases hj2; omega
        · have := (pw_get h.2.1 hj2 hv).1 (by omega); omega
    have hle : v ≤ y.ln := by
      have hxm : x ∈ pa ++ y :: pb := by rw [← e]; exact List.mem_reverse.2 hx
      rcases List.mem_append.1 hxm with h1 | h1
      · have := hn x h1; rw [hp] at this; cases this
      · rcases List.mem_cons.1 h1 with rfl | h1
        · omega
        · have h2 := List.pairwise_reverse.2 h.1.2.1
          rw [e] at h2
          have h3 := (List.pairwise_cons.1 (List.pairwise_append.1 h2).2.1).1 x h1
          omega
    have hyv : y.ln = v := by omega
    exact ⟨y, rfl, by rw [hv, hyv], by rw [toL, hv, hyv]; rfl⟩
theorem ev_ge {line : Int} : ∀ {xs : List Mk}, xs.Pairwise (fun a b => a.ln ≤ b.ln) → ∀ {j : Nat} {y : Mk}, xs[evN line xs + j]? = some y → line ≤ y.ln
  | [], _, j, y, h => by simp at h
  | x :: t, hs, j, y, h => by
    rw [evN] at h
    split at h
    · rw [show evN line t + 1 + j = (evN line t + j) + 1 by omega, List.getElem?_cons_succ] at h
      exact ev_ge (List.pairwise_cons.1 hs).2 h
    · rw [Nat.zero_add] at h
      rcases List.mem_cons.1 (List.mem_of_getElem? h) with rfl | h1
      · omega
      · have := (List.pairwise_cons.1 hs).1 y h1
        omega
theorem chk_kk {k : List Int} (h : ∀ z ∈ k, kindB z = true) (h0 : 0 < k.length) : chkE k = 0 := by
  rw [chkE, if_neg]
  rintro (h1 | h1)
  · omega
  · obtain ⟨z, hz, hb⟩ := List.any_eq_true.1 h1
    rw [h z hz] at hb
    cases hb
def fl4 (c : Cm) : List Bool := [c.hp, c.hc, c.ho, c.he]
def cnt4 (l : List Bool) : Nat := (l.map Bool.toNat).sum
theorem cnt_flags (c : Cm) : cnt4 (fl4 c) = flags c := by simp [cnt4, fl4, flags]; omega
theorem cnt_snoc (l : List Bool) (b : Bool) : cnt4 (l ++ [b]) = cnt4 l + b.toNat := by simp [cnt4]
theorem cnt_le (l : List Bool) : cnt4 l ≤ l.length := by
  induction l with
  | nil => simp [cnt4]
  | cons b t ih =>
    have : cnt4 (b :: t) = b.toNat + cnt4 t := by simp [cnt4]
    have h2 : b.toNat ≤ 1 := by cases b <;> decide
    rw [this, List.length_cons]
    omega
def sumF (cs : List Cm) : Nat := (cs.map flags).sum
theorem sumF_snoc (cs : List Cm) (c : Cm) : sumF (cs ++ [c]) = sumF cs + flags c := by simp [sumF]
theorem flags_le (c : Cm) : flags c ≤ 4 := by rw [← cnt_flags]; exact cnt_le (fl4 c)
theorem sumF_le (cs : List Cm) : sumF cs ≤ 4 * cs.length := by
  induction cs with
  | nil => simp [sumF]
  | cons c t ih =>
    have : sumF (c :: t) = flags c + sumF t := by simp [sumF]
    have h2 := flags_le c
    rw [this, List.length_cons]
    omega
theorem sumF_all {xs : List Mk} (h : MOk xs) : sumF (cmdsV xs) = xs.length := (gr_inv xs h.kinds).2.1
end Go.Proofs.Ytaoepaonjeilgaa
