/-
  What the theorem of the stage wants: a map from runes to bools, and the plain facts. No condition.
-/
import Derived.Test.YtbnljecooaglgaaDoorWg
import Derived.Maps.OwnSet
import Derived.Maps.Views
namespace Go.Proofs.YtbnljecooaglgaaDoor
open Go.RowKit Go.Maps
set_option linter.unusedSimpArgs false
set_option linter.unusedVariables false

/-- A map of the call's own, from runes to bools: what it says of each rune. -/
def BMap (w : World) (mb : Nat) (X : Int → Bool) (m : Nat) : Prop :=
  ∃ (n : Nat) (D : DataW Unit), w.ownsMap Tryd.prog 21 (plainElem Tryd.prog 4) mb n D ∧ n ≤ m ∧ IsMap D ∧ ∀ y : Int, (Lit.int .i32 y).wf = true → D.atKey (.int .i32 y) (.lit (.bool false)) = .lit (.bool (X y))
theorem bmap_keyed : Keyed Tryd.prog 21 := int_keyed Tryd.underlying21
theorem bmap_zero (w : World) : (zeroValue 4).run Tryd.prog w = .ok (.bool false) w := by kernel_rfl
theorem BMap.new {w : World} {mb : Nat} (h : w.heap[mb]? = some (.map #[] 0)) : BMap w mb (fun _ => false) 0 := by
  have h0 := World.ownsMap_made (H := Unit) w Tryd.prog 21 (plainElem Tryd.prog 4)
  obtain ⟨es, clock, hb, F, hn, hD⟩ := h0
  rw [show (w.alloc (.map #[] 0)).heap[w.heap.size]? = some (.map #[] 0) from heap_alloc_new w _] at hb
  obtain ⟨rfl, rfl⟩ : es = #[] ∧ clock = 0 := by simpa [eq_comm] using hb
  exact ⟨0, .map [], ⟨#[], 0, h, F, hn, hD⟩, Nat.zero_le _, isMap_empty, fun _ _ => rfl⟩
theorem BMap.kept {w w' : World} {mb m : Nat} {X : Int → Bool} (h : BMap w mb X m) (e : w'.heap[mb]? = w.heap[mb]?) : BMap w' mb X m := by
  obtain ⟨n, D, ⟨es, clock, hb, F, hn, hD⟩, h2, h3, h4⟩ := h
  exact ⟨n, D, ⟨es, clock, e.trans hb, F, hn, hD⟩, h2, h3, h4⟩
theorem BMap.look {w : World} {mb m : Nat} {X : Int → Bool} (h : BMap w mb X m) {y : Int} (hw : (Lit.int .i32 y).wf = true) {v : Bool} (hv : X y = v) :
    (Instr.lookup 50 (.map (some mb)) (.int .i32 y) false).run Tryd.prog w = .ok (.bool v) w := by
  obtain ⟨n, D, h1, h2, h3, h4⟩ := h
  obtain ⟨u, ps, hrun, hu⟩ := h1.lookup bmap_keyed Tryd.underlying50 (bmap_zero w) (plainElem_bool Tryd.underlying4 false) (keyOf_int_mk Tryd.underlying21 hw)
  rw [h4 y hw] at hu
  rw [hrun]
  cases u <;> simp_all [plainElem, Tryd.underlying4]
theorem BMap.put {w : World} {mb m : Nat} {X : Int → Bool} (h : BMap w mb X m) {y : Int} (hw : (Lit.int .i32 y).wf = true) (hm : m ≤ 1000) :
    ∃ w', (Instr.mapUpdate 50 (.map (some mb)) (.int .i32 y) (.bool true)).run Tryd.prog w = .ok () w' ∧ BMap w' mb (fun z => z == y || X z) (m + 1) ∧ w.grownBy w' (some mb) := by
  obtain ⟨n, D, h1, h2, h3, h4⟩ := h
  obtain ⟨w', hrun, h5, h6⟩ := h1.update bmap_keyed Tryd.underlying50 (by unfold maxLen; omega) (keyOf_int_mk Tryd.underlying21 hw) (plainElem_bool Tryd.underlying4 true)
  refine ⟨w', hrun, ⟨n + 1, _, h5, by omega, h3.put _ _, fun z hz => ?_⟩, h6⟩
  by_cases e : z = y
  · subst e
    rw [atKey_put_same h3 (by simp [WideAt.IsKeyLit])]
    simp
  · rw [atKey_put_other (by simpa using e), h4 z hz]
    simp [e]

theorem lineF_ne : ∀ k, k < 32 → ∀ j, j < k → lineF j ≠ lineF k := by decide
theorem lineF_wf : ∀ k, k < 32 → (Lit.int .i32 (lineF k)).wf = true := by decide
def seenB (k : Nat) (y : Int) : Bool := (List.range k).any (fun j => lineF j == y)
theorem seenB_succ (k : Nat) : seenB (k + 1) = fun y => y == lineF k || seenB k y := by
  funext y
  simp only [seenB, List.range_succ, List.any_append, List.any_cons, List.any_nil, Bool.or_false]
  rw [Bool.or_comm]
  congr 1
  exact Bool.beq_comm
theorem seenB_not (k : Nat) (hk : k < 32) : seenB k (lineF k) = false := by
  simp only [seenB, List.any_eq_false, List.mem_range, beq_iff_eq]
  exact fun j hj => lineF_ne k hk j hj
theorem seenB_yes (k : Nat) (hk : k < 32) : seenB 32 (lineF k) = true := by
  simp only [seenB, List.any_eq_true, List.mem_range, beq_iff_eq]
  exact ⟨k, hk, rfl⟩
theorem bk_line (k : Nat) (hk : k < 32) : bkV (lineF k) = 95 + k ∧ bkE (lineF k) = 0 := by
  have := findF_here lineF 32 k hk (lineF_ne k hk)
  simp only [bkV, bkE, this]
  exact ⟨by rw [if_neg (by omega)], by rw [if_neg (by omega)]⟩
theorem bk_none (r : Int) (h : ∀ k, k < 32 → lineF k ≠ r) : bkE r = 9 := by
  have := findF_not lineF 32 r h
  simp [bkE, this]
theorem mp_line (k : Nat) (hk : k < 32) : mpR 1 0 0 (95 + k) = lineF k := by
  have e : ((95 : Int) + k - 95).toNat = k := by omega
  have : mpOk 1 0 0 (95 + k) = true := by
    have h1 : vB 1 0 0 = true := rfl
    have h2 : act 1 0 0 = 1 := rfl
    simp [mpOk, h1, h2]
    omega
  simp [mpR, this, e]
theorem line_or (r : Int) : (∃ k, k < 32 ∧ r = lineF k) ∨ (∀ k, k < 32 → lineF k ≠ r) := by
  by_cases h : ∃ k, k < 32 ∧ r = lineF k
  · exact .inl h
  · exact .inr fun k hk e => h ⟨k, hk, e.symm⟩
/-- what the law asks of Select and Shift, where they return no error -/
theorem holds_sel (g0 g1 a g k r : Int) (h : selOk g0 g1 a g k = true) :
    sE g0 g1 a g k = 0 ∧ vB (s0 g0 g1 a g k) (s1 g0 g1 a g k) (s2 g0 g1 a g k) = true ∧ (g ≠ a → mpR (s0 g0 g1 a g k) (s1 g0 g1 a g k) (s2 g0 g1 a g k) r = mpR g0 g1 a r) ∧
    hE (s0 g0 g1 a g k) (s1 g0 g1 a g k) (s2 g0 g1 a g k) g = 0 ∧
    mpR (h0 (s0 g0 g1 a g k) (s1 g0 g1 a g k) (s2 g0 g1 a g k) g) (h1 (s0 g0 g1 a g k) (s1 g0 g1 a g k) (s2 g0 g1 a g k) g) (h2 (s0 g0 g1 a g k) (s1 g0 g1 a g k) (s2 g0 g1 a g k) g) r = mpR k 0 0 r := by
  have hs : g = 0 ∨ g = 1 := by grind [selOk, kB]
  have hv : vB g0 g1 a = true ∧ kB k = true := by grind [selOk]
  have hv3 : kB g0 = true ∧ kB g1 = true ∧ (a = 0 ∨ a = 1) := by grind [vB, kB]
  have hk0 : kB 0 = true := rfl
  have hk1 : kB 1 = true := rfl
  rcases hs with rfl | rfl <;> rcases hv3 with ⟨q0, q1, rfl | rfl⟩ <;>
    simp [sE, s0, s1, s2, hE, h0, h1, h2, shOk, vB, mpR, mpOk, act, h, q0, q1, hv.2, hk0, hk1]
theorem fin_bf (r : Int) (h : bfE r = 0) : fnV (bfV r) = r ∧ fnE (bfV r) = 0 := by
  have : r = 66 ∨ r = 48 := by
    by_cases e : r = 66 ∨ r = 48
    · exact e
    · simp [bfE, e] at h
  rcases this with rfl | rfl <;> decide
end Go.Proofs.YtbnljecooaglgaaDoor
