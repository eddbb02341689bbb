/-
  What the theorem of the stage wants of pens and flags. No condition.
-/
import Derived.Test.YtgelpgagbokmdaaDoorWb
import Derived.Test.YtgelpgagbokmdaaDoorWg
namespace Go.Proofs.YtgelpgagbokmdaaDoor
open Go.RowKit
set_option linter.unusedSimpArgs false
set_option linter.unusedVariables false

theorem or_fl : ∀ n : Fin 256, ∀ j : Fin 8, orF (n.val : Int) (flagF j.val) = ((n.val ||| 2 ^ j.val : Nat) : Int) := by decide +kernel
theorem and_fl : ∀ n : Fin 256, ∀ j : Fin 8, (bits .and .u8 (n.val : Int) (flagF j.val) != 0) = n.val.testBit j.val := by decide +kernel
/-- the flags that the first k numbers give -/
def acc (h : Nat → Nat) : Nat → Nat
  | 0 => 0
  | k + 1 => acc h k ||| 2 ^ (h k % 8)
theorem acc_lt (h : Nat → Nat) (k : Nat) : acc h k < 256 := by
  induction k with
  | zero => show 0 < 256; omega
  | succ k ih =>
    have h2 : 2 ^ (h k % 8) < 2 ^ 8 := Nat.pow_lt_pow_right (by omega) (Nat.mod_lt _ (by omega))
    exact Nat.or_lt_two_pow (n := 8) ih h2
def tB (h : Nat → Nat) (k j : Nat) : Bool := (List.range k).any fun i => h i % 8 == j
theorem tB_succ (h : Nat → Nat) (k j : Nat) : tB h (k + 1) j = (tB h k j || h k % 8 == j) := by simp [tB, List.range_succ]
theorem acc_bit (h : Nat → Nat) (k j : Nat) : (acc h k).testBit j = tB h k j := by
  induction k with
  | zero => simp [acc, tB]
  | succ k ih =>
    rw [acc, Nat.testBit_or, ih, tB_succ, Nat.testBit_two_pow]
    congr 1
theorem acc_rev (h : Nat → Nat) (n : Nat) : acc (fun i => h (n - 1 - i)) n = acc h n := by
  apply Nat.eq_of_testBit_eq
  intro j
  rw [acc_bit, acc_bit]
  unfold tB
  rw [Bool.eq_iff_iff, List.any_eq_true, List.any_eq_true]
  constructor
  · rintro ⟨i, hi, e⟩
    have hi' := List.mem_range.1 hi
    exact ⟨n - 1 - i, List.mem_range.2 (by omega), e⟩
  · rintro ⟨i, hi, e⟩
    have hi' := List.mem_range.1 hi
    exact ⟨n - 1 - i, List.mem_range.2 (by omega), by show (h (n - 1 - (n - 1 - i)) % 8 == j) = true; rw [show n - 1 - (n - 1 - i) = i by omega]; exact e⟩
theorem acc_step (h : Nat → Nat) (k : Nat) : orF (acc h k : Nat) (flagF (h k % 8)) = ((acc h (k + 1) : Nat) : Int) :=
  or_fl ⟨acc h k, acc_lt h k⟩ ⟨h k % 8, Nat.mod_lt _ (by omega)⟩
theorem acc_has (h : Nat → Nat) (n j : Nat) (hj : j < 8) : (bits .and .u8 (acc h n : Nat) (flagF j) != 0) = tB h n j := by
  rw [← acc_bit]
  exact and_fl ⟨acc h n, acc_lt h n⟩ ⟨j, hj⟩
def thereA (h : Nat → Nat) (k : Nat) : Array Value := ((List.range 8).map fun j => .bool (tB h k j)).toArray
theorem thereA_at (h : Nat → Nat) (k j : Nat) (hj : j < 8) : (thereA h k)[j]? = some (.bool (tB h k j)) := by simp [thereA, hj]
theorem thereA_set (h : Nat → Nat) (k : Nat) : (thereA h k).setIfInBounds (h k % 8) (.bool true) = thereA h (k + 1) := by
  apply Array.ext'
  simp only [thereA, Array.toList_setIfInBounds]
  apply List.ext_getElem?
  intro j
  by_cases hj : j < 8
  · rw [List.getElem?_set]
    simp only [List.length_map, List.length_range, List.getElem?_map, List.getElem?_range hj, Option.map_some, tB_succ]
    by_cases e : h k % 8 = j
    · simp [e, hj]
    · simp [e]
  · rw [List.getElem?_eq_none (by simp; omega), List.getElem?_eq_none (by simp; omega)]
/-- two pens that there are have the same word just if they are the same -/
theorem word_inj (k1 i1 r1 g1 b1 k2 i2 r2 g2 b2 f m1 j1 s1 h1 c1 m2 j2 s2 h2 c2 e : Int) (hv : vP k1 i1 r1 g1 b1 k2 i2 r2 g2 b2 f = true) (hw : vP m1 j1 s1 h1 c1 m2 j2 s2 h2 c2 e = true) (hB : Bytes k1 i1 r1 g1 b1 k2 i2 r2 g2 b2 f) (hC : Bytes m1 j1 s1 h1 c1 m2 j2 s2 h2 c2 e) :
    ((wP k1 i1 r1 g1 b1 k2 i2 r2 g2 b2 f == wP m1 j1 s1 h1 c1 m2 j2 s2 h2 c2 e) != ((k1 == m1 && (i1 == j1 && (r1 == s1 && (g1 == h1 && b1 == c1)))) && ((k2 == m2 && (i2 == j2 && (r2 == s2 && (g2 == h2 && b2 == c2)))) && f == e))) = false := by
  obtain ⟨⟨a1, a2, a3, a4⟩, ⟨d1, d2, d3, d4⟩, d⟩ := hB
  obtain ⟨⟨u1, u2, u3, u4⟩, ⟨v1, v2, v3, v4⟩, v⟩ := hC
  have x2 : vC k1 i1 r1 g1 b1 = true ∧ vC k2 i2 r2 g2 b2 = true := by simpa [vP] using hv
  have y2 : vC m1 j1 s1 h1 c1 = true ∧ vC m2 j2 s2 h2 c2 = true := by simpa [vP] using hw
  obtain ⟨⟨p1, p2, p3⟩, _, _⟩ := parts_back k1 i1 r1 g1 b1 k2 i2 r2 g2 b2 f hv a1 a2 a3 a4 d1 d2 d3 d4 d
  obtain ⟨⟨q1, q2, q3⟩, _, _⟩ := parts_back m1 j1 s1 h1 c1 m2 j2 s2 h2 c2 e hw u1 u2 u3 u4 v1 v2 v3 v4 v
  by_cases hE : wP k1 i1 r1 g1 b1 k2 i2 r2 g2 b2 f = wP m1 j1 s1 h1 c1 m2 j2 s2 h2 c2 e
  · rw [hE, q1] at p1
    rw [hE, q2] at p2
    rw [hE, q3] at p3
    have z1 := color_back _ _ _ _ _ x2.1 a1 a2 a3 a4
    have z2 := color_back _ _ _ _ _ y2.1 u1 u2 u3 u4
    have z3 := color_back _ _ _ _ _ x2.2 d1 d2 d3 d4
    have z4 := color_back _ _ _ _ _ y2.2 v1 v2 v3 v4
    rw [← p1] at z1
    rw [← p2] at z3
    obtain ⟨rfl, rfl, rfl, rfl, rfl⟩ : k1 = m1 ∧ i1 = j1 ∧ r1 = s1 ∧ g1 = h1 ∧ b1 = c1 := ⟨z1.1.symm.trans z2.1, z1.2.1.symm.trans z2.2.1, z1.2.2.1.symm.trans z2.2.2.1, z1.2.2.2.1.symm.trans z2.2.2.2.1, z1.2.2.2.2.symm.trans z2.2.2.2.2⟩
    obtain ⟨rfl, rfl, rfl, rfl, rfl⟩ : k2 = m2 ∧ i2 = j2 ∧ r2 = s2 ∧ g2 = h2 ∧ b2 = c2 := ⟨z3.1.symm.trans z4.1, z3.2.1.symm.trans z4.2.1, z3.2.2.1.symm.trans z4.2.2.1, z3.2.2.2.1.symm.trans z4.2.2.2.1, z3.2.2.2.2.symm.trans z4.2.2.2.2⟩
    subst p3
    simp
  · have e1 : (wP k1 i1 r1 g1 b1 k2 i2 r2 g2 b2 f == wP m1 j1 s1 h1 c1 m2 j2 s2 h2 c2 e) = false := by simpa using hE
    rw [e1]
    cases hh : ((k1 == m1 && (i1 == j1 && (r1 == s1 && (g1 == h1 && b1 == c1)))) && ((k2 == m2 && (i2 == j2 && (r2 == s2 && (g2 == h2 && b2 == c2)))) && f == e))
    · rfl
    · exfalso
      simp at hh
      obtain ⟨⟨rfl, rfl, rfl, rfl, rfl⟩, ⟨rfl, rfl, rfl, rfl, rfl⟩, rfl⟩ := hh
      exact hE rfl

theorem tmod8 (m : Nat) : Int.tmod (m : Int) 8 = ((m % 8 : Nat) : Int) := by rw [Int.tmod_eq_emod_of_nonneg (by omega)]; omega
def thereL (h : Nat → Nat) (k : Nat) : List Value := [.bool (tB h k 0), .bool (tB h k 1), .bool (tB h k 2), .bool (tB h k 3), .bool (tB h k 4), .bool (tB h k 5), .bool (tB h k 6), .bool (tB h k 7)]
theorem thereL_eq (h : Nat → Nat) (k : Nat) : (thereA h k).toList = thereL h k := rfl
theorem thereL_at (h : Nat → Nat) (k j : Nat) (hj : j < 8) : (thereL h k).toArray[j]? = some (.bool (tB h k j)) := by
  have := thereA_at h k j hj
  rw [← thereL_eq]
  simpa using this
end Go.Proofs.YtgelpgagbokmdaaDoor
