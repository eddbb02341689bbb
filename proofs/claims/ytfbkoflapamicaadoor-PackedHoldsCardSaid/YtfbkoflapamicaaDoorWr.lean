/-
  The reference as plain functions, and what it has to do with the code. No condition.
-/
import Derived.Test.YtfbkoflapamicaaDoorWp
namespace Go.Proofs.YtfbkoflapamicaaDoor
open Go.RowKit
set_option linter.unusedSimpArgs false
set_option linter.unusedVariables false

/-- the reference's bits of a color -/
def rB (k i r g b : Int) : Int := if k = 1 then 16777216 + i else if k = 2 then 33554432 + 65536 * r + 256 * g + b else 0
def rP (k1 i1 r1 g1 b1 k2 i2 r2 g2 b2 f : Int) : Int := rB k1 i1 r1 g1 b1 + 67108864 * rB k2 i2 r2 g2 b2 + 4503599627370496 * f
theorem rB_bd (k i r g b : Int) (hi : 0 ≤ i ∧ i ≤ 255) (hr : 0 ≤ r ∧ r ≤ 255) (hg : 0 ≤ g ∧ g ≤ 255) (hb : 0 ≤ b ∧ b ≤ 255) : 0 ≤ rB k i r g b ∧ rB k i r g b < 67108864 := by
  unfold rB
  split
  · omega
  · split <;> omega
theorem rB_ok (k i r g b : Int) (hv : vC k i r g b = true) : rB k i r g b = bC k i r g b := by
  unfold rB bC
  rcases (vC_iff k i r g b).1 hv with h | h | h
  · rw [if_neg (by omega), if_neg (by omega)]; omega
  · rw [if_pos (by omega)]; omega
  · rw [if_neg (by omega), if_pos (by omega)]; omega
theorem rP_ok (k1 i1 r1 g1 b1 k2 i2 r2 g2 b2 f : Int) (hv : vP k1 i1 r1 g1 b1 k2 i2 r2 g2 b2 f = true) : rP k1 i1 r1 g1 b1 k2 i2 r2 g2 b2 f = wP k1 i1 r1 g1 b1 k2 i2 r2 g2 b2 f := by
  have hv2 : vC k1 i1 r1 g1 b1 = true ∧ vC k2 i2 r2 g2 b2 = true := by simpa [vP] using hv
  rw [rP, wP, rB_ok _ _ _ _ _ hv2.1, rB_ok _ _ _ _ _ hv2.2]
/-- the reference's color of bits -/
def rK (x : Int) : Int := if x / 16777216 = 1 then 1 else if x / 16777216 = 2 then 2 else 0
def rI (x : Int) : Int := if x / 16777216 = 1 then x % 256 else 0
def rR (x : Int) : Int := if x / 16777216 = 2 then x / 65536 % 256 else 0
def rG (x : Int) : Int := if x / 16777216 = 2 then x / 256 % 256 else 0
def rBl (x : Int) : Int := if x / 16777216 = 2 then x % 256 else 0
/-- the bits of what the reference reads are the bits just if the color read by the code is one -/
theorem color_law (x : Int) (h0 : 0 ≤ x) (h1 : x < 67108864) :
    (rB (rK x) (rI x) (rR x) (rG x) (rBl x) = x ∧ vC (cK x) (cI x) (cR x) (cG x) (cB x) = true ∧ rK x = cK x ∧ rI x = cI x ∧ rR x = cR x ∧ rG x = cG x ∧ rBl x = cB x) ∨
    (rB (rK x) (rI x) (rR x) (rG x) (rBl x) ≠ x ∧ vC (cK x) (cI x) (cR x) (cG x) (cB x) = false) := by
  have hk : x / 16777216 = 0 ∨ x / 16777216 = 1 ∨ x / 16777216 = 2 ∨ x / 16777216 = 3 := by omega
  rcases hk with h | h | h | h
  · by_cases hx : x = 0
    · subst hx; left; decide
    · right
      refine ⟨by simp [rB, rK, h]; omega, ?_⟩
      cases hv : vC (cK x) (cI x) (cR x) (cG x) (cB x)
      · rfl
      · have := (vC_iff _ _ _ _ _).1 hv
        simp [cK, cI, cR, cG, cB, h] at this
        omega
  · by_cases hx : x / 65536 % 256 = 0 ∧ x / 256 % 256 = 0
    · left
      have e1 : cK x = 1 := h
      refine ⟨by simp [rB, rK, rI, h]; omega, (vC_iff _ _ _ _ _).2 (.inr (.inl ⟨e1, hx.1, hx.2, by simp [cB, e1]⟩)), by simp [rK, cK, h], by simp [rI, cI, cK, h], by simp [rR, cR, h, hx.1], by simp [rG, cG, h, hx.2], by simp [rBl, cB, cK, h]⟩
    · right
      refine ⟨by simp [rB, rK, rI, h]; omega, ?_⟩
      cases hv : vC (cK x) (cI x) (cR x) (cG x) (cB x)
      · rfl
      · have := (vC_iff _ _ _ _ _).1 hv
        simp [cK, cI, cR, cG, cB, h] at this
        omega
  · left
    have e1 : cK x = 2 := h
    refine ⟨by simp [rB, rK, rR, rG, rBl, h]; omega, (vC_iff _ _ _ _ _).2 (.inr (.inr ⟨e1, by simp [cI, e1]⟩)), by simp [rK, cK, h], by simp [rI, cI, cK, h], by simp [rR, cR, h], by simp [rG, cG, h], by simp [rBl, cB, cK, h]⟩
  · right
    refine ⟨by simp [rB, rK, h]; omega, ?_⟩
    cases hv : vC (cK x) (cI x) (cR x) (cG x) (cB x)
    · rfl
    · have := (vC_iff _ _ _ _ _).1 hv
      simp [cK, cI, cR, cG, cB, h] at this
/-- a valid color's bits give the color back -/
theorem color_back (k i r g b : Int) (hv : vC k i r g b = true) (hi : 0 ≤ i ∧ i ≤ 255) (hr : 0 ≤ r ∧ r ≤ 255) (hg : 0 ≤ g ∧ g ≤ 255) (hb : 0 ≤ b ∧ b ≤ 255) :
    cK (bC k i r g b) = k ∧ cI (bC k i r g b) = i ∧ cR (bC k i r g b) = r ∧ cG (bC k i r g b) = g ∧ cB (bC k i r g b) = b := by
  have e : cK (bC k i r g b) = k := by unfold cK bC; rcases (vC_iff k i r g b).1 hv with h | h | h <;> omega
  refine ⟨e, ?_, ?_, ?_, ?_⟩
  · unfold cI; rw [e]; unfold bC; rcases (vC_iff k i r g b).1 hv with h | h | h <;> split <;> omega
  · unfold cR bC; rcases (vC_iff k i r g b).1 hv with h | h | h <;> omega
  · unfold cG bC; rcases (vC_iff k i r g b).1 hv with h | h | h <;> omega
  · unfold cB; rw [e]; unfold bC; rcases (vC_iff k i r g b).1 hv with h | h | h <;> split <;> omega

theorem words_law (x : Int) (h0 : 0 ≤ x) (h1 : x < 18446744073709551616) :
    (rP (rK (x % 67108864)) (rI (x % 67108864)) (rR (x % 67108864)) (rG (x % 67108864)) (rBl (x % 67108864)) (rK (x / 67108864 % 67108864)) (rI (x / 67108864 % 67108864)) (rR (x / 67108864 % 67108864)) (rG (x / 67108864 % 67108864)) (rBl (x / 67108864 % 67108864)) (x / 4503599627370496 % 256) = x ∧ x < 1152921504606846976 ∧ vP (cK (x % 67108864)) (cI (x % 67108864)) (cR (x % 67108864)) (cG (x % 67108864)) (cB (x % 67108864)) (cK (x / 67108864 % 67108864)) (cI (x / 67108864 % 67108864)) (cR (x / 67108864 % 67108864)) (cG (x / 67108864 % 67108864)) (cB (x / 67108864 % 67108864)) (x / 4503599627370496 % 256) = true ∧
      (rK (x % 67108864) = cK (x % 67108864) ∧ rI (x % 67108864) = cI (x % 67108864) ∧ rR (x % 67108864) = cR (x % 67108864) ∧ rG (x % 67108864) = cG (x % 67108864) ∧ rBl (x % 67108864) = cB (x % 67108864)) ∧ (rK (x / 67108864 % 67108864) = cK (x / 67108864 % 67108864) ∧ rI (x / 67108864 % 67108864) = cI (x / 67108864 % 67108864) ∧ rR (x / 67108864 % 67108864) = cR (x / 67108864 % 67108864) ∧ rG (x / 67108864 % 67108864) = cG (x / 67108864 % 67108864) ∧ rBl (x / 67108864 % 67108864) = cB (x / 67108864 % 67108864))) ∨
    (rP (rK (x % 67108864)) (rI (x % 67108864)) (rR (x % 67108864)) (rG (x % 67108864)) (rBl (x % 67108864)) (rK (x / 67108864 % 67108864)) (rI (x / 67108864 % 67108864)) (rR (x / 67108864 % 67108864)) (rG (x / 67108864 % 67108864)) (rBl (x / 67108864 % 67108864)) (x / 4503599627370496 % 256) ≠ x ∧ (x < 1152921504606846976 → vP (cK (x % 67108864)) (cI (x % 67108864)) (cR (x % 67108864)) (cG (x % 67108864)) (cB (x % 67108864)) (cK (x / 67108864 % 67108864)) (cI (x / 67108864 % 67108864)) (cR (x / 67108864 % 67108864)) (cG (x / 67108864 % 67108864)) (cB (x / 67108864 % 67108864)) (x / 4503599627370496 % 256) = false)) := by
  have bd : ∀ y : Int, 0 ≤ rI y ∧ rI y ≤ 255 ∧ 0 ≤ rR y ∧ rR y ≤ 255 ∧ 0 ≤ rG y ∧ rG y ≤ 255 ∧ 0 ≤ rBl y ∧ rBl y ≤ 255 := fun y => by
    refine ⟨?_, ?_, ?_, ?_, ?_, ?_, ?_, ?_⟩ <;> (first | unfold rI | unfold rR | unfold rG | unfold rBl) <;> split <;> omega
  obtain ⟨p1, p2, p3, p4, p5, p6, p7, p8⟩ := bd (x % 67108864)
  obtain ⟨q1, q2, q3, q4, q5, q6, q7, q8⟩ := bd (x / 67108864 % 67108864)
  obtain ⟨u1, u2⟩ := rB_bd (rK (x % 67108864)) (rI (x % 67108864)) (rR (x % 67108864)) (rG (x % 67108864)) (rBl (x % 67108864)) ⟨p1, p2⟩ ⟨p3, p4⟩ ⟨p5, p6⟩ ⟨p7, p8⟩
  obtain ⟨v1, v2⟩ := rB_bd (rK (x / 67108864 % 67108864)) (rI (x / 67108864 % 67108864)) (rR (x / 67108864 % 67108864)) (rG (x / 67108864 % 67108864)) (rBl (x / 67108864 % 67108864)) ⟨q1, q2⟩ ⟨q3, q4⟩ ⟨q5, q6⟩ ⟨q7, q8⟩
  unfold rP vP
  rcases color_law (x % 67108864) (by omega) (by omega) with ⟨e1, e2, e3⟩ | ⟨e1, e2⟩
  · rcases color_law (x / 67108864 % 67108864) (by omega) (by omega) with ⟨d1, d2, d3⟩ | ⟨d1, d2⟩
    · by_cases hx : x < 1152921504606846976
      · left
        exact ⟨by omega, hx, by rw [e2, d2]; rfl, e3, d3⟩
      · right
        exact ⟨by omega, fun h => absurd h hx⟩
    · right
      exact ⟨by omega, fun _ => by rw [e2, d2]; rfl⟩
  · right
    exact ⟨by omega, fun _ => by rw [e2]; rfl⟩
theorem parts_back (k1 i1 r1 g1 b1 k2 i2 r2 g2 b2 f : Int) (hv : vP k1 i1 r1 g1 b1 k2 i2 r2 g2 b2 f = true) (hi1 : 0 ≤ i1 ∧ i1 ≤ 255) (hr1 : 0 ≤ r1 ∧ r1 ≤ 255) (hg1 : 0 ≤ g1 ∧ g1 ≤ 255) (hb1 : 0 ≤ b1 ∧ b1 ≤ 255) (hi2 : 0 ≤ i2 ∧ i2 ≤ 255) (hr2 : 0 ≤ r2 ∧ r2 ≤ 255) (hg2 : 0 ≤ g2 ∧ g2 ≤ 255) (hb2 : 0 ≤ b2 ∧ b2 ≤ 255) (hf : 0 ≤ f ∧ f ≤ 255) :
    (wP k1 i1 r1 g1 b1 k2 i2 r2 g2 b2 f % 67108864 = bC k1 i1 r1 g1 b1 ∧ wP k1 i1 r1 g1 b1 k2 i2 r2 g2 b2 f / 67108864 % 67108864 = bC k2 i2 r2 g2 b2 ∧ wP k1 i1 r1 g1 b1 k2 i2 r2 g2 b2 f / 4503599627370496 % 256 = f) ∧ 0 ≤ wP k1 i1 r1 g1 b1 k2 i2 r2 g2 b2 f ∧ wP k1 i1 r1 g1 b1 k2 i2 r2 g2 b2 f < 1152921504606846976 := by
  have hv2 : vC k1 i1 r1 g1 b1 = true ∧ vC k2 i2 r2 g2 b2 = true := by simpa [vP] using hv
  obtain ⟨x0, x1⟩ := bC_bd k1 i1 r1 g1 b1 hv2.1 hi1.1 hi1.2 hr1.1 hr1.2 hg1.1 hg1.2 hb1.1 hb1.2
  obtain ⟨y0, y1⟩ := bC_bd k2 i2 r2 g2 b2 hv2.2 hi2.1 hi2.2 hr2.1 hr2.2 hg2.1 hg2.2 hb2.1 hb2.2
  unfold wP
  omega
end Go.Proofs.YtfbkoflapamicaaDoor
