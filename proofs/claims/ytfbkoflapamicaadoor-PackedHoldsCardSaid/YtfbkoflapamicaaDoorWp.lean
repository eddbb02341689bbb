/-
  Pens and their words, as plain functions. No condition.
-/
import Derived.WalkKit
import Derived.Laws.BitsAllLaws
import Derived.Test.YtfbkoflapamicaaDoorDat
namespace Go.Proofs.YtfbkoflapamicaaDoor
open Go.RowKit
set_option linter.unusedSimpArgs false
set_option linter.unusedVariables false

/-- a color's bits -/
def bC (k i r g b : Int) : Int := 16777216 * k + 65536 * r + 256 * g + b + i
/-- the color of bits -/
def cK (w : Int) : Int := w / 16777216
def cI (w : Int) : Int := if cK w = 1 then w % 256 else 0
def cR (w : Int) : Int := w / 65536 % 256
def cG (w : Int) : Int := w / 256 % 256
def cB (w : Int) : Int := if cK w = 1 then 0 else w % 256
/-- a pen's word -/
def wP (k1 i1 r1 g1 b1 k2 i2 r2 g2 b2 f : Int) : Int := bC k1 i1 r1 g1 b1 + 67108864 * bC k2 i2 r2 g2 b2 + 4503599627370496 * f
theorem or_add (a b : Int) (q n : Nat) (ha : a = ((2 ^ n * q : Nat) : Int)) (hb0 : 0 ≤ b) (hb : b < ((2 ^ n : Nat) : Int)) (hs : a + b < 18446744073709551616) : bits .or .u64 a b = a + b := by
  obtain ⟨c, rfl⟩ := Int.eq_ofNat_of_zero_le hb0
  subst ha
  have hb' : c < 2 ^ n := by exact_mod_cast hb
  rw [u64_or_nat _ _ (by omega) (by omega), ← Nat.two_pow_add_eq_or_of_lt hb']
  simp
theorem or_add' (a b : Int) (q n : Nat) (ha : a = ((2 ^ n * q : Nat) : Int)) (hb0 : 0 ≤ b) (hb : b < ((2 ^ n : Nat) : Int)) (hs : a + b < 18446744073709551616) : bits .or .u64 b a = b + a := by
  have := or_add a b q n ha hb0 hb hs
  obtain ⟨c, rfl⟩ := Int.eq_ofNat_of_zero_le hb0
  subst ha
  have hb' : c < 2 ^ n := by exact_mod_cast hb
  rw [u64_or_nat _ _ (by omega) (by omega)] at this ⊢
  rw [Nat.or_comm, this]
  omega
theorem and_mask (x : Int) (h0 : 0 ≤ x) (h1 : x < 18446744073709551616) : bits .and .u64 x 67108863 = x % 67108864 := by
  obtain ⟨c, rfl⟩ := Int.eq_ofNat_of_zero_le h0
  rw [show (67108863 : Int) = ((67108863 : Nat) : Int) from rfl, u64_and_nat _ _ (by omega) (by omega), show (67108863 : Nat) = 2 ^ 26 - 1 from rfl, Nat.and_two_pow_sub_one_eq_mod]
  omega
/-- the bits of a color that there is -/
theorem bits_val (k i r g b : Int) (hv : vC k i r g b = true) (hi0 : 0 ≤ i) (hi1 : i ≤ 255) (hr0 : 0 ≤ r) (hr1 : r ≤ 255) (hg0 : 0 ≤ g) (hg1 : g ≤ 255) (hb0 : 0 ≤ b) (hb1 : b ≤ 255) :
    bits .or .u64 (bits .or .u64 (bits .or .u64 (bits .or .u64 (k * 16777216) (r * 65536)) (g * 256)) b) i = bC k i r g b := by
  have hk : 0 ≤ k ∧ k ≤ 2 := by rcases (vC_iff k i r g b).1 hv with h | h | h <;> omega
  rw [or_add (k * 16777216) (r * 65536) k.toNat 24 (by omega) (by omega) (by omega) (by omega)]
  rw [or_add (k * 16777216 + r * 65536) (g * 256) (k * 256 + r).toNat 16 (by omega) (by omega) (by omega) (by omega)]
  rw [or_add (k * 16777216 + r * 65536 + g * 256) b (k * 65536 + r * 256 + g).toNat 8 (by omega) (by omega) (by omega) (by omega)]
  rcases (vC_iff k i r g b).1 hv with h | h | h
  · rw [or_add _ i (k * 16777216 + r * 65536 + g * 256 + b).toNat 0 (by omega) (by omega) (by omega) (by omega), bC]
    omega
  · rw [or_add _ i k.toNat 24 (by omega) (by omega) (by omega) (by omega), bC]
    omega
  · rw [or_add _ i (k * 16777216 + r * 65536 + g * 256 + b).toNat 0 (by omega) (by omega) (by omega) (by omega), bC]
    omega
theorem bC_bd (k i r g b : Int) (hv : vC k i r g b = true) (hi0 : 0 ≤ i) (hi1 : i ≤ 255) (hr0 : 0 ≤ r) (hr1 : r ≤ 255) (hg0 : 0 ≤ g) (hg1 : g ≤ 255) (hb0 : 0 ≤ b) (hb1 : b ≤ 255) : 0 ≤ bC k i r g b ∧ bC k i r g b < 67108864 := by
  unfold bC
  rcases (vC_iff k i r g b).1 hv with h | h | h <;> omega
theorem wrap_u64_in (n : Int) (h0 : 0 ≤ n) (h1 : n < 18446744073709551616) : IntKind.u64.wrap n = n := by
  simp [IntKind.wrap, IntKind.bits, IntKind.signed]
  omega
/-- a pen's word, of its parts -/
theorem word_val (X Y f : Int) (hx0 : 0 ≤ X) (hx : X < 67108864) (hy0 : 0 ≤ Y) (hy : Y < 67108864) (hf0 : 0 ≤ f) (hf : f ≤ 255) :
    bits .or .u64 (bits .or .u64 X (Y * 67108864)) (f * 4503599627370496) = X + 67108864 * Y + 4503599627370496 * f := by
  rw [or_add' (Y * 67108864) X Y.toNat 26 (by omega) (by omega) (by omega) (by omega)]
  rw [or_add' (f * 4503599627370496) (X + Y * 67108864) f.toNat 52 (by omega) (by omega) (by omega) (by omega)]
  omega
end Go.Proofs.YtfbkoflapamicaaDoor
