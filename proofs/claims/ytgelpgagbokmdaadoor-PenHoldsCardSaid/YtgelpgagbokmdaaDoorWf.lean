/-
  Flags, as plain functions. No condition.
-/
import Derived.WalkKit
import Derived.Laws.BitsAllLaws
namespace Go.Proofs.YtgelpgagbokmdaaDoor
open Go.RowKit
set_option linter.unusedSimpArgs false
set_option linter.unusedVariables false

def flagL : List Int := [1, 2, 4, 8, 16, 32, 64, 128]
def flagF (i : Nat) : Int := flagL.getD i 0
def wordL : List (List UInt8) := [[98, 111, 108, 100], [102, 97, 105, 110, 116], [105, 116, 97, 108, 105, 99], [117, 110, 100, 101, 114, 108, 105, 110, 101], [98, 108, 105, 110, 107], [105, 110, 118, 101, 114, 115, 101], [104, 105, 100, 100, 101, 110], [115, 116, 114, 117, 99, 107]]
def wordB (i : Nat) : ByteArray := ⟨(wordL.getD i []).toArray⟩
def oneB (q : Int) : Bool := flagL.contains q
def orF (f q : Int) : Int := bits .or .u8 (bits .andNot .u8 f q) q
theorem one_law : ∀ n : Fin 256, ¬ (n.val : Int) = 0 → (bits .and .u8 (n.val : Int) ((n.val : Int) - 1) == 0) = oneB (n.val : Int) := by decide +kernel
theorem one_is (q : Int) (h0 : 0 ≤ q) (h1 : q ≤ 255) (hq : ¬ q = 0) : (bits .and .u8 q (q - 1) == 0) = oneB q := by
  have := one_law ⟨q.toNat, by omega⟩
  simp only [Int.toNat_of_nonneg h0] at this
  exact this hq
theorem flag_ne : ∀ k, k < 8 → ∀ j, j < k → (flagF j == flagF k) = false := by decide
theorem flag_bd : ∀ k, k < 8 → 1 ≤ flagF k ∧ flagF k ≤ 128 := by decide
theorem flag_one : ∀ k, k < 8 → oneB (flagF k) = true := by decide
theorem one_flag (q : Int) (h : oneB q = true) : ∃ k, k < 8 ∧ q = flagF k := by
  simp [oneB, flagL] at h
  rcases h with rfl | rfl | rfl | rfl | rfl | rfl | rfl | rfl
  · exact ⟨0, by decide⟩
  · exact ⟨1, by decide⟩
  · exact ⟨2, by decide⟩
  · exact ⟨3, by decide⟩
  · exact ⟨4, by decide⟩
  · exact ⟨5, by decide⟩
  · exact ⟨6, by decide⟩
  · exact ⟨7, by decide⟩
theorem one_not (q : Int) (h : oneB q = false) : ∀ k, k < 8 → (flagF k == q) = false := by
  intro k hk
  cases e : flagF k == q
  · rfl
  · have : flagF k = q := by simpa using e
    rw [← this, flag_one k hk] at h
    cases h
end Go.Proofs.YtgelpgagbokmdaaDoor
