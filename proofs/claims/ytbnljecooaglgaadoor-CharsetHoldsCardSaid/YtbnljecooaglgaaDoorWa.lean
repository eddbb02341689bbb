/-
  The walks of Valid and Set, and plain functions that say what Select and Shift return. No condition.
-/
import Derived.Test.YtbnljecooaglgaaDoorBase
namespace Go.Proofs.YtbnljecooaglgaaDoor
open Go.RowKit
set_option linter.unusedSimpArgs false
set_option linter.unusedVariables false

def kB (k : Int) : Bool := decide (0 ≤ k) && decide (k < 2)
def vB (g0 g1 a : Int) : Bool := kB g0 && (kB g1 && kB a)

set_option maxHeartbeats 400000 in
theorem known_c (k : Int) (w : World) :
    Calls Tryd.prog 29 #[.int .i64 k] w fun e w' => e = .returned (.bool (kB k)) ∧ w = w' := by
  go_enter Tryd.func29, Tryd.ntmps29
  go_wp2
  all_goals (go_ret; exact ⟨ret_bool (by grind [kB]), rfl⟩)

set_option maxHeartbeats 400000 in
theorem set_c (k : Int) (w : World) :
    Calls Tryd.prog 22 #[.int .i64 k] w fun e w' => e = .returned (.bool (kB k)) ∧ w = w' := by
  go_enter Tryd.func22, Tryd.ntmps22
  go_wp2
  all_goals (go_ret; exact ⟨ret_bool (by grind [kB]), rfl⟩)

set_option maxHeartbeats 400000 in
theorem valid_c (g0 g1 a : Int) (w : World) :
    Calls Tryd.prog 10 #[.agg #[.int .i64 g0, .int .i64 g1, .int .i64 a]] w (Ret (.bool (vB g0 g1 a)) w) := by
  go_enter Tryd.func10, Tryd.ntmps10
  go_wp2_with (go_at_call 29; refine (known_c _ _).mono ?_; rintro e w' ⟨rfl, rfl⟩)
  all_goals go_ret
  all_goals (refine ⟨ret_bool ?_, bw_alloc (Below.refl _ _) _⟩)
  all_goals grind [vB, kB]

set_option maxHeartbeats 400000 in
theorem rvalid_c (g0 g1 a : Int) (w : World) :
    Calls Tryd.prog 11 #[.agg #[.int .i64 g0, .int .i64 g1, .int .i64 a]] w (Ret (.bool (vB g0 g1 a)) w) := by
  go_enter Tryd.func11, Tryd.ntmps11
  go_wp2_with (go_at_call 22; refine (set_c _ _).mono ?_; rintro e w' ⟨rfl, rfl⟩)
  all_goals go_ret
  all_goals (refine ⟨ret_bool ?_, bw_alloc (Below.refl _ _) _⟩)
  all_goals grind [vB, kB]

/-- the sets after Select, and its error -/
def selOk (g0 g1 a g k : Int) : Bool := vB g0 g1 a && (kB g && kB k)
def s0 (g0 g1 a g k : Int) : Int := if selOk g0 g1 a g k then (if g = 0 then k else g0) else 0
def s1 (g0 g1 a g k : Int) : Int := if selOk g0 g1 a g k then (if g = 0 then g1 else k) else 0
def s2 (g0 g1 a g k : Int) : Int := if selOk g0 g1 a g k then a else 0
def sE (g0 g1 a g k : Int) : Int := if selOk g0 g1 a g k then 0 else 2
def selV (g0 g1 a g k : Int) : Value := .tuple #[.agg #[.int .i64 (s0 g0 g1 a g k), .int .i64 (s1 g0 g1 a g k), .int .i64 (s2 g0 g1 a g k)], .int .i64 (sE g0 g1 a g k)]
theorem selV_no {g0 g1 a g k : Int} (h : selOk g0 g1 a g k = false) : selV g0 g1 a g k = .tuple #[.agg #[.int .i64 0, .int .i64 0, .int .i64 0], .int .i64 2] := by
  simp [selV, s0, s1, s2, sE, h]
theorem selV_0 {g0 g1 a k : Int} (h : selOk g0 g1 a 0 k = true) : selV g0 g1 a 0 k = .tuple #[.agg #[.int .i64 k, .int .i64 g1, .int .i64 a], .int .i64 0] := by
  simp [selV, s0, s1, s2, sE, h]
theorem selV_1 {g0 g1 a k : Int} (h : selOk g0 g1 a 1 k = true) : selV g0 g1 a 1 k = .tuple #[.agg #[.int .i64 g0, .int .i64 k, .int .i64 a], .int .i64 0] := by
  simp [selV, s0, s1, s2, sE, h]
theorem sel_ways (g0 g1 a g k : Int) : (vB g0 g1 a = false ∧ selOk g0 g1 a g k = false) ∨ (vB g0 g1 a = true ∧ g < 0 ∧ selOk g0 g1 a g k = false) ∨ (vB g0 g1 a = true ∧ 1 < g ∧ selOk g0 g1 a g k = false)
    ∨ (vB g0 g1 a = true ∧ g = 0 ∧ kB k = false ∧ selOk g0 g1 a 0 k = false) ∨ (vB g0 g1 a = true ∧ g = 1 ∧ kB k = false ∧ selOk g0 g1 a 1 k = false)
    ∨ (vB g0 g1 a = true ∧ g = 0 ∧ kB k = true ∧ selOk g0 g1 a 0 k = true) ∨ (vB g0 g1 a = true ∧ g = 1 ∧ kB k = true ∧ selOk g0 g1 a 1 k = true) := by
  grind [selOk, kB]
/-- the sets after Shift, and its error -/
def shOk (g0 g1 a g : Int) : Bool := vB g0 g1 a && kB g
def h0 (g0 g1 a g : Int) : Int := if shOk g0 g1 a g then g0 else 0
def h1 (g0 g1 a g : Int) : Int := if shOk g0 g1 a g then g1 else 0
def h2 (g0 g1 a g : Int) : Int := if shOk g0 g1 a g then g else 0
def hE (g0 g1 a g : Int) : Int := if shOk g0 g1 a g then 0 else 2
def shV (g0 g1 a g : Int) : Value := .tuple #[.agg #[.int .i64 (h0 g0 g1 a g), .int .i64 (h1 g0 g1 a g), .int .i64 (h2 g0 g1 a g)], .int .i64 (hE g0 g1 a g)]
theorem shV_no {g0 g1 a g : Int} (h : shOk g0 g1 a g = false) : shV g0 g1 a g = .tuple #[.agg #[.int .i64 0, .int .i64 0, .int .i64 0], .int .i64 2] := by
  simp [shV, h0, h1, h2, hE, h]
theorem shV_yes {g0 g1 a g : Int} (h : shOk g0 g1 a g = true) : shV g0 g1 a g = .tuple #[.agg #[.int .i64 g0, .int .i64 g1, .int .i64 g], .int .i64 0] := by
  simp [shV, h0, h1, h2, hE, h]
theorem sh_ways (g0 g1 a g : Int) : (vB g0 g1 a = false ∧ shOk g0 g1 a g = false) ∨ (vB g0 g1 a = true ∧ g < 0 ∧ (g != 0) = true ∧ (g != 1) = true ∧ shOk g0 g1 a g = false) ∨ (vB g0 g1 a = true ∧ 1 < g ∧ (g != 0) = true ∧ (g != 1) = true ∧ shOk g0 g1 a g = false)
    ∨ (vB g0 g1 a = true ∧ g = 0 ∧ shOk g0 g1 a 0 = true) ∨ (vB g0 g1 a = true ∧ g = 1 ∧ shOk g0 g1 a 1 = true) := by
  grind [shOk, kB]
end Go.Proofs.YtbnljecooaglgaaDoor
