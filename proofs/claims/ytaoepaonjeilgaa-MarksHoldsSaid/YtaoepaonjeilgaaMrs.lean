/-
  The laws' own searches, as plain data. No condition.
-/
import Derived.Test.YtaoepaonjeilgaaMrk
namespace Go.Proofs.Ytaoepaonjeilgaa
open Go.RowKit
set_option linter.unusedSimpArgs false
set_option linter.unusedVariables false
/-! ### The law's own search -/
def oZ (o : Option Mk) : Mk := o.getD Mk.zero
def oN (o : Option Mk) : Int := match o with
  | some _ => 0
  | none => 9
theorem fnd_ok {o : Option Mk} {ks : List Int} (h : chkE ks = 0) : fndV o ks = oZ o ∧ fndE o ks = oN o := by
  unfold fndV fndE
  rw [if_pos h, if_pos h]
  exact ⟨rfl, rfl⟩
theorem fnd_no {o : Option Mk} {ks : List Int} (h : chkE ks ≠ 0) : fndV o ks = Mk.zero ∧ fndE o ks = 2 := by
  unfold fndV fndE
  rw [if_neg h, if_neg h]
  exact ⟨rfl, rfl⟩
def fineV (n : Nat) (ks : List Int) (q : Nat) : Bool := decide ((0 : Int) < (n : Int)) && (ks.take q).all kindB
theorem fine_succ {n q : Nat} {ks : List Int} {z : Int} (h : ks[q]? = some z) : fineV n ks (q + 1) = (fineV n ks q && kindB z) := by
  rw [fineV, fineV, take_snoc h, List.all_append, Bool.and_assoc]
  simp
theorem fine_chk {n : Nat} {ks : List Int} (h : ks.length = n) : fineV n ks n = true ↔ chkE ks = 0 := by
  unfold fineV chkE
  rw [List.take_of_length_le (by omega)]
  by_cases h0 : ks.length = 0
  · rw [if_pos (.inl h0), decide_eq_false (by omega)]
    simp
  · rw [decide_eq_true (by omega), Bool.true_and]
    by_cases h1 : ks.any (fun k => !kindB k) = true
    · rw [if_pos (.inr h1)]
      obtain ⟨k, hk, hb⟩ := List.any_eq_true.1 h1
      constructor
      · intro h2
        rw [List.all_eq_true.1 h2 k hk] at hb
        cases hb
      · intro h2; cases h2
    · rw [if_neg (fun e => e.elim h0 h1)]
      refine ⟨fun _ => rfl, fun _ => List.all_eq_true.2 fun k hk => ?_⟩
      cases hb : kindB k with
      | true => rfl
      | false => exact absurd (List.any_eq_true.2 ⟨k, hk, by rw [hb]; rfl⟩) h1
theorem hasK_succ {q : Nat} {ks : List Int} {z k : Int} (h : ks[q]? = some z) : hasK (ks.take (q + 1)) k = (hasK (ks.take q) k || (z == k)) := by
  have e : (k == z) = (z == k) := by rw [Bool.eq_iff_iff, beq_iff_eq, beq_iff_eq]; exact eq_comm
  rw [hasK, hasK, take_snoc h, List.any_append, List.any_cons, List.any_nil, Bool.or_false, e]
theorem s2_succ {xs : List Mk} {j : Nat} {x : Mk} {p : Mk → Bool} (hj : j < xs.length) (hx : xs[xs.length - 1 - j]? = some x) : (xs.drop (xs.length - (j + 1))).find? p = if p x = true then some x else (xs.drop (xs.length - j)).find? p := by
  rw [show xs.length - (j + 1) = xs.length - 1 - j by omega, drop_get hx, List.find?_cons, show xs.length - 1 - j + 1 = xs.length - j by omega]
  cases p x <;> rfl
theorem s3_succ {xs : List Mk} {j : Nat} {x : Mk} {p : Mk → Bool} (hx : xs[j]? = some x) : (xs.take (j + 1)).reverse.find? p = if p x = true then some x else (xs.take j).reverse.find? p := by
  rw [take_snoc hx, List.reverse_append, List.reverse_cons, List.reverse_nil, List.nil_append, List.cons_append, List.nil_append, List.find?_cons]
  cases p x <;> rfl
theorem s2_all {xs : List Mk} {j : Nat} {p : Mk → Bool} (hj : xs.length ≤ j) : (xs.drop (xs.length - j)).find? p = xs.find? p := by
  rw [show xs.length - j = 0 by omega, List.drop_zero]
theorem s3_all {xs : List Mk} {j : Nat} {p : Mk → Bool} (hj : xs.length ≤ j) : (xs.take j).reverse.find? p = xs.reverse.find? p := by
  rw [List.take_of_length_le hj]
end Go.Proofs.Ytaoepaonjeilgaa
