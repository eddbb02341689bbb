/-
  Shifts and bits. No condition; no program in sight.
-/
import Derived.Test.YtaoepaonjeilgaaEng5
import Derived.Laws.BitsAllLaws
namespace Go.Proofs.Ytaoepaonjeilgaa
open Go.RowKit
set_option linter.unusedSimpArgs false
set_option linter.unusedVariables false
section
variable {P : Program} {n : Nat} {w0 : World} {L : List (Nat × Value)} {K : List Ent}
theorem opv_shl {t u : TypeId} {x y : Operand} {ty : TypeId} {k k' : IntKind} {p q r : Int} {m : Nat} (hx : ev L x = some (.int k p)) (hy : ev L y = some (.int k' q)) (hq : q = (m : Int)) (hm : m ≤ k.bits) (hr : k.wrap (p * 2 ^ m) = r) : OpV P n w0 L K (.binOp .shl t x y u) ty (.int k r) := fun a w o e _ f _ => by
  subst hq
  have h2 : Min.min m k.bits = m := Nat.min_eq_left hm
  have h0 : ¬ ((m : Int) < 0) := by omega
  simp [execOp, e, f.ev hx, f.ev hy, eqGuard, binOp, Op.shift, h2, hr, h0]
theorem opv_shr {t u : TypeId} {x y : Operand} {ty : TypeId} {k k' : IntKind} {p q r : Int} {m : Nat} (hx : ev L x = some (.int k p)) (hy : ev L y = some (.int k' q)) (hq : q = (m : Int)) (hm : m ≤ k.bits) (hr : p / 2 ^ m = r) : OpV P n w0 L K (.binOp .shr t x y u) ty (.int k r) := fun a w o e _ f _ => by
  subst hq
  have h2 : Min.min m k.bits = m := Nat.min_eq_left hm
  have h0 : ¬ ((m : Int) < 0) := by omega
  have h3 : p.fdiv (2 ^ m) = r := by rw [Int.fdiv_eq_ediv_of_nonneg _ (Int.pow_nonneg (by decide))]; exact hr
  simp [execOp, e, f.ev hx, f.ev hy, eqGuard, binOp, Op.shift, h2, h3, h0]
theorem opv_or {t u : TypeId} {x y : Operand} {ty : TypeId} {k : IntKind} {p q r : Int} (hx : ev L x = some (.int k p)) (hy : ev L y = some (.int k q)) (hr : bits .or k p q = r) : OpV P n w0 L K (.binOp .or t x y u) ty (.int k r) := fun a w o e _ f _ => by
  subst hr
  simp [execOp, e, f.ev hx, f.ev hy, eqGuard, binOp, Op.intBits, bits]
theorem opv_and {t u : TypeId} {x y : Operand} {ty : TypeId} {k : IntKind} {p q r : Int} (hx : ev L x = some (.int k p)) (hy : ev L y = some (.int k q)) (hr : bits .and k p q = r) : OpV P n w0 L K (.binOp .and t x y u) ty (.int k r) := fun a w o e _ f _ => by
  subst hr
  simp [execOp, e, f.ev hx, f.ev hy, eqGuard, binOp, Op.intBits, bits]
end
section
variable {P : Program} {n : Nat} {w0 : World} {L : List (Nat × Value)} {K : List Ent} {Q : Exit → Act → World → Prop} {ops : Array Oper} {KS : List Ent} {bars : List Nat} {fuel : Nat} {listed : Array Bool}
theorem TA.sub {L' : List (Nat × Value)} (s : Sub L L') (h : TA P n w0 L' K ops KS bars fuel listed Q) : TA P n w0 L K ops KS bars fuel listed Q := fun a w f k => h a w (f.sub s) k
/-- ways of a drawn region that meet again -/
theorem TA.lem {ι : Type} (L' : ι → List (Nat × Value)) (K' : ι → List Ent) (fuel' : Nat) (ls' : Array Bool) (h : ∀ i, TA P n w0 (L' i) (K' i) ops KS bars fuel' ls' Q) (nx : (∀ i, TA P n w0 (L' i) (K' i) ops KS bars fuel' ls' Q) → TA P n w0 L K ops KS bars fuel listed Q) : TA P n w0 L K ops KS bars fuel listed Q := nx h
end
end Go.Proofs.Ytaoepaonjeilgaa
