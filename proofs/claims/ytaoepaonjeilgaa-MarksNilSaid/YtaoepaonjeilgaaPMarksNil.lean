/-
  MarksNil returns true for every input, and its arguments read as before. No condition.
-/
import Derived.Test.YtaoepaonjeilgaaRows
import Derived.Test.YtaoepaonjeilgaaRead
import Derived.Test.YtaoepaonjeilgaaArg
import Derived.Test.YtaoepaonjeilgaaMm
import Derived.WalkKit
import Derived.ProofKit
import Derived.OpenShut
namespace Go.Proofs.Ytaoepaonjeilgaa
open Go.ChangeShapes Go.WideShapes Go.ChangeAt Go.RowKit
set_option linter.unusedSimpArgs false
set_option linter.unusedVariables false

theorem marksNil_own : ownKnob Try.prog.godebug = none := by kernel_rfl
theorem marksNil_laidOut : laidOutB Try.prog = true := by kernel_rfl
set_option maxRecDepth 100000 in
set_option maxHeartbeats 2000000 in
theorem marksNil_lifted (os : Os) (started : os.Started) (H : Type) (enc : TypeId × Value → H) :
    ReturnsInHanded {} Try.checked os 6 .any (Rows.marksNilSpec.pre6 enc Try.prog Try.f6 Rows.marksNilRow.domain false) (Rows.marksNilSpec.post enc Try.prog Try.f6 false true false false) := by
  refine returnsInHanded_of_change (C := Try.checked) marksNil_own started (by kernel_rfl) Try.func6
    (ChangeSpec.witness6 (enc := enc) (C := Try.checked) false ⟨#[], #[.agg #[.int .i64 0, .int .i64 0, .int .i64 0, .int .i64 0, .int .i64 0, .slice none 0 0]], []⟩ 8 (by kernel_rfl) (by kernel_rfl) (by kernel_rfl) (by kernel_rfl)) ?_
  intro W base args ds gs before hval0 hW hcnd _
  have hval : ∀ (j : Nat) t v, Try.f6.params[j]? = some t → args[j]? = some v → Value.okWide Try.prog W .any base t v := hval0
  have hW' := hW
  have fin : ∀ W', Below W.heap.size W W' → Rows.marksNilSpec.post enc Try.prog Try.f6 false true false false W args (.bool true) W' := fun W' hb =>
    post_law marksNil_laidOut (tb := 4) (by kernel_rfl) Try.underlying4 rfl (by kernel_rfl) hW' (fun hl => by
      have hl' : ds.length = 1 := hl.trans (by kernel_rfl)
      match ds, hl' with
      | [e0], _ => rfl) hb
  obtain ⟨p, q, hA0, hV, rfl, hfz, hnd⟩ := hW
  have hA : DataW.TrodAll enc Try.prog W 0 (fun _ => true) true Try.f6.params.toList args.toList ds p := hA0
  rw [Try.params6] at hA hval
  obtain ⟨v0, vs0, d0, ds0, p0, q0, hargs, rfl, rfl, h0, t0⟩ := trodAll_cons hA
  obtain ⟨rfl, rfl, rfl⟩ := trodAll_nil t0
  obtain rfl : args = #[v0] := by obtain ⟨l⟩ := args; simpa using hargs
  obtain ⟨cs0, rfl, -⟩ := okWide_struct Try.underlying52 (hval 0 52 v0 rfl rfl)
  have r0 := rd_arg 100 (S := (.pair (.int .i64) (.pair (.pair (.int .i64) (.pair (.int .i64) (.pair (.int .i64) .unit))) (.pair (.int .i64) (.pair (.sl (.int .i64)) .unit))))) (by kernel_rfl) h0
  clear hA0 hval0
  obtain ⟨a, hc, ha⟩ := rd_act r0
  obtain rfl : cs0 = a.l.toArray := by obtain ⟨l⟩ := cs0; simp only [Value.cells] at hc; rw [hc]
  refine (marksNil_law a W).mono fun e W' ⟨he, hb⟩ => ?_
  subst he
  exact ⟨_, rfl, fin W' hb⟩
theorem marksNil_holds : Rows.MarksNilSaid :=
  OpenClaim.holds_of_wide 6 Try.f6 rfl rfl rfl rfl rfl rfl rfl ⟨rfl, rfl, rfl, rfl, rfl⟩ rfl rfl rfl rfl rfl (by kernel_rfl) Try.func6 (by kernel_rfl)
    (of_decide_eq_true (by kernel_rfl)) (by unfold Func.isWrapper; first | (rw [if_pos (by decide +kernel)]; kernel_rfl) | (rw [if_neg (by decide +kernel)]; exact ⟨rfl, rfl⟩))
    (fun os started H enc _ => marksNil_lifted os started H enc)
#print axioms marksNil_holds
end Go.Proofs.Ytaoepaonjeilgaa
