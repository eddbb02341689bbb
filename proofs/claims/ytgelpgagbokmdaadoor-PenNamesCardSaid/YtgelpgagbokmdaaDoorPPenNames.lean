/-
  PenNames returns true for every input, and its arguments read as before. Condition: the listed variable starts as the program's text lays it (the card ties it).
-/
import Derived.Test.YtgelpgagbokmdaaDoorRows
import Derived.Test.YtgelpgagbokmdaaDoorTie
import Derived.Test.YtgelpgagbokmdaaDoorCards
import Derived.Test.YtgelpgagbokmdaaDoorRead
import Derived.Test.YtgelpgagbokmdaaDoorLaid
import Derived.Test.YtgelpgagbokmdaaDoorWi
import Derived.LaidMore
import Derived.Stop.Joined
import Derived.SevenTiedAt
namespace Go.Proofs.YtgelpgagbokmdaaDoor
open Go.ChangeShapes Go.WideShapes Go.ChangeAt Go.RowKit
set_option linter.unusedSimpArgs false
set_option linter.unusedVariables false

theorem penNames_own : ownKnob Tryd.prog.godebug = none := by kernel_rfl
theorem penNames_laidOut : laidOutB Tryd.prog = true := by kernel_rfl
theorem penNames_door (os : Os) (args : Array Value) : laidMetH Tryd.prog [("scrollback/pen.words", Rows.laid_scrollback_pen_words)] ((World.doorLaid Tryd.prog 14 os).forCall (fun _ _ => 0) ⟨#[], args, []⟩).memory :=
  laidMetH_of_parts3 (fuel := 8) (laidMet_of_run' 8 (by kernel_rfl) (by kernel_rfl)) (by kernel_rfl) (by kernel_rfl)
set_option maxRecDepth 100000 in
theorem penNames_lifted (os : Os) (started : os.Started) (H : Type) (enc : TypeId × Value → H) :
    ReturnsInHanded {} Tryd.checked os 6 .any (fun w args => (Rows.penNamesSpec.pre enc Tryd.prog Tryd.f6 [] false w args ∧ laidMetH Tryd.prog [("scrollback/pen.words", Rows.laid_scrollback_pen_words)] w) ∧ sizedMet enc Tryd.prog Tryd.f6 (OpenSpec.ofChange Rows.penNamesSpec) false w args)
      (Rows.penNamesSpec.post enc Tryd.prog Tryd.f6 false true false false) := by
  refine returnsInHanded_of_change_and (C := Tryd.checked) (X := fun w _ => laidMetH Tryd.prog [("scrollback/pen.words", Rows.laid_scrollback_pen_words)] w) (fun _ _ _ hh h => h.of_heap hh) penNames_own started (by kernel_rfl) Tryd.func6
    (ChangeSpec.witness_shaped (enc := enc) (C := Tryd.checked) (os := os) (X := fun w _ => laidMetH Tryd.prog [("scrollback/pen.words", Rows.laid_scrollback_pen_words)] w) false (World.doorLaid Tryd.prog 14 os) #[.int .u8 0, .string ⟨#[]⟩] 8 rfl (World.shaped_of_RefB (by kernel_rfl) (by kernel_rfl)) (by kernel_rfl) (by kernel_rfl) (by kernel_rfl) (penNames_door os _)) ?_
  intro W base args ds gs before hval0 hW _ _ hL _
  have hval : ∀ (j : Nat) t v, Tryd.f6.params[j]? = some t → args[j]? = some v → Value.okWide Tryd.prog W .any base t v := hval0
  have hW' := hW
  have fin : ∀ W', Below W.heap.size W W' → Rows.penNamesSpec.post enc Tryd.prog Tryd.f6 false true false false W args (.bool true) W' := fun W' hb =>
    post_law penNames_laidOut (tb := 4) (by kernel_rfl) Tryd.underlying4 rfl (by kernel_rfl) hW' (fun hl => by
      have hl' : ds.length = 2 := hl.trans (by kernel_rfl)
      match ds, hl' with
      | [e0, e1], _ => rfl) hb
  obtain ⟨p, q, hA0, hV, rfl, hfz, hnd⟩ := hW
  have hA : DataW.TrodAll enc Tryd.prog W 0 (fun _ => true) true Tryd.f6.params.toList args.toList ds p := hA0
  rw [Tryd.params6] at hA hval
  obtain ⟨v0, vs0, d0, ds0, p0, q0, hargs, rfl, rfl, h0, t0⟩ := trodAll_cons hA
  obtain ⟨v1, vs1, d1, ds1, p1, q1, rfl, rfl, rfl, h1, t1⟩ := trodAll_cons t0
  obtain ⟨rfl, rfl, rfl⟩ := trodAll_nil t1
  obtain rfl : args = #[v0, v1] := by obtain ⟨l⟩ := args; simpa using hargs
  obtain ⟨x0, rfl, -, -, wx0⟩ := open_int Tryd.underlying25 (hval 0 25 v0 rfl rfl) h0
  obtain ⟨x1, rfl, -, -, wx1⟩ := Go.ChangeMaps.open_string Tryd.underlying9 (hval 1 9 v1 rfl rfl) h1
  have L := laid_of hL
  clear hA0 hval0
  skip
  refine (penNames_ok x0 x1 W L (wf_u8 wx0).1 (wf_u8 wx0).2).mono fun e W' ⟨he, hb⟩ => ?_
  subst he
  exact ⟨_, rfl, fin W' hb⟩
theorem penNames_holds : Rows.PenNamesSaid :=
  OpenClaim.holds_of_wide 6 Tryd.f6 rfl rfl rfl rfl rfl rfl rfl ⟨rfl, rfl, rfl, rfl, rfl⟩ rfl rfl rfl rfl rfl (by kernel_rfl) Tryd.func6 (by kernel_rfl)
    (of_decide_eq_true (by kernel_rfl)) (by unfold Func.isWrapper; first | (rw [if_pos (by decide +kernel)]; kernel_rfl) | (rw [if_neg (by decide +kernel)]; exact ⟨rfl, rfl⟩))
    (fun os started H enc _ => penNames_lifted os started H enc)
theorem penNames_card : Rows.PenNamesCardSaid :=
  Claim7.holds_tied_plain_at .later [] [.widerDeep] true (true, "915e9218a8abda8302047fd7ecc4c39a55bc82061dd2889c2619bfe1514147f4") false
    penNames_holds (fun _ h => by cases h) (by kernel_rfl) (fun _ h => by cases h) penNames_row_tie rfl ⟨rfl, rfl⟩ (by kernel_rfl) rfl
    (fun f fn hf hfn => by
      obtain rfl : f = 6 := Option.some.inj ((show Tryd.prog.funcNamed "scrollback/scrollbacklaw03.PenNames" = some 6 by kernel_rfl).symm.trans hf) |>.symm
      obtain rfl : fn = Tryd.f6 := (Option.some.inj (Tryd.func6.symm.trans hfn)).symm
      exact ⟨by kernel_rfl, fun j t ht => by
        rw [Tryd.params6] at ht
        have hm : t ∈ [25, 9] := by simpa using Array.mem_of_getElem? ht
        have hall : ([25, 9].all fun u => !Tryd.prog.wantsStandIn u) = true := by kernel_rfl
        exact (show Tryd.prog.wantsStandIn t = false by simpa using List.all_eq_true.1 hall t hm)⟩)
    (by kernel_rfl)
#print axioms penNames_card
end Go.Proofs.YtgelpgagbokmdaaDoor
