/-
  ReflowMany returns true for every input, and its arguments read as before. Condition: the listed variables start as the program's text lays them (the card ties them).
-/
import Derived.Test.YtdmpodpdpncobaaDoorRows
import Derived.Test.YtdmpodpdpncobaaDoorTie
import Derived.Test.YtdmpodpdpncobaaDoorCards
import Derived.Test.YtdmpodpdpncobaaDoorRead
import Derived.Test.YtdmpodpdpncobaaDoorLaid
import Derived.Test.YtdmpodpdpncobaaDoorYd
import Derived.LaidMore
import Derived.Stop.Joined
import Derived.SevenTiedAt
namespace Go.Proofs.YtdmpodpdpncobaaDoor
open Go.ChangeShapes Go.WideShapes Go.ChangeAt Go.RowKit
set_option linter.unusedSimpArgs false
set_option linter.unusedVariables false

theorem reflowMany_own : ownKnob Tryd.prog.godebug = none := by kernel_rfl
theorem reflowMany_laidOut : laidOutB Tryd.prog = true := by kernel_rfl
theorem reflowMany_door (os : Os) (args : Array Value) : laidMetH Tryd.prog [("scrollback/width.marks", Rows.laid_scrollback_width_marks), ("scrollback/width.wide", Rows.laid_scrollback_width_wide)] ((World.doorLaid Tryd.prog 56 os).forCall (fun _ _ => 0) ⟨#[], args, []⟩).memory :=
  laidMetH_of_parts3 (fuel := 8) (laidMet_of_run' 8 (by kernel_rfl) (by kernel_rfl)) (by kernel_rfl) (by kernel_rfl)
set_option maxRecDepth 100000 in
set_option maxHeartbeats 2000000 in
theorem reflowMany_lifted (os : Os) (started : os.Started) (H : Type) (enc : TypeId × Value → H) :
    ReturnsInHanded {} Tryd.checked os 8 .any (fun w args => (Rows.reflowManySpec.pre enc Tryd.prog Tryd.f8 [] false w args ∧ laidMetH Tryd.prog [("scrollback/width.marks", Rows.laid_scrollback_width_marks), ("scrollback/width.wide", Rows.laid_scrollback_width_wide)] w) ∧ sizedMet enc Tryd.prog Tryd.f8 (OpenSpec.ofChange Rows.reflowManySpec) false w args)
      (Rows.reflowManySpec.post enc Tryd.prog Tryd.f8 false true false false) := by
  refine returnsInHanded_of_change_and (C := Tryd.checked) (X := fun w _ => laidMetH Tryd.prog [("scrollback/width.marks", Rows.laid_scrollback_width_marks), ("scrollback/width.wide", Rows.laid_scrollback_width_wide)] w) (fun _ _ _ hh h => h.of_heap hh) reflowMany_own started (by kernel_rfl) Tryd.func8
    (ChangeSpec.witness_shaped (enc := enc) (C := Tryd.checked) (os := os) (X := fun w _ => laidMetH Tryd.prog [("scrollback/width.marks", Rows.laid_scrollback_width_marks), ("scrollback/width.wide", Rows.laid_scrollback_width_wide)] w) false (World.doorLaid Tryd.prog 56 os) #[.int .i64 0] 8 rfl (World.shaped_of_RefB (by kernel_rfl) (by kernel_rfl)) (by kernel_rfl) (by kernel_rfl) (by kernel_rfl) (reflowMany_door os _)) ?_
  intro W base args ds gs before hval0 hW _ _ hL _
  have hval : ∀ (j : Nat) t v, Tryd.f8.params[j]? = some t → args[j]? = some v → Value.okWide Tryd.prog W .any base t v := hval0
  have hW' := hW
  have fin : ∀ W', Below W.heap.size W W' → Rows.reflowManySpec.post enc Tryd.prog Tryd.f8 false true false false W args (.bool true) W' := fun W' hb =>
    post_law reflowMany_laidOut (tb := 4) (by kernel_rfl) Tryd.underlying4 rfl (by kernel_rfl) hW' (fun hl => by
      have hl' : ds.length = 1 := hl.trans (by kernel_rfl)
      match ds, hl' with
      | [e0], _ => rfl) hb
  obtain ⟨p, q, hA0, hV, rfl, hfz, hnd⟩ := hW
  have hA : DataW.TrodAll enc Tryd.prog W 0 (fun _ => true) true Tryd.f8.params.toList args.toList ds p := hA0
  rw [Tryd.params8] at hA hval
  obtain ⟨v0, vs0, d0, ds0, p0, q0, hargs, rfl, rfl, h0, t0⟩ := trodAll_cons hA
  obtain ⟨rfl, rfl, rfl⟩ := trodAll_nil t0
  obtain rfl : args = #[v0] := by obtain ⟨l⟩ := args; simpa using hargs
  obtain ⟨x0, rfl, -, -, wx0⟩ := open_int Tryd.underlying3 (hval 0 3 v0 rfl rfl) h0
  have L := laid_of hL
  clear hA0 hval0
  skip
  refine (reflowMany_law x0 W L).mono fun e W' ⟨he, hb⟩ => ?_
  subst he
  exact ⟨_, rfl, fin W' hb⟩
theorem reflowMany_holds : Rows.ReflowManySaid :=
  OpenClaim.holds_of_wide 8 Tryd.f8 rfl rfl rfl rfl rfl rfl rfl ⟨rfl, rfl, rfl, rfl, rfl⟩ rfl rfl rfl rfl rfl (by kernel_rfl) Tryd.func8 (by kernel_rfl)
    (of_decide_eq_true (by kernel_rfl)) (by unfold Func.isWrapper; first | (rw [if_pos (by decide +kernel)]; kernel_rfl) | (rw [if_neg (by decide +kernel)]; exact ⟨rfl, rfl⟩))
    (fun os started H enc _ => reflowMany_lifted os started H enc)
theorem reflowMany_card : Rows.ReflowManyCardSaid :=
  Claim7.holds_tied_plain_at .later [] [.widerDeep, .widerDeep] true (true, "6bc1fead5b6b8d8fc454b93d0109bb07c52d175376af9ce2fe7d951a811aeb48") false
    reflowMany_holds (fun _ h => by cases h) (by kernel_rfl) (fun _ h => by cases h) reflowMany_row_tie rfl ⟨rfl, rfl⟩ (by kernel_rfl) rfl
    (fun f fn hf hfn => by
      obtain rfl : f = 8 := Option.some.inj ((show Tryd.prog.funcNamed "scrollback/scrollbacklaw30.ReflowMany" = some 8 by kernel_rfl).symm.trans hf) |>.symm
      obtain rfl : fn = Tryd.f8 := (Option.some.inj (Tryd.func8.symm.trans hfn)).symm
      exact ⟨by kernel_rfl, fun j t ht => by
        rw [Tryd.params8] at ht
        have hm : t ∈ [3] := by simpa using Array.mem_of_getElem? ht
        have hall : ([3].all fun u => !Tryd.prog.wantsStandIn u) = true := by kernel_rfl
        exact (show Tryd.prog.wantsStandIn t = false by simpa using List.all_eq_true.1 hall t hm)⟩)
    (by kernel_rfl)
#print axioms reflowMany_card
end Go.Proofs.YtdmpodpdpncobaaDoor
