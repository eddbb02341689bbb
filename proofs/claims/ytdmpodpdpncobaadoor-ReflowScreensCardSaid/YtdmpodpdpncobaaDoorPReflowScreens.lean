/-
  ReflowScreens returns true for every input, and its arguments read as before. Condition: the listed variables start as the program's text lays them (the card ties them).
-/
import Derived.Test.YtdmpodpdpncobaaDoorRows
import Derived.Test.YtdmpodpdpncobaaDoorTie
import Derived.Test.YtdmpodpdpncobaaDoorCards
import Derived.Test.YtdmpodpdpncobaaDoorRead
import Derived.Test.YtdmpodpdpncobaaDoorLaid
import Derived.Test.YtdmpodpdpncobaaDoorYc
import Derived.LaidMore
import Derived.Stop.Joined
import Derived.SevenTiedAt
namespace Go.Proofs.YtdmpodpdpncobaaDoor
open Go.ChangeShapes Go.WideShapes Go.ChangeAt Go.RowKit
set_option linter.unusedSimpArgs false
set_option linter.unusedVariables false

theorem reflowScreens_own : ownKnob Tryd.prog.godebug = none := by kernel_rfl
theorem reflowScreens_laidOut : laidOutB Tryd.prog = true := by kernel_rfl
theorem reflowScreens_door (os : Os) (args : Array Value) : laidMetH Tryd.prog [("scrollback/width.marks", Rows.laid_scrollback_width_marks), ("scrollback/width.wide", Rows.laid_scrollback_width_wide)] ((World.doorLaid Tryd.prog 56 os).forCall (fun _ _ => 0) ⟨#[], args, []⟩).memory :=
  laidMetH_of_parts3 (fuel := 8) (laidMet_of_run' 8 (by kernel_rfl) (by kernel_rfl)) (by kernel_rfl) (by kernel_rfl)
set_option maxRecDepth 100000 in
set_option maxHeartbeats 2000000 in
theorem reflowScreens_lifted (os : Os) (started : os.Started) (H : Type) (enc : TypeId × Value → H) :
    ReturnsInHanded {} Tryd.checked os 12 .any (fun w args => (Rows.reflowScreensSpec.pre enc Tryd.prog Tryd.f12 [] false w args ∧ laidMetH Tryd.prog [("scrollback/width.marks", Rows.laid_scrollback_width_marks), ("scrollback/width.wide", Rows.laid_scrollback_width_wide)] w) ∧ sizedMet enc Tryd.prog Tryd.f12 (OpenSpec.ofChange Rows.reflowScreensSpec) false w args)
      (Rows.reflowScreensSpec.post enc Tryd.prog Tryd.f12 false true false false) := by
  refine returnsInHanded_of_change_and (C := Tryd.checked) (X := fun w _ => laidMetH Tryd.prog [("scrollback/width.marks", Rows.laid_scrollback_width_marks), ("scrollback/width.wide", Rows.laid_scrollback_width_wide)] w) (fun _ _ _ hh h => h.of_heap hh) reflowScreens_own started (by kernel_rfl) Tryd.func12
    (ChangeSpec.witness_shaped (enc := enc) (C := Tryd.checked) (os := os) (X := fun w _ => laidMetH Tryd.prog [("scrollback/width.marks", Rows.laid_scrollback_width_marks), ("scrollback/width.wide", Rows.laid_scrollback_width_wide)] w) false (World.doorLaid Tryd.prog 56 os) #[.slice none 0 0, .int .i64 0, .int .i64 0] 8 rfl (World.shaped_of_RefB (by kernel_rfl) (by kernel_rfl)) (by kernel_rfl) (by kernel_rfl) (by kernel_rfl) (reflowScreens_door os _)) ?_
  intro W base args ds gs before hval0 hW _ _ hL _
  have hval : ∀ (j : Nat) t v, Tryd.f12.params[j]? = some t → args[j]? = some v → Value.okWide Tryd.prog W .any base t v := hval0
  have hW' := hW
  have fin : ∀ W', Below W.heap.size W W' → Rows.reflowScreensSpec.post enc Tryd.prog Tryd.f12 false true false false W args (.bool true) W' := fun W' hb =>
    post_law reflowScreens_laidOut (tb := 4) (by kernel_rfl) Tryd.underlying4 rfl (by kernel_rfl) hW' (fun hl => by
      have hl' : ds.length = 3 := hl.trans (by kernel_rfl)
      match ds, hl' with
      | [e0, e1, e2], _ => rfl) hb
  obtain ⟨p, q, hA0, hV, rfl, hfz, hnd⟩ := hW
  have hA : DataW.TrodAll enc Tryd.prog W 0 (fun _ => true) true Tryd.f12.params.toList args.toList ds p := hA0
  rw [Tryd.params12] at hA hval
  obtain ⟨v0, vs0, d0, ds0, p0, q0, hargs, rfl, rfl, h0, t0⟩ := trodAll_cons hA
  obtain ⟨v1, vs1, d1, ds1, p1, q1, rfl, rfl, rfl, h1, t1⟩ := trodAll_cons t0
  obtain ⟨v2, vs2, d2, ds2, p2, q2, rfl, rfl, rfl, h2, t2⟩ := trodAll_cons t1
  obtain ⟨rfl, rfl, rfl⟩ := trodAll_nil t2
  obtain rfl : args = #[v0, v1, v2] := by obtain ⟨l⟩ := args; simpa using hargs
  obtain ⟨A0, n0, k0, rfl⟩ := okWide_slice Tryd.underlying22 (hval 0 22 v0 rfl rfl)
  have r0 := rd_arg 100 (S := (.sl (.pair (.sl (.pair (.int .i32) (.pair (.pair (.int .i32) (.pair (.int .i32) (.pair (.int .i32) .unit))) (.pair (.int .i64) (.pair (.pair (.pair (.int .i64) (.pair (.int .u8) (.pair (.int .u8) (.pair (.int .u8) (.pair (.int .u8) .unit))))) (.pair (.pair (.int .i64) (.pair (.int .u8) (.pair (.int .u8) (.pair (.int .u8) (.pair (.int .u8) .unit))))) (.pair (.int .u8) .unit))) .unit))))) (.pair .bool .unit)))) (by kernel_rfl) h0
  obtain ⟨x1, rfl, -, -, wx1⟩ := open_int Tryd.underlying3 (hval 1 3 v1 rfl rfl) h1
  obtain ⟨x2, rfl, -, -, wx2⟩ := open_int Tryd.underlying3 (hval 2 3 v2 rfl rfl) h2
  have L := laid_of hL
  clear hA0 hval0
  obtain ⟨ls, hx⟩ := arg_lines r0
  refine (reflowScreens_law x1 x2 W L hx (fun b o h => h)).mono fun e W' ⟨he, hb⟩ => ?_
  subst he
  exact ⟨_, rfl, fin W' hb⟩
theorem reflowScreens_holds : Rows.ReflowScreensSaid :=
  OpenClaim.holds_of_wide 12 Tryd.f12 rfl rfl rfl rfl rfl rfl rfl ⟨rfl, rfl, rfl, rfl, rfl⟩ rfl rfl rfl rfl rfl (by kernel_rfl) Tryd.func12 (by kernel_rfl)
    (of_decide_eq_true (by kernel_rfl)) (by unfold Func.isWrapper; first | (rw [if_pos (by decide +kernel)]; kernel_rfl) | (rw [if_neg (by decide +kernel)]; exact ⟨rfl, rfl⟩))
    (fun os started H enc _ => reflowScreens_lifted os started H enc)
theorem reflowScreens_card : Rows.ReflowScreensCardSaid :=
  Claim7.holds_tied_plain_at .later [] [.widerDeep, .widerDeep] true (true, "6bc1fead5b6b8d8fc454b93d0109bb07c52d175376af9ce2fe7d951a811aeb48") false
    reflowScreens_holds (fun _ h => by cases h) (by kernel_rfl) (fun _ h => by cases h) reflowScreens_row_tie rfl ⟨rfl, rfl⟩ (by kernel_rfl) rfl
    (fun f fn hf hfn => by
      obtain rfl : f = 12 := Option.some.inj ((show Tryd.prog.funcNamed "scrollback/scrollbacklaw30.ReflowScreens" = some 12 by kernel_rfl).symm.trans hf) |>.symm
      obtain rfl : fn = Tryd.f12 := (Option.some.inj (Tryd.func12.symm.trans hfn)).symm
      exact ⟨by kernel_rfl, fun j t ht => by
        rw [Tryd.params12] at ht
        have hm : t ∈ [22, 3, 3] := by simpa using Array.mem_of_getElem? ht
        have hall : ([22, 3, 3].all fun u => !Tryd.prog.wantsStandIn u) = true := by kernel_rfl
        exact (show Tryd.prog.wantsStandIn t = false by simpa using List.all_eq_true.1 hall t hm)⟩)
    (by kernel_rfl)
#print axioms reflowScreens_card
end Go.Proofs.YtdmpodpdpncobaaDoor
