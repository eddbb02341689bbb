/-
  PenHolds returns true for every input, and its arguments read as before. Condition: the listed variable starts as the program's text lays it (the card ties it).
-/
import Derived.Test.YtgelpgagbokmdaaDoorRows
import Derived.Test.YtgelpgagbokmdaaDoorTie
import Derived.Test.YtgelpgagbokmdaaDoorCards
import Derived.Test.YtgelpgagbokmdaaDoorRead
import Derived.Test.YtgelpgagbokmdaaDoorLaid
import Derived.Test.YtgelpgagbokmdaaDoorWt
import Derived.LaidMore
import Derived.Stop.Joined
import Derived.SevenTiedAt
namespace Go.Proofs.YtgelpgagbokmdaaDoor
open Go.ChangeShapes Go.WideShapes Go.ChangeAt Go.RowKit
set_option linter.unusedSimpArgs false
set_option linter.unusedVariables false

theorem penHolds_own : ownKnob Tryd.prog.godebug = none := by kernel_rfl
theorem penHolds_laidOut : laidOutB Tryd.prog = true := by kernel_rfl
theorem penHolds_door (os : Os) (args : Array Value) : laidMetH Tryd.prog [("scrollback/pen.words", Rows.laid_scrollback_pen_words)] ((World.doorLaid Tryd.prog 14 os).forCall (fun _ _ => 0) ⟨#[], args, []⟩).memory :=
  laidMetH_of_parts3 (fuel := 8) (laidMet_of_run' 8 (by kernel_rfl) (by kernel_rfl)) (by kernel_rfl) (by kernel_rfl)
set_option maxRecDepth 100000 in
set_option maxHeartbeats 2000000 in
theorem penHolds_lifted (os : Os) (started : os.Started) (H : Type) (enc : TypeId × Value → H) :
    ReturnsInHanded {} Tryd.checked os 7 .any (fun w args => (Rows.penHoldsSpec.pre enc Tryd.prog Tryd.f7 [] false w args ∧ laidMetH Tryd.prog [("scrollback/pen.words", Rows.laid_scrollback_pen_words)] w) ∧ sizedMet enc Tryd.prog Tryd.f7 (OpenSpec.ofChange Rows.penHoldsSpec) false w args)
      (Rows.penHoldsSpec.post enc Tryd.prog Tryd.f7 false true false false) := by
  refine returnsInHanded_of_change_and (C := Tryd.checked) (X := fun w _ => laidMetH Tryd.prog [("scrollback/pen.words", Rows.laid_scrollback_pen_words)] w) (fun _ _ _ hh h => h.of_heap hh) penHolds_own started (by kernel_rfl) Tryd.func7
    (ChangeSpec.witness_shaped (enc := enc) (C := Tryd.checked) (os := os) (X := fun w _ => laidMetH Tryd.prog [("scrollback/pen.words", Rows.laid_scrollback_pen_words)] w) false (World.doorLaid Tryd.prog 14 os) #[.agg #[.int .i64 0, .int .u8 0, .int .u8 0, .int .u8 0, .int .u8 0, .int .i64 0, .int .u8 0, .int .u8 0, .int .u8 0, .int .u8 0, .int .u8 0], .agg #[.int .i64 0, .int .u8 0, .int .u8 0, .int .u8 0, .int .u8 0, .int .i64 0, .int .u8 0, .int .u8 0, .int .u8 0, .int .u8 0, .int .u8 0], .int .u64 0, .slice none 0 0] 8 rfl (World.shaped_of_RefB (by kernel_rfl) (by kernel_rfl)) (by kernel_rfl) (by kernel_rfl) (by kernel_rfl) (penHolds_door os _)) ?_
  intro W base args ds gs before hval0 hW _ _ hL _
  have hval : ∀ (j : Nat) t v, Tryd.f7.params[j]? = some t → args[j]? = some v → Value.okWide Tryd.prog W .any base t v := hval0
  have hW' := hW
  have fin : ∀ W', Below W.heap.size W W' → Rows.penHoldsSpec.post enc Tryd.prog Tryd.f7 false true false false W args (.bool true) W' := fun W' hb =>
    post_law penHolds_laidOut (tb := 4) (by kernel_rfl) Tryd.underlying4 rfl (by kernel_rfl) hW' (fun hl => by
      have hl' : ds.length = 4 := hl.trans (by kernel_rfl)
      match ds, hl' with
      | [e0, e1, e2, e3], _ => rfl) hb
  obtain ⟨p, q, hA0, hV, rfl, hfz, hnd⟩ := hW
  have hA : DataW.TrodAll enc Tryd.prog W 0 (fun _ => true) true Tryd.f7.params.toList args.toList ds p := hA0
  rw [Tryd.params7] at hA hval
  obtain ⟨v0, vs0, d0, ds0, p0, q0, hargs, rfl, rfl, h0, t0⟩ := trodAll_cons hA
  obtain ⟨v1, vs1, d1, ds1, p1, q1, rfl, rfl, rfl, h1, t1⟩ := trodAll_cons t0
  obtain ⟨v2, vs2, d2, ds2, p2, q2, rfl, rfl, rfl, h2, t2⟩ := trodAll_cons t1
  obtain ⟨v3, vs3, d3, ds3, p3, q3, rfl, rfl, rfl, h3, t3⟩ := trodAll_cons t2
  obtain ⟨rfl, rfl, rfl⟩ := trodAll_nil t3
  obtain rfl : args = #[v0, v1, v2, v3] := by obtain ⟨l⟩ := args; simpa using hargs
  obtain ⟨cs0, rfl, -⟩ := okWide_struct Tryd.underlying27 (hval 0 27 v0 rfl rfl)
  have r0 := rd_arg 100 (S := (.pair (.pair (.int .i64) (.pair (.int .u8) (.pair (.int .u8) (.pair (.int .u8) (.pair (.int .u8) .unit))))) (.pair (.pair (.int .i64) (.pair (.int .u8) (.pair (.int .u8) (.pair (.int .u8) (.pair (.int .u8) .unit))))) (.pair (.int .u8) .unit)))) (by kernel_rfl) h0
  obtain ⟨cs1, rfl, -⟩ := okWide_struct Tryd.underlying27 (hval 1 27 v1 rfl rfl)
  have r1 := rd_arg 100 (S := (.pair (.pair (.int .i64) (.pair (.int .u8) (.pair (.int .u8) (.pair (.int .u8) (.pair (.int .u8) .unit))))) (.pair (.pair (.int .i64) (.pair (.int .u8) (.pair (.int .u8) (.pair (.int .u8) (.pair (.int .u8) .unit))))) (.pair (.int .u8) .unit)))) (by kernel_rfl) h1
  obtain ⟨x2, rfl, -, -, wx2⟩ := open_int Tryd.underlying31 (hval 2 31 v2 rfl rfl) h2
  obtain ⟨A3, n3, k3, rfl⟩ := okWide_slice Tryd.underlying50 (hval 3 50 v3 rfl rfl)
  have r3 := rd_arg 100 (S := (.sl (.int .u8))) (by kernel_rfl) h3
  have L := laid_of hL
  clear hA0 hval0
  have R1 := r1
  have R3 := r3
  obtain ⟨k1, i1, r1, g1, b1, k2, i2, r2, g2, b2, f, he0, hB0⟩ := rd_pen r0
  obtain ⟨m1, j1, s1, h1, c1, m2, j2, s2, h2, c2, e, he1, hB1⟩ := rd_pen R1
  rw [he0, he1] at fin ⊢
  have hw0 := wf_u64 wx2
  have hl : 0 < n3 → ∃ b off, A3 = some ⟨b, off, none⟩ ∧ ∀ i, i < n3 → ∃ m : Int, 0 ≤ m ∧ m ≤ 255 ∧ W.cell? ⟨b, off + i * 1, none⟩ = some (.int .u8 m) := fun hn => by
    obtain ⟨b, off, e, _, hc⟩ := (rd_sl R3 (by decide)).2.2.2 hn
    refine ⟨b, off, e, fun i hi => ?_⟩
    obtain ⟨es, ⟨m, e1, hm⟩, hcell⟩ := hc i hi
    have h1 := hcell 0 (by decide)
    rw [e1] at h1
    exact ⟨m, (wf_u8 hm).1, (wf_u8 hm).2, by rw [show off + i * 1 = off + (i * Sh.size (.int .u8) + 0) from rfl]; exact h1⟩
  refine (penHolds_ok k1 i1 r1 g1 b1 k2 i2 r2 g2 b2 f m1 j1 s1 h1 c1 m2 j2 s2 h2 c2 e x2 A3 n3 k3 W L hB0 hB1 hw0.1 (by omega) hl).mono fun e W' ⟨he, hb⟩ => ?_
  subst he
  exact ⟨_, rfl, fin W' hb⟩
theorem penHolds_holds : Rows.PenHoldsSaid :=
  OpenClaim.holds_of_wide 7 Tryd.f7 rfl rfl rfl rfl rfl rfl rfl ⟨rfl, rfl, rfl, rfl, rfl⟩ rfl rfl rfl rfl rfl (by kernel_rfl) Tryd.func7 (by kernel_rfl)
    (of_decide_eq_true (by kernel_rfl)) (by unfold Func.isWrapper; first | (rw [if_pos (by decide +kernel)]; kernel_rfl) | (rw [if_neg (by decide +kernel)]; exact ⟨rfl, rfl⟩))
    (fun os started H enc _ => penHolds_lifted os started H enc)
theorem penHolds_card : Rows.PenHoldsCardSaid :=
  Claim7.holds_tied_plain_at .later [] [.widerDeep] true (true, "915e9218a8abda8302047fd7ecc4c39a55bc82061dd2889c2619bfe1514147f4") false
    penHolds_holds (fun _ h => by cases h) (by kernel_rfl) (fun _ h => by cases h) penHolds_row_tie rfl ⟨rfl, rfl⟩ (by kernel_rfl) rfl
    (fun f fn hf hfn => by
      obtain rfl : f = 7 := Option.some.inj ((show Tryd.prog.funcNamed "scrollback/scrollbacklaw03.PenHolds" = some 7 by kernel_rfl).symm.trans hf) |>.symm
      obtain rfl : fn = Tryd.f7 := (Option.some.inj (Tryd.func7.symm.trans hfn)).symm
      exact ⟨by kernel_rfl, fun j t ht => by
        rw [Tryd.params7] at ht
        have hm : t ∈ [27, 27, 31, 50] := by simpa using Array.mem_of_getElem? ht
        have hall : ([27, 27, 31, 50].all fun u => !Tryd.prog.wantsStandIn u) = true := by kernel_rfl
        exact (show Tryd.prog.wantsStandIn t = false by simpa using List.all_eq_true.1 hall t hm)⟩)
    (by kernel_rfl)
#print axioms penHolds_card
end Go.Proofs.YtgelpgagbokmdaaDoor
