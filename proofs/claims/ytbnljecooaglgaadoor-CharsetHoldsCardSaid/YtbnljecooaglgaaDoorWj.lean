/-
  The theorem of the stage returns true, whatever it is called with. Condition: the package-level tables hold what they were laid with.
-/
import Derived.Test.YtbnljecooaglgaaDoorWi
import Derived.Maps.AppendAt
namespace Go.Proofs.YtbnljecooaglgaaDoor
open Go.RowKit Go.Maps
set_option linter.unusedSimpArgs false
set_option linter.unusedVariables false

theorem back_n (r x e : Int) (w : World) (L : Laid w) (qx : bkV r = x) (qe : bkE r = e) : Calls Tryd.prog 25 #[.int .i32 r] w fun u w' => u = .returned (.tuple #[.int .i32 x, .int .i64 e]) ∧ w = w' := by
  subst qx qe
  exact back_c r w L
theorem byFinal_n (r x e : Int) (w : World) (L : Laid w) (qx : bfV r = x) (qe : bfE r = e) : Calls Tryd.prog 28 #[.int .i32 r] w fun u w' => u = .returned (.tuple #[.int .i64 x, .int .i64 e]) ∧ w = w' := by
  subst qx qe
  exact byFinal_c r w L
theorem calls_gen {P : Program} {f : FuncId} {args : Array Value} {R : Ending → World → Prop} {W : World} (h : ∀ wr, Below W.heap.size W wr → Calls P f args wr R) : Calls P f args W R := h W (Below.refl _ _)
theorem only_of_below {a w : World} (h : Below a.heap.size a w) (row : Option Nat) : a.grownBy w row := ⟨h.os, h.tape, h.output, h.size, fun i hi _ => h.block i hi⟩
theorem bw_grown {a W w1 : World} {g : Nat} (h : Below a.heap.size a W) (k : W.grownBy w1 (some g)) (hg : a.heap.size ≤ g) : Below a.heap.size a w1 := h.grown k h.size (fun i e => by injection e with e; omega)
set_option maxRecDepth 100000 in
set_option maxHeartbeats 8000000 in
theorem holds_ok (g0 g1 a r g k : Int) (w : World) (L : Laid w) (hr0 : -2147483648 ≤ r) (hr1 : r ≤ 2147483647) : Calls Tryd.prog 7 #[.agg #[.int .i64 g0, .int .i64 g1, .int .i64 a], .int .i32 r, .int .i64 g, .int .i64 k] w (Ret (.bool true) w) := by
  have hmm := @run_makeMap Tryd.prog
  go_enter Tryd.func7, Tryd.ntmps7
  go_wp2_with fail
  refine wp_gen ?_
  intro w1 hb_w1
  have M0 : BMap w1 (w.heap.size + 1 + 1) (seenB 0) 0 := by
    have hb2 := hb_w1.block (w.heap.size + 1 + 1) (by first | omega | (simp only [hs_alloc, hs_set, hs_drew]; omega))
    simp (disch := omega) only [hp_alloc, hs_alloc, if_pos, if_neg, ↓reduceIte] at hb2
    exact BMap.new hb2
  have hz_w1 := hb_w1.size
  have B0_w1 := hb_w1.block (w.heap.size) (by first | omega | (simp only [hs_alloc, hs_set, hs_drew]; omega))
  have B1_w1 := hb_w1.block (w.heap.size + 1) (by first | omega | (simp only [hs_alloc, hs_set, hs_drew]; omega))
  (try simp only [hs_alloc, hs_set, hs_drew] at hz_w1)
  simp (disch := omega) only [hp_alloc, hp_set, hp_drew, hs_alloc, hs_set, hs_drew, if_pos, if_neg, ↓reduceIte, Option.map_some, putO] at B0_w1 B1_w1
  obtain ⟨c0_w1, f0_w1⟩ := blk B0_w1
  have H0_w1 := Lib.hid B0_w1
  clear B0_w1
  have z0_w1 : w.heap.size < w1.heap.size := by omega
  obtain ⟨c1_w1, f1_w1⟩ := blk B1_w1
  have H1_w1 := Lib.hid B1_w1
  clear B1_w1
  have z1_w1 : w.heap.size + 1 < w1.heap.size := by omega
  have b_w1 : Below w.heap.size w w1 := bw_call (by repeat (first | exact Below.refl _ _ | assumption | refine bw_alloc ?_ _ | refine bw_drew ?_ | refine bw_set ?_ (by omega) _)) hb_w1
  clear hb_w1
  have hmb1 : w.heap.size + 1 + 1 < w1.heap.size := by omega
  have L1 := Lib.hid (L.below b_w1)
  have HM := Lib.hid M0
  clear M0
  clear hmm
  go_loopw [11] (fun x wr => ∃ j : Nat, j ≤ 32 ∧ x = .int .i32 (95 + (j : Int)) ∧ w1.grownBy wr (some (w.heap.size + 1 + 1)) ∧ BMap wr (w.heap.size + 1 + 1) (seenB j) j) (fun x _ => (127 - intOf x).toNat)
  case atStart => exact ⟨0, Nat.zero_le _, rfl, World.grownBy.refl _ _, HM.out⟩
  case round =>
    obtain ⟨w2, rfl⟩ : ∃ w2 : World, w2 = wr := ⟨_, rfl⟩
    obtain ⟨j, hj, rfl, hb_w2, hM⟩ := hrel
    have Hg := Lib.hid hb_w2
    have HM2 := Lib.hid hM
    clear hM
    have hz_w2 := hb_w2.size
    have B0_w2 := hb_w2.block (w.heap.size) (by first | omega | (simp only [hs_alloc, hs_set, hs_drew]; omega)) (by intro h; injection h; omega)
    have B1_w2 := hb_w2.block (w.heap.size + 1) (by first | omega | (simp only [hs_alloc, hs_set, hs_drew]; omega)) (by intro h; injection h; omega)
    (try simp only [hs_alloc, hs_set, hs_drew] at hz_w2)
    simp (disch := omega) only [hp_alloc, hp_set, hp_drew, hs_alloc, hs_set, hs_drew, if_pos, if_neg, ↓reduceIte, Option.map_some, putO, H0_w1.out, H1_w1.out] at B0_w2 B1_w2
    clear c0_w1 f0_w1 z0_w1 c1_w1 f1_w1 z1_w1
    obtain ⟨c0_w2, f0_w2⟩ := blk B0_w2
    have H0_w2 := Lib.hid B0_w2
    clear B0_w2
    have z0_w2 : w.heap.size < w2.heap.size := by omega
    obtain ⟨c1_w2, f1_w2⟩ := blk B1_w2
    have H1_w2 := Lib.hid B1_w2
    clear B1_w2
    have z1_w2 : w.heap.size + 1 < w2.heap.size := by omega
    have b_w2 : Below w.heap.size w w2 := bw_grown (by repeat (first | exact Below.refl _ _ | assumption | refine bw_alloc ?_ _ | refine bw_drew ?_ | refine bw_set ?_ (by omega) _)) hb_w2 (by omega)
    clear hb_w2
    have hmb2 : w.heap.size + 1 + 1 < w2.heap.size := by omega
    have L2 := Lib.hid (L.below b_w2)
    by_cases hj2 : j < 32
    · skip
      go_wp2_with fail
      refine (map_n 1 0 0 _ (lineF j) _ L2.out (by omega) (by omega) (mp_line j hj2)).mono ?_
      rintro e w3 ⟨rfl, hb_w3⟩
      have HM3 := Lib.hid (HM2.out.kept (hb_w3.block (w.heap.size + 1 + 1) (by omega)))
      have L3 := Lib.hid (L2.out.below hb_w3)
      have Hb3 := Lib.hid hb_w3
      have hz_w3 := hb_w3.size
      have B0_w3 := hb_w3.block (w.heap.size) (by first | omega | (simp only [hs_alloc, hs_set, hs_drew]; omega))
      have B1_w3 := hb_w3.block (w.heap.size + 1) (by first | omega | (simp only [hs_alloc, hs_set, hs_drew]; omega))
      (try simp only [hs_alloc, hs_set, hs_drew] at hz_w3)
      simp (disch := omega) only [hp_alloc, hp_set, hp_drew, hs_alloc, hs_set, hs_drew, if_pos, if_neg, ↓reduceIte, Option.map_some, putO, H0_w2.out, H1_w2.out] at B0_w3 B1_w3
      clear c0_w2 f0_w2 z0_w2 c1_w2 f1_w2 z1_w2
      obtain ⟨c0_w3, f0_w3⟩ := blk B0_w3
      have H0_w3 := Lib.hid B0_w3
      clear B0_w3
      have z0_w3 : w.heap.size < w3.heap.size := by omega
      obtain ⟨c1_w3, f1_w3⟩ := blk B1_w3
      have H1_w3 := Lib.hid B1_w3
      clear B1_w3
      have z1_w3 : w.heap.size + 1 < w3.heap.size := by omega
      have b_w3 : Below w.heap.size w w3 := bw_call (by repeat (first | exact Below.refl _ _ | assumption | refine bw_alloc ?_ _ | refine bw_drew ?_ | refine bw_set ?_ (by omega) _)) hb_w3
      clear hb_w3
      obtain ⟨w4, hput, hM4, hg4⟩ := HM3.out.put (lineF_wf j hj2) (by omega)
      have HM4 := Lib.hid hM4
      have Hg4 := Lib.hid hg4
      clear hM4 hg4
      have hlk := HM3.out.look (lineF_wf j hj2) (seenB_not j hj2)
      obtain ⟨q1, q2⟩ := bk_line j hj2
      have Hc := Lib.hid (lback_c (lineF j) (95 + j) 0 q1 q2 w3 L3.out)
      clear q1 q2
      go_wp2_with fail
      refine Hc.out.mono ?_
      rintro e w' ⟨rfl, rfl⟩
      go_wp2
      go_roundw
      case rel => exact ⟨j + 1, by omega, by go_num, (Hg.out.trans (only_of_below Hb3.out _)).trans Hg4.out, by rw [seenB_succ]; exact HM4.out⟩
      case measure => simp [intOf]; omega
    · skip
      obtain rfl : j = 32 := by omega
      have byf : ∀ (w11 : World), Below w.heap.size w w11 → Laid w11 → True := fun _ _ _ => trivial
      clear byf
      rcases line_or r with ⟨i, hi, rfl⟩ | hno
      · skip
        obtain ⟨q1, q2⟩ := bk_line i hi
        have Hc := Lib.hid (back_n (lineF i) (95 + i) 0 w2 L2.out q1 q2)
        clear q1 q2
        have hlk := HM2.out.look (lineF_wf i hi) (seenB_yes i hi)
        go_wp2_with fail
        refine Hc.out.mono ?_
        rintro e w' ⟨rfl, rfl⟩
        go_wp2_with fail
        refine (map_n 1 0 0 _ (lineF i) _ L2.out (by omega) (by omega) (mp_line i hi)).mono ?_
        rintro e w5 ⟨rfl, hb_w5⟩
        have hz_w5 := hb_w5.size
        have B0_w5 := hb_w5.block (w.heap.size) (by first | omega | (simp only [hs_alloc, hs_set, hs_drew]; omega))
        have B1_w5 := hb_w5.block (w.heap.size + 1) (by first | omega | (simp only [hs_alloc, hs_set, hs_drew]; omega))
        (try simp only [hs_alloc, hs_set, hs_drew] at hz_w5)
        simp (disch := omega) only [hp_alloc, hp_set, hp_drew, hs_alloc, hs_set, hs_drew, if_pos, if_neg, ↓reduceIte, Option.map_some, putO, H0_w2.out, H1_w2.out] at B0_w5 B1_w5
        clear c0_w2 f0_w2 z0_w2 c1_w2 f1_w2 z1_w2
        obtain ⟨c0_w5, f0_w5⟩ := blk B0_w5
        have H0_w5 := Lib.hid B0_w5
        clear B0_w5
        have z0_w5 : w.heap.size < w5.heap.size := by omega
        obtain ⟨c1_w5, f1_w5⟩ := blk B1_w5
        have H1_w5 := Lib.hid B1_w5
        clear B1_w5
        have z1_w5 : w.heap.size + 1 < w5.heap.size := by omega
        have b_w5 : Below w.heap.size w w5 := bw_call (by repeat (first | exact Below.refl _ _ | assumption | refine bw_alloc ?_ _ | refine bw_drew ?_ | refine bw_set ?_ (by omega) _)) hb_w5
        clear hb_w5
        clear hlk
        go_wp2_with fail
        have L5 := Lib.hid (L.below b_w5)
        cases hs : selOk g0 g1 a g k with
        | false =>
          have q : sE g0 g1 a g k = 2 := by simp [sE, hs]
          refine (select_n _ _ _ _ _ _ _ _ 2 rfl rfl rfl q _).mono ?_
          clear q hs
          rintro e w6 ⟨rfl, hb_w6⟩
          have hz_w6 := hb_w6.size
          have B0_w6 := hb_w6.block (w.heap.size) (by first | omega | (simp only [hs_alloc, hs_set, hs_drew]; omega))
          have B1_w6 := hb_w6.block (w.heap.size + 1) (by first | omega | (simp only [hs_alloc, hs_set, hs_drew]; omega))
          (try simp only [hs_alloc, hs_set, hs_drew] at hz_w6)
          simp (disch := omega) only [hp_alloc, hp_set, hp_drew, hs_alloc, hs_set, hs_drew, if_pos, if_neg, ↓reduceIte, Option.map_some, putO, H0_w5.out, H1_w5.out] at B0_w6 B1_w6
          clear c0_w5 f0_w5 z0_w5 c1_w5 f1_w5 z1_w5
          obtain ⟨c0_w6, f0_w6⟩ := blk B0_w6
          have H0_w6 := Lib.hid B0_w6
          clear B0_w6
          have z0_w6 : w.heap.size < w6.heap.size := by omega
          obtain ⟨c1_w6, f1_w6⟩ := blk B1_w6
          have H1_w6 := Lib.hid B1_w6
          clear B1_w6
          have z1_w6 : w.heap.size + 1 < w6.heap.size := by omega
          have b_w6 : Below w.heap.size w w6 := bw_call (by repeat (first | exact Below.refl _ _ | assumption | refine bw_alloc ?_ _ | refine bw_drew ?_ | refine bw_set ?_ (by omega) _)) hb_w6
          clear hb_w6
          go_wp2_with fail
          refine calls_gen ?_
          intro w11 hb_w11
          have hz_w11 := hb_w11.size
          have B0_w11 := hb_w11.block (w.heap.size) (by first | omega | (simp only [hs_alloc, hs_set, hs_drew]; omega))
          have B1_w11 := hb_w11.block (w.heap.size + 1) (by first | omega | (simp only [hs_alloc, hs_set, hs_drew]; omega))
          have B2_w11 := hb_w11.block (w6.heap.size) (by first | omega | (simp only [hs_alloc, hs_set, hs_drew]; omega))
          (try simp only [hs_alloc, hs_set, hs_drew] at hz_w11)
          simp (disch := omega) only [hp_alloc, hp_set, hp_drew, hs_alloc, hs_set, hs_drew, if_pos, if_neg, ↓reduceIte, Option.map_some, putO, H0_w6.out, H1_w6.out] at B0_w11 B1_w11 B2_w11
          clear c0_w6 f0_w6 z0_w6 c1_w6 f1_w6 z1_w6
          obtain ⟨c0_w11, f0_w11⟩ := blk B0_w11
          have H0_w11 := Lib.hid B0_w11
          clear B0_w11
          have z0_w11 : w.heap.size < w11.heap.size := by omega
          obtain ⟨c1_w11, f1_w11⟩ := blk B1_w11
          have H1_w11 := Lib.hid B1_w11
          clear B1_w11
          have z1_w11 : w.heap.size + 1 < w11.heap.size := by omega
          obtain ⟨c2_w11, f2_w11⟩ := blk B2_w11
          have H2_w11 := Lib.hid B2_w11
          clear B2_w11
          have z2_w11 : w6.heap.size < w11.heap.size := by omega
          have b_w11 : Below w.heap.size w w11 := bw_call (by repeat (first | exact Below.refl _ _ | assumption | refine bw_alloc ?_ _ | refine bw_drew ?_ | refine bw_set ?_ (by omega) _)) hb_w11
          clear hb_w11
          have L11 := Lib.hid (L.below b_w11)
          by_cases hf : bfE (lineF i) = 0
          · skip
            obtain ⟨q1, q2⟩ := fin_bf (lineF i) hf
            have Hf := Lib.hid (lfinal_c (bfV (lineF i)) (lineF i) 0 q1 q2 w11 L11.out)
            have He := Lib.hid (byFinal_n (lineF i) _ 0 w11 L11.out rfl hf)
            clear q1 q2 hf
            refine He.out.mono ?_
            rintro e w' ⟨rfl, rfl⟩
            go_wp2_with fail
            refine Hf.out.mono ?_
            rintro e w' ⟨rfl, rfl⟩
            go_wp2_with fail
            refine (known_ok _ L11.out).mono ?_
            rintro e w13 ⟨rfl, hb13⟩
            have Hn := Lib.hid (bw_call b_w11 hb13)
            clear hb13
            go_wp2
            go_ret
            exact ⟨rfl, Hn.out⟩
          · skip
            have He := Lib.hid (byFinal_n (lineF i) _ _ w11 L11.out rfl rfl)
            have hf' : (bfE (lineF i) == 0) = false := by simpa using hf
            clear hf
            refine He.out.mono ?_
            rintro e w' ⟨rfl, rfl⟩
            go_wp2_with fail
            refine (known_ok _ L11.out).mono ?_
            rintro e w13 ⟨rfl, hb13⟩
            have Hn := Lib.hid (bw_call b_w11 hb13)
            clear hb13
            go_wp2
            go_ret
            exact ⟨rfl, Hn.out⟩
        | true =>
          by_cases hga : g = a
          · skip
            obtain ⟨e1, e2, e3, e4, e5⟩ := holds_sel g0 g1 a g k (lineF i) hs
            obtain ⟨X0, hX0⟩ : ∃ X, s0 g0 g1 a g k = X := ⟨_, rfl⟩
            obtain ⟨X1, hX1⟩ : ∃ X, s1 g0 g1 a g k = X := ⟨_, rfl⟩
            obtain ⟨X2, hX2⟩ : ∃ X, s2 g0 g1 a g k = X := ⟨_, rfl⟩
            rw [hX0, hX1, hX2] at e2 e3 e4 e5
            obtain ⟨Y0, hY0⟩ : ∃ Y, h0 X0 X1 X2 g = Y := ⟨_, rfl⟩
            obtain ⟨Y1, hY1⟩ : ∃ Y, h1 X0 X1 X2 g = Y := ⟨_, rfl⟩
            obtain ⟨Y2, hY2⟩ : ∃ Y, h2 X0 X1 X2 g = Y := ⟨_, rfl⟩
            rw [hY0, hY1, hY2] at e5
            have Hc := Lib.hid (select_n g0 g1 a g k X0 X1 X2 0 hX0 hX1 hX2 e1 w5)
            have Hd := Lib.hid (fun w => shift_n X0 X1 X2 g Y0 Y1 Y2 0 hY0 hY1 hY2 e4 w)
            have Hv := Lib.hid (fun w => valid_n X0 X1 X2 true w e2)
            have hq2 : (mpR Y0 Y1 Y2 (lineF i) != mpR k 0 0 (lineF i)) = false := by simp [e5]
            have hga' : (g != a) = false := by simpa using hga
            clear e1 e2 e3 e4 e5 hX0 hX1 hX2 hY0 hY1 hY2 hs hga
            refine Hc.out.mono ?_
            rintro e w6 ⟨rfl, hb_w6⟩
            have hz_w6 := hb_w6.size
            have B0_w6 := hb_w6.block (w.heap.size) (by first | omega | (simp only [hs_alloc, hs_set, hs_drew]; omega))
            have B1_w6 := hb_w6.block (w.heap.size + 1) (by first | omega | (simp only [hs_alloc, hs_set, hs_drew]; omega))
            (try simp only [hs_alloc, hs_set, hs_drew] at hz_w6)
            simp (disch := omega) only [hp_alloc, hp_set, hp_drew, hs_alloc, hs_set, hs_drew, if_pos, if_neg, ↓reduceIte, Option.map_some, putO, H0_w5.out, H1_w5.out] at B0_w6 B1_w6
            clear c0_w5 f0_w5 z0_w5 c1_w5 f1_w5 z1_w5
            obtain ⟨c0_w6, f0_w6⟩ := blk B0_w6
            have H0_w6 := Lib.hid B0_w6
            clear B0_w6
            have z0_w6 : w.heap.size < w6.heap.size := by omega
            obtain ⟨c1_w6, f1_w6⟩ := blk B1_w6
            have H1_w6 := Lib.hid B1_w6
            clear B1_w6
            have z1_w6 : w.heap.size + 1 < w6.heap.size := by omega
            have b_w6 : Below w.heap.size w w6 := bw_call (by repeat (first | exact Below.refl _ _ | assumption | refine bw_alloc ?_ _ | refine bw_drew ?_ | refine bw_set ?_ (by omega) _)) hb_w6
            clear hb_w6
            go_wp2_with fail
            refine wp_gen ?_
            intro w7 hb_w7
            have hz_w7 := hb_w7.size
            have B0_w7 := hb_w7.block (w.heap.size) (by first | omega | (simp only [hs_alloc, hs_set, hs_drew]; omega))
            have B1_w7 := hb_w7.block (w.heap.size + 1) (by first | omega | (simp only [hs_alloc, hs_set, hs_drew]; omega))
            have B2_w7 := hb_w7.block (w6.heap.size) (by first | omega | (simp only [hs_alloc, hs_set, hs_drew]; omega))
            (try simp only [hs_alloc, hs_set, hs_drew] at hz_w7)
            simp (disch := omega) only [hp_alloc, hp_set, hp_drew, hs_alloc, hs_set, hs_drew, if_pos, if_neg, ↓reduceIte, Option.map_some, putO, H0_w6.out, H1_w6.out] at B0_w7 B1_w7 B2_w7
            clear c0_w6 f0_w6 z0_w6 c1_w6 f1_w6 z1_w6
            obtain ⟨c0_w7, f0_w7⟩ := blk B0_w7
            have H0_w7 := Lib.hid B0_w7
            clear B0_w7
            have z0_w7 : w.heap.size < w7.heap.size := by omega
            obtain ⟨c1_w7, f1_w7⟩ := blk B1_w7
            have H1_w7 := Lib.hid B1_w7
            clear B1_w7
            have z1_w7 : w.heap.size + 1 < w7.heap.size := by omega
            obtain ⟨c2_w7, f2_w7⟩ := blk B2_w7
            have H2_w7 := Lib.hid B2_w7
            clear B2_w7
            have z2_w7 : w6.heap.size < w7.heap.size := by omega
            have b_w7 : Below w.heap.size w w7 := bw_call (by repeat (first | exact Below.refl _ _ | assumption | refine bw_alloc ?_ _ | refine bw_drew ?_ | refine bw_set ?_ (by omega) _)) hb_w7
            clear hb_w7
            have L7 := Lib.hid (L.below b_w7)
            refine wp_region_cls (by kernel_rfl) (by kernel_rfl) ?_
            have q0_w7 := fun (n : Cls w7) (o : Nat) => (n.h.cell (p := ⟨w.heap.size, o, none⟩) (by first | omega | (simp only [hs_alloc, hs_set, hs_drew]; omega))).trans (c0_w7 o)
            have q1_w7 := fun (n : Cls w7) (o : Nat) => (n.h.cell (p := ⟨w.heap.size + 1, o, none⟩) (by first | omega | (simp only [hs_alloc, hs_set, hs_drew]; omega))).trans (c1_w7 o)
            have q2_w7 := fun (n : Cls w7) (o : Nat) => (n.h.cell (p := ⟨w6.heap.size, o, none⟩) (by first | omega | (simp only [hs_alloc, hs_set, hs_drew]; omega))).trans (c2_w7 o)
            repeat (go_big_quiet_step ((first | (go_at_call 10; exact cls_of (Hv.out _)) | (go_at_call 16; exact cls_of (map_c _ _ _ _ _ (L7.out.below (Cls.h _)) hr0 hr1)))))
            refine wpQuiet_nil ?_
            rintro w8 ⟨m_w8, hm_w8⟩
            have hb_w8 := m_w8.h
            rw [← hm_w8] at hb_w8
            clear hm_w8 m_w8
            clear q0_w7 q1_w7 q2_w7
            have hz_w8 := hb_w8.size
            have B0_w8 := hb_w8.block (w.heap.size) (by first | omega | (simp only [hs_alloc, hs_set, hs_drew]; omega))
            have B1_w8 := hb_w8.block (w.heap.size + 1) (by first | omega | (simp only [hs_alloc, hs_set, hs_drew]; omega))
            have B2_w8 := hb_w8.block (w6.heap.size) (by first | omega | (simp only [hs_alloc, hs_set, hs_drew]; omega))
            (try simp only [hs_alloc, hs_set, hs_drew] at hz_w8)
            simp (disch := omega) only [hp_alloc, hp_set, hp_drew, hs_alloc, hs_set, hs_drew, if_pos, if_neg, ↓reduceIte, Option.map_some, putO, H0_w7.out, H1_w7.out, H2_w7.out] at B0_w8 B1_w8 B2_w8
            clear c0_w7 f0_w7 z0_w7 c1_w7 f1_w7 z1_w7 c2_w7 f2_w7 z2_w7
            obtain ⟨c0_w8, f0_w8⟩ := blk B0_w8
            have H0_w8 := Lib.hid B0_w8
            clear B0_w8
            have z0_w8 : w.heap.size < w8.heap.size := by omega
            obtain ⟨c1_w8, f1_w8⟩ := blk B1_w8
            have H1_w8 := Lib.hid B1_w8
            clear B1_w8
            have z1_w8 : w.heap.size + 1 < w8.heap.size := by omega
            obtain ⟨c2_w8, f2_w8⟩ := blk B2_w8
            have H2_w8 := Lib.hid B2_w8
            clear B2_w8
            have z2_w8 : w6.heap.size < w8.heap.size := by omega
            have b_w8 : Below w.heap.size w w8 := bw_call (by repeat (first | exact Below.refl _ _ | assumption | refine bw_alloc ?_ _ | refine bw_drew ?_ | refine bw_set ?_ (by omega) _)) hb_w8
            clear hb_w8
            go_wp2_with fail
            refine (Hd.out _).mono ?_
            rintro e w9 ⟨rfl, hb_w9⟩
            have hz_w9 := hb_w9.size
            have B0_w9 := hb_w9.block (w.heap.size) (by first | omega | (simp only [hs_alloc, hs_set, hs_drew]; omega))
            have B1_w9 := hb_w9.block (w.heap.size + 1) (by first | omega | (simp only [hs_alloc, hs_set, hs_drew]; omega))
            have B2_w9 := hb_w9.block (w6.heap.size) (by first | omega | (simp only [hs_alloc, hs_set, hs_drew]; omega))
            (try simp only [hs_alloc, hs_set, hs_drew] at hz_w9)
            simp (disch := omega) only [hp_alloc, hp_set, hp_drew, hs_alloc, hs_set, hs_drew, if_pos, if_neg, ↓reduceIte, Option.map_some, putO, H0_w8.out, H1_w8.out, H2_w8.out] at B0_w9 B1_w9 B2_w9
            clear c0_w8 f0_w8 z0_w8 c1_w8 f1_w8 z1_w8 c2_w8 f2_w8 z2_w8
            obtain ⟨c0_w9, f0_w9⟩ := blk B0_w9
            have H0_w9 := Lib.hid B0_w9
            clear B0_w9
            have z0_w9 : w.heap.size < w9.heap.size := by omega
            obtain ⟨c1_w9, f1_w9⟩ := blk B1_w9
            have H1_w9 := Lib.hid B1_w9
            clear B1_w9
            have z1_w9 : w.heap.size + 1 < w9.heap.size := by omega
            obtain ⟨c2_w9, f2_w9⟩ := blk B2_w9
            have H2_w9 := Lib.hid B2_w9
            clear B2_w9
            have z2_w9 : w6.heap.size < w9.heap.size := by omega
            have b_w9 : Below w.heap.size w w9 := bw_call (by repeat (first | exact Below.refl _ _ | assumption | refine bw_alloc ?_ _ | refine bw_drew ?_ | refine bw_set ?_ (by omega) _)) hb_w9
            clear hb_w9
            go_wp2_with fail
            refine (map_c _ _ _ _ _ (L.below (by repeat (first | exact Below.refl _ _ | assumption | refine bw_alloc ?_ _ | refine bw_drew ?_ | refine bw_set ?_ (by omega) _))) hr0 hr1).mono ?_
            rintro e w10 ⟨rfl, hb_w10⟩
            have hz_w10 := hb_w10.size
            have B0_w10 := hb_w10.block (w.heap.size) (by first | omega | (simp only [hs_alloc, hs_set, hs_drew]; omega))
            have B1_w10 := hb_w10.block (w.heap.size + 1) (by first | omega | (simp only [hs_alloc, hs_set, hs_drew]; omega))
            have B2_w10 := hb_w10.block (w6.heap.size) (by first | omega | (simp only [hs_alloc, hs_set, hs_drew]; omega))
            have B3_w10 := hb_w10.block (w9.heap.size) (by first | omega | (simp only [hs_alloc, hs_set, hs_drew]; omega))
            (try simp only [hs_alloc, hs_set, hs_drew] at hz_w10)
            simp (disch := omega) only [hp_alloc, hp_set, hp_drew, hs_alloc, hs_set, hs_drew, if_pos, if_neg, ↓reduceIte, Option.map_some, putO, H0_w9.out, H1_w9.out, H2_w9.out] at B0_w10 B1_w10 B2_w10 B3_w10
            clear c0_w9 f0_w9 z0_w9 c1_w9 f1_w9 z1_w9 c2_w9 f2_w9 z2_w9
            obtain ⟨c0_w10, f0_w10⟩ := blk B0_w10
            have H0_w10 := Lib.hid B0_w10
            clear B0_w10
            have z0_w10 : w.heap.size < w10.heap.size := by omega
            obtain ⟨c1_w10, f1_w10⟩ := blk B1_w10
            have H1_w10 := Lib.hid B1_w10
            clear B1_w10
            have z1_w10 : w.heap.size + 1 < w10.heap.size := by omega
            obtain ⟨c2_w10, f2_w10⟩ := blk B2_w10
            have H2_w10 := Lib.hid B2_w10
            clear B2_w10
            have z2_w10 : w6.heap.size < w10.heap.size := by omega
            obtain ⟨c3_w10, f3_w10⟩ := blk B3_w10
            have H3_w10 := Lib.hid B3_w10
            clear B3_w10
            have z3_w10 : w9.heap.size < w10.heap.size := by omega
            have b_w10 : Below w.heap.size w w10 := bw_call (by repeat (first | exact Below.refl _ _ | assumption | refine bw_alloc ?_ _ | refine bw_drew ?_ | refine bw_set ?_ (by omega) _)) hb_w10
            clear hb_w10
            go_wp2_with fail
            refine (map_c _ _ _ _ _ (L.below (by repeat (first | exact Below.refl _ _ | assumption | refine bw_alloc ?_ _ | refine bw_drew ?_ | refine bw_set ?_ (by omega) _))) hr0 hr1).mono ?_
            rintro e w12 ⟨rfl, hb_w12⟩
            have hz_w12 := hb_w12.size
            have B0_w12 := hb_w12.block (w.heap.size) (by first | omega | (simp only [hs_alloc, hs_set, hs_drew]; omega))
            have B1_w12 := hb_w12.block (w.heap.size + 1) (by first | omega | (simp only [hs_alloc, hs_set, hs_drew]; omega))
            have B2_w12 := hb_w12.block (w6.heap.size) (by first | omega | (simp only [hs_alloc, hs_set, hs_drew]; omega))
            have B3_w12 := hb_w12.block (w9.heap.size) (by first | omega | (simp only [hs_alloc, hs_set, hs_drew]; omega))
            (try simp only [hs_alloc, hs_set, hs_drew] at hz_w12)
            simp (disch := omega) only [hp_alloc, hp_set, hp_drew, hs_alloc, hs_set, hs_drew, if_pos, if_neg, ↓reduceIte, Option.map_some, putO, H0_w10.out, H1_w10.out, H2_w10.out, H3_w10.out] at B0_w12 B1_w12 B2_w12 B3_w12
            clear c0_w10 f0_w10 z0_w10 c1_w10 f1_w10 z1_w10 c2_w10 f2_w10 z2_w10 c3_w10 f3_w10 z3_w10
            obtain ⟨c0_w12, f0_w12⟩ := blk B0_w12
            have H0_w12 := Lib.hid B0_w12
            clear B0_w12
            have z0_w12 : w.heap.size < w12.heap.size := by omega
            obtain ⟨c1_w12, f1_w12⟩ := blk B1_w12
            have H1_w12 := Lib.hid B1_w12
            clear B1_w12
            have z1_w12 : w.heap.size + 1 < w12.heap.size := by omega
            obtain ⟨c2_w12, f2_w12⟩ := blk B2_w12
            have H2_w12 := Lib.hid B2_w12
            clear B2_w12
            have z2_w12 : w6.heap.size < w12.heap.size := by omega
            obtain ⟨c3_w12, f3_w12⟩ := blk B3_w12
            have H3_w12 := Lib.hid B3_w12
            clear B3_w12
            have z3_w12 : w9.heap.size < w12.heap.size := by omega
            have b_w12 : Below w.heap.size w w12 := bw_call (by repeat (first | exact Below.refl _ _ | assumption | refine bw_alloc ?_ _ | refine bw_drew ?_ | refine bw_set ?_ (by omega) _)) hb_w12
            clear hb_w12
            go_wp2_with fail
            refine calls_gen ?_
            intro w11 hb_w11
            have hz_w11 := hb_w11.size
            have B0_w11 := hb_w11.block (w.heap.size) (by first | omega | (simp only [hs_alloc, hs_set, hs_drew]; omega))
            have B1_w11 := hb_w11.block (w.heap.size + 1) (by first | omega | (simp only [hs_alloc, hs_set, hs_drew]; omega))
            have B2_w11 := hb_w11.block (w6.heap.size) (by first | omega | (simp only [hs_alloc, hs_set, hs_drew]; omega))
            have B3_w11 := hb_w11.block (w9.heap.size) (by first | omega | (simp only [hs_alloc, hs_set, hs_drew]; omega))
            (try simp only [hs_alloc, hs_set, hs_drew] at hz_w11)
            simp (disch := omega) only [hp_alloc, hp_set, hp_drew, hs_alloc, hs_set, hs_drew, if_pos, if_neg, ↓reduceIte, Option.map_some, putO, H0_w12.out, H1_w12.out, H2_w12.out, H3_w12.out] at B0_w11 B1_w11 B2_w11 B3_w11
            clear c0_w12 f0_w12 z0_w12 c1_w12 f1_w12 z1_w12 c2_w12 f2_w12 z2_w12 c3_w12 f3_w12 z3_w12
            obtain ⟨c0_w11, f0_w11⟩ := blk B0_w11
            have H0_w11 := Lib.hid B0_w11
            clear B0_w11
            have z0_w11 : w.heap.size < w11.heap.size := by omega
            obtain ⟨c1_w11, f1_w11⟩ := blk B1_w11
            have H1_w11 := Lib.hid B1_w11
            clear B1_w11
            have z1_w11 : w.heap.size + 1 < w11.heap.size := by omega
            obtain ⟨c2_w11, f2_w11⟩ := blk B2_w11
            have H2_w11 := Lib.hid B2_w11
            clear B2_w11
            have z2_w11 : w6.heap.size < w11.heap.size := by omega
            obtain ⟨c3_w11, f3_w11⟩ := blk B3_w11
            have H3_w11 := Lib.hid B3_w11
            clear B3_w11
            have z3_w11 : w9.heap.size < w11.heap.size := by omega
            have b_w11 : Below w.heap.size w w11 := bw_call (by repeat (first | exact Below.refl _ _ | assumption | refine bw_alloc ?_ _ | refine bw_drew ?_ | refine bw_set ?_ (by omega) _)) hb_w11
            clear hb_w11
            have L11 := Lib.hid (L.below b_w11)
            by_cases hf : bfE (lineF i) = 0
            · skip
              obtain ⟨q1, q2⟩ := fin_bf (lineF i) hf
              have Hf := Lib.hid (lfinal_c (bfV (lineF i)) (lineF i) 0 q1 q2 w11 L11.out)
              have He := Lib.hid (byFinal_n (lineF i) _ 0 w11 L11.out rfl hf)
              clear q1 q2 hf
              refine He.out.mono ?_
              rintro e w' ⟨rfl, rfl⟩
              go_wp2_with fail
              refine Hf.out.mono ?_
              rintro e w' ⟨rfl, rfl⟩
              go_wp2_with fail
              refine (known_ok _ L11.out).mono ?_
              rintro e w13 ⟨rfl, hb13⟩
              have Hn := Lib.hid (bw_call b_w11 hb13)
              clear hb13
              go_wp2
              go_ret
              exact ⟨rfl, Hn.out⟩
            · skip
              have He := Lib.hid (byFinal_n (lineF i) _ _ w11 L11.out rfl rfl)
              have hf' : (bfE (lineF i) == 0) = false := by simpa using hf
              clear hf
              refine He.out.mono ?_
              rintro e w' ⟨rfl, rfl⟩
              go_wp2_with fail
              refine (known_ok _ L11.out).mono ?_
              rintro e w13 ⟨rfl, hb13⟩
              have Hn := Lib.hid (bw_call b_w11 hb13)
              clear hb13
              go_wp2
              go_ret
              exact ⟨rfl, Hn.out⟩
          · skip
            obtain ⟨e1, e2, e3, e4, e5⟩ := holds_sel g0 g1 a g k (lineF i) hs
            obtain ⟨X0, hX0⟩ : ∃ X, s0 g0 g1 a g k = X := ⟨_, rfl⟩
            obtain ⟨X1, hX1⟩ : ∃ X, s1 g0 g1 a g k = X := ⟨_, rfl⟩
            obtain ⟨X2, hX2⟩ : ∃ X, s2 g0 g1 a g k = X := ⟨_, rfl⟩
            rw [hX0, hX1, hX2] at e2 e3 e4 e5
            obtain ⟨Y0, hY0⟩ : ∃ Y, h0 X0 X1 X2 g = Y := ⟨_, rfl⟩
            obtain ⟨Y1, hY1⟩ : ∃ Y, h1 X0 X1 X2 g = Y := ⟨_, rfl⟩
            obtain ⟨Y2, hY2⟩ : ∃ Y, h2 X0 X1 X2 g = Y := ⟨_, rfl⟩
            rw [hY0, hY1, hY2] at e5
            have Hc := Lib.hid (select_n g0 g1 a g k X0 X1 X2 0 hX0 hX1 hX2 e1 w5)
            have Hd := Lib.hid (fun w => shift_n X0 X1 X2 g Y0 Y1 Y2 0 hY0 hY1 hY2 e4 w)
            have Hv := Lib.hid (fun w => valid_n X0 X1 X2 true w e2)
            have hq2 : (mpR Y0 Y1 Y2 (lineF i) != mpR k 0 0 (lineF i)) = false := by simp [e5]
            have hga' : (g != a) = true := by simpa using hga
            have hq1 : (mpR X0 X1 X2 (lineF i) != mpR g0 g1 a (lineF i)) = false := by simp [e3 hga]
            clear e1 e2 e3 e4 e5 hX0 hX1 hX2 hY0 hY1 hY2 hs hga
            refine Hc.out.mono ?_
            rintro e w6 ⟨rfl, hb_w6⟩
            have hz_w6 := hb_w6.size
            have B0_w6 := hb_w6.block (w.heap.size) (by first | omega | (simp only [hs_alloc, hs_set, hs_drew]; omega))
            have B1_w6 := hb_w6.block (w.heap.size + 1) (by first | omega | (simp only [hs_alloc, hs_set, hs_drew]; omega))
            (try simp only [hs_alloc, hs_set, hs_drew] at hz_w6)
            simp (disch := omega) only [hp_alloc, hp_set, hp_drew, hs_alloc, hs_set, hs_drew, if_pos, if_neg, ↓reduceIte, Option.map_some, putO, H0_w5.out, H1_w5.out] at B0_w6 B1_w6
            clear c0_w5 f0_w5 z0_w5 c1_w5 f1_w5 z1_w5
            obtain ⟨c0_w6, f0_w6⟩ := blk B0_w6
            have H0_w6 := Lib.hid B0_w6
            clear B0_w6
            have z0_w6 : w.heap.size < w6.heap.size := by omega
            obtain ⟨c1_w6, f1_w6⟩ := blk B1_w6
            have H1_w6 := Lib.hid B1_w6
            clear B1_w6
            have z1_w6 : w.heap.size + 1 < w6.heap.size := by omega
            have b_w6 : Below w.heap.size w w6 := bw_call (by repeat (first | exact Below.refl _ _ | assumption | refine bw_alloc ?_ _ | refine bw_drew ?_ | refine bw_set ?_ (by omega) _)) hb_w6
            clear hb_w6
            go_wp2_with fail
            refine wp_gen ?_
            intro w7 hb_w7
            have hz_w7 := hb_w7.size
            have B0_w7 := hb_w7.block (w.heap.size) (by first | omega | (simp only [hs_alloc, hs_set, hs_drew]; omega))
            have B1_w7 := hb_w7.block (w.heap.size + 1) (by first | omega | (simp only [hs_alloc, hs_set, hs_drew]; omega))
            have B2_w7 := hb_w7.block (w6.heap.size) (by first | omega | (simp only [hs_alloc, hs_set, hs_drew]; omega))
            (try simp only [hs_alloc, hs_set, hs_drew] at hz_w7)
            simp (disch := omega) only [hp_alloc, hp_set, hp_drew, hs_alloc, hs_set, hs_drew, if_pos, if_neg, ↓reduceIte, Option.map_some, putO, H0_w6.out, H1_w6.out] at B0_w7 B1_w7 B2_w7
            clear c0_w6 f0_w6 z0_w6 c1_w6 f1_w6 z1_w6
            obtain ⟨c0_w7, f0_w7⟩ := blk B0_w7
            have H0_w7 := Lib.hid B0_w7
            clear B0_w7
            have z0_w7 : w.heap.size < w7.heap.size := by omega
            obtain ⟨c1_w7, f1_w7⟩ := blk B1_w7
            have H1_w7 := Lib.hid B1_w7
            clear B1_w7
            have z1_w7 : w.heap.size + 1 < w7.heap.size := by omega
            obtain ⟨c2_w7, f2_w7⟩ := blk B2_w7
            have H2_w7 := Lib.hid B2_w7
            clear B2_w7
            have z2_w7 : w6.heap.size < w7.heap.size := by omega
            have b_w7 : Below w.heap.size w w7 := bw_call (by repeat (first | exact Below.refl _ _ | assumption | refine bw_alloc ?_ _ | refine bw_drew ?_ | refine bw_set ?_ (by omega) _)) hb_w7
            clear hb_w7
            have L7 := Lib.hid (L.below b_w7)
            refine wp_region_cls (by kernel_rfl) (by kernel_rfl) ?_
            have q0_w7 := fun (n : Cls w7) (o : Nat) => (n.h.cell (p := ⟨w.heap.size, o, none⟩) (by first | omega | (simp only [hs_alloc, hs_set, hs_drew]; omega))).trans (c0_w7 o)
            have q1_w7 := fun (n : Cls w7) (o : Nat) => (n.h.cell (p := ⟨w.heap.size + 1, o, none⟩) (by first | omega | (simp only [hs_alloc, hs_set, hs_drew]; omega))).trans (c1_w7 o)
            have q2_w7 := fun (n : Cls w7) (o : Nat) => (n.h.cell (p := ⟨w6.heap.size, o, none⟩) (by first | omega | (simp only [hs_alloc, hs_set, hs_drew]; omega))).trans (c2_w7 o)
            repeat (go_big_quiet_step ((first | (go_at_call 10; exact cls_of (Hv.out _)) | (go_at_call 16; exact cls_of (map_c _ _ _ _ _ (L7.out.below (Cls.h _)) hr0 hr1)))))
            refine wpQuiet_nil ?_
            rintro w8 ⟨m_w8, hm_w8⟩
            have hb_w8 := m_w8.h
            rw [← hm_w8] at hb_w8
            clear hm_w8 m_w8
            clear q0_w7 q1_w7 q2_w7
            have hz_w8 := hb_w8.size
            have B0_w8 := hb_w8.block (w.heap.size) (by first | omega | (simp only [hs_alloc, hs_set, hs_drew]; omega))
            have B1_w8 := hb_w8.block (w.heap.size + 1) (by first | omega | (simp only [hs_alloc, hs_set, hs_drew]; omega))
            have B2_w8 := hb_w8.block (w6.heap.size) (by first | omega | (simp only [hs_alloc, hs_set, hs_drew]; omega))
            (try simp only [hs_alloc, hs_set, hs_drew] at hz_w8)
            simp (disch := omega) only [hp_alloc, hp_set, hp_drew, hs_alloc, hs_set, hs_drew, if_pos, if_neg, ↓reduceIte, Option.map_some, putO, H0_w7.out, H1_w7.out, H2_w7.out] at B0_w8 B1_w8 B2_w8
            clear c0_w7 f0_w7 z0_w7 c1_w7 f1_w7 z1_w7 c2_w7 f2_w7 z2_w7
            obtain ⟨c0_w8, f0_w8⟩ := blk B0_w8
            have H0_w8 := Lib.hid B0_w8
            clear B0_w8
            have z0_w8 : w.heap.size < w8.heap.size := by omega
            obtain ⟨c1_w8, f1_w8⟩ := blk B1_w8
            have H1_w8 := Lib.hid B1_w8
            clear B1_w8
            have z1_w8 : w.heap.size + 1 < w8.heap.size := by omega
            obtain ⟨c2_w8, f2_w8⟩ := blk B2_w8
            have H2_w8 := Lib.hid B2_w8
            clear B2_w8
            have z2_w8 : w6.heap.size < w8.heap.size := by omega
            have b_w8 : Below w.heap.size w w8 := bw_call (by repeat (first | exact Below.refl _ _ | assumption | refine bw_alloc ?_ _ | refine bw_drew ?_ | refine bw_set ?_ (by omega) _)) hb_w8
            clear hb_w8
            go_wp2_with fail
            refine (Hd.out _).mono ?_
            rintro e w9 ⟨rfl, hb_w9⟩
            have hz_w9 := hb_w9.size
            have B0_w9 := hb_w9.block (w.heap.size) (by first | omega | (simp only [hs_alloc, hs_set, hs_drew]; omega))
            have B1_w9 := hb_w9.block (w.heap.size + 1) (by first | omega | (simp only [hs_alloc, hs_set, hs_drew]; omega))
            have B2_w9 := hb_w9.block (w6.heap.size) (by first | omega | (simp only [hs_alloc, hs_set, hs_drew]; omega))
            (try simp only [hs_alloc, hs_set, hs_drew] at hz_w9)
            simp (disch := omega) only [hp_alloc, hp_set, hp_drew, hs_alloc, hs_set, hs_drew, if_pos, if_neg, ↓reduceIte, Option.map_some, putO, H0_w8.out, H1_w8.out, H2_w8.out] at B0_w9 B1_w9 B2_w9
            clear c0_w8 f0_w8 z0_w8 c1_w8 f1_w8 z1_w8 c2_w8 f2_w8 z2_w8
            obtain ⟨c0_w9, f0_w9⟩ := blk B0_w9
            have H0_w9 := Lib.hid B0_w9
            clear B0_w9
            have z0_w9 : w.heap.size < w9.heap.size := by omega
            obtain ⟨c1_w9, f1_w9⟩ := blk B1_w9
            have H1_w9 := Lib.hid B1_w9
            clear B1_w9
            have z1_w9 : w.heap.size + 1 < w9.heap.size := by omega
            obtain ⟨c2_w9, f2_w9⟩ := blk B2_w9
            have H2_w9 := Lib.hid B2_w9
            clear B2_w9
            have z2_w9 : w6.heap.size < w9.heap.size := by omega
            have b_w9 : Below w.heap.size w w9 := bw_call (by repeat (first | exact Below.refl _ _ | assumption | refine bw_alloc ?_ _ | refine bw_drew ?_ | refine bw_set ?_ (by omega) _)) hb_w9
            clear hb_w9
            go_wp2_with fail
            refine (map_c _ _ _ _ _ (L.below (by repeat (first | exact Below.refl _ _ | assumption | refine bw_alloc ?_ _ | refine bw_drew ?_ | refine bw_set ?_ (by omega) _))) hr0 hr1).mono ?_
            rintro e w10 ⟨rfl, hb_w10⟩
            have hz_w10 := hb_w10.size
            have B0_w10 := hb_w10.block (w.heap.size) (by first | omega | (simp only [hs_alloc, hs_set, hs_drew]; omega))
            have B1_w10 := hb_w10.block (w.heap.size + 1) (by first | omega | (simp only [hs_alloc, hs_set, hs_drew]; omega))
            have B2_w10 := hb_w10.block (w6.heap.size) (by first | omega | (simp only [hs_alloc, hs_set, hs_drew]; omega))
            have B3_w10 := hb_w10.block (w9.heap.size) (by first | omega | (simp only [hs_alloc, hs_set, hs_drew]; omega))
            (try simp only [hs_alloc, hs_set, hs_drew] at hz_w10)
            simp (disch := omega) only [hp_alloc, hp_set, hp_drew, hs_alloc, hs_set, hs_drew, if_pos, if_neg, ↓reduceIte, Option.map_some, putO, H0_w9.out, H1_w9.out, H2_w9.out] at B0_w10 B1_w10 B2_w10 B3_w10
            clear c0_w9 f0_w9 z0_w9 c1_w9 f1_w9 z1_w9 c2_w9 f2_w9 z2_w9
            obtain ⟨c0_w10, f0_w10⟩ := blk B0_w10
            have H0_w10 := Lib.hid B0_w10
            clear B0_w10
            have z0_w10 : w.heap.size < w10.heap.size := by omega
            obtain ⟨c1_w10, f1_w10⟩ := blk B1_w10
            have H1_w10 := Lib.hid B1_w10
            clear B1_w10
            have z1_w10 : w.heap.size + 1 < w10.heap.size := by omega
            obtain ⟨c2_w10, f2_w10⟩ := blk B2_w10
            have H2_w10 := Lib.hid B2_w10
            clear B2_w10
            have z2_w10 : w6.heap.size < w10.heap.size := by omega
            obtain ⟨c3_w10, f3_w10⟩ := blk B3_w10
            have H3_w10 := Lib.hid B3_w10
            clear B3_w10
            have z3_w10 : w9.heap.size < w10.heap.size := by omega
            have b_w10 : Below w.heap.size w w10 := bw_call (by repeat (first | exact Below.refl _ _ | assumption | refine bw_alloc ?_ _ | refine bw_drew ?_ | refine bw_set ?_ (by omega) _)) hb_w10
            clear hb_w10
            go_wp2_with fail
            refine (map_c _ _ _ _ _ (L.below (by repeat (first | exact Below.refl _ _ | assumption | refine bw_alloc ?_ _ | refine bw_drew ?_ | refine bw_set ?_ (by omega) _))) hr0 hr1).mono ?_
            rintro e w12 ⟨rfl, hb_w12⟩
            have hz_w12 := hb_w12.size
            have B0_w12 := hb_w12.block (w.heap.size) (by first | omega | (simp only [hs_alloc, hs_set, hs_drew]; omega))
            have B1_w12 := hb_w12.block (w.heap.size + 1) (by first | omega | (simp only [hs_alloc, hs_set, hs_drew]; omega))
            have B2_w12 := hb_w12.block (w6.heap.size) (by first | omega | (simp only [hs_alloc, hs_set, hs_drew]; omega))
            have B3_w12 := hb_w12.block (w9.heap.size) (by first | omega | (simp only [hs_alloc, hs_set, hs_drew]; omega))
            (try simp only [hs_alloc, hs_set, hs_drew] at hz_w12)
            simp (disch := omega) only [hp_alloc, hp_set, hp_drew, hs_alloc, hs_set, hs_drew, if_pos, if_neg, ↓reduceIte, Option.map_some, putO, H0_w10.out, H1_w10.out, H2_w10.out, H3_w10.out] at B0_w12 B1_w12 B2_w12 B3_w12
            clear c0_w10 f0_w10 z0_w10 c1_w10 f1_w10 z1_w10 c2_w10 f2_w10 z2_w10 c3_w10 f3_w10 z3_w10
            obtain ⟨c0_w12, f0_w12⟩ := blk B0_w12
            have H0_w12 := Lib.hid B0_w12
            clear B0_w12
            have z0_w12 : w.heap.size < w12.heap.size := by omega
            obtain ⟨c1_w12, f1_w12⟩ := blk B1_w12
            have H1_w12 := Lib.hid B1_w12
            clear B1_w12
            have z1_w12 : w.heap.size + 1 < w12.heap.size := by omega
            obtain ⟨c2_w12, f2_w12⟩ := blk B2_w12
            have H2_w12 := Lib.hid B2_w12
            clear B2_w12
            have z2_w12 : w6.heap.size < w12.heap.size := by omega
            obtain ⟨c3_w12, f3_w12⟩ := blk B3_w12
            have H3_w12 := Lib.hid B3_w12
            clear B3_w12
            have z3_w12 : w9.heap.size < w12.heap.size := by omega
            have b_w12 : Below w.heap.size w w12 := bw_call (by repeat (first | exact Below.refl _ _ | assumption | refine bw_alloc ?_ _ | refine bw_drew ?_ | refine bw_set ?_ (by omega) _)) hb_w12
            clear hb_w12
            go_wp2_with fail
            refine calls_gen ?_
            intro w11 hb_w11
            have hz_w11 := hb_w11.size
            have B0_w11 := hb_w11.block (w.heap.size) (by first | omega | (simp only [hs_alloc, hs_set, hs_drew]; omega))
            have B1_w11 := hb_w11.block (w.heap.size + 1) (by first | omega | (simp only [hs_alloc, hs_set, hs_drew]; omega))
            have B2_w11 := hb_w11.block (w6.heap.size) (by first | omega | (simp only [hs_alloc, hs_set, hs_drew]; omega))
            have B3_w11 := hb_w11.block (w9.heap.size) (by first | omega | (simp only [hs_alloc, hs_set, hs_drew]; omega))
            (try simp only [hs_alloc, hs_set, hs_drew] at hz_w11)
            simp (disch := omega) only [hp_alloc, hp_set, hp_drew, hs_alloc, hs_set, hs_drew, if_pos, if_neg, ↓reduceIte, Option.map_some, putO, H0_w12.out, H1_w12.out, H2_w12.out, H3_w12.out] at B0_w11 B1_w11 B2_w11 B3_w11
            clear c0_w12 f0_w12 z0_w12 c1_w12 f1_w12 z1_w12 c2_w12 f2_w12 z2_w12 c3_w12 f3_w12 z3_w12
            obtain ⟨c0_w11, f0_w11⟩ := blk B0_w11
            have H0_w11 := Lib.hid B0_w11
            clear B0_w11
            have z0_w11 : w.heap.size < w11.heap.size := by omega
            obtain ⟨c1_w11, f1_w11⟩ := blk B1_w11
            have H1_w11 := Lib.hid B1_w11
            clear B1_w11
            have z1_w11 : w.heap.size + 1 < w11.heap.size := by omega
            obtain ⟨c2_w11, f2_w11⟩ := blk B2_w11
            have H2_w11 := Lib.hid B2_w11
            clear B2_w11
            have z2_w11 : w6.heap.size < w11.heap.size := by omega
            obtain ⟨c3_w11, f3_w11⟩ := blk B3_w11
            have H3_w11 := Lib.hid B3_w11
            clear B3_w11
            have z3_w11 : w9.heap.size < w11.heap.size := by omega
            have b_w11 : Below w.heap.size w w11 := bw_call (by repeat (first | exact Below.refl _ _ | assumption | refine bw_alloc ?_ _ | refine bw_drew ?_ | refine bw_set ?_ (by omega) _)) hb_w11
            clear hb_w11
            have L11 := Lib.hid (L.below b_w11)
            by_cases hf : bfE (lineF i) = 0
            · skip
              obtain ⟨q1, q2⟩ := fin_bf (lineF i) hf
              have Hf := Lib.hid (lfinal_c (bfV (lineF i)) (lineF i) 0 q1 q2 w11 L11.out)
              have He := Lib.hid (byFinal_n (lineF i) _ 0 w11 L11.out rfl hf)
              clear q1 q2 hf
              refine He.out.mono ?_
              rintro e w' ⟨rfl, rfl⟩
              go_wp2_with fail
              refine Hf.out.mono ?_
              rintro e w' ⟨rfl, rfl⟩
              go_wp2_with fail
              refine (known_ok _ L11.out).mono ?_
              rintro e w13 ⟨rfl, hb13⟩
              have Hn := Lib.hid (bw_call b_w11 hb13)
              clear hb13
              go_wp2
              go_ret
              exact ⟨rfl, Hn.out⟩
            · skip
              have He := Lib.hid (byFinal_n (lineF i) _ _ w11 L11.out rfl rfl)
              have hf' : (bfE (lineF i) == 0) = false := by simpa using hf
              clear hf
              refine He.out.mono ?_
              rintro e w' ⟨rfl, rfl⟩
              go_wp2_with fail
              refine (known_ok _ L11.out).mono ?_
              rintro e w13 ⟨rfl, hb13⟩
              have Hn := Lib.hid (bw_call b_w11 hb13)
              clear hb13
              go_wp2
              go_ret
              exact ⟨rfl, Hn.out⟩
      · skip
        have Hc := Lib.hid (back_n r _ 9 w2 L2.out rfl (bk_none r hno))
        clear hno
        go_wp2_with fail
        refine Hc.out.mono ?_
        rintro e w' ⟨rfl, rfl⟩
        go_wp2_with fail
        refine calls_gen ?_
        intro w5 hb_w5
        have hz_w5 := hb_w5.size
        have B0_w5 := hb_w5.block (w.heap.size) (by first | omega | (simp only [hs_alloc, hs_set, hs_drew]; omega))
        have B1_w5 := hb_w5.block (w.heap.size + 1) (by first | omega | (simp only [hs_alloc, hs_set, hs_drew]; omega))
        (try simp only [hs_alloc, hs_set, hs_drew] at hz_w5)
        simp (disch := omega) only [hp_alloc, hp_set, hp_drew, hs_alloc, hs_set, hs_drew, if_pos, if_neg, ↓reduceIte, Option.map_some, putO, H0_w2.out, H1_w2.out] at B0_w5 B1_w5
        clear c0_w2 f0_w2 z0_w2 c1_w2 f1_w2 z1_w2
        obtain ⟨c0_w5, f0_w5⟩ := blk B0_w5
        have H0_w5 := Lib.hid B0_w5
        clear B0_w5
        have z0_w5 : w.heap.size < w5.heap.size := by omega
        obtain ⟨c1_w5, f1_w5⟩ := blk B1_w5
        have H1_w5 := Lib.hid B1_w5
        clear B1_w5
        have z1_w5 : w.heap.size + 1 < w5.heap.size := by omega
        have b_w5 : Below w.heap.size w w5 := bw_call (by repeat (first | exact Below.refl _ _ | assumption | refine bw_alloc ?_ _ | refine bw_drew ?_ | refine bw_set ?_ (by omega) _)) hb_w5
        clear hb_w5
        have L5 := Lib.hid (L.below b_w5)
        cases hs : selOk g0 g1 a g k with
        | false =>
          have q : sE g0 g1 a g k = 2 := by simp [sE, hs]
          refine (select_n _ _ _ _ _ _ _ _ 2 rfl rfl rfl q _).mono ?_
          clear q hs
          rintro e w6 ⟨rfl, hb_w6⟩
          have hz_w6 := hb_w6.size
          have B0_w6 := hb_w6.block (w.heap.size) (by first | omega | (simp only [hs_alloc, hs_set, hs_drew]; omega))
          have B1_w6 := hb_w6.block (w.heap.size + 1) (by first | omega | (simp only [hs_alloc, hs_set, hs_drew]; omega))
          (try simp only [hs_alloc, hs_set, hs_drew] at hz_w6)
          simp (disch := omega) only [hp_alloc, hp_set, hp_drew, hs_alloc, hs_set, hs_drew, if_pos, if_neg, ↓reduceIte, Option.map_some, putO, H0_w5.out, H1_w5.out] at B0_w6 B1_w6
          clear c0_w5 f0_w5 z0_w5 c1_w5 f1_w5 z1_w5
          obtain ⟨c0_w6, f0_w6⟩ := blk B0_w6
          have H0_w6 := Lib.hid B0_w6
          clear B0_w6
          have z0_w6 : w.heap.size < w6.heap.size := by omega
          obtain ⟨c1_w6, f1_w6⟩ := blk B1_w6
          have H1_w6 := Lib.hid B1_w6
          clear B1_w6
          have z1_w6 : w.heap.size + 1 < w6.heap.size := by omega
          have b_w6 : Below w.heap.size w w6 := bw_call (by repeat (first | exact Below.refl _ _ | assumption | refine bw_alloc ?_ _ | refine bw_drew ?_ | refine bw_set ?_ (by omega) _)) hb_w6
          clear hb_w6
          go_wp2_with fail
          refine calls_gen ?_
          intro w11 hb_w11
          have hz_w11 := hb_w11.size
          have B0_w11 := hb_w11.block (w.heap.size) (by first | omega | (simp only [hs_alloc, hs_set, hs_drew]; omega))
          have B1_w11 := hb_w11.block (w.heap.size + 1) (by first | omega | (simp only [hs_alloc, hs_set, hs_drew]; omega))
          have B2_w11 := hb_w11.block (w6.heap.size) (by first | omega | (simp only [hs_alloc, hs_set, hs_drew]; omega))
          (try simp only [hs_alloc, hs_set, hs_drew] at hz_w11)
          simp (disch := omega) only [hp_alloc, hp_set, hp_drew, hs_alloc, hs_set, hs_drew, if_pos, if_neg, ↓reduceIte, Option.map_some, putO, H0_w6.out, H1_w6.out] at B0_w11 B1_w11 B2_w11
          clear c0_w6 f0_w6 z0_w6 c1_w6 f1_w6 z1_w6
          obtain ⟨c0_w11, f0_w11⟩ := blk B0_w11
          have H0_w11 := Lib.hid B0_w11
          clear B0_w11
          have z0_w11 : w.heap.size < w11.heap.size := by omega
          obtain ⟨c1_w11, f1_w11⟩ := blk B1_w11
          have H1_w11 := Lib.hid B1_w11
          clear B1_w11
          have z1_w11 : w.heap.size + 1 < w11.heap.size := by omega
          obtain ⟨c2_w11, f2_w11⟩ := blk B2_w11
          have H2_w11 := Lib.hid B2_w11
          clear B2_w11
          have z2_w11 : w6.heap.size < w11.heap.size := by omega
          have b_w11 : Below w.heap.size w w11 := bw_call (by repeat (first | exact Below.refl _ _ | assumption | refine bw_alloc ?_ _ | refine bw_drew ?_ | refine bw_set ?_ (by omega) _)) hb_w11
          clear hb_w11
          have L11 := Lib.hid (L.below b_w11)
          by_cases hf : bfE (r) = 0
          · skip
            obtain ⟨q1, q2⟩ := fin_bf (r) hf
            have Hf := Lib.hid (lfinal_c (bfV (r)) (r) 0 q1 q2 w11 L11.out)
            have He := Lib.hid (byFinal_n (r) _ 0 w11 L11.out rfl hf)
            clear q1 q2 hf
            refine He.out.mono ?_
            rintro e w' ⟨rfl, rfl⟩
            go_wp2_with fail
            refine Hf.out.mono ?_
            rintro e w' ⟨rfl, rfl⟩
            go_wp2_with fail
            refine (known_ok _ L11.out).mono ?_
            rintro e w13 ⟨rfl, hb13⟩
            have Hn := Lib.hid (bw_call b_w11 hb13)
            clear hb13
            go_wp2
            go_ret
            exact ⟨rfl, Hn.out⟩
          · skip
            have He := Lib.hid (byFinal_n (r) _ _ w11 L11.out rfl rfl)
            have hf' : (bfE (r) == 0) = false := by simpa using hf
            clear hf
            refine He.out.mono ?_
            rintro e w' ⟨rfl, rfl⟩
            go_wp2_with fail
            refine (known_ok _ L11.out).mono ?_
            rintro e w13 ⟨rfl, hb13⟩
            have Hn := Lib.hid (bw_call b_w11 hb13)
            clear hb13
            go_wp2
            go_ret
            exact ⟨rfl, Hn.out⟩
        | true =>
          by_cases hga : g = a
          · skip
            obtain ⟨e1, e2, e3, e4, e5⟩ := holds_sel g0 g1 a g k (r) hs
            obtain ⟨X0, hX0⟩ : ∃ X, s0 g0 g1 a g k = X := ⟨_, rfl⟩
            obtain ⟨X1, hX1⟩ : ∃ X, s1 g0 g1 a g k = X := ⟨_, rfl⟩
            obtain ⟨X2, hX2⟩ : ∃ X, s2 g0 g1 a g k = X := ⟨_, rfl⟩
            rw [hX0, hX1, hX2] at e2 e3 e4 e5
            obtain ⟨Y0, hY0⟩ : ∃ Y, h0 X0 X1 X2 g = Y := ⟨_, rfl⟩
            obtain ⟨Y1, hY1⟩ : ∃ Y, h1 X0 X1 X2 g = Y := ⟨_, rfl⟩
            obtain ⟨Y2, hY2⟩ : ∃ Y, h2 X0 X1 X2 g = Y := ⟨_, rfl⟩
            rw [hY0, hY1, hY2] at e5
            have Hc := Lib.hid (select_n g0 g1 a g k X0 X1 X2 0 hX0 hX1 hX2 e1 w5)
            have Hd := Lib.hid (fun w => shift_n X0 X1 X2 g Y0 Y1 Y2 0 hY0 hY1 hY2 e4 w)
            have Hv := Lib.hid (fun w => valid_n X0 X1 X2 true w e2)
            have hq2 : (mpR Y0 Y1 Y2 (r) != mpR k 0 0 (r)) = false := by simp [e5]
            have hga' : (g != a) = false := by simpa using hga
            clear e1 e2 e3 e4 e5 hX0 hX1 hX2 hY0 hY1 hY2 hs hga
            refine Hc.out.mono ?_
            rintro e w6 ⟨rfl, hb_w6⟩
            have hz_w6 := hb_w6.size
            have B0_w6 := hb_w6.block (w.heap.size) (by first | omega | (simp only [hs_alloc, hs_set, hs_drew]; omega))
            have B1_w6 := hb_w6.block (w.heap.size + 1) (by first | omega | (simp only [hs_alloc, hs_set, hs_drew]; omega))
            (try simp only [hs_alloc, hs_set, hs_drew] at hz_w6)
            simp (disch := omega) only [hp_alloc, hp_set, hp_drew, hs_alloc, hs_set, hs_drew, if_pos, if_neg, ↓reduceIte, Option.map_some, putO, H0_w5.out, H1_w5.out] at B0_w6 B1_w6
            clear c0_w5 f0_w5 z0_w5 c1_w5 f1_w5 z1_w5
            obtain ⟨c0_w6, f0_w6⟩ := blk B0_w6
            have H0_w6 := Lib.hid B0_w6
            clear B0_w6
            have z0_w6 : w.heap.size < w6.heap.size := by omega
            obtain ⟨c1_w6, f1_w6⟩ := blk B1_w6
            have H1_w6 := Lib.hid B1_w6
            clear B1_w6
            have z1_w6 : w.heap.size + 1 < w6.heap.size := by omega
            have b_w6 : Below w.heap.size w w6 := bw_call (by repeat (first | exact Below.refl _ _ | assumption | refine bw_alloc ?_ _ | refine bw_drew ?_ | refine bw_set ?_ (by omega) _)) hb_w6
            clear hb_w6
            go_wp2_with fail
            refine wp_gen ?_
            intro w7 hb_w7
            have hz_w7 := hb_w7.size
            have B0_w7 := hb_w7.block (w.heap.size) (by first | omega | (simp only [hs_alloc, hs_set, hs_drew]; omega))
            have B1_w7 := hb_w7.block (w.heap.size + 1) (by first | omega | (simp only [hs_alloc, hs_set, hs_drew]; omega))
            have B2_w7 := hb_w7.block (w6.heap.size) (by first | omega | (simp only [hs_alloc, hs_set, hs_drew]; omega))
            (try simp only [hs_alloc, hs_set, hs_drew] at hz_w7)
            simp (disch := omega) only [hp_alloc, hp_set, hp_drew, hs_alloc, hs_set, hs_drew, if_pos, if_neg, ↓reduceIte, Option.map_some, putO, H0_w6.out, H1_w6.out] at B0_w7 B1_w7 B2_w7
            clear c0_w6 f0_w6 z0_w6 c1_w6 f1_w6 z1_w6
            obtain ⟨c0_w7, f0_w7⟩ := blk B0_w7
            have H0_w7 := Lib.hid B0_w7
            clear B0_w7
            have z0_w7 : w.heap.size < w7.heap.size := by omega
            obtain ⟨c1_w7, f1_w7⟩ := blk B1_w7
            have H1_w7 := Lib.hid B1_w7
            clear B1_w7
            have z1_w7 : w.heap.size + 1 < w7.heap.size := by omega
            obtain ⟨c2_w7, f2_w7⟩ := blk B2_w7
            have H2_w7 := Lib.hid B2_w7
            clear B2_w7
            have z2_w7 : w6.heap.size < w7.heap.size := by omega
            have b_w7 : Below w.heap.size w w7 := bw_call (by repeat (first | exact Below.refl _ _ | assumption | refine bw_alloc ?_ _ | refine bw_drew ?_ | refine bw_set ?_ (by omega) _)) hb_w7
            clear hb_w7
            have L7 := Lib.hid (L.below b_w7)
            refine wp_region_cls (by kernel_rfl) (by kernel_rfl) ?_
            have q0_w7 := fun (n : Cls w7) (o : Nat) => (n.h.cell (p := ⟨w.heap.size, o, none⟩) (by first | omega | (simp only [hs_alloc, hs_set, hs_drew]; omega))).trans (c0_w7 o)
            have q1_w7 := fun (n : Cls w7) (o : Nat) => (n.h.cell (p := ⟨w.heap.size + 1, o, none⟩) (by first | omega | (simp only [hs_alloc, hs_set, hs_drew]; omega))).trans (c1_w7 o)
            have q2_w7 := fun (n : Cls w7) (o : Nat) => (n.h.cell (p := ⟨w6.heap.size, o, none⟩) (by first | omega | (simp only [hs_alloc, hs_set, hs_drew]; omega))).trans (c2_w7 o)
            repeat (go_big_quiet_step ((first | (go_at_call 10; exact cls_of (Hv.out _)) | (go_at_call 16; exact cls_of (map_c _ _ _ _ _ (L7.out.below (Cls.h _)) hr0 hr1)))))
            refine wpQuiet_nil ?_
            rintro w8 ⟨m_w8, hm_w8⟩
            have hb_w8 := m_w8.h
            rw [← hm_w8] at hb_w8
            clear hm_w8 m_w8
            clear q0_w7 q1_w7 q2_w7
            have hz_w8 := hb_w8.size
            have B0_w8 := hb_w8.block (w.heap.size) (by first | omega | (simp only [hs_alloc, hs_set, hs_drew]; omega))
            have B1_w8 := hb_w8.block (w.heap.size + 1) (by first | omega | (simp only [hs_alloc, hs_set, hs_drew]; omega))
            have B2_w8 := hb_w8.block (w6.heap.size) (by first | omega | (simp only [hs_alloc, hs_set, hs_drew]; omega))
            (try simp only [hs_alloc, hs_set, hs_drew] at hz_w8)
            simp (disch := omega) only [hp_alloc, hp_set, hp_drew, hs_alloc, hs_set, hs_drew, if_pos, if_neg, ↓reduceIte, Option.map_some, putO, H0_w7.out, H1_w7.out, H2_w7.out] at B0_w8 B1_w8 B2_w8
            clear c0_w7 f0_w7 z0_w7 c1_w7 f1_w7 z1_w7 c2_w7 f2_w7 z2_w7
            obtain ⟨c0_w8, f0_w8⟩ := blk B0_w8
            have H0_w8 := Lib.hid B0_w8
            clear B0_w8
            have z0_w8 : w.heap.size < w8.heap.size := by omega
            obtain ⟨c1_w8, f1_w8⟩ := blk B1_w8
            have H1_w8 := Lib.hid B1_w8
            clear B1_w8
            have z1_w8 : w.heap.size + 1 < w8.heap.size := by omega
            obtain ⟨c2_w8, f2_w8⟩ := blk B2_w8
            have H2_w8 := Lib.hid B2_w8
            clear B2_w8
            have z2_w8 : w6.heap.size < w8.heap.size := by omega
            have b_w8 : Below w.heap.size w w8 := bw_call (by repeat (first | exact Below.refl _ _ | assumption | refine bw_alloc ?_ _ | refine bw_drew ?_ | refine bw_set ?_ (by omega) _)) hb_w8
            clear hb_w8
            go_wp2_with fail
            refine (Hd.out _).mono ?_
            rintro e w9 ⟨rfl, hb_w9⟩
            have hz_w9 := hb_w9.size
            have B0_w9 := hb_w9.block (w.heap.size) (by first | omega | (simp only [hs_alloc, hs_set, hs_drew]; omega))
            have B1_w9 := hb_w9.block (w.heap.size + 1) (by first | omega | (simp only [hs_alloc, hs_set, hs_drew]; omega))
            have B2_w9 := hb_w9.block (w6.heap.size) (by first | omega | (simp only [hs_alloc, hs_set, hs_drew]; omega))
            (try simp only [hs_alloc, hs_set, hs_drew] at hz_w9)
            simp (disch := omega) only [hp_alloc, hp_set, hp_drew, hs_alloc, hs_set, hs_drew, if_pos, if_neg, ↓reduceIte, Option.map_some, putO, H0_w8.out, H1_w8.out, H2_w8.out] at B0_w9 B1_w9 B2_w9
            clear c0_w8 f0_w8 z0_w8 c1_w8 f1_w8 z1_w8 c2_w8 f2_w8 z2_w8
            obtain ⟨c0_w9, f0_w9⟩ := blk B0_w9
            have H0_w9 := Lib.hid B0_w9
            clear B0_w9
            have z0_w9 : w.heap.size < w9.heap.size := by omega
            obtain ⟨c1_w9, f1_w9⟩ := blk B1_w9
            have H1_w9 := Lib.hid B1_w9
            clear B1_w9
            have z1_w9 : w.heap.size + 1 < w9.heap.size := by omega
            obtain ⟨c2_w9, f2_w9⟩ := blk B2_w9
            have H2_w9 := Lib.hid B2_w9
            clear B2_w9
            have z2_w9 : w6.heap.size < w9.heap.size := by omega
            have b_w9 : Below w.heap.size w w9 := bw_call (by repeat (first | exact Below.refl _ _ | assumption | refine bw_alloc ?_ _ | refine bw_drew ?_ | refine bw_set ?_ (by omega) _)) hb_w9
            clear hb_w9
            go_wp2_with fail
            refine (map_c _ _ _ _ _ (L.below (by repeat (first | exact Below.refl _ _ | assumption | refine bw_alloc ?_ _ | refine bw_drew ?_ | refine bw_set ?_ (by omega) _))) hr0 hr1).mono ?_
            rintro e w10 ⟨rfl, hb_w10⟩
            have hz_w10 := hb_w10.size
            have B0_w10 := hb_w10.block (w.heap.size) (by first | omega | (simp only [hs_alloc, hs_set, hs_drew]; omega))
            have B1_w10 := hb_w10.block (w.heap.size + 1) (by first | omega | (simp only [hs_alloc, hs_set, hs_drew]; omega))
            have B2_w10 := hb_w10.block (w6.heap.size) (by first | omega | (simp only [hs_alloc, hs_set, hs_drew]; omega))
            have B3_w10 := hb_w10.block (w9.heap.size) (by first | omega | (simp only [hs_alloc, hs_set, hs_drew]; omega))
            (try simp only [hs_alloc, hs_set, hs_drew] at hz_w10)
            simp (disch := omega) only [hp_alloc, hp_set, hp_drew, hs_alloc, hs_set, hs_drew, if_pos, if_neg, ↓reduceIte, Option.map_some, putO, H0_w9.out, H1_w9.out, H2_w9.out] at B0_w10 B1_w10 B2_w10 B3_w10
            clear c0_w9 f0_w9 z0_w9 c1_w9 f1_w9 z1_w9 c2_w9 f2_w9 z2_w9
            obtain ⟨c0_w10, f0_w10⟩ := blk B0_w10
            have H0_w10 := Lib.hid B0_w10
            clear B0_w10
            have z0_w10 : w.heap.size < w10.heap.size := by omega
            obtain ⟨c1_w10, f1_w10⟩ := blk B1_w10
            have H1_w10 := Lib.hid B1_w10
            clear B1_w10
            have z1_w10 : w.heap.size + 1 < w10.heap.size := by omega
            obtain ⟨c2_w10, f2_w10⟩ := blk B2_w10
            have H2_w10 := Lib.hid B2_w10
            clear B2_w10
            have z2_w10 : w6.heap.size < w10.heap.size := by omega
            obtain ⟨c3_w10, f3_w10⟩ := blk B3_w10
            have H3_w10 := Lib.hid B3_w10
            clear B3_w10
            have z3_w10 : w9.heap.size < w10.heap.size := by omega
            have b_w10 : Below w.heap.size w w10 := bw_call (by repeat (first | exact Below.refl _ _ | assumption | refine bw_alloc ?_ _ | refine bw_drew ?_ | refine bw_set ?_ (by omega) _)) hb_w10
            clear hb_w10
            go_wp2_with fail
            refine (map_c _ _ _ _ _ (L.below (by repeat (first | exact Below.refl _ _ | assumption | refine bw_alloc ?_ _ | refine bw_drew ?_ | refine bw_set ?_ (by omega) _))) hr0 hr1).mono ?_
            rintro e w12 ⟨rfl, hb_w12⟩
            have hz_w12 := hb_w12.size
            have B0_w12 := hb_w12.block (w.heap.size) (by first | omega | (simp only [hs_alloc, hs_set, hs_drew]; omega))
            have B1_w12 := hb_w12.block (w.heap.size + 1) (by first | omega | (simp only [hs_alloc, hs_set, hs_drew]; omega))
            have B2_w12 := hb_w12.block (w6.heap.size) (by first | omega | (simp only [hs_alloc, hs_set, hs_drew]; omega))
            have B3_w12 := hb_w12.block (w9.heap.size) (by first | omega | (simp only [hs_alloc, hs_set, hs_drew]; omega))
            (try simp only [hs_alloc, hs_set, hs_drew] at hz_w12)
            simp (disch := omega) only [hp_alloc, hp_set, hp_drew, hs_alloc, hs_set, hs_drew, if_pos, if_neg, ↓reduceIte, Option.map_some, putO, H0_w10.out, H1_w10.out, H2_w10.out, H3_w10.out] at B0_w12 B1_w12 B2_w12 B3_w12
            clear c0_w10 f0_w10 z0_w10 c1_w10 f1_w10 z1_w10 c2_w10 f2_w10 z2_w10 c3_w10 f3_w10 z3_w10
            obtain ⟨c0_w12, f0_w12⟩ := blk B0_w12
            have H0_w12 := Lib.hid B0_w12
            clear B0_w12
            have z0_w12 : w.heap.size < w12.heap.size := by omega
            obtain ⟨c1_w12, f1_w12⟩ := blk B1_w12
            have H1_w12 := Lib.hid B1_w12
            clear B1_w12
            have z1_w12 : w.heap.size + 1 < w12.heap.size := by omega
            obtain ⟨c2_w12, f2_w12⟩ := blk B2_w12
            have H2_w12 := Lib.hid B2_w12
            clear B2_w12
            have z2_w12 : w6.heap.size < w12.heap.size := by omega
            obtain ⟨c3_w12, f3_w12⟩ := blk B3_w12
            have H3_w12 := Lib.hid B3_w12
            clear B3_w12
            have z3_w12 : w9.heap.size < w12.heap.size := by omega
            have b_w12 : Below w.heap.size w w12 := bw_call (by repeat (first | exact Below.refl _ _ | assumption | refine bw_alloc ?_ _ | refine bw_drew ?_ | refine bw_set ?_ (by omega) _)) hb_w12
            clear hb_w12
            go_wp2_with fail
            refine calls_gen ?_
            intro w11 hb_w11
            have hz_w11 := hb_w11.size
            have B0_w11 := hb_w11.block (w.heap.size) (by first | omega | (simp only [hs_alloc, hs_set, hs_drew]; omega))
            have B1_w11 := hb_w11.block (w.heap.size + 1) (by first | omega | (simp only [hs_alloc, hs_set, hs_drew]; omega))
            have B2_w11 := hb_w11.block (w6.heap.size) (by first | omega | (simp only [hs_alloc, hs_set, hs_drew]; omega))
            have B3_w11 := hb_w11.block (w9.heap.size) (by first | omega | (simp only [hs_alloc, hs_set, hs_drew]; omega))
            (try simp only [hs_alloc, hs_set, hs_drew] at hz_w11)
            simp (disch := omega) only [hp_alloc, hp_set, hp_drew, hs_alloc, hs_set, hs_drew, if_pos, if_neg, ↓reduceIte, Option.map_some, putO, H0_w12.out, H1_w12.out, H2_w12.out, H3_w12.out] at B0_w11 B1_w11 B2_w11 B3_w11
            clear c0_w12 f0_w12 z0_w12 c1_w12 f1_w12 z1_w12 c2_w12 f2_w12 z2_w12 c3_w12 f3_w12 z3_w12
            obtain ⟨c0_w11, f0_w11⟩ := blk B0_w11
            have H0_w11 := Lib.hid B0_w11
            clear B0_w11
            have z0_w11 : w.heap.size < w11.heap.size := by omega
            obtain ⟨c1_w11, f1_w11⟩ := blk B1_w11
            have H1_w11 := Lib.hid B1_w11
            clear B1_w11
            have z1_w11 : w.heap.size + 1 < w11.heap.size := by omega
            obtain ⟨c2_w11, f2_w11⟩ := blk B2_w11
            have H2_w11 := Lib.hid B2_w11
            clear B2_w11
            have z2_w11 : w6.heap.size < w11.heap.size := by omega
            obtain ⟨c3_w11, f3_w11⟩ := blk B3_w11
            have H3_w11 := Lib.hid B3_w11
            clear B3_w11
            have z3_w11 : w9.heap.size < w11.heap.size := by omega
            have b_w11 : Below w.heap.size w w11 := bw_call (by repeat (first | exact Below.refl _ _ | assumption | refine bw_alloc ?_ _ | refine bw_drew ?_ | refine bw_set ?_ (by omega) _)) hb_w11
            clear hb_w11
            have L11 := Lib.hid (L.below b_w11)
            by_cases hf : bfE (r) = 0
            · skip
              obtain ⟨q1, q2⟩ := fin_bf (r) hf
              have Hf := Lib.hid (lfinal_c (bfV (r)) (r) 0 q1 q2 w11 L11.out)
              have He := Lib.hid (byFinal_n (r) _ 0 w11 L11.out rfl hf)
              clear q1 q2 hf
              refine He.out.mono ?_
              rintro e w' ⟨rfl, rfl⟩
              go_wp2_with fail
              refine Hf.out.mono ?_
              rintro e w' ⟨rfl, rfl⟩
              go_wp2_with fail
              refine (known_ok _ L11.out).mono ?_
              rintro e w13 ⟨rfl, hb13⟩
              have Hn := Lib.hid (bw_call b_w11 hb13)
              clear hb13
              go_wp2
              go_ret
              exact ⟨rfl, Hn.out⟩
            · skip
              have He := Lib.hid (byFinal_n (r) _ _ w11 L11.out rfl rfl)
              have hf' : (bfE (r) == 0) = false := by simpa using hf
              clear hf
              refine He.out.mono ?_
              rintro e w' ⟨rfl, rfl⟩
              go_wp2_with fail
              refine (known_ok _ L11.out).mono ?_
              rintro e w13 ⟨rfl, hb13⟩
              have Hn := Lib.hid (bw_call b_w11 hb13)
              clear hb13
              go_wp2
              go_ret
              exact ⟨rfl, Hn.out⟩
          · skip
            obtain ⟨e1, e2, e3, e4, e5⟩ := holds_sel g0 g1 a g k (r) hs
            obtain ⟨X0, hX0⟩ : ∃ X, s0 g0 g1 a g k = X := ⟨_, rfl⟩
            obtain ⟨X1, hX1⟩ : ∃ X, s1 g0 g1 a g k = X := ⟨_, rfl⟩
            obtain ⟨X2, hX2⟩ : ∃ X, s2 g0 g1 a g k = X := ⟨_, rfl⟩
            rw [hX0, hX1, hX2] at e2 e3 e4 e5
            obtain ⟨Y0, hY0⟩ : ∃ Y, h0 X0 X1 X2 g = Y := ⟨_, rfl⟩
            obtain ⟨Y1, hY1⟩ : ∃ Y, h1 X0 X1 X2 g = Y := ⟨_, rfl⟩
            obtain ⟨Y2, hY2⟩ : ∃ Y, h2 X0 X1 X2 g = Y := ⟨_, rfl⟩
            rw [hY0, hY1, hY2] at e5
            have Hc := Lib.hid (select_n g0 g1 a g k X0 X1 X2 0 hX0 hX1 hX2 e1 w5)
            have Hd := Lib.hid (fun w => shift_n X0 X1 X2 g Y0 Y1 Y2 0 hY0 hY1 hY2 e4 w)
            have Hv := Lib.hid (fun w => valid_n X0 X1 X2 true w e2)
            have hq2 : (mpR Y0 Y1 Y2 (r) != mpR k 0 0 (r)) = false := by simp [e5]
            have hga' : (g != a) = true := by simpa using hga
            have hq1 : (mpR X0 X1 X2 (r) != mpR g0 g1 a (r)) = false := by simp [e3 hga]
            clear e1 e2 e3 e4 e5 hX0 hX1 hX2 hY0 hY1 hY2 hs hga
            refine Hc.out.mono ?_
            rintro e w6 ⟨rfl, hb_w6⟩
            have hz_w6 := hb_w6.size
            have B0_w6 := hb_w6.block (w.heap.size) (by first | omega | (simp only [hs_alloc, hs_set, hs_drew]; omega))
            have B1_w6 := hb_w6.block (w.heap.size + 1) (by first | omega | (simp only [hs_alloc, hs_set, hs_drew]; omega))
            (try simp only [hs_alloc, hs_set, hs_drew] at hz_w6)
            simp (disch := omega) only [hp_alloc, hp_set, hp_drew, hs_alloc, hs_set, hs_drew, if_pos, if_neg, ↓reduceIte, Option.map_some, putO, H0_w5.out, H1_w5.out] at B0_w6 B1_w6
            clear c0_w5 f0_w5 z0_w5 c1_w5 f1_w5 z1_w5
            obtain ⟨c0_w6, f0_w6⟩ := blk B0_w6
            have H0_w6 := Lib.hid B0_w6
            clear B0_w6
            have z0_w6 : w.heap.size < w6.heap.size := by omega
            obtain ⟨c1_w6, f1_w6⟩ := blk B1_w6
            have H1_w6 := Lib.hid B1_w6
            clear B1_w6
            have z1_w6 : w.heap.size + 1 < w6.heap.size := by omega
            have b_w6 : Below w.heap.size w w6 := bw_call (by repeat (first | exact Below.refl _ _ | assumption | refine bw_alloc ?_ _ | refine bw_drew ?_ | refine bw_set ?_ (by omega) _)) hb_w6
            clear hb_w6
            go_wp2_with fail
            refine wp_gen ?_
            intro w7 hb_w7
            have hz_w7 := hb_w7.size
            have B0_w7 := hb_w7.block (w.heap.size) (by first | omega | (simp only [hs_alloc, hs_set, hs_drew]; omega))
            have B1_w7 := hb_w7.block (w.heap.size + 1) (by first | omega | (simp only [hs_alloc, hs_set, hs_drew]; omega))
            have B2_w7 := hb_w7.block (w6.heap.size) (by first | omega | (simp only [hs_alloc, hs_set, hs_drew]; omega))
            (try simp only [hs_alloc, hs_set, hs_drew] at hz_w7)
            simp (disch := omega) only [hp_alloc, hp_set, hp_drew, hs_alloc, hs_set, hs_drew, if_pos, if_neg, ↓reduceIte, Option.map_some, putO, H0_w6.out, H1_w6.out] at B0_w7 B1_w7 B2_w7
            clear c0_w6 f0_w6 z0_w6 c1_w6 f1_w6 z1_w6
            obtain ⟨c0_w7, f0_w7⟩ := blk B0_w7
            have H0_w7 := Lib.hid B0_w7
            clear B0_w7
            have z0_w7 : w.heap.size < w7.heap.size := by omega
            obtain ⟨c1_w7, f1_w7⟩ := blk B1_w7
            have H1_w7 := Lib.hid B1_w7
            clear B1_w7
            have z1_w7 : w.heap.size + 1 < w7.heap.size := by omega
            obtain ⟨c2_w7, f2_w7⟩ := blk B2_w7
            have H2_w7 := Lib.hid B2_w7
            clear B2_w7
            have z2_w7 : w6.heap.size < w7.heap.size := by omega
            have b_w7 : Below w.heap.size w w7 := bw_call (by repeat (first | exact Below.refl _ _ | assumption | refine bw_alloc ?_ _ | refine bw_drew ?_ | refine bw_set ?_ (by omega) _)) hb_w7
            clear hb_w7
            have L7 := Lib.hid (L.below b_w7)
            refine wp_region_cls (by kernel_rfl) (by kernel_rfl) ?_
            have q0_w7 := fun (n : Cls w7) (o : Nat) => (n.h.cell (p := ⟨w.heap.size, o, none⟩) (by first | omega | (simp only [hs_alloc, hs_set, hs_drew]; omega))).trans (c0_w7 o)
            have q1_w7 := fun (n : Cls w7) (o : Nat) => (n.h.cell (p := ⟨w.heap.size + 1, o, none⟩) (by first | omega | (simp only [hs_alloc, hs_set, hs_drew]; omega))).trans (c1_w7 o)
            have q2_w7 := fun (n : Cls w7) (o : Nat) => (n.h.cell (p := ⟨w6.heap.size, o, none⟩) (by first | omega | (simp only [hs_alloc, hs_set, hs_drew]; omega))).trans (c2_w7 o)
            repeat (go_big_quiet_step ((first | (go_at_call 10; exact cls_of (Hv.out _)) | (go_at_call 16; exact cls_of (map_c _ _ _ _ _ (L7.out.below (Cls.h _)) hr0 hr1)))))
            refine wpQuiet_nil ?_
            rintro w8 ⟨m_w8, hm_w8⟩
            have hb_w8 := m_w8.h
            rw [← hm_w8] at hb_w8
            clear hm_w8 m_w8
            clear q0_w7 q1_w7 q2_w7
            have hz_w8 := hb_w8.size
            have B0_w8 := hb_w8.block (w.heap.size) (by first | omega | (simp only [hs_alloc, hs_set, hs_drew]; omega))
            have B1_w8 := hb_w8.block (w.heap.size + 1) (by first | omega | (simp only [hs_alloc, hs_set, hs_drew]; omega))
            have B2_w8 := hb_w8.block (w6.heap.size) (by first | omega | (simp only [hs_alloc, hs_set, hs_drew]; omega))
            (try simp only [hs_alloc, hs_set, hs_drew] at hz_w8)
            simp (disch := omega) only [hp_alloc, hp_set, hp_drew, hs_alloc, hs_set, hs_drew, if_pos, if_neg, ↓reduceIte, Option.map_some, putO, H0_w7.out, H1_w7.out, H2_w7.out] at B0_w8 B1_w8 B2_w8
            clear c0_w7 f0_w7 z0_w7 c1_w7 f1_w7 z1_w7 c2_w7 f2_w7 z2_w7
            obtain ⟨c0_w8, f0_w8⟩ := blk B0_w8
            have H0_w8 := Lib.hid B0_w8
            clear B0_w8
            have z0_w8 : w.heap.size < w8.heap.size := by omega
            obtain ⟨c1_w8, f1_w8⟩ := blk B1_w8
            have H1_w8 := Lib.hid B1_w8
            clear B1_w8
            have z1_w8 : w.heap.size + 1 < w8.heap.size := by omega
            obtain ⟨c2_w8, f2_w8⟩ := blk B2_w8
            have H2_w8 := Lib.hid B2_w8
            clear B2_w8
            have z2_w8 : w6.heap.size < w8.heap.size := by omega
            have b_w8 : Below w.heap.size w w8 := bw_call (by repeat (first | exact Below.refl _ _ | assumption | refine bw_alloc ?_ _ | refine bw_drew ?_ | refine bw_set ?_ (by omega) _)) hb_w8
            clear hb_w8
            go_wp2_with fail
            refine (Hd.out _).mono ?_
            rintro e w9 ⟨rfl, hb_w9⟩
            have hz_w9 := hb_w9.size
            have B0_w9 := hb_w9.block (w.heap.size) (by first | omega | (simp only [hs_alloc, hs_set, hs_drew]; omega))
            have B1_w9 := hb_w9.block (w.heap.size + 1) (by first | omega | (simp only [hs_alloc, hs_set, hs_drew]; omega))
            have B2_w9 := hb_w9.block (w6.heap.size) (by first | omega | (simp only [hs_alloc, hs_set, hs_drew]; omega))
            (try simp only [hs_alloc, hs_set, hs_drew] at hz_w9)
            simp (disch := omega) only [hp_alloc, hp_set, hp_drew, hs_alloc, hs_set, hs_drew, if_pos, if_neg, ↓reduceIte, Option.map_some, putO, H0_w8.out, H1_w8.out, H2_w8.out] at B0_w9 B1_w9 B2_w9
            clear c0_w8 f0_w8 z0_w8 c1_w8 f1_w8 z1_w8 c2_w8 f2_w8 z2_w8
            obtain ⟨c0_w9, f0_w9⟩ := blk B0_w9
            have H0_w9 := Lib.hid B0_w9
            clear B0_w9
            have z0_w9 : w.heap.size < w9.heap.size := by omega
            obtain ⟨c1_w9, f1_w9⟩ := blk B1_w9
            have H1_w9 := Lib.hid B1_w9
            clear B1_w9
            have z1_w9 : w.heap.size + 1 < w9.heap.size := by omega
            obtain ⟨c2_w9, f2_w9⟩ := blk B2_w9
            have H2_w9 := Lib.hid B2_w9
            clear B2_w9
            have z2_w9 : w6.heap.size < w9.heap.size := by omega
            have b_w9 : Below w.heap.size w w9 := bw_call (by repeat (first | exact Below.refl _ _ | assumption | refine bw_alloc ?_ _ | refine bw_drew ?_ | refine bw_set ?_ (by omega) _)) hb_w9
            clear hb_w9
            go_wp2_with fail
            refine (map_c _ _ _ _ _ (L.below (by repeat (first | exact Below.refl _ _ | assumption | refine bw_alloc ?_ _ | refine bw_drew ?_ | refine bw_set ?_ (by omega) _))) hr0 hr1).mono ?_
            rintro e w10 ⟨rfl, hb_w10⟩
            have hz_w10 := hb_w10.size
            have B0_w10 := hb_w10.block (w.heap.size) (by first | omega | (simp only [hs_alloc, hs_set, hs_drew]; omega))
            have B1_w10 := hb_w10.block (w.heap.size + 1) (by first | omega | (simp only [hs_alloc, hs_set, hs_drew]; omega))
            have B2_w10 := hb_w10.block (w6.heap.size) (by first | omega | (simp only [hs_alloc, hs_set, hs_drew]; omega))
            have B3_w10 := hb_w10.block (w9.heap.size) (by first | omega | (simp only [hs_alloc, hs_set, hs_drew]; omega))
            (try simp only [hs_alloc, hs_set, hs_drew] at hz_w10)
            simp (disch := omega) only [hp_alloc, hp_set, hp_drew, hs_alloc, hs_set, hs_drew, if_pos, if_neg, ↓reduceIte, Option.map_some, putO, H0_w9.out, H1_w9.out, H2_w9.out] at B0_w10 B1_w10 B2_w10 B3_w10
            clear c0_w9 f0_w9 z0_w9 c1_w9 f1_w9 z1_w9 c2_w9 f2_w9 z2_w9
            obtain ⟨c0_w10, f0_w10⟩ := blk B0_w10
            have H0_w10 := Lib.hid B0_w10
            clear B0_w10
            have z0_w10 : w.heap.size < w10.heap.size := by omega
            obtain ⟨c1_w10, f1_w10⟩ := blk B1_w10
            have H1_w10 := Lib.hid B1_w10
            clear B1_w10
            have z1_w10 : w.heap.size + 1 < w10.heap.size := by omega
            obtain ⟨c2_w10, f2_w10⟩ := blk B2_w10
            have H2_w10 := Lib.hid B2_w10
            clear B2_w10
            have z2_w10 : w6.heap.size < w10.heap.size := by omega
            obtain ⟨c3_w10, f3_w10⟩ := blk B3_w10
            have H3_w10 := Lib.hid B3_w10
            clear B3_w10
            have z3_w10 : w9.heap.size < w10.heap.size := by omega
            have b_w10 : Below w.heap.size w w10 := bw_call (by repeat (first | exact Below.refl _ _ | assumption | refine bw_alloc ?_ _ | refine bw_drew ?_ | refine bw_set ?_ (by omega) _)) hb_w10
            clear hb_w10
            go_wp2_with fail
            refine (map_c _ _ _ _ _ (L.below (by repeat (first | exact Below.refl _ _ | assumption | refine bw_alloc ?_ _ | refine bw_drew ?_ | refine bw_set ?_ (by omega) _))) hr0 hr1).mono ?_
            rintro e w12 ⟨rfl, hb_w12⟩
            have hz_w12 := hb_w12.size
            have B0_w12 := hb_w12.block (w.heap.size) (by first | omega | (simp only [hs_alloc, hs_set, hs_drew]; omega))
            have B1_w12 := hb_w12.block (w.heap.size + 1) (by first | omega | (simp only [hs_alloc, hs_set, hs_drew]; omega))
            have B2_w12 := hb_w12.block (w6.heap.size) (by first | omega | (simp only [hs_alloc, hs_set, hs_drew]; omega))
            have B3_w12 := hb_w12.block (w9.heap.size) (by first | omega | (simp only [hs_alloc, hs_set, hs_drew]; omega))
            (try simp only [hs_alloc, hs_set, hs_drew] at hz_w12)
            simp (disch := omega) only [hp_alloc, hp_set, hp_drew, hs_alloc, hs_set, hs_drew, if_pos, if_neg, ↓reduceIte, Option.map_some, putO, H0_w10.out, H1_w10.out, H2_w10.out, H3_w10.out] at B0_w12 B1_w12 B2_w12 B3_w12
            clear c0_w10 f0_w10 z0_w10 c1_w10 f1_w10 z1_w10 c2_w10 f2_w10 z2_w10 c3_w10 f3_w10 z3_w10
            obtain ⟨c0_w12, f0_w12⟩ := blk B0_w12
            have H0_w12 := Lib.hid B0_w12
            clear B0_w12
            have z0_w12 : w.heap.size < w12.heap.size := by omega
            obtain ⟨c1_w12, f1_w12⟩ := blk B1_w12
            have H1_w12 := Lib.hid B1_w12
            clear B1_w12
            have z1_w12 : w.heap.size + 1 < w12.heap.size := by omega
            obtain ⟨c2_w12, f2_w12⟩ := blk B2_w12
            have H2_w12 := Lib.hid B2_w12
            clear B2_w12
            have z2_w12 : w6.heap.size < w12.heap.size := by omega
            obtain ⟨c3_w12, f3_w12⟩ := blk B3_w12
            have H3_w12 := Lib.hid B3_w12
            clear B3_w12
            have z3_w12 : w9.heap.size < w12.heap.size := by omega
            have b_w12 : Below w.heap.size w w12 := bw_call (by repeat (first | exact Below.refl _ _ | assumption | refine bw_alloc ?_ _ | refine bw_drew ?_ | refine bw_set ?_ (by omega) _)) hb_w12
            clear hb_w12
            go_wp2_with fail
            refine calls_gen ?_
            intro w11 hb_w11
            have hz_w11 := hb_w11.size
            have B0_w11 := hb_w11.block (w.heap.size) (by first | omega | (simp only [hs_alloc, hs_set, hs_drew]; omega))
            have B1_w11 := hb_w11.block (w.heap.size + 1) (by first | omega | (simp only [hs_alloc, hs_set, hs_drew]; omega))
            have B2_w11 := hb_w11.block (w6.heap.size) (by first | omega | (simp only [hs_alloc, hs_set, hs_drew]; omega))
            have B3_w11 := hb_w11.block (w9.heap.size) (by first | omega | (simp only [hs_alloc, hs_set, hs_drew]; omega))
            (try simp only [hs_alloc, hs_set, hs_drew] at hz_w11)
            simp (disch := omega) only [hp_alloc, hp_set, hp_drew, hs_alloc, hs_set, hs_drew, if_pos, if_neg, ↓reduceIte, Option.map_some, putO, H0_w12.out, H1_w12.out, H2_w12.out, H3_w12.out] at B0_w11 B1_w11 B2_w11 B3_w11
            clear c0_w12 f0_w12 z0_w12 c1_w12 f1_w12 z1_w12 c2_w12 f2_w12 z2_w12 c3_w12 f3_w12 z3_w12
            obtain ⟨c0_w11, f0_w11⟩ := blk B0_w11
            have H0_w11 := Lib.hid B0_w11
            clear B0_w11
            have z0_w11 : w.heap.size < w11.heap.size := by omega
            obtain ⟨c1_w11, f1_w11⟩ := blk B1_w11
            have H1_w11 := Lib.hid B1_w11
            clear B1_w11
            have z1_w11 : w.heap.size + 1 < w11.heap.size := by omega
            obtain ⟨c2_w11, f2_w11⟩ := blk B2_w11
            have H2_w11 := Lib.hid B2_w11
            clear B2_w11
            have z2_w11 : w6.heap.size < w11.heap.size := by omega
            obtain ⟨c3_w11, f3_w11⟩ := blk B3_w11
            have H3_w11 := Lib.hid B3_w11
            clear B3_w11
            have z3_w11 : w9.heap.size < w11.heap.size := by omega
            have b_w11 : Below w.heap.size w w11 := bw_call (by repeat (first | exact Below.refl _ _ | assumption | refine bw_alloc ?_ _ | refine bw_drew ?_ | refine bw_set ?_ (by omega) _)) hb_w11
            clear hb_w11
            have L11 := Lib.hid (L.below b_w11)
            by_cases hf : bfE (r) = 0
            · skip
              obtain ⟨q1, q2⟩ := fin_bf (r) hf
              have Hf := Lib.hid (lfinal_c (bfV (r)) (r) 0 q1 q2 w11 L11.out)
              have He := Lib.hid (byFinal_n (r) _ 0 w11 L11.out rfl hf)
              clear q1 q2 hf
              refine He.out.mono ?_
              rintro e w' ⟨rfl, rfl⟩
              go_wp2_with fail
              refine Hf.out.mono ?_
              rintro e w' ⟨rfl, rfl⟩
              go_wp2_with fail
              refine (known_ok _ L11.out).mono ?_
              rintro e w13 ⟨rfl, hb13⟩
              have Hn := Lib.hid (bw_call b_w11 hb13)
              clear hb13
              go_wp2
              go_ret
              exact ⟨rfl, Hn.out⟩
            · skip
              have He := Lib.hid (byFinal_n (r) _ _ w11 L11.out rfl rfl)
              have hf' : (bfE (r) == 0) = false := by simpa using hf
              clear hf
              refine He.out.mono ?_
              rintro e w' ⟨rfl, rfl⟩
              go_wp2_with fail
              refine (known_ok _ L11.out).mono ?_
              rintro e w13 ⟨rfl, hb13⟩
              have Hn := Lib.hid (bw_call b_w11 hb13)
              clear hb13
              go_wp2
              go_ret
              exact ⟨rfl, Hn.out⟩

end Go.Proofs.YtbnljecooaglgaaDoor
