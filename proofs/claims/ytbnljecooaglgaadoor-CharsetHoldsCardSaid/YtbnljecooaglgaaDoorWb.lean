/-
  The walks of Select and Shift, and of their references. No condition.
-/
import Derived.Test.YtbnljecooaglgaaDoorWa
namespace Go.Proofs.YtbnljecooaglgaaDoor
open Go.RowKit
set_option linter.unusedSimpArgs false
set_option linter.unusedVariables false

set_option maxHeartbeats 1000000 in
theorem select_c (g0 g1 a g k : Int) (w : World) :
    Calls Tryd.prog 26 #[.agg #[.int .i64 g0, .int .i64 g1, .int .i64 a], .int .i64 g, .int .i64 k] w (Ret (selV g0 g1 a g k) w) := by
  rcases sel_ways g0 g1 a g k with ⟨hv, h⟩ | ⟨hv, hg, h⟩ | ⟨hv, hg, h⟩ | ⟨hv, rfl, hk, h⟩ | ⟨hv, rfl, hk, h⟩ | ⟨hv, rfl, hk, h⟩ | ⟨hv, rfl, hk, h⟩
  all_goals first | rw [selV_no h] | rw [selV_0 h] | rw [selV_1 h]
  all_goals clear h
  all_goals
    go_enter Tryd.func26, Tryd.ntmps26
    go_wp2_with fail
    refine (valid_c _ _ _ _).mono ?_
    rintro e w1 ⟨rfl, hb_w1⟩
    have hz_w1 := hb_w1.size
    have B0_w1 := hb_w1.block (w.heap.size) (by first | omega | (simp only [hs_alloc, hs_set, hs_drew]; omega))
    have B1_w1 := hb_w1.block (w.heap.size + 1) (by first | omega | (simp only [hs_alloc, hs_set, hs_drew]; omega))
    (try simp only [hs_alloc, hs_set, hs_drew] at hz_w1)
    simp (disch := omega) only [hp_alloc, hp_set, hp_drew, hs_alloc, hs_set, hs_drew, if_pos, if_neg, ↓reduceIte, Option.map_some, putO] at B0_w1 B1_w1
    obtain ⟨c0_w1, f0_w1⟩ := blk B0_w1
    have H0_w1 := Lib.hid B0_w1
    clear B0_w1
    have z0_w1 : w.heap.size < w1.heap.size := by omega
    obtain ⟨c1_w1, f1_w1⟩ := blk B1_w1
    have H1_w1 := Lib.hid B1_w1
    clear B1_w1
    have z1_w1 : w.heap.size + 1 < w1.heap.size := by omega
    have b_w1 : Below w.heap.size w w1 := bw_call (by repeat (first | exact Below.refl _ _ | assumption | refine bw_alloc ?_ _ | refine bw_drew ?_ | refine bw_set ?_ (by omega) _)) hb_w1
    clear hb_w1
    go_wp2_with (go_at_call 29; refine (known_c _ _).mono ?_; rintro e w' ⟨rfl, rfl⟩)
    all_goals (refine bodyPost_ret (by simp [results, Tryd.results26, go_sem, c0_w1, c1_w1]) rfl ⟨rfl, ?_⟩)
    all_goals (repeat (first | exact Below.refl _ _ | assumption | refine bw_alloc ?_ _ | refine bw_drew ?_ | refine bw_set ?_ (by omega) _))

set_option maxHeartbeats 1000000 in
theorem rselect_c (g0 g1 a g k : Int) (w : World) :
    Calls Tryd.prog 8 #[.agg #[.int .i64 g0, .int .i64 g1, .int .i64 a], .int .i64 g, .int .i64 k] w (Ret (selV g0 g1 a g k) w) := by
  rcases sel_ways g0 g1 a g k with ⟨hv, h⟩ | ⟨hv, hg, h⟩ | ⟨hv, hg, h⟩ | ⟨hv, rfl, hk, h⟩ | ⟨hv, rfl, hk, h⟩ | ⟨hv, rfl, hk, h⟩ | ⟨hv, rfl, hk, h⟩
  all_goals first | rw [selV_no h] | rw [selV_0 h] | rw [selV_1 h]
  all_goals clear h
  all_goals
    go_enter Tryd.func8, Tryd.ntmps8
    go_wp2_with fail
    refine (rvalid_c _ _ _ _).mono ?_
    rintro e w1 ⟨rfl, hb_w1⟩
    have hz_w1 := hb_w1.size
    have B0_w1 := hb_w1.block (w.heap.size) (by first | omega | (simp only [hs_alloc, hs_set, hs_drew]; omega))
    have B1_w1 := hb_w1.block (w.heap.size + 1) (by first | omega | (simp only [hs_alloc, hs_set, hs_drew]; omega))
    (try simp only [hs_alloc, hs_set, hs_drew] at hz_w1)
    simp (disch := omega) only [hp_alloc, hp_set, hp_drew, hs_alloc, hs_set, hs_drew, if_pos, if_neg, ↓reduceIte, Option.map_some, putO] at B0_w1 B1_w1
    obtain ⟨c0_w1, f0_w1⟩ := blk B0_w1
    have H0_w1 := Lib.hid B0_w1
    clear B0_w1
    have z0_w1 : w.heap.size < w1.heap.size := by omega
    obtain ⟨c1_w1, f1_w1⟩ := blk B1_w1
    have H1_w1 := Lib.hid B1_w1
    clear B1_w1
    have z1_w1 : w.heap.size + 1 < w1.heap.size := by omega
    have b_w1 : Below w.heap.size w w1 := bw_call (by repeat (first | exact Below.refl _ _ | assumption | refine bw_alloc ?_ _ | refine bw_drew ?_ | refine bw_set ?_ (by omega) _)) hb_w1
    clear hb_w1
    go_wp2_with (go_at_call 22; refine (set_c _ _).mono ?_; rintro e w' ⟨rfl, rfl⟩)
    all_goals (refine bodyPost_ret (by simp [results, Tryd.results8, go_sem, c0_w1, c1_w1]) rfl ⟨rfl, ?_⟩)
    all_goals (repeat (first | exact Below.refl _ _ | assumption | refine bw_alloc ?_ _ | refine bw_drew ?_ | refine bw_set ?_ (by omega) _))

set_option maxHeartbeats 1000000 in
theorem shift_c (g0 g1 a g : Int) (w : World) :
    Calls Tryd.prog 27 #[.agg #[.int .i64 g0, .int .i64 g1, .int .i64 a], .int .i64 g] w (Ret (shV g0 g1 a g) w) := by
  rcases sh_ways g0 g1 a g with ⟨hv, h⟩ | ⟨hv, hg, hq, hq2, h⟩ | ⟨hv, hg, hq, hq2, h⟩ | ⟨hv, rfl, h⟩ | ⟨hv, rfl, h⟩
  all_goals first | rw [shV_no h] | rw [shV_yes h]
  all_goals clear h
  all_goals
    go_enter Tryd.func27, Tryd.ntmps27
    go_wp2_with fail
    refine (valid_c _ _ _ _).mono ?_
    rintro e w1 ⟨rfl, hb_w1⟩
    have hz_w1 := hb_w1.size
    have B0_w1 := hb_w1.block (w.heap.size) (by first | omega | (simp only [hs_alloc, hs_set, hs_drew]; omega))
    have B1_w1 := hb_w1.block (w.heap.size + 1) (by first | omega | (simp only [hs_alloc, hs_set, hs_drew]; omega))
    (try simp only [hs_alloc, hs_set, hs_drew] at hz_w1)
    simp (disch := omega) only [hp_alloc, hp_set, hp_drew, hs_alloc, hs_set, hs_drew, if_pos, if_neg, ↓reduceIte, Option.map_some, putO] at B0_w1 B1_w1
    obtain ⟨c0_w1, f0_w1⟩ := blk B0_w1
    have H0_w1 := Lib.hid B0_w1
    clear B0_w1
    have z0_w1 : w.heap.size < w1.heap.size := by omega
    obtain ⟨c1_w1, f1_w1⟩ := blk B1_w1
    have H1_w1 := Lib.hid B1_w1
    clear B1_w1
    have z1_w1 : w.heap.size + 1 < w1.heap.size := by omega
    have b_w1 : Below w.heap.size w w1 := bw_call (by repeat (first | exact Below.refl _ _ | assumption | refine bw_alloc ?_ _ | refine bw_drew ?_ | refine bw_set ?_ (by omega) _)) hb_w1
    clear hb_w1
    go_wp2_with (go_at_call 29; refine (known_c _ _).mono ?_; rintro e w' ⟨rfl, rfl⟩)
    all_goals (refine bodyPost_ret (by simp [results, Tryd.results27, go_sem, c0_w1, c1_w1]) rfl ⟨rfl, ?_⟩)
    all_goals (repeat (first | exact Below.refl _ _ | assumption | refine bw_alloc ?_ _ | refine bw_drew ?_ | refine bw_set ?_ (by omega) _))

set_option maxHeartbeats 1000000 in
theorem rshift_c (g0 g1 a g : Int) (w : World) :
    Calls Tryd.prog 9 #[.agg #[.int .i64 g0, .int .i64 g1, .int .i64 a], .int .i64 g] w (Ret (shV g0 g1 a g) w) := by
  rcases sh_ways g0 g1 a g with ⟨hv, h⟩ | ⟨hv, hg, hq, hq2, h⟩ | ⟨hv, hg, hq, hq2, h⟩ | ⟨hv, rfl, h⟩ | ⟨hv, rfl, h⟩
  all_goals first | rw [shV_no h] | rw [shV_yes h]
  all_goals clear h
  all_goals
    go_enter Tryd.func9, Tryd.ntmps9
    go_wp2_with fail
    refine (rvalid_c _ _ _ _).mono ?_
    rintro e w1 ⟨rfl, hb_w1⟩
    have hz_w1 := hb_w1.size
    have B0_w1 := hb_w1.block (w.heap.size) (by first | omega | (simp only [hs_alloc, hs_set, hs_drew]; omega))
    have B1_w1 := hb_w1.block (w.heap.size + 1) (by first | omega | (simp only [hs_alloc, hs_set, hs_drew]; omega))
    (try simp only [hs_alloc, hs_set, hs_drew] at hz_w1)
    simp (disch := omega) only [hp_alloc, hp_set, hp_drew, hs_alloc, hs_set, hs_drew, if_pos, if_neg, ↓reduceIte, Option.map_some, putO] at B0_w1 B1_w1
    obtain ⟨c0_w1, f0_w1⟩ := blk B0_w1
    have H0_w1 := Lib.hid B0_w1
    clear B0_w1
    have z0_w1 : w.heap.size < w1.heap.size := by omega
    obtain ⟨c1_w1, f1_w1⟩ := blk B1_w1
    have H1_w1 := Lib.hid B1_w1
    clear B1_w1
    have z1_w1 : w.heap.size + 1 < w1.heap.size := by omega
    have b_w1 : Below w.heap.size w w1 := bw_call (by repeat (first | exact Below.refl _ _ | assumption | refine bw_alloc ?_ _ | refine bw_drew ?_ | refine bw_set ?_ (by omega) _)) hb_w1
    clear hb_w1
    go_wp2_with (go_at_call 22; refine (set_c _ _).mono ?_; rintro e w' ⟨rfl, rfl⟩)
    all_goals (refine bodyPost_ret (by simp [results, Tryd.results9, go_sem, c0_w1, c1_w1]) rfl ⟨rfl, ?_⟩)
    all_goals (repeat (first | exact Below.refl _ _ | assumption | refine bw_alloc ?_ _ | refine bw_drew ?_ | refine bw_set ?_ (by omega) _))
end Go.Proofs.YtbnljecooaglgaaDoor
