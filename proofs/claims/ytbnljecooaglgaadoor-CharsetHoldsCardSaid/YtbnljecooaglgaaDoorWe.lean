/-
  The walks of what the laws call to compare a result with what is wanted. Condition: the package-level tables hold what they were laid with.
-/
import Derived.Test.YtbnljecooaglgaaDoorWd
namespace Go.Proofs.YtbnljecooaglgaaDoor
open Go.RowKit
set_option linter.unusedSimpArgs false
set_option linter.unusedVariables false

theorem eqG (d : Nat) (a b c e : Int) (w : World) : (Op.equalIn (d + 2) 23 (.agg #[.int .i64 a, .int .i64 b]) (.agg #[.int .i64 c, .int .i64 e])).run Tryd.prog w = .ok (a == c && b == e) w := by
  rw [run_equalIn_array w (d + 1) 23 22 2 1 _ _ Tryd.underlying23 (fun _ => by kernel_rfl)]
  have : List.range 2 = [0, 1] := rfl
  rw [this]
  cases h1 : a == c <;> cases h2 : b == e <;> simp [eqElems, go_sem, part, h1, h2]
theorem selV_is (g0 g1 a g k : Int) : selV g0 g1 a g k = .tuple #[.agg #[.int .i64 (s0 g0 g1 a g k), .int .i64 (s1 g0 g1 a g k), .int .i64 (s2 g0 g1 a g k)], .int .i64 (sE g0 g1 a g k)] := rfl
theorem shV_is (g0 g1 a g : Int) : shV g0 g1 a g = .tuple #[.agg #[.int .i64 (h0 g0 g1 a g), .int .i64 (h1 g0 g1 a g), .int .i64 (h2 g0 g1 a g)], .int .i64 (hE g0 g1 a g)] := rfl

set_option maxHeartbeats 1000000 in
theorem selects_c (g0 g1 a g k x y z e : Int) (qx : s0 g0 g1 a g k = x) (qy : s1 g0 g1 a g k = y) (qz : s2 g0 g1 a g k = z) (qe : sE g0 g1 a g k = e) (w : World) :
    Calls Tryd.prog 12 #[.agg #[.int .i64 g0, .int .i64 g1, .int .i64 a], .int .i64 g, .int .i64 k, .agg #[.int .i64 x, .int .i64 y, .int .i64 z], .int .i64 e] w (Ret (.bool true) w) := by
  subst qx qy qz qe
  have heq := eqG
  have con := selV_is g0 g1 a g k
  go_enter Tryd.func12, Tryd.ntmps12
  go_wp2_with fail
  refine (select_c _ _ _ _ _ _).mono ?_
  rintro e w1 ⟨rfl, hb_w1⟩
  have hz_w1 := hb_w1.size
  have B0_w1 := hb_w1.block (w.heap.size) (by first | omega | (simp only [hs_alloc, hs_set, hs_drew]; omega))
  have B1_w1 := hb_w1.block (w.heap.size + 1) (by first | omega | (simp only [hs_alloc, hs_set, hs_drew]; omega))
  (try simp only [hs_alloc, hs_set, hs_drew] at hz_w1)
  simp (disch := omega) only [hp_alloc, hp_set, hp_drew, hs_alloc, hs_set, hs_drew, if_pos, if_neg, ↓reduceIte, Option.map_some, putO] at B0_w1 B1_w1
  obtain ⟨c0_w1, f0_w1⟩ := blk B0_w1
  have H0_w1 := Lib.hid B0_w1
  clear B0_w1
  have z0_w1 : w.heap.size < w1.heap.size := by omega
  obtain ⟨c1_w1, f1_w1⟩ := blk B1_w1
  have H1_w1 := Lib.hid B1_w1
  clear B1_w1
  have z1_w1 : w.heap.size + 1 < w1.heap.size := by omega
  have b_w1 : Below w.heap.size w w1 := bw_call (by repeat (first | exact Below.refl _ _ | assumption | refine bw_alloc ?_ _ | refine bw_drew ?_ | refine bw_set ?_ (by omega) _)) hb_w1
  clear hb_w1
  skip
  rw [con]
  clear con
  go_wp2
  go_ret
  exact ⟨rfl, by repeat (first | exact Below.refl _ _ | assumption | refine bw_alloc ?_ _ | refine bw_drew ?_ | refine bw_set ?_ (by omega) _)⟩

set_option maxHeartbeats 1000000 in
theorem shifts_c (g0 g1 a g x y z e : Int) (qx : h0 g0 g1 a g = x) (qy : h1 g0 g1 a g = y) (qz : h2 g0 g1 a g = z) (qe : hE g0 g1 a g = e) (w : World) :
    Calls Tryd.prog 13 #[.agg #[.int .i64 g0, .int .i64 g1, .int .i64 a], .int .i64 g, .agg #[.int .i64 x, .int .i64 y, .int .i64 z], .int .i64 e] w (Ret (.bool true) w) := by
  subst qx qy qz qe
  have heq := eqG
  have con := shV_is g0 g1 a g
  go_enter Tryd.func13, Tryd.ntmps13
  go_wp2_with fail
  refine (shift_c _ _ _ _ _).mono ?_
  rintro e w1 ⟨rfl, hb_w1⟩
  have hz_w1 := hb_w1.size
  have B0_w1 := hb_w1.block (w.heap.size) (by first | omega | (simp only [hs_alloc, hs_set, hs_drew]; omega))
  have B1_w1 := hb_w1.block (w.heap.size + 1) (by first | omega | (simp only [hs_alloc, hs_set, hs_drew]; omega))
  (try simp only [hs_alloc, hs_set, hs_drew] at hz_w1)
  simp (disch := omega) only [hp_alloc, hp_set, hp_drew, hs_alloc, hs_set, hs_drew, if_pos, if_neg, ↓reduceIte, Option.map_some, putO] at B0_w1 B1_w1
  obtain ⟨c0_w1, f0_w1⟩ := blk B0_w1
  have H0_w1 := Lib.hid B0_w1
  clear B0_w1
  have z0_w1 : w.heap.size < w1.heap.size := by omega
  obtain ⟨c1_w1, f1_w1⟩ := blk B1_w1
  have H1_w1 := Lib.hid B1_w1
  clear B1_w1
  have z1_w1 : w.heap.size + 1 < w1.heap.size := by omega
  have b_w1 : Below w.heap.size w w1 := bw_call (by repeat (first | exact Below.refl _ _ | assumption | refine bw_alloc ?_ _ | refine bw_drew ?_ | refine bw_set ?_ (by omega) _)) hb_w1
  clear hb_w1
  skip
  rw [con]
  clear con
  go_wp2
  go_ret
  exact ⟨rfl, by repeat (first | exact Below.refl _ _ | assumption | refine bw_alloc ?_ _ | refine bw_drew ?_ | refine bw_set ?_ (by omega) _)⟩

set_option maxHeartbeats 400000 in
theorem lback_c (r x e : Int) (qx : bkV r = x) (qe : bkE r = e) (w : World) (L : Laid w) :
    Calls Tryd.prog 18 #[.int .i32 r, .int .i32 x, .int .i64 e] w fun e w' => e = .returned (.bool true) ∧ w = w' := by
  subst qx qe
  go_enter Tryd.func18, Tryd.ntmps18
  go_wp2_with fail
  refine (back_c _ _ L).mono ?_
  rintro e w' ⟨rfl, rfl⟩
  go_wp2
  go_ret
  exact ⟨rfl, rfl⟩

set_option maxHeartbeats 400000 in
theorem lbyFinal_c (r x e : Int) (qx : bfV r = x) (qe : bfE r = e) (w : World) (L : Laid w) :
    Calls Tryd.prog 21 #[.int .i32 r, .int .i64 x, .int .i64 e] w fun e w' => e = .returned (.bool true) ∧ w = w' := by
  subst qx qe
  go_enter Tryd.func21, Tryd.ntmps21
  go_wp2_with fail
  refine (byFinal_c _ _ L).mono ?_
  rintro e w' ⟨rfl, rfl⟩
  go_wp2
  go_ret
  exact ⟨rfl, rfl⟩

set_option maxHeartbeats 400000 in
theorem lfinal_c (r x e : Int) (qx : fnV r = x) (qe : fnE r = e) (w : World) (L : Laid w) :
    Calls Tryd.prog 23 #[.int .i64 r, .int .i32 x, .int .i64 e] w fun e w' => e = .returned (.bool true) ∧ w = w' := by
  subst qx qe
  go_enter Tryd.func23, Tryd.ntmps23
  go_wp2_with fail
  refine (final_c _ _ L).mono ?_
  rintro e w' ⟨rfl, rfl⟩
  go_wp2
  go_ret
  exact ⟨rfl, rfl⟩
end Go.Proofs.YtbnljecooaglgaaDoor
