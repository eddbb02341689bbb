/-
  The laws of the sets, of the maps and of the finals return true, whatever they are called with. Condition: the package-level tables hold what they were laid with.
-/
import Derived.Test.YtbnljecooaglgaaDoorWf
namespace Go.Proofs.YtbnljecooaglgaaDoor
open Go.RowKit
set_option linter.unusedSimpArgs false
set_option linter.unusedVariables false

theorem rselect_e (g0 g1 a g k : Int) (w : World) : Calls Tryd.prog 8 #[.agg #[.int .i64 g0, .int .i64 g1, .int .i64 a], .int .i64 g, .int .i64 k] w (Ret (.tuple #[.agg #[.int .i64 (s0 g0 g1 a g k), .int .i64 (s1 g0 g1 a g k), .int .i64 (s2 g0 g1 a g k)], .int .i64 (sE g0 g1 a g k)]) w) := rselect_c g0 g1 a g k w
theorem rshift_e (g0 g1 a g : Int) (w : World) : Calls Tryd.prog 9 #[.agg #[.int .i64 g0, .int .i64 g1, .int .i64 a], .int .i64 g] w (Ret (.tuple #[.agg #[.int .i64 (h0 g0 g1 a g), .int .i64 (h1 g0 g1 a g), .int .i64 (h2 g0 g1 a g)], .int .i64 (hE g0 g1 a g)]) w) := rshift_c g0 g1 a g w

set_option maxRecDepth 100000 in
set_option maxHeartbeats 2000000 in
theorem sets_ok (g0 g1 a g k : Int) (w : World) (L : Laid w) : Calls Tryd.prog 3 #[.agg #[.int .i64 g0, .int .i64 g1, .int .i64 a], .int .i64 g, .int .i64 k] w (Ret (.bool true) w) := by
  go_enter Tryd.func3, Tryd.ntmps3
  go_wp2_with fail
  refine (rselect_e _ _ _ _ _ _).mono ?_
  rintro e w1 ⟨rfl, hb_w1⟩
  have hz_w1 := hb_w1.size
  have B0_w1 := hb_w1.block (w.heap.size) (by first | omega | (simp only [hs_alloc, hs_set, hs_drew]; omega))
  (try simp only [hs_alloc, hs_set, hs_drew] at hz_w1)
  simp (disch := omega) only [hp_alloc, hp_set, hp_drew, hs_alloc, hs_set, hs_drew, if_pos, if_neg, ↓reduceIte, Option.map_some, putO] at B0_w1
  obtain ⟨c0_w1, f0_w1⟩ := blk B0_w1
  have H0_w1 := Lib.hid B0_w1
  clear B0_w1
  have z0_w1 : w.heap.size < w1.heap.size := by omega
  have b_w1 : Below w.heap.size w w1 := bw_call (by repeat (first | exact Below.refl _ _ | assumption | refine bw_alloc ?_ _ | refine bw_drew ?_ | refine bw_set ?_ (by omega) _)) hb_w1
  clear hb_w1
  go_wp2_with fail
  refine (rshift_e _ _ _ _ _).mono ?_
  rintro e w2 ⟨rfl, hb_w2⟩
  have hz_w2 := hb_w2.size
  have B0_w2 := hb_w2.block (w.heap.size) (by first | omega | (simp only [hs_alloc, hs_set, hs_drew]; omega))
  have B1_w2 := hb_w2.block (w1.heap.size) (by first | omega | (simp only [hs_alloc, hs_set, hs_drew]; omega))
  (try simp only [hs_alloc, hs_set, hs_drew] at hz_w2)
  simp (disch := omega) only [hp_alloc, hp_set, hp_drew, hs_alloc, hs_set, hs_drew, if_pos, if_neg, ↓reduceIte, Option.map_some, putO, H0_w1.out] at B0_w2 B1_w2
  clear c0_w1 f0_w1 z0_w1
  obtain ⟨c0_w2, f0_w2⟩ := blk B0_w2
  have H0_w2 := Lib.hid B0_w2
  clear B0_w2
  have z0_w2 : w.heap.size < w2.heap.size := by omega
  obtain ⟨c1_w2, f1_w2⟩ := blk B1_w2
  have H1_w2 := Lib.hid B1_w2
  clear B1_w2
  have z1_w2 : w1.heap.size < w2.heap.size := by omega
  have b_w2 : Below w.heap.size w w2 := bw_call (by repeat (first | exact Below.refl _ _ | assumption | refine bw_alloc ?_ _ | refine bw_drew ?_ | refine bw_set ?_ (by omega) _)) hb_w2
  clear hb_w2
  go_wp2_with fail
  refine wp_gen ?_
  intro w3 hb_w3
  have hz_w3 := hb_w3.size
  have B0_w3 := hb_w3.block (w.heap.size) (by first | omega | (simp only [hs_alloc, hs_set, hs_drew]; omega))
  have B1_w3 := hb_w3.block (w1.heap.size) (by first | omega | (simp only [hs_alloc, hs_set, hs_drew]; omega))
  have B2_w3 := hb_w3.block (w2.heap.size) (by first | omega | (simp only [hs_alloc, hs_set, hs_drew]; omega))
  (try simp only [hs_alloc, hs_set, hs_drew] at hz_w3)
  simp (disch := omega) only [hp_alloc, hp_set, hp_drew, hs_alloc, hs_set, hs_drew, if_pos, if_neg, ↓reduceIte, Option.map_some, putO, H0_w2.out, H1_w2.out] at B0_w3 B1_w3 B2_w3
  clear c0_w2 f0_w2 z0_w2 c1_w2 f1_w2 z1_w2
  obtain ⟨c0_w3, f0_w3⟩ := blk B0_w3
  have H0_w3 := Lib.hid B0_w3
  clear B0_w3
  have z0_w3 : w.heap.size < w3.heap.size := by omega
  obtain ⟨c1_w3, f1_w3⟩ := blk B1_w3
  have H1_w3 := Lib.hid B1_w3
  clear B1_w3
  have z1_w3 : w1.heap.size < w3.heap.size := by omega
  obtain ⟨c2_w3, f2_w3⟩ := blk B2_w3
  have H2_w3 := Lib.hid B2_w3
  clear B2_w3
  have z2_w3 : w2.heap.size < w3.heap.size := by omega
  have b_w3 : Below w.heap.size w w3 := bw_call (by repeat (first | exact Below.refl _ _ | assumption | refine bw_alloc ?_ _ | refine bw_drew ?_ | refine bw_set ?_ (by omega) _)) hb_w3
  clear hb_w3
  have L3 := Lib.hid (L.below b_w3)
  refine wp_region_cls (by kernel_rfl) (by kernel_rfl) ?_
  have q0_w3 := fun (n : Cls w3) (o : Nat) => (n.h.cell (p := ⟨w.heap.size, o, none⟩) (by first | omega | (simp only [hs_alloc, hs_set, hs_drew]; omega))).trans (c0_w3 o)
  have q1_w3 := fun (n : Cls w3) (o : Nat) => (n.h.cell (p := ⟨w1.heap.size, o, none⟩) (by first | omega | (simp only [hs_alloc, hs_set, hs_drew]; omega))).trans (c1_w3 o)
  have q2_w3 := fun (n : Cls w3) (o : Nat) => (n.h.cell (p := ⟨w2.heap.size, o, none⟩) (by first | omega | (simp only [hs_alloc, hs_set, hs_drew]; omega))).trans (c2_w3 o)
  repeat (go_big_quiet_step ((first | (go_at_call 10; exact cls_of (valid_c _ _ _ _)) | (go_at_call 11; exact cls_of (rvalid_c _ _ _ _)) | (go_at_call 12; exact cls_of (selects_c _ _ _ _ _ _ _ _ _ rfl rfl rfl rfl _)) | (go_at_call 13; exact cls_of (shifts_c _ _ _ _ _ _ _ _ rfl rfl rfl rfl _)) | (go_at_call 14; exact cls_of (known_ok _ (L3.out.below (Cls.h _)))))))
  refine wpQuiet_nil ?_
  rintro w4 ⟨m_w4, hm_w4⟩
  have hb_w4 := m_w4.h
  rw [← hm_w4] at hb_w4
  clear hm_w4 m_w4
  clear q0_w3 q1_w3 q2_w3
  have hz_w4 := hb_w4.size
  have B0_w4 := hb_w4.block (w.heap.size) (by first | omega | (simp only [hs_alloc, hs_set, hs_drew]; omega))
  have B1_w4 := hb_w4.block (w1.heap.size) (by first | omega | (simp only [hs_alloc, hs_set, hs_drew]; omega))
  have B2_w4 := hb_w4.block (w2.heap.size) (by first | omega | (simp only [hs_alloc, hs_set, hs_drew]; omega))
  (try simp only [hs_alloc, hs_set, hs_drew] at hz_w4)
  simp (disch := omega) only [hp_alloc, hp_set, hp_drew, hs_alloc, hs_set, hs_drew, if_pos, if_neg, ↓reduceIte, Option.map_some, putO, H0_w3.out, H1_w3.out, H2_w3.out] at B0_w4 B1_w4 B2_w4
  clear c0_w3 f0_w3 z0_w3 c1_w3 f1_w3 z1_w3 c2_w3 f2_w3 z2_w3
  obtain ⟨c0_w4, f0_w4⟩ := blk B0_w4
  have H0_w4 := Lib.hid B0_w4
  clear B0_w4
  have z0_w4 : w.heap.size < w4.heap.size := by omega
  obtain ⟨c1_w4, f1_w4⟩ := blk B1_w4
  have H1_w4 := Lib.hid B1_w4
  clear B1_w4
  have z1_w4 : w1.heap.size < w4.heap.size := by omega
  obtain ⟨c2_w4, f2_w4⟩ := blk B2_w4
  have H2_w4 := Lib.hid B2_w4
  clear B2_w4
  have z2_w4 : w2.heap.size < w4.heap.size := by omega
  have b_w4 : Below w.heap.size w w4 := bw_call (by repeat (first | exact Below.refl _ _ | assumption | refine bw_alloc ?_ _ | refine bw_drew ?_ | refine bw_set ?_ (by omega) _)) hb_w4
  clear hb_w4
  go_wp2
  go_ret
  exact ⟨rfl, by repeat (first | exact Below.refl _ _ | assumption | refine bw_alloc ?_ _ | refine bw_drew ?_ | refine bw_set ?_ (by omega) _)⟩


set_option maxRecDepth 100000 in
set_option maxHeartbeats 2000000 in
theorem maps_ok (g0 g1 a r : Int) (w : World) (L : Laid w) (hr0 : -2147483648 ≤ r) (hr1 : r ≤ 2147483647) : Calls Tryd.prog 4 #[.agg #[.int .i64 g0, .int .i64 g1, .int .i64 a], .int .i32 r] w (Ret (.bool true) w) := by
  go_enter Tryd.func4, Tryd.ntmps4
  go_wp2_with fail
  refine (rback_c _ _).mono ?_
  rintro e w1 ⟨rfl, hb_w1⟩
  have hz_w1 := hb_w1.size
  have B0_w1 := hb_w1.block (w.heap.size) (by first | omega | (simp only [hs_alloc, hs_set, hs_drew]; omega))
  (try simp only [hs_alloc, hs_set, hs_drew] at hz_w1)
  simp (disch := omega) only [hp_alloc, hp_set, hp_drew, hs_alloc, hs_set, hs_drew, if_pos, if_neg, ↓reduceIte, Option.map_some, putO] at B0_w1
  obtain ⟨c0_w1, f0_w1⟩ := blk B0_w1
  have H0_w1 := Lib.hid B0_w1
  clear B0_w1
  have z0_w1 : w.heap.size < w1.heap.size := by omega
  have b_w1 : Below w.heap.size w w1 := bw_call (by repeat (first | exact Below.refl _ _ | assumption | refine bw_alloc ?_ _ | refine bw_drew ?_ | refine bw_set ?_ (by omega) _)) hb_w1
  clear hb_w1
  go_wp2_with fail
  refine wp_gen ?_
  intro w3 hb_w3
  have hz_w3 := hb_w3.size
  have B0_w3 := hb_w3.block (w.heap.size) (by first | omega | (simp only [hs_alloc, hs_set, hs_drew]; omega))
  (try simp only [hs_alloc, hs_set, hs_drew] at hz_w3)
  simp (disch := omega) only [hp_alloc, hp_set, hp_drew, hs_alloc, hs_set, hs_drew, if_pos, if_neg, ↓reduceIte, Option.map_some, putO, H0_w1.out] at B0_w3
  clear c0_w1 f0_w1 z0_w1
  obtain ⟨c0_w3, f0_w3⟩ := blk B0_w3
  have H0_w3 := Lib.hid B0_w3
  clear B0_w3
  have z0_w3 : w.heap.size < w3.heap.size := by omega
  have b_w3 : Below w.heap.size w w3 := bw_call (by repeat (first | exact Below.refl _ _ | assumption | refine bw_alloc ?_ _ | refine bw_drew ?_ | refine bw_set ?_ (by omega) _)) hb_w3
  clear hb_w3
  have L3 := Lib.hid (L.below b_w3)
  refine wp_region_cls (by kernel_rfl) (by kernel_rfl) ?_
  have q0_w3 := fun (n : Cls w3) (o : Nat) => (n.h.cell (p := ⟨w.heap.size, o, none⟩) (by first | omega | (simp only [hs_alloc, hs_set, hs_drew]; omega))).trans (c0_w3 o)
  repeat (go_big_quiet_step ((first | (go_at_call 16; exact cls_of (map_c _ _ _ _ _ (L3.out.below (Cls.h _)) hr0 hr1)) | (go_at_call 17; exact cls_of (rmap_c _ _ _ _ _)) | (go_at_call 18; exact cls_same (lback_c _ _ _ rfl rfl _ (L3.out.below (Cls.h _)))) | (go_at_call 14; exact cls_of (known_ok _ (L3.out.below (Cls.h _)))))))
  refine wpQuiet_nil ?_
  rintro w4 ⟨m_w4, hm_w4⟩
  have hb_w4 := m_w4.h
  rw [← hm_w4] at hb_w4
  clear hm_w4 m_w4
  clear q0_w3
  have hz_w4 := hb_w4.size
  have B0_w4 := hb_w4.block (w.heap.size) (by first | omega | (simp only [hs_alloc, hs_set, hs_drew]; omega))
  (try simp only [hs_alloc, hs_set, hs_drew] at hz_w4)
  simp (disch := omega) only [hp_alloc, hp_set, hp_drew, hs_alloc, hs_set, hs_drew, if_pos, if_neg, ↓reduceIte, Option.map_some, putO, H0_w3.out] at B0_w4
  clear c0_w3 f0_w3 z0_w3
  obtain ⟨c0_w4, f0_w4⟩ := blk B0_w4
  have H0_w4 := Lib.hid B0_w4
  clear B0_w4
  have z0_w4 : w.heap.size < w4.heap.size := by omega
  have b_w4 : Below w.heap.size w w4 := bw_call (by repeat (first | exact Below.refl _ _ | assumption | refine bw_alloc ?_ _ | refine bw_drew ?_ | refine bw_set ?_ (by omega) _)) hb_w4
  clear hb_w4
  go_wp2
  go_ret
  exact ⟨rfl, by repeat (first | exact Below.refl _ _ | assumption | refine bw_alloc ?_ _ | refine bw_drew ?_ | refine bw_set ?_ (by omega) _)⟩


theorem fin_back (k : Int) (h : kB k = true) : bfV (fnV k) = k ∧ bfE (fnV k) = 0 ∧ fnE k = 0 := by
  have : k = 0 ∨ k = 1 := by grind [kB]
  rcases this with rfl | rfl <;> decide
theorem fin_no (k : Int) (h : kB k = false) : fnV k = 0 ∧ fnE k = 2 := by
  have : ¬ k = 0 ∧ ¬ k = 1 := by grind [kB]
  simp [fnV, fnE, this]
set_option maxHeartbeats 1000000 in
theorem finals_ok (r k : Int) (w : World) (L : Laid w) : Calls Tryd.prog 6 #[.int .i32 r, .int .i64 k] w (Ret (.bool true) w) := by
  have LL := Lib.hid L
  cases hk : kB k with
  | false =>
    obtain ⟨f1, f2⟩ := fin_no k hk
    have Hc := Lib.hid (lfinal_c k 0 2 f1 f2 w L)
    clear f1 f2 L
    go_enter Tryd.func6, Tryd.ntmps6
    go_wp2_with fail
    refine (rbyFinal_c _ _).mono ?_
    rintro e w' ⟨rfl, rfl⟩
    go_wp2_with fail
    refine (lbyFinal_c _ _ _ rfl rfl _ LL.out).mono ?_
    rintro e w' ⟨rfl, rfl⟩
    go_wp2_with fail
    refine (set_c _ _).mono ?_
    rintro e w' ⟨rfl, rfl⟩
    go_wp2_with fail
    refine Hc.out.mono ?_
    rintro e w' ⟨rfl, rfl⟩
    go_wp2_with fail
    refine (known_ok _ LL.out).mono ?_
    rintro e w' ⟨rfl, hb⟩
    go_wp2
    go_ret
    exact ⟨rfl, hb⟩
  | true =>
    obtain ⟨f1, f2, f3⟩ := fin_back k hk
    have Hc := Lib.hid (lbyFinal_c (fnV k) k 0 f1 f2 w L)
    have Hd := Lib.hid (show Calls Tryd.prog 24 #[.int .i64 k] w (fun e w' => e = .returned (.tuple #[.int .i32 (fnV k), .int .i64 0]) ∧ w = w') by have := final_c k w L; rwa [f3] at this)
    clear f1 f2 f3 L
    go_enter Tryd.func6, Tryd.ntmps6
    go_wp2_with fail
    refine (rbyFinal_c _ _).mono ?_
    rintro e w' ⟨rfl, rfl⟩
    go_wp2_with fail
    refine (lbyFinal_c _ _ _ rfl rfl _ LL.out).mono ?_
    rintro e w' ⟨rfl, rfl⟩
    go_wp2_with fail
    refine (set_c _ _).mono ?_
    rintro e w' ⟨rfl, rfl⟩
    go_wp2_with fail
    refine Hd.out.mono ?_
    rintro e w' ⟨rfl, rfl⟩
    go_wp2_with fail
    refine Hc.out.mono ?_
    rintro e w' ⟨rfl, rfl⟩
    go_wp2_with fail
    refine (known_ok _ LL.out).mono ?_
    rintro e w' ⟨rfl, hb⟩
    go_wp2
    go_ret
    exact ⟨rfl, hb⟩
end Go.Proofs.YtbnljecooaglgaaDoor
