/-
  The walks of the reference's words of pens. No condition.
-/
import Derived.Test.YtfbkoflapamicaaDoorWx
import Derived.Test.YtfbkoflapamicaaDoorWr
import Derived.Deep.RegionHeld3
namespace Go.Proofs.YtfbkoflapamicaaDoor
open Go.RowKit
set_option linter.unusedSimpArgs false
set_option linter.unusedVariables false

set_option maxHeartbeats 1000000 in
theorem o_rcolor_c (k i r g b : Int) (w : World) : Calls Tryd.prog 39 #[.agg #[.int .i64 k, .int .u8 i, .int .u8 r, .int .u8 g, .int .u8 b]] w (Ret (.bool (vC k i r g b)) w) := by
  go_enter Tryd.func39, Tryd.ntmps39
  go_wp2
  all_goals go_ret
  all_goals refine ⟨ret_bool ?_, bw_alloc (Below.refl _ _) _⟩
  all_goals grind [vC]
set_option maxHeartbeats 1000000 in
theorem o_rvalid_c (k1 i1 r1 g1 b1 k2 i2 r2 g2 b2 f : Int) (w : World) : Calls Tryd.prog 28 #[.agg #[.int .i64 k1, .int .u8 i1, .int .u8 r1, .int .u8 g1, .int .u8 b1, .int .i64 k2, .int .u8 i2, .int .u8 r2, .int .u8 g2, .int .u8 b2, .int .u8 f]] w (Ret (.bool (vP k1 i1 r1 g1 b1 k2 i2 r2 g2 b2 f)) w) := by
  cases h1 : vC k1 i1 r1 g1 b1 with
  | true =>
    have HV := Lib.hid (show vP k1 i1 r1 g1 b1 k2 i2 r2 g2 b2 f = vC k2 i2 r2 g2 b2 by simp [vP, h1])
    go_enter Tryd.func28, Tryd.ntmps28
    go_wp2_with fail
    refine (o_rcolor_c _ _ _ _ _ _).mono ?_
    rintro e w1 ⟨rfl, hb_w1⟩
    have hz_w1 := hb_w1.size
    have B0_w1 := hb_w1.block (w.heap.size) (by first | (simp only [hs_alloc, hs_set, hs_drew]; omega) | omega)
    (try simp only [hs_alloc, hs_set, hs_drew] at hz_w1)
    simp (disch := omega) only [hp_alloc, hp_set, hp_drew, hs_alloc, hs_set, hs_drew, if_pos, if_neg, ↓reduceIte, Option.map_some, putO] at B0_w1
    obtain ⟨c0_w1, f0_w1⟩ := blk B0_w1
    have H0_w1 := Lib.hid B0_w1
    clear B0_w1
    have z0_w1 : w.heap.size < w1.heap.size := by omega
    have b_w1 : Below w.heap.size w w1 := bw_call (by repeat (first | with_reducible refine bw_set ?_ (by omega) _ | with_reducible refine bw_alloc ?_ _ | with_reducible refine bw_drew ?_ | with_reducible assumption | with_reducible exact Below.refl _ _)) hb_w1
    clear hb_w1
    rw [h1]
    go_wp2_with fail
    refine (o_rcolor_c _ _ _ _ _ _).mono ?_
    rintro e w2 ⟨rfl, hb_w2⟩
    have hz_w2 := hb_w2.size
    have B0_w2 := hb_w2.block (w.heap.size) (by first | (simp only [hs_alloc, hs_set, hs_drew]; omega) | omega)
    (try simp only [hs_alloc, hs_set, hs_drew] at hz_w2)
    simp (disch := omega) only [hp_alloc, hp_set, hp_drew, hs_alloc, hs_set, hs_drew, if_pos, if_neg, ↓reduceIte, Option.map_some, putO, H0_w1.out] at B0_w2
    clear c0_w1 f0_w1 z0_w1
    obtain ⟨c0_w2, f0_w2⟩ := blk B0_w2
    have H0_w2 := Lib.hid B0_w2
    clear B0_w2
    have z0_w2 : w.heap.size < w2.heap.size := by omega
    have b_w2 : Below w.heap.size w w2 := bw_call (by repeat (first | with_reducible refine bw_set ?_ (by omega) _ | with_reducible refine bw_alloc ?_ _ | with_reducible refine bw_drew ?_ | with_reducible assumption | with_reducible exact Below.refl _ _)) hb_w2
    clear hb_w2
    go_wp2
    go_ret
    exact ⟨ret_bool HV.out.symm, by repeat (first | with_reducible refine bw_set ?_ (by omega) _ | with_reducible refine bw_alloc ?_ _ | with_reducible refine bw_drew ?_ | with_reducible assumption | with_reducible exact Below.refl _ _)⟩
  | false =>
    have HV := Lib.hid (show vP k1 i1 r1 g1 b1 k2 i2 r2 g2 b2 f = false by simp [vP, h1])
    go_enter Tryd.func28, Tryd.ntmps28
    go_wp2_with fail
    refine (o_rcolor_c _ _ _ _ _ _).mono ?_
    rintro e w1 ⟨rfl, hb_w1⟩
    have hz_w1 := hb_w1.size
    have B0_w1 := hb_w1.block (w.heap.size) (by first | (simp only [hs_alloc, hs_set, hs_drew]; omega) | omega)
    (try simp only [hs_alloc, hs_set, hs_drew] at hz_w1)
    simp (disch := omega) only [hp_alloc, hp_set, hp_drew, hs_alloc, hs_set, hs_drew, if_pos, if_neg, ↓reduceIte, Option.map_some, putO] at B0_w1
    obtain ⟨c0_w1, f0_w1⟩ := blk B0_w1
    have H0_w1 := Lib.hid B0_w1
    clear B0_w1
    have z0_w1 : w.heap.size < w1.heap.size := by omega
    have b_w1 : Below w.heap.size w w1 := bw_call (by repeat (first | with_reducible refine bw_set ?_ (by omega) _ | with_reducible refine bw_alloc ?_ _ | with_reducible refine bw_drew ?_ | with_reducible assumption | with_reducible exact Below.refl _ _)) hb_w1
    clear hb_w1
    rw [h1]
    go_wp2
    go_ret
    exact ⟨ret_bool HV.out.symm, by repeat (first | with_reducible refine bw_set ?_ (by omega) _ | with_reducible refine bw_alloc ?_ _ | with_reducible refine bw_drew ?_ | with_reducible assumption | with_reducible exact Below.refl _ _)⟩

set_option maxHeartbeats 1000000 in
theorem o_rbits_c (k i r g b : Int) (w : World) (hi : 0 ≤ i ∧ i ≤ 255) (hr : 0 ≤ r ∧ r ≤ 255) (hg : 0 ≤ g ∧ g ≤ 255) (hb : 0 ≤ b ∧ b ≤ 255) : Calls Tryd.prog 44 #[.agg #[.int .i64 k, .int .u8 i, .int .u8 r, .int .u8 g, .int .u8 b]] w (Ret (.int .u64 (rB k i r g b)) w) := by
  obtain ⟨hi0, hi1⟩ := hi
  obtain ⟨hr0, hr1⟩ := hr
  obtain ⟨hg0, hg1⟩ := hg
  obtain ⟨hb0, hb1⟩ := hb
  have hk : k = 1 ∨ k = 2 ∨ ¬ (k = 1 ∨ k = 2) := by omega
  rcases hk with rfl | rfl | hk
  · go_enter Tryd.func44, Tryd.ntmps44
    go_wp2
    go_ret
    exact ⟨ret_int (by simp [rB]), bw_alloc (Below.refl _ _) _⟩
  · go_enter Tryd.func44, Tryd.ntmps44
    go_wp2
    go_ret
    exact ⟨ret_int (by simp [rB]), bw_alloc (Below.refl _ _) _⟩
  · have h1 : (k == 1) = false := by simp; omega
    have h2 : (k == 2) = false := by simp; omega
    have HR := Lib.hid (show rB k i r g b = 0 by rw [rB, if_neg (by omega), if_neg (by omega)])
    clear hk
    go_enter Tryd.func44, Tryd.ntmps44
    go_wp2
    go_ret
    exact ⟨ret_int HR.out.symm, bw_alloc (Below.refl _ _) _⟩
theorem o_rbits_h (k i r g b : Int) (w : World) (hi : Hid (0 ≤ i ∧ i ≤ 255)) (hr : Hid (0 ≤ r ∧ r ≤ 255)) (hg : Hid (0 ≤ g ∧ g ≤ 255)) (hb : Hid (0 ≤ b ∧ b ≤ 255)) : Calls Tryd.prog 44 #[.agg #[.int .i64 k, .int .u8 i, .int .u8 r, .int .u8 g, .int .u8 b]] w (Ret (.int .u64 (rB k i r g b)) w) :=
  o_rbits_c k i r g b w hi.out hr.out hg.out hb.out
set_option maxHeartbeats 1000000 in
theorem o_rpack_c (k1 i1 r1 g1 b1 k2 i2 r2 g2 b2 f : Int) (w : World) (hi1 : 0 ≤ i1 ∧ i1 ≤ 255) (hr1 : 0 ≤ r1 ∧ r1 ≤ 255) (hg1 : 0 ≤ g1 ∧ g1 ≤ 255) (hb1 : 0 ≤ b1 ∧ b1 ≤ 255) (hi2 : 0 ≤ i2 ∧ i2 ≤ 255) (hr2 : 0 ≤ r2 ∧ r2 ≤ 255) (hg2 : 0 ≤ g2 ∧ g2 ≤ 255) (hb2 : 0 ≤ b2 ∧ b2 ≤ 255) (hf : 0 ≤ f ∧ f ≤ 255) :
    Calls Tryd.prog 32 #[.agg #[.int .i64 k1, .int .u8 i1, .int .u8 r1, .int .u8 g1, .int .u8 b1, .int .i64 k2, .int .u8 i2, .int .u8 r2, .int .u8 g2, .int .u8 b2, .int .u8 f]] w (Ret (.int .u64 (rP k1 i1 r1 g1 b1 k2 i2 r2 g2 b2 f)) w) := by
  obtain ⟨x0, x1⟩ := rB_bd k1 i1 r1 g1 b1 hi1 hr1 hg1 hb1
  obtain ⟨y0, y1⟩ := rB_bd k2 i2 r2 g2 b2 hi2 hr2 hg2 hb2
  have Hw := Lib.hid (show rB k1 i1 r1 g1 b1 + 67108864 * rB k2 i2 r2 g2 b2 + 4503599627370496 * f = rP k1 i1 r1 g1 b1 k2 i2 r2 g2 b2 f from rfl)
  obtain ⟨hf0, hf1⟩ := hf
  have Hi1 := Lib.hid hi1
  have Hr1 := Lib.hid hr1
  have Hg1 := Lib.hid hg1
  have Hb1 := Lib.hid hb1
  have Hi2 := Lib.hid hi2
  have Hr2 := Lib.hid hr2
  have Hg2 := Lib.hid hg2
  have Hb2 := Lib.hid hb2
  clear hi1 hr1 hg1 hb1 hi2 hr2 hg2 hb2
  have e1 : IntKind.u64.wrap (67108864 * rB k2 i2 r2 g2 b2) = 67108864 * rB k2 i2 r2 g2 b2 := wrap_u64_in _ (by omega) (by omega)
  have e2 : IntKind.u64.wrap (4503599627370496 * f) = 4503599627370496 * f := wrap_u64_in _ (by omega) (by omega)
  have e3 : IntKind.u64.wrap f = f := wrap_u64_in _ (by omega) (by omega)
  have e4 : IntKind.u64.wrap (rB k1 i1 r1 g1 b1 + 67108864 * rB k2 i2 r2 g2 b2) = rB k1 i1 r1 g1 b1 + 67108864 * rB k2 i2 r2 g2 b2 := wrap_u64_in _ (by omega) (by omega)
  have e5 : IntKind.u64.wrap (rB k1 i1 r1 g1 b1 + 67108864 * rB k2 i2 r2 g2 b2 + 4503599627370496 * f) = rB k1 i1 r1 g1 b1 + 67108864 * rB k2 i2 r2 g2 b2 + 4503599627370496 * f := wrap_u64_in _ (by omega) (by omega)
  go_enter Tryd.func32, Tryd.ntmps32
  go_wp2_with fail
  refine wp_gen ?_
  intro w2 hb_w2
  have hz_w2 := hb_w2.size
  have B0_w2 := hb_w2.block (w.heap.size) (by first | (simp only [hs_alloc, hs_set, hs_drew]; omega) | omega)
  (try simp only [hs_alloc, hs_set, hs_drew] at hz_w2)
  simp (disch := omega) only [hp_alloc, hp_set, hp_drew, hs_alloc, hs_set, hs_drew, if_pos, if_neg, ↓reduceIte, Option.map_some, putO] at B0_w2
  obtain ⟨c0_w2, f0_w2⟩ := blk B0_w2
  have H0_w2 := Lib.hid B0_w2
  clear B0_w2
  have z0_w2 : w.heap.size < w2.heap.size := by omega
  have b_w2 : Below w.heap.size w w2 := bw_call (by repeat (first | with_reducible refine bw_set ?_ (by omega) _ | with_reducible refine bw_alloc ?_ _ | with_reducible refine bw_drew ?_ | with_reducible assumption | with_reducible exact Below.refl _ _)) hb_w2
  clear hb_w2
  refine wp_region_cls (by kernel_rfl) (by kernel_rfl) ?_
  have q0_w2 := fun (n : Cls w2) (o : Nat) => (n.h.cell (p := ⟨w.heap.size, o, none⟩) (by first | (simp only [hs_alloc, hs_set, hs_drew]; omega) | omega)).trans (c0_w2 o)
  repeat (go_big_quiet_step ((first | (go_at_call 44; exact cls_of (o_rbits_h _ _ _ _ _ _ (by assumption) (by assumption) (by assumption) (by assumption))))))
  refine wpQuiet_nil ?_
  rintro w3 ⟨m_w3, hm_w3⟩
  have hb_w3 := m_w3.h
  rw [← hm_w3] at hb_w3
  clear hm_w3 m_w3
  clear q0_w2
  have hz_w3 := hb_w3.size
  have B0_w3 := hb_w3.block (w.heap.size) (by first | (simp only [hs_alloc, hs_set, hs_drew]; omega) | omega)
  (try simp only [hs_alloc, hs_set, hs_drew] at hz_w3)
  simp (disch := omega) only [hp_alloc, hp_set, hp_drew, hs_alloc, hs_set, hs_drew, if_pos, if_neg, ↓reduceIte, Option.map_some, putO, H0_w2.out] at B0_w3
  clear c0_w2 f0_w2 z0_w2
  obtain ⟨c0_w3, f0_w3⟩ := blk B0_w3
  have H0_w3 := Lib.hid B0_w3
  clear B0_w3
  have z0_w3 : w.heap.size < w3.heap.size := by omega
  have b_w3 : Below w.heap.size w w3 := bw_call (by repeat (first | with_reducible refine bw_set ?_ (by omega) _ | with_reducible refine bw_alloc ?_ _ | with_reducible refine bw_drew ?_ | with_reducible assumption | with_reducible exact Below.refl _ _)) hb_w3
  clear hb_w3
  go_wp2
  go_ret
  refine ⟨ret_int Hw.out, by repeat (first | with_reducible refine bw_set ?_ (by omega) _ | with_reducible refine bw_alloc ?_ _ | with_reducible refine bw_drew ?_ | with_reducible assumption | with_reducible exact Below.refl _ _)⟩

set_option maxHeartbeats 1000000 in
theorem o_rcol_c (x : Int) (w : World) (h0 : 0 ≤ x) (hx : x < 67108864) : Calls Tryd.prog 46 #[.int .u64 x] w (Ret (.agg #[.int .i64 (rK x), .int .u8 (rI x), .int .u8 (rR x), .int .u8 (rG x), .int .u8 (rBl x)]) w) := by
  have hk : x / 16777216 = 1 ∨ x / 16777216 = 2 ∨ ¬ (x / 16777216 = 1 ∨ x / 16777216 = 2) := by omega
  rcases hk with h | h | h
  · have h1 : (x / 16777216 == 1) = true := by simpa using h
    have HR := Lib.hid (show (.agg #[.int .i64 (rK x), .int .u8 (rI x), .int .u8 (rR x), .int .u8 (rG x), .int .u8 (rBl x)] : Value) = .agg #[.int .i64 1, .int .u8 (x % 256), .int .u8 0, .int .u8 0, .int .u8 0] by have q1 := h; first | (simp [rK, rI, rR, rG, rBl, h]; done) | (have q2 : ¬ x / 16777216 = 1 := (by omega); have q3 : ¬ x / 16777216 = 2 := (by omega); simp [rK, rI, rR, rG, rBl, q2, q3]))
    clear h
    go_enter Tryd.func46, Tryd.ntmps46
    go_wp2
    refine post_gen ?_
    intro w9 hb_w9
    have hz_w9 := hb_w9.size
    have B0_w9 := hb_w9.block (w.heap.size) (by first | (simp only [hs_alloc, hs_set, hs_drew]; omega) | omega)
    (try simp only [hs_alloc, hs_set, hs_drew] at hz_w9)
    simp (disch := omega) only [hp_alloc, hp_set, hp_drew, hs_alloc, hs_set, hs_drew, if_pos, if_neg, ↓reduceIte, Option.map_some, putO] at B0_w9
    obtain ⟨c0_w9, f0_w9⟩ := blk B0_w9
    have H0_w9 := Lib.hid B0_w9
    clear B0_w9
    have z0_w9 : w.heap.size < w9.heap.size := by omega
    have b_w9 : Below w.heap.size w w9 := bw_call (by repeat (first | with_reducible refine bw_set ?_ (by omega) _ | with_reducible refine bw_alloc ?_ _ | with_reducible refine bw_drew ?_ | with_reducible assumption | with_reducible exact Below.refl _ _)) hb_w9
    clear hb_w9
    refine bodyPost_ret (v := (.agg #[.int .i64 1, .int .u8 (x % 256), .int .u8 0, .int .u8 0, .int .u8 0])) (by simp [results, Tryd.results46, go_sem, c0_w9]) rfl ⟨by rw [HR.out], by repeat (first | with_reducible refine bw_set ?_ (by omega) _ | with_reducible refine bw_alloc ?_ _ | with_reducible refine bw_drew ?_ | with_reducible assumption | with_reducible exact Below.refl _ _)⟩
  · have h1 : (x / 16777216 == 1) = false := by simp; omega
    have h2 : (x / 16777216 == 2) = true := by simpa using h
    have HR := Lib.hid (show (.agg #[.int .i64 (rK x), .int .u8 (rI x), .int .u8 (rR x), .int .u8 (rG x), .int .u8 (rBl x)] : Value) = .agg #[.int .i64 2, .int .u8 0, .int .u8 (x / 65536 % 256), .int .u8 (x / 256 % 256), .int .u8 (x % 256)] by have q1 := h; first | (simp [rK, rI, rR, rG, rBl, h]; done) | (have q2 : ¬ x / 16777216 = 1 := (by omega); have q3 : ¬ x / 16777216 = 2 := (by omega); simp [rK, rI, rR, rG, rBl, q2, q3]))
    clear h
    go_enter Tryd.func46, Tryd.ntmps46
    go_wp2
    refine post_gen ?_
    intro w9 hb_w9
    have hz_w9 := hb_w9.size
    have B0_w9 := hb_w9.block (w.heap.size) (by first | (simp only [hs_alloc, hs_set, hs_drew]; omega) | omega)
    (try simp only [hs_alloc, hs_set, hs_drew] at hz_w9)
    simp (disch := omega) only [hp_alloc, hp_set, hp_drew, hs_alloc, hs_set, hs_drew, if_pos, if_neg, ↓reduceIte, Option.map_some, putO] at B0_w9
    obtain ⟨c0_w9, f0_w9⟩ := blk B0_w9
    have H0_w9 := Lib.hid B0_w9
    clear B0_w9
    have z0_w9 : w.heap.size < w9.heap.size := by omega
    have b_w9 : Below w.heap.size w w9 := bw_call (by repeat (first | with_reducible refine bw_set ?_ (by omega) _ | with_reducible refine bw_alloc ?_ _ | with_reducible refine bw_drew ?_ | with_reducible assumption | with_reducible exact Below.refl _ _)) hb_w9
    clear hb_w9
    refine bodyPost_ret (v := (.agg #[.int .i64 2, .int .u8 0, .int .u8 (x / 65536 % 256), .int .u8 (x / 256 % 256), .int .u8 (x % 256)])) (by simp [results, Tryd.results46, go_sem, c0_w9]) rfl ⟨by rw [HR.out], by repeat (first | with_reducible refine bw_set ?_ (by omega) _ | with_reducible refine bw_alloc ?_ _ | with_reducible refine bw_drew ?_ | with_reducible assumption | with_reducible exact Below.refl _ _)⟩
  · have h1 : (x / 16777216 == 1) = false := by simp; omega
    have h2 : (x / 16777216 == 2) = false := by simp; omega
    have HR := Lib.hid (show (.agg #[.int .i64 (rK x), .int .u8 (rI x), .int .u8 (rR x), .int .u8 (rG x), .int .u8 (rBl x)] : Value) = .agg #[.int .i64 0, .int .u8 0, .int .u8 0, .int .u8 0, .int .u8 0] by have q1 := h; first | (simp [rK, rI, rR, rG, rBl, h]; done) | (have q2 : ¬ x / 16777216 = 1 := (by omega); have q3 : ¬ x / 16777216 = 2 := (by omega); simp [rK, rI, rR, rG, rBl, q2, q3]))
    clear h
    go_enter Tryd.func46, Tryd.ntmps46
    go_wp2
    refine post_gen ?_
    intro w9 hb_w9
    have hz_w9 := hb_w9.size
    have B0_w9 := hb_w9.block (w.heap.size) (by first | (simp only [hs_alloc, hs_set, hs_drew]; omega) | omega)
    (try simp only [hs_alloc, hs_set, hs_drew] at hz_w9)
    simp (disch := omega) only [hp_alloc, hp_set, hp_drew, hs_alloc, hs_set, hs_drew, if_pos, if_neg, ↓reduceIte, Option.map_some, putO] at B0_w9
    obtain ⟨c0_w9, f0_w9⟩ := blk B0_w9
    have H0_w9 := Lib.hid B0_w9
    clear B0_w9
    have z0_w9 : w.heap.size < w9.heap.size := by omega
    have b_w9 : Below w.heap.size w w9 := bw_call (by repeat (first | with_reducible refine bw_set ?_ (by omega) _ | with_reducible refine bw_alloc ?_ _ | with_reducible refine bw_drew ?_ | with_reducible assumption | with_reducible exact Below.refl _ _)) hb_w9
    clear hb_w9
    refine bodyPost_ret (v := (.agg #[.int .i64 0, .int .u8 0, .int .u8 0, .int .u8 0, .int .u8 0])) (by simp [results, Tryd.results46, go_sem, c0_w9]) rfl ⟨by rw [HR.out], by repeat (first | with_reducible refine bw_set ?_ (by omega) _ | with_reducible refine bw_alloc ?_ _ | with_reducible refine bw_drew ?_ | with_reducible assumption | with_reducible exact Below.refl _ _)⟩



theorem o_rcol_n (x k i r g b : Int) (w : World) (h0 : 0 ≤ x) (h1 : x < 67108864) (q : rK x = k ∧ rI x = i ∧ rR x = r ∧ rG x = g ∧ rBl x = b) : Calls Tryd.prog 46 #[.int .u64 x] w (Ret (.agg #[.int .i64 k, .int .u8 i, .int .u8 r, .int .u8 g, .int .u8 b]) w) := by
  obtain ⟨rfl, rfl, rfl, rfl, rfl⟩ := q
  exact o_rcol_c x w h0 h1
set_option maxRecDepth 100000 in
set_option maxHeartbeats 2000000 in
theorem o_runpack_c (x k1 i1 r1 g1 b1 k2 i2 r2 g2 b2 f : Int) (v : Bool) (w : World) (h0 : 0 ≤ x) (h1 : x < 18446744073709551616) (qa : rK (x % 67108864) = k1 ∧ rI (x % 67108864) = i1 ∧ rR (x % 67108864) = r1 ∧ rG (x % 67108864) = g1 ∧ rBl (x % 67108864) = b1)
    (qb : rK (x / 67108864 % 67108864) = k2 ∧ rI (x / 67108864 % 67108864) = i2 ∧ rR (x / 67108864 % 67108864) = r2 ∧ rG (x / 67108864 % 67108864) = g2 ∧ rBl (x / 67108864 % 67108864) = b2) (qf : x / 4503599627370496 % 256 = f) (hv : (rP k1 i1 r1 g1 b1 k2 i2 r2 g2 b2 f == x) = v) :
    Calls Tryd.prog 34 #[.int .u64 x] w (Ret (.tuple #[.agg #[.int .i64 k1, .int .u8 i1, .int .u8 r1, .int .u8 g1, .int .u8 b1, .int .i64 k2, .int .u8 i2, .int .u8 r2, .int .u8 g2, .int .u8 b2, .int .u8 f], .bool v]) w) := by
  have bd : ∀ y : Int, (0 ≤ rI y ∧ rI y ≤ 255) ∧ (0 ≤ rR y ∧ rR y ≤ 255) ∧ (0 ≤ rG y ∧ rG y ≤ 255) ∧ (0 ≤ rBl y ∧ rBl y ≤ 255) := fun y => by
    refine ⟨⟨?_, ?_⟩, ⟨?_, ?_⟩, ⟨?_, ?_⟩, ⟨?_, ?_⟩⟩ <;> (first | unfold rI | unfold rR | unfold rG | unfold rBl) <;> split <;> omega
  have ba := bd (x % 67108864)
  have bb := bd (x / 67108864 % 67108864)
  rw [qa.2.1, qa.2.2.1, qa.2.2.2.1, qa.2.2.2.2] at ba
  rw [qb.2.1, qb.2.2.1, qb.2.2.2.1, qb.2.2.2.2] at bb
  have Hpk := Lib.hid (fun w : World => o_rpack_c k1 i1 r1 g1 b1 k2 i2 r2 g2 b2 f w ba.1 ba.2.1 ba.2.2.1 ba.2.2.2 bb.1 bb.2.1 bb.2.2.1 bb.2.2.2 (by omega))
  have Hc1 := Lib.hid (fun w : World => o_rcol_n (x % 67108864) k1 i1 r1 g1 b1 w (by omega) (by omega) qa)
  have Hc2 := Lib.hid (fun w : World => o_rcol_n (x / 67108864 % 67108864) k2 i2 r2 g2 b2 w (by omega) (by omega) qb)
  clear bd ba bb qa qb
  go_enter Tryd.func34, Tryd.ntmps34
  go_wp2_with fail
  refine (Hc1.out _).mono ?_
  rintro e w1 ⟨rfl, hb_w1⟩
  have hz_w1 := hb_w1.size
  have B0_w1 := hb_w1.block (w.heap.size) (by first | (simp only [hs_alloc, hs_set, hs_drew]; omega) | omega)
  (try simp only [hs_alloc, hs_set, hs_drew] at hz_w1)
  simp (disch := omega) only [hp_alloc, hp_set, hp_drew, hs_alloc, hs_set, hs_drew, if_pos, if_neg, ↓reduceIte, Option.map_some, putO] at B0_w1
  obtain ⟨c0_w1, f0_w1⟩ := blk B0_w1
  have H0_w1 := Lib.hid B0_w1
  clear B0_w1
  have z0_w1 : w.heap.size < w1.heap.size := by omega
  have b_w1 : Below w.heap.size w w1 := bw_call (by repeat (first | with_reducible refine bw_set ?_ (by omega) _ | with_reducible refine bw_alloc ?_ _ | with_reducible refine bw_drew ?_ | with_reducible assumption | with_reducible exact Below.refl _ _)) hb_w1
  clear hb_w1
  go_wp2_with fail
  refine (Hc2.out _).mono ?_
  rintro e w2 ⟨rfl, hb_w2⟩
  have hz_w2 := hb_w2.size
  have B0_w2 := hb_w2.block (w.heap.size) (by first | (simp only [hs_alloc, hs_set, hs_drew]; omega) | omega)
  (try simp only [hs_alloc, hs_set, hs_drew] at hz_w2)
  simp (disch := omega) only [hp_alloc, hp_set, hp_drew, hs_alloc, hs_set, hs_drew, if_pos, if_neg, ↓reduceIte, Option.map_some, putO, H0_w1.out] at B0_w2
  clear c0_w1 f0_w1 z0_w1
  obtain ⟨c0_w2, f0_w2⟩ := blk B0_w2
  have H0_w2 := Lib.hid B0_w2
  clear B0_w2
  have z0_w2 : w.heap.size < w2.heap.size := by omega
  have b_w2 : Below w.heap.size w w2 := bw_call (by repeat (first | with_reducible refine bw_set ?_ (by omega) _ | with_reducible refine bw_alloc ?_ _ | with_reducible refine bw_drew ?_ | with_reducible assumption | with_reducible exact Below.refl _ _)) hb_w2
  clear hb_w2
  go_wp2_with fail
  refine wp_gen ?_
  intro w3 hb_w3
  have hz_w3 := hb_w3.size
  have B0_w3 := hb_w3.block (w.heap.size) (by first | (simp only [hs_alloc, hs_set, hs_drew]; omega) | omega)
  have B1_w3 := hb_w3.block (w2.heap.size) (by first | (simp only [hs_alloc, hs_set, hs_drew]; omega) | omega)
  (try simp only [hs_alloc, hs_set, hs_drew] at hz_w3)
  simp (disch := omega) only [hp_alloc, hp_set, hp_drew, hs_alloc, hs_set, hs_drew, if_pos, if_neg, ↓reduceIte, Option.map_some, putO, H0_w2.out] at B0_w3 B1_w3
  clear c0_w2 f0_w2 z0_w2
  obtain ⟨c0_w3, f0_w3⟩ := blk B0_w3
  have H0_w3 := Lib.hid B0_w3
  clear B0_w3
  have z0_w3 : w.heap.size < w3.heap.size := by omega
  obtain ⟨c1_w3, f1_w3⟩ := blk B1_w3
  have H1_w3 := Lib.hid B1_w3
  clear B1_w3
  have z1_w3 : w2.heap.size < w3.heap.size := by omega
  have b_w3 : Below w.heap.size w w3 := bw_call (by repeat (first | with_reducible refine bw_set ?_ (by omega) _ | with_reducible refine bw_alloc ?_ _ | with_reducible refine bw_drew ?_ | with_reducible assumption | with_reducible exact Below.refl _ _)) hb_w3
  clear hb_w3
  go_region_with (go_at_call 32; refine (Hpk.out _).mono ?_; rintro e w4 ⟨rfl, hb4⟩; have d0 := fun o => (hb4.cell (p := ⟨w.heap.size, o, none⟩) (show w.heap.size < w3.heap.size from z0_w3)).trans (c0_w3 o); have d1 := fun o => (hb4.frozen (p := ⟨w.heap.size, o, none⟩) (show w.heap.size < w3.heap.size from z0_w3)).trans (f0_w3 o); have d2 := fun o => (hb4.cell (p := ⟨w2.heap.size, o, none⟩) (show w2.heap.size < w3.heap.size from z1_w3)).trans (c1_w3 o); have D0 := Lib.hid ((hb4.block w.heap.size (show w.heap.size < w3.heap.size from z0_w3)).trans H0_w3.out); have b_w4 : Below w.heap.size w w4 := bw_call (bw_drew b_w3) hb4; have hz4 : w3.heap.size ≤ w4.heap.size := hb4.size; clear hb4)
  all_goals (clear c0_w3 f0_w3 c1_w3 f1_w3)
  all_goals go_wp2
  all_goals (refine post_gen ?_; intro w9 hb9; have B9 := hb9.block w.heap.size (by first | (simp only [hs_alloc, hs_set, hs_drew]; omega) | omega); simp (disch := omega) only [hp_alloc, hp_set, hp_drew, hs_alloc, hs_set, hs_drew, if_pos, if_neg, ↓reduceIte, Option.map_some, putO, D0.out] at B9; have c9 := (blk B9).1; clear B9 d0 d1 d2; have b_w9 : Below w.heap.size w w9 := bw_call (by repeat (first | with_reducible refine bw_set ?_ (by omega) _ | with_reducible refine bw_alloc ?_ _ | with_reducible refine bw_drew ?_ | with_reducible assumption | with_reducible exact Below.refl _ _)) hb9; clear hb9; exact bodyPost_ret (v := .tuple #[.agg #[.int .i64 k1, .int .u8 i1, .int .u8 r1, .int .u8 g1, .int .u8 b1, .int .i64 k2, .int .u8 i2, .int .u8 r2, .int .u8 g2, .int .u8 b2, .int .u8 f], .bool v]) (by simp [results, Tryd.results34, go_sem, c9]) rfl ⟨rfl, b_w9⟩)


end Go.Proofs.YtfbkoflapamicaaDoor
