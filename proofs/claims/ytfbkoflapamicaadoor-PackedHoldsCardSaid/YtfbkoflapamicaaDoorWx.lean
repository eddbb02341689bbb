/-
  The walks of the words of pens. No condition.
-/
import Derived.Test.YtfbkoflapamicaaDoorBase
import Derived.Test.YtfbkoflapamicaaDoorWp
namespace Go.Proofs.YtfbkoflapamicaaDoor
open Go.RowKit
set_option linter.unusedSimpArgs false
set_option linter.unusedVariables false

theorem o_eqC (d : Nat) (k i r g b k' i' r' g' b' : Int) (w : World) : (Op.equalIn (d + 2) 25 (.agg #[.int .i64 k, .int .u8 i, .int .u8 r, .int .u8 g, .int .u8 b]) (.agg #[.int .i64 k', .int .u8 i', .int .u8 r', .int .u8 g', .int .u8 b'])).run Tryd.prog w = .ok (k == k' && (i == i' && (r == r' && (g == g' && b == b')))) w := by
  cases h1 : k == k' <;> cases h2 : i == i' <;> cases h3 : r == r' <;> cases h4 : g == g' <;> cases h5 : b == b' <;> simp [go_sem, part, h1, h2, h3, h4, h5]

set_option maxHeartbeats 400000 in
theorem o_pindex_c (n : Int) (w : World) : Calls Tryd.prog 53 #[.int .u8 n] w (Ret (.agg #[.int .i64 1, .int .u8 n, .int .u8 0, .int .u8 0, .int .u8 0]) w) := by
  go_enter Tryd.func53, Tryd.ntmps53
  go_wp2
  exact bodyPost_ret (v := .agg #[.int .i64 1, .int .u8 n, .int .u8 0, .int .u8 0, .int .u8 0]) (by simp [results, Tryd.results53, go_sem]) rfl ⟨rfl, by repeat (first | exact Below.refl _ _ | refine bw_alloc ?_ _ | refine bw_set ?_ (by omega) _)⟩
set_option maxHeartbeats 400000 in
theorem o_ptrue_c (r g b : Int) (w : World) : Calls Tryd.prog 54 #[.int .u8 r, .int .u8 g, .int .u8 b] w (Ret (.agg #[.int .i64 2, .int .u8 0, .int .u8 r, .int .u8 g, .int .u8 b]) w) := by
  go_enter Tryd.func54, Tryd.ntmps54
  go_wp2
  exact bodyPost_ret (v := .agg #[.int .i64 2, .int .u8 0, .int .u8 r, .int .u8 g, .int .u8 b]) (by simp [results, Tryd.results54, go_sem]) rfl ⟨rfl, by repeat (first | exact Below.refl _ _ | refine bw_alloc ?_ _ | refine bw_set ?_ (by omega) _)⟩
set_option maxHeartbeats 1000000 in
theorem o_validColor_c (k i r g b : Int) (w : World) : Calls Tryd.prog 51 #[.agg #[.int .i64 k, .int .u8 i, .int .u8 r, .int .u8 g, .int .u8 b]] w (Ret (.bool (vC k i r g b)) w) := by
  have heq := o_eqC
  have hk : k = 0 ∨ k = 1 ∨ k = 2 ∨ ¬ (k = 0 ∨ k = 1 ∨ k = 2) := by omega
  rcases hk with rfl | rfl | rfl | hk
  · go_enter Tryd.func51, Tryd.ntmps51
    go_wp2
    go_ret
    exact ⟨ret_bool (by simp [vC]), by repeat (first | exact Below.refl _ _ | refine bw_alloc ?_ _)⟩
  · skip
    go_enter Tryd.func51, Tryd.ntmps51
    go_wp2_with fail
    refine wp_gen ?_
    intro w1 hb_w1
    have hz_w1 := hb_w1.size
    have B0_w1 := hb_w1.block (w.heap.size) (by first | (simp only [hs_alloc, hs_set, hs_drew]; omega) | omega)
    (try simp only [hs_alloc, hs_set, hs_drew] at hz_w1)
    simp (disch := omega) only [hp_alloc, hp_set, hp_drew, hs_alloc, hs_set, hs_drew, if_pos, if_neg, ↓reduceIte, Option.map_some, putO] at B0_w1
    obtain ⟨c0_w1, f0_w1⟩ := blk B0_w1
    have H0_w1 := Lib.hid B0_w1
    clear B0_w1
    have z0_w1 : w.heap.size < w1.heap.size := by omega
    have b_w1 : Below w.heap.size w w1 := bw_call (by repeat (first | with_reducible refine bw_set ?_ (by omega) _ | with_reducible refine bw_alloc ?_ _ | with_reducible refine bw_drew ?_ | with_reducible assumption | with_reducible exact Below.refl _ _)) hb_w1
    clear hb_w1
    refine wp_region_cls (by kernel_rfl) (by kernel_rfl) ?_
    have q0_w1 := fun (n : Cls w1) (o : Nat) => (n.h.cell (p := ⟨w.heap.size, o, none⟩) (by first | (simp only [hs_alloc, hs_set, hs_drew]; omega) | omega)).trans (c0_w1 o)
    repeat (go_big_quiet_step ((first | (go_at_call 53; exact cls_of (o_pindex_c _ _)))))
    refine wpQuiet_nil ?_
    rintro w2 ⟨m_w2, hm_w2⟩
    have hb_w2 := m_w2.h
    rw [← hm_w2] at hb_w2
    clear hm_w2 m_w2
    clear q0_w1
    have hz_w2 := hb_w2.size
    have B0_w2 := hb_w2.block (w.heap.size) (by first | (simp only [hs_alloc, hs_set, hs_drew]; omega) | omega)
    (try simp only [hs_alloc, hs_set, hs_drew] at hz_w2)
    simp (disch := omega) only [hp_alloc, hp_set, hp_drew, hs_alloc, hs_set, hs_drew, if_pos, if_neg, ↓reduceIte, Option.map_some, putO, H0_w1.out] at B0_w2
    clear c0_w1 f0_w1 z0_w1
    obtain ⟨c0_w2, f0_w2⟩ := blk B0_w2
    have H0_w2 := Lib.hid B0_w2
    clear B0_w2
    have z0_w2 : w.heap.size < w2.heap.size := by omega
    have b_w2 : Below w.heap.size w w2 := bw_call (by repeat (first | with_reducible refine bw_set ?_ (by omega) _ | with_reducible refine bw_alloc ?_ _ | with_reducible refine bw_drew ?_ | with_reducible assumption | with_reducible exact Below.refl _ _)) hb_w2
    clear hb_w2
    go_wp2
    go_ret
    exact ⟨ret_bool (by simp [vC]), by repeat (first | with_reducible refine bw_set ?_ (by omega) _ | with_reducible refine bw_alloc ?_ _ | with_reducible refine bw_drew ?_ | with_reducible assumption | with_reducible exact Below.refl _ _)⟩
  · skip
    go_enter Tryd.func51, Tryd.ntmps51
    go_wp2_with fail
    refine wp_gen ?_
    intro w1 hb_w1
    have hz_w1 := hb_w1.size
    have B0_w1 := hb_w1.block (w.heap.size) (by first | (simp only [hs_alloc, hs_set, hs_drew]; omega) | omega)
    (try simp only [hs_alloc, hs_set, hs_drew] at hz_w1)
    simp (disch := omega) only [hp_alloc, hp_set, hp_drew, hs_alloc, hs_set, hs_drew, if_pos, if_neg, ↓reduceIte, Option.map_some, putO] at B0_w1
    obtain ⟨c0_w1, f0_w1⟩ := blk B0_w1
    have H0_w1 := Lib.hid B0_w1
    clear B0_w1
    have z0_w1 : w.heap.size < w1.heap.size := by omega
    have b_w1 : Below w.heap.size w w1 := bw_call (by repeat (first | with_reducible refine bw_set ?_ (by omega) _ | with_reducible refine bw_alloc ?_ _ | with_reducible refine bw_drew ?_ | with_reducible assumption | with_reducible exact Below.refl _ _)) hb_w1
    clear hb_w1
    refine wp_region_cls (by kernel_rfl) (by kernel_rfl) ?_
    have q0_w1 := fun (n : Cls w1) (o : Nat) => (n.h.cell (p := ⟨w.heap.size, o, none⟩) (by first | (simp only [hs_alloc, hs_set, hs_drew]; omega) | omega)).trans (c0_w1 o)
    repeat (go_big_quiet_step ((first | (go_at_call 54; exact cls_of (o_ptrue_c _ _ _ _)))))
    refine wpQuiet_nil ?_
    rintro w2 ⟨m_w2, hm_w2⟩
    have hb_w2 := m_w2.h
    rw [← hm_w2] at hb_w2
    clear hm_w2 m_w2
    clear q0_w1
    have hz_w2 := hb_w2.size
    have B0_w2 := hb_w2.block (w.heap.size) (by first | (simp only [hs_alloc, hs_set, hs_drew]; omega) | omega)
    (try simp only [hs_alloc, hs_set, hs_drew] at hz_w2)
    simp (disch := omega) only [hp_alloc, hp_set, hp_drew, hs_alloc, hs_set, hs_drew, if_pos, if_neg, ↓reduceIte, Option.map_some, putO, H0_w1.out] at B0_w2
    clear c0_w1 f0_w1 z0_w1
    obtain ⟨c0_w2, f0_w2⟩ := blk B0_w2
    have H0_w2 := Lib.hid B0_w2
    clear B0_w2
    have z0_w2 : w.heap.size < w2.heap.size := by omega
    have b_w2 : Below w.heap.size w w2 := bw_call (by repeat (first | with_reducible refine bw_set ?_ (by omega) _ | with_reducible refine bw_alloc ?_ _ | with_reducible refine bw_drew ?_ | with_reducible assumption | with_reducible exact Below.refl _ _)) hb_w2
    clear hb_w2
    go_wp2
    go_ret
    exact ⟨ret_bool (by simp [vC]), by repeat (first | with_reducible refine bw_set ?_ (by omega) _ | with_reducible refine bw_alloc ?_ _ | with_reducible refine bw_drew ?_ | with_reducible assumption | with_reducible exact Below.refl _ _)⟩
  · have h0 : (k == 0) = false := by simp; omega
    have h1 : (k == 1) = false := by simp; omega
    have h2 : (k == 2) = false := by simp; omega
    have HV := Lib.hid (show vC k i r g b = false by simp [vC, h0, h1, h2])
    clear hk
    go_enter Tryd.func51, Tryd.ntmps51
    go_wp2
    go_ret
    exact ⟨ret_bool HV.out.symm, by repeat (first | exact Below.refl _ _ | refine bw_alloc ?_ _)⟩


set_option maxHeartbeats 1000000 in
theorem o_valid_c (k1 i1 r1 g1 b1 k2 i2 r2 g2 b2 f : Int) (w : World) : Calls Tryd.prog 47 #[.agg #[.int .i64 k1, .int .u8 i1, .int .u8 r1, .int .u8 g1, .int .u8 b1, .int .i64 k2, .int .u8 i2, .int .u8 r2, .int .u8 g2, .int .u8 b2, .int .u8 f]] w (Ret (.bool (vP k1 i1 r1 g1 b1 k2 i2 r2 g2 b2 f)) w) := by
  cases h1 : vC k1 i1 r1 g1 b1 with
  | true =>
    have HV := Lib.hid (show vP k1 i1 r1 g1 b1 k2 i2 r2 g2 b2 f = vC k2 i2 r2 g2 b2 by simp [vP, h1])
    go_enter Tryd.func47, Tryd.ntmps47
    go_wp2_with fail
    refine (o_validColor_c _ _ _ _ _ _).mono ?_
    rintro e w1 ⟨rfl, hb_w1⟩
    have hz_w1 := hb_w1.size
    have B0_w1 := hb_w1.block (w.heap.size) (by first | (simp only [hs_alloc, hs_set, hs_drew]; omega) | omega)
    (try simp only [hs_alloc, hs_set, hs_drew] at hz_w1)
    simp (disch := omega) only [hp_alloc, hp_set, hp_drew, hs_alloc, hs_set, hs_drew, if_pos, if_neg, ↓reduceIte, Option.map_some, putO] at B0_w1
    obtain ⟨c0_w1, f0_w1⟩ := blk B0_w1
    have H0_w1 := Lib.hid B0_w1
    clear B0_w1
    have z0_w1 : w.heap.size < w1.heap.size := by omega
    have b_w1 : Below w.heap.size w w1 := bw_call (by repeat (first | with_reducible refine bw_set ?_ (by omega) _ | with_reducible refine bw_alloc ?_ _ | with_reducible refine bw_drew ?_ | with_reducible assumption | with_reducible exact Below.refl _ _)) hb_w1
    clear hb_w1
    rw [h1]
    go_wp2_with fail
    refine (o_validColor_c _ _ _ _ _ _).mono ?_
    rintro e w2 ⟨rfl, hb_w2⟩
    have hz_w2 := hb_w2.size
    have B0_w2 := hb_w2.block (w.heap.size) (by first | (simp only [hs_alloc, hs_set, hs_drew]; omega) | omega)
    (try simp only [hs_alloc, hs_set, hs_drew] at hz_w2)
    simp (disch := omega) only [hp_alloc, hp_set, hp_drew, hs_alloc, hs_set, hs_drew, if_pos, if_neg, ↓reduceIte, Option.map_some, putO, H0_w1.out] at B0_w2
    clear c0_w1 f0_w1 z0_w1
    obtain ⟨c0_w2, f0_w2⟩ := blk B0_w2
    have H0_w2 := Lib.hid B0_w2
    clear B0_w2
    have z0_w2 : w.heap.size < w2.heap.size := by omega
    have b_w2 : Below w.heap.size w w2 := bw_call (by repeat (first | with_reducible refine bw_set ?_ (by omega) _ | with_reducible refine bw_alloc ?_ _ | with_reducible refine bw_drew ?_ | with_reducible assumption | with_reducible exact Below.refl _ _)) hb_w2
    clear hb_w2
    go_wp2
    go_ret
    exact ⟨ret_bool HV.out.symm, by repeat (first | with_reducible refine bw_set ?_ (by omega) _ | with_reducible refine bw_alloc ?_ _ | with_reducible refine bw_drew ?_ | with_reducible assumption | with_reducible exact Below.refl _ _)⟩
  | false =>
    have HV := Lib.hid (show vP k1 i1 r1 g1 b1 k2 i2 r2 g2 b2 f = false by simp [vP, h1])
    go_enter Tryd.func47, Tryd.ntmps47
    go_wp2_with fail
    refine (o_validColor_c _ _ _ _ _ _).mono ?_
    rintro e w1 ⟨rfl, hb_w1⟩
    have hz_w1 := hb_w1.size
    have B0_w1 := hb_w1.block (w.heap.size) (by first | (simp only [hs_alloc, hs_set, hs_drew]; omega) | omega)
    (try simp only [hs_alloc, hs_set, hs_drew] at hz_w1)
    simp (disch := omega) only [hp_alloc, hp_set, hp_drew, hs_alloc, hs_set, hs_drew, if_pos, if_neg, ↓reduceIte, Option.map_some, putO] at B0_w1
    obtain ⟨c0_w1, f0_w1⟩ := blk B0_w1
    have H0_w1 := Lib.hid B0_w1
    clear B0_w1
    have z0_w1 : w.heap.size < w1.heap.size := by omega
    have b_w1 : Below w.heap.size w w1 := bw_call (by repeat (first | with_reducible refine bw_set ?_ (by omega) _ | with_reducible refine bw_alloc ?_ _ | with_reducible refine bw_drew ?_ | with_reducible assumption | with_reducible exact Below.refl _ _)) hb_w1
    clear hb_w1
    rw [h1]
    go_wp2
    go_ret
    exact ⟨ret_bool HV.out.symm, by repeat (first | with_reducible refine bw_set ?_ (by omega) _ | with_reducible refine bw_alloc ?_ _ | with_reducible refine bw_drew ?_ | with_reducible assumption | with_reducible exact Below.refl _ _)⟩

set_option maxHeartbeats 1000000 in
theorem o_bits_c (k i r g b : Int) (w : World) (hv : vC k i r g b = true) (hi : 0 ≤ i ∧ i ≤ 255) (hr : 0 ≤ r ∧ r ≤ 255) (hg : 0 ≤ g ∧ g ≤ 255) (hb : 0 ≤ b ∧ b ≤ 255) : Calls Tryd.prog 49 #[.agg #[.int .i64 k, .int .u8 i, .int .u8 r, .int .u8 g, .int .u8 b]] w (Ret (.int .u64 (bC k i r g b)) w) := by
  obtain ⟨hi0, hi1⟩ := hi
  obtain ⟨hr0, hr1⟩ := hr
  obtain ⟨hg0, hg1⟩ := hg
  obtain ⟨hb0, hb1⟩ := hb
  have HV := Lib.hid (bits_val k i r g b hv hi0 hi1 hr0 hr1 hg0 hg1 hb0 hb1)
  have hk : 0 ≤ k ∧ k ≤ 2 := by rcases (vC_iff k i r g b).1 hv with h | h | h <;> omega
  obtain ⟨hk0, hk2⟩ := hk
  clear hv
  go_enter Tryd.func49, Tryd.ntmps49
  go_wp2
  go_ret
  exact ⟨ret_int HV.out, bw_alloc (Below.refl _ _) _⟩
set_option maxHeartbeats 1000000 in
theorem o_color_c (x : Int) (w : World) (h0 : 0 ≤ x) (h1 : x < 67108864) : Calls Tryd.prog 50 #[.int .u64 x] w (Ret (.agg #[.int .i64 (cK x), .int .u8 (cI x), .int .u8 (cR x), .int .u8 (cG x), .int .u8 (cB x)]) w) := by
  by_cases hk : x / 16777216 = 1
  · have HR := Lib.hid (show (.agg #[.int .i64 (cK x), .int .u8 (cI x), .int .u8 (cR x), .int .u8 (cG x), .int .u8 (cB x)] : Value) = .agg #[.int .i64 (x / 16777216), .int .u8 (x % 256), .int .u8 (x / 65536 % 256), .int .u8 (x / 256 % 256), .int .u8 0] by simp [cK, cI, cR, cG, cB, hk])
    have hk' : (x / 16777216 == 1) = true := by simpa using hk
    clear hk
    go_enter Tryd.func50, Tryd.ntmps50
    go_wp2
    refine bodyPost_ret (v := .agg #[.int .i64 (x / 16777216), .int .u8 (x % 256), .int .u8 (x / 65536 % 256), .int .u8 (x / 256 % 256), .int .u8 0]) (by simp [results, Tryd.results50, go_sem]) rfl ⟨by rw [HR.out], by repeat (first | exact Below.refl _ _ | refine bw_alloc ?_ _ | refine bw_set ?_ (by omega) _)⟩
  · have HR := Lib.hid (show (.agg #[.int .i64 (cK x), .int .u8 (cI x), .int .u8 (cR x), .int .u8 (cG x), .int .u8 (cB x)] : Value) = .agg #[.int .i64 (x / 16777216), .int .u8 0, .int .u8 (x / 65536 % 256), .int .u8 (x / 256 % 256), .int .u8 (x % 256)] by simp [cK, cI, cR, cG, cB, hk])
    have hk' : (x / 16777216 == 1) = false := by simpa using hk
    clear hk
    go_enter Tryd.func50, Tryd.ntmps50
    go_wp2
    refine bodyPost_ret (v := .agg #[.int .i64 (x / 16777216), .int .u8 0, .int .u8 (x / 65536 % 256), .int .u8 (x / 256 % 256), .int .u8 (x % 256)]) (by simp [results, Tryd.results50, go_sem]) rfl ⟨by rw [HR.out], by repeat (first | exact Below.refl _ _ | refine bw_alloc ?_ _ | refine bw_set ?_ (by omega) _)⟩

theorem o_ret_u2 {k l : IntKind} {a b c d : Int} (h : a = c) (h' : b = d) : Ending.returned (.tuple #[.int k a, .int l b]) = .returned (.tuple #[.int k c, .int l d]) := by rw [h, h']
theorem o_valid_n (k1 i1 r1 g1 b1 k2 i2 r2 g2 b2 f : Int) (v : Bool) (w : World) (q : vP k1 i1 r1 g1 b1 k2 i2 r2 g2 b2 f = v) : Calls Tryd.prog 47 #[.agg #[.int .i64 k1, .int .u8 i1, .int .u8 r1, .int .u8 g1, .int .u8 b1, .int .i64 k2, .int .u8 i2, .int .u8 r2, .int .u8 g2, .int .u8 b2, .int .u8 f]] w (Ret (.bool v) w) := by
  subst q
  exact o_valid_c k1 i1 r1 g1 b1 k2 i2 r2 g2 b2 f w
set_option maxHeartbeats 1000000 in
theorem o_pack_no (k1 i1 r1 g1 b1 k2 i2 r2 g2 b2 f : Int) (w : World) (hv : vP k1 i1 r1 g1 b1 k2 i2 r2 g2 b2 f = false) : Calls Tryd.prog 38 #[.agg #[.int .i64 k1, .int .u8 i1, .int .u8 r1, .int .u8 g1, .int .u8 b1, .int .i64 k2, .int .u8 i2, .int .u8 r2, .int .u8 g2, .int .u8 b2, .int .u8 f]] w (Ret (.tuple #[.int .u64 0, .int .i64 2]) w) := by
  go_enter Tryd.func38, Tryd.ntmps38
  go_wp2_with fail
  refine (o_valid_n k1 i1 r1 g1 b1 k2 i2 r2 g2 b2 f false _ hv).mono ?_
  rintro e w1 ⟨rfl, hb_w1⟩
  have hz_w1 := hb_w1.size
  have B0_w1 := hb_w1.block (w.heap.size) (by first | (simp only [hs_alloc, hs_set, hs_drew]; omega) | omega)
  (try simp only [hs_alloc, hs_set, hs_drew] at hz_w1)
  simp (disch := omega) only [hp_alloc, hp_set, hp_drew, hs_alloc, hs_set, hs_drew, if_pos, if_neg, ↓reduceIte, Option.map_some, putO] at B0_w1
  obtain ⟨c0_w1, f0_w1⟩ := blk B0_w1
  have H0_w1 := Lib.hid B0_w1
  clear B0_w1
  have z0_w1 : w.heap.size < w1.heap.size := by omega
  have b_w1 : Below w.heap.size w w1 := bw_call (by repeat (first | with_reducible refine bw_set ?_ (by omega) _ | with_reducible refine bw_alloc ?_ _ | with_reducible refine bw_drew ?_ | with_reducible assumption | with_reducible exact Below.refl _ _)) hb_w1
  clear hb_w1
  go_wp2
  go_ret2
  exact ⟨rfl, by repeat (first | with_reducible refine bw_set ?_ (by omega) _ | with_reducible refine bw_alloc ?_ _ | with_reducible refine bw_drew ?_ | with_reducible assumption | with_reducible exact Below.refl _ _)⟩

theorem o_bits_h (k i r g b : Int) (w : World) (hv : Hid (vC k i r g b = true)) (hi : Hid (0 ≤ i ∧ i ≤ 255)) (hr : Hid (0 ≤ r ∧ r ≤ 255)) (hg : Hid (0 ≤ g ∧ g ≤ 255)) (hb : Hid (0 ≤ b ∧ b ≤ 255)) : Calls Tryd.prog 49 #[.agg #[.int .i64 k, .int .u8 i, .int .u8 r, .int .u8 g, .int .u8 b]] w (Ret (.int .u64 (bC k i r g b)) w) :=
  o_bits_c k i r g b w hv.out hi.out hr.out hg.out hb.out
set_option maxHeartbeats 1000000 in
theorem o_pack_yes (k1 i1 r1 g1 b1 k2 i2 r2 g2 b2 f : Int) (w : World) (hv : vP k1 i1 r1 g1 b1 k2 i2 r2 g2 b2 f = true) (hi1 : 0 ≤ i1 ∧ i1 ≤ 255) (hr1 : 0 ≤ r1 ∧ r1 ≤ 255) (hg1 : 0 ≤ g1 ∧ g1 ≤ 255) (hb1 : 0 ≤ b1 ∧ b1 ≤ 255) (hi2 : 0 ≤ i2 ∧ i2 ≤ 255) (hr2 : 0 ≤ r2 ∧ r2 ≤ 255) (hg2 : 0 ≤ g2 ∧ g2 ≤ 255) (hb2 : 0 ≤ b2 ∧ b2 ≤ 255) (hf : 0 ≤ f ∧ f ≤ 255) : Calls Tryd.prog 38 #[.agg #[.int .i64 k1, .int .u8 i1, .int .u8 r1, .int .u8 g1, .int .u8 b1, .int .i64 k2, .int .u8 i2, .int .u8 r2, .int .u8 g2, .int .u8 b2, .int .u8 f]] w (Ret (.tuple #[.int .u64 (wP k1 i1 r1 g1 b1 k2 i2 r2 g2 b2 f), .int .i64 0]) w) := by
  have hv2 : vC k1 i1 r1 g1 b1 = true ∧ vC k2 i2 r2 g2 b2 = true := by simpa [vP] using hv
  obtain ⟨x0, x1⟩ := bC_bd k1 i1 r1 g1 b1 hv2.1 hi1.1 hi1.2 hr1.1 hr1.2 hg1.1 hg1.2 hb1.1 hb1.2
  obtain ⟨y0, y1⟩ := bC_bd k2 i2 r2 g2 b2 hv2.2 hi2.1 hi2.2 hr2.1 hr2.2 hg2.1 hg2.2 hb2.1 hb2.2
  have Hw := Lib.hid (show bits .or .u64 (bits .or .u64 (bC k1 i1 r1 g1 b1) (bC k2 i2 r2 g2 b2 * 67108864)) (f * 4503599627370496) = wP k1 i1 r1 g1 b1 k2 i2 r2 g2 b2 f by rw [word_val _ _ f x0 x1 y0 y1 hf.1 hf.2, wP])
  obtain ⟨hf0, hf1⟩ := hf
  obtain ⟨va, vb⟩ := hv2
  have Hi1 := Lib.hid hi1
  have Hr1 := Lib.hid hr1
  have Hg1 := Lib.hid hg1
  have Hb1 := Lib.hid hb1
  have Hi2 := Lib.hid hi2
  have Hr2 := Lib.hid hr2
  have Hg2 := Lib.hid hg2
  have Hb2 := Lib.hid hb2
  have Va := Lib.hid va
  have Vb := Lib.hid vb
  clear hi1 hr1 hg1 hb1 hi2 hr2 hg2 hb2 va vb
  have e1 : IntKind.u64.wrap (bC k2 i2 r2 g2 b2 * 67108864) = bC k2 i2 r2 g2 b2 * 67108864 := wrap_u64_in _ (by omega) (by omega)
  have e2 : IntKind.u64.wrap (f * 4503599627370496) = f * 4503599627370496 := wrap_u64_in _ (by omega) (by omega)
  have e3 : IntKind.u64.wrap f = f := wrap_u64_in _ (by omega) (by omega)
  go_enter Tryd.func38, Tryd.ntmps38
  go_wp2_with fail
  refine (o_valid_n k1 i1 r1 g1 b1 k2 i2 r2 g2 b2 f true _ hv).mono ?_
  rintro e w1 ⟨rfl, hb_w1⟩
  have hz_w1 := hb_w1.size
  have B0_w1 := hb_w1.block (w.heap.size) (by first | (simp only [hs_alloc, hs_set, hs_drew]; omega) | omega)
  (try simp only [hs_alloc, hs_set, hs_drew] at hz_w1)
  simp (disch := omega) only [hp_alloc, hp_set, hp_drew, hs_alloc, hs_set, hs_drew, if_pos, if_neg, ↓reduceIte, Option.map_some, putO] at B0_w1
  obtain ⟨c0_w1, f0_w1⟩ := blk B0_w1
  have H0_w1 := Lib.hid B0_w1
  clear B0_w1
  have z0_w1 : w.heap.size < w1.heap.size := by omega
  have b_w1 : Below w.heap.size w w1 := bw_call (by repeat (first | with_reducible refine bw_set ?_ (by omega) _ | with_reducible refine bw_alloc ?_ _ | with_reducible refine bw_drew ?_ | with_reducible assumption | with_reducible exact Below.refl _ _)) hb_w1
  clear hb_w1
  go_wp2_with fail
  refine wp_gen ?_
  intro w2 hb_w2
  have hz_w2 := hb_w2.size
  have B0_w2 := hb_w2.block (w.heap.size) (by first | (simp only [hs_alloc, hs_set, hs_drew]; omega) | omega)
  (try simp only [hs_alloc, hs_set, hs_drew] at hz_w2)
  simp (disch := omega) only [hp_alloc, hp_set, hp_drew, hs_alloc, hs_set, hs_drew, if_pos, if_neg, ↓reduceIte, Option.map_some, putO, H0_w1.out] at B0_w2
  clear c0_w1 f0_w1 z0_w1
  obtain ⟨c0_w2, f0_w2⟩ := blk B0_w2
  have H0_w2 := Lib.hid B0_w2
  clear B0_w2
  have z0_w2 : w.heap.size < w2.heap.size := by omega
  have b_w2 : Below w.heap.size w w2 := bw_call (by repeat (first | with_reducible refine bw_set ?_ (by omega) _ | with_reducible refine bw_alloc ?_ _ | with_reducible refine bw_drew ?_ | with_reducible assumption | with_reducible exact Below.refl _ _)) hb_w2
  clear hb_w2
  refine wp_region_cls (by kernel_rfl) (by kernel_rfl) ?_
  have q0_w2 := fun (n : Cls w2) (o : Nat) => (n.h.cell (p := ⟨w.heap.size, o, none⟩) (by first | (simp only [hs_alloc, hs_set, hs_drew]; omega) | omega)).trans (c0_w2 o)
  repeat (go_big_quiet_step ((first | (go_at_call 49; exact cls_of (o_bits_h _ _ _ _ _ _ (by assumption) (by assumption) (by assumption) (by assumption) (by assumption))))))
  refine wpQuiet_nil ?_
  rintro w3 ⟨m_w3, hm_w3⟩
  have hb_w3 := m_w3.h
  rw [← hm_w3] at hb_w3
  clear hm_w3 m_w3
  clear q0_w2
  have hz_w3 := hb_w3.size
  have B0_w3 := hb_w3.block (w.heap.size) (by first | (simp only [hs_alloc, hs_set, hs_drew]; omega) | omega)
  (try simp only [hs_alloc, hs_set, hs_drew] at hz_w3)
  simp (disch := omega) only [hp_alloc, hp_set, hp_drew, hs_alloc, hs_set, hs_drew, if_pos, if_neg, ↓reduceIte, Option.map_some, putO, H0_w2.out] at B0_w3
  clear c0_w2 f0_w2 z0_w2
  obtain ⟨c0_w3, f0_w3⟩ := blk B0_w3
  have H0_w3 := Lib.hid B0_w3
  clear B0_w3
  have z0_w3 : w.heap.size < w3.heap.size := by omega
  have b_w3 : Below w.heap.size w w3 := bw_call (by repeat (first | with_reducible refine bw_set ?_ (by omega) _ | with_reducible refine bw_alloc ?_ _ | with_reducible refine bw_drew ?_ | with_reducible assumption | with_reducible exact Below.refl _ _)) hb_w3
  clear hb_w3
  go_wp2
  go_ret2
  refine ⟨o_ret_u2 Hw.out rfl, by repeat (first | with_reducible refine bw_set ?_ (by omega) _ | with_reducible refine bw_alloc ?_ _ | with_reducible refine bw_drew ?_ | with_reducible assumption | with_reducible exact Below.refl _ _)⟩



/-- the parts of a word -/
def o_Parts (x k1 i1 r1 g1 b1 k2 i2 r2 g2 b2 f : Int) : Prop := (cK (x % 67108864) = k1 ∧ cI (x % 67108864) = i1 ∧ cR (x % 67108864) = r1 ∧ cG (x % 67108864) = g1 ∧ cB (x % 67108864) = b1) ∧
  (cK (x / 67108864 % 67108864) = k2 ∧ cI (x / 67108864 % 67108864) = i2 ∧ cR (x / 67108864 % 67108864) = r2 ∧ cG (x / 67108864 % 67108864) = g2 ∧ cB (x / 67108864 % 67108864) = b2) ∧ x / 4503599627370496 % 256 = f
theorem o_color_n (x k i r g b : Int) (w : World) (h0 : 0 ≤ x) (h1 : x < 67108864) (q : cK x = k ∧ cI x = i ∧ cR x = r ∧ cG x = g ∧ cB x = b) : Calls Tryd.prog 50 #[.int .u64 x] w (Ret (.agg #[.int .i64 k, .int .u8 i, .int .u8 r, .int .u8 g, .int .u8 b]) w) := by
  obtain ⟨rfl, rfl, rfl, rfl, rfl⟩ := q
  exact o_color_c x w h0 h1

set_option maxRecDepth 100000 in
set_option maxHeartbeats 2000000 in
theorem o_unpack_yes (x k1 i1 r1 g1 b1 k2 i2 r2 g2 b2 f : Int) (w : World) (h0 : 0 ≤ x) (h1 : x < 18446744073709551616) (q : o_Parts x k1 i1 r1 g1 b1 k2 i2 r2 g2 b2 f) (hz : x < 1152921504606846976) (hv : vP k1 i1 r1 g1 b1 k2 i2 r2 g2 b2 f = true) : Calls Tryd.prog 45 #[.int .u64 x] w (Ret (.tuple #[.agg #[.int .i64 k1, .int .u8 i1, .int .u8 r1, .int .u8 g1, .int .u8 b1, .int .i64 k2, .int .u8 i2, .int .u8 r2, .int .u8 g2, .int .u8 b2, .int .u8 f], .int .i64 0]) w) := by
  have e1 := and_mask x h0 h1
  have e2 := and_mask (x / 67108864) (by omega) (by omega)
  obtain ⟨qa, qb, qf⟩ := q
  have Hc1 := Lib.hid (fun w : World => o_color_n (x % 67108864) k1 i1 r1 g1 b1 w (by omega) (by omega) qa)
  have Hc2 := Lib.hid (fun w : World => o_color_n (x / 67108864 % 67108864) k2 i2 r2 g2 b2 w (by omega) (by omega) qb)
  have Hv := Lib.hid hv
  replace qf : x / 4503599627370496 = f := by omega
  have hq : (x / 1152921504606846976 != 0) = false := by simp; omega
  clear hv qa qb
  go_enter Tryd.func45, Tryd.ntmps45
  go_wp2_with fail
  refine (Hc1.out _).mono ?_
  rintro e w1 ⟨rfl, hb_w1⟩
  have hz_w1 := hb_w1.size
  have B0_w1 := hb_w1.block (w.heap.size) (by first | (simp only [hs_alloc, hs_set, hs_drew]; omega) | omega)
  (try simp only [hs_alloc, hs_set, hs_drew] at hz_w1)
  simp (disch := omega) only [hp_alloc, hp_set, hp_drew, hs_alloc, hs_set, hs_drew, if_pos, if_neg, ↓reduceIte, Option.map_some, putO] at B0_w1
  obtain ⟨c0_w1, f0_w1⟩ := blk B0_w1
  have H0_w1 := Lib.hid B0_w1
  clear B0_w1
  have z0_w1 : w.heap.size < w1.heap.size := by omega
  have b_w1 : Below w.heap.size w w1 := bw_call (by repeat (first | with_reducible refine bw_set ?_ (by omega) _ | with_reducible refine bw_alloc ?_ _ | with_reducible refine bw_drew ?_ | with_reducible assumption | with_reducible exact Below.refl _ _)) hb_w1
  clear hb_w1
  go_wp2_with fail
  refine (Hc2.out _).mono ?_
  rintro e w2 ⟨rfl, hb_w2⟩
  have hz_w2 := hb_w2.size
  have B0_w2 := hb_w2.block (w.heap.size) (by first | (simp only [hs_alloc, hs_set, hs_drew]; omega) | omega)
  (try simp only [hs_alloc, hs_set, hs_drew] at hz_w2)
  simp (disch := omega) only [hp_alloc, hp_set, hp_drew, hs_alloc, hs_set, hs_drew, if_pos, if_neg, ↓reduceIte, Option.map_some, putO, H0_w1.out] at B0_w2
  clear c0_w1 f0_w1 z0_w1
  obtain ⟨c0_w2, f0_w2⟩ := blk B0_w2
  have H0_w2 := Lib.hid B0_w2
  clear B0_w2
  have z0_w2 : w.heap.size < w2.heap.size := by omega
  have b_w2 : Below w.heap.size w w2 := bw_call (by repeat (first | with_reducible refine bw_set ?_ (by omega) _ | with_reducible refine bw_alloc ?_ _ | with_reducible refine bw_drew ?_ | with_reducible assumption | with_reducible exact Below.refl _ _)) hb_w2
  clear hb_w2
  clear e1 e2
  go_wp2_with fail
  refine (o_valid_n k1 i1 r1 g1 b1 k2 i2 r2 g2 b2 f true _ Hv.out).mono ?_
  rintro e w3 ⟨rfl, hb_w3⟩
  have hz_w3 := hb_w3.size
  have B0_w3 := hb_w3.block (w.heap.size) (by first | (simp only [hs_alloc, hs_set, hs_drew]; omega) | omega)
  have B1_w3 := hb_w3.block (w2.heap.size) (by first | (simp only [hs_alloc, hs_set, hs_drew]; omega) | omega)
  (try simp only [hs_alloc, hs_set, hs_drew] at hz_w3)
  simp (disch := omega) only [hp_alloc, hp_set, hp_drew, hs_alloc, hs_set, hs_drew, if_pos, if_neg, ↓reduceIte, Option.map_some, putO, H0_w2.out] at B0_w3 B1_w3
  clear c0_w2 f0_w2 z0_w2
  obtain ⟨c0_w3, f0_w3⟩ := blk B0_w3
  have H0_w3 := Lib.hid B0_w3
  clear B0_w3
  have z0_w3 : w.heap.size < w3.heap.size := by omega
  obtain ⟨c1_w3, f1_w3⟩ := blk B1_w3
  have H1_w3 := Lib.hid B1_w3
  clear B1_w3
  have z1_w3 : w2.heap.size < w3.heap.size := by omega
  have b_w3 : Below w.heap.size w w3 := bw_call (by repeat (first | with_reducible refine bw_set ?_ (by omega) _ | with_reducible refine bw_alloc ?_ _ | with_reducible refine bw_drew ?_ | with_reducible assumption | with_reducible exact Below.refl _ _)) hb_w3
  clear hb_w3
  go_wp2
  refine post_gen ?_
  intro w9 hb_w9
  have hz_w9 := hb_w9.size
  have B0_w9 := hb_w9.block (w.heap.size) (by first | (simp only [hs_alloc, hs_set, hs_drew]; omega) | omega)
  (try simp only [hs_alloc, hs_set, hs_drew] at hz_w9)
  simp (disch := omega) only [hp_alloc, hp_set, hp_drew, hs_alloc, hs_set, hs_drew, if_pos, if_neg, ↓reduceIte, Option.map_some, putO, H0_w3.out, H1_w3.out] at B0_w9
  clear c0_w3 f0_w3 z0_w3 c1_w3 f1_w3 z1_w3
  obtain ⟨c0_w9, f0_w9⟩ := blk B0_w9
  have H0_w9 := Lib.hid B0_w9
  clear B0_w9
  have z0_w9 : w.heap.size < w9.heap.size := by omega
  have b_w9 : Below w.heap.size w w9 := bw_call (by repeat (first | with_reducible refine bw_set ?_ (by omega) _ | with_reducible refine bw_alloc ?_ _ | with_reducible refine bw_drew ?_ | with_reducible assumption | with_reducible exact Below.refl _ _)) hb_w9
  clear hb_w9
  refine bodyPost_ret (v := (.tuple #[.agg #[.int .i64 k1, .int .u8 i1, .int .u8 r1, .int .u8 g1, .int .u8 b1, .int .i64 k2, .int .u8 i2, .int .u8 r2, .int .u8 g2, .int .u8 b2, .int .u8 f], .int .i64 0])) (by simp [results, Tryd.results45, go_sem, c0_w9]) rfl ⟨rfl, by repeat (first | with_reducible refine bw_set ?_ (by omega) _ | with_reducible refine bw_alloc ?_ _ | with_reducible refine bw_drew ?_ | with_reducible assumption | with_reducible exact Below.refl _ _)⟩


set_option maxRecDepth 100000 in
set_option maxHeartbeats 2000000 in
theorem o_unpack_bad (x k1 i1 r1 g1 b1 k2 i2 r2 g2 b2 f : Int) (w : World) (h0 : 0 ≤ x) (h1 : x < 18446744073709551616) (q : o_Parts x k1 i1 r1 g1 b1 k2 i2 r2 g2 b2 f) (hz : x < 1152921504606846976) (hv : vP k1 i1 r1 g1 b1 k2 i2 r2 g2 b2 f = false) : Calls Tryd.prog 45 #[.int .u64 x] w (Ret (.tuple #[.agg #[.int .i64 0, .int .u8 0, .int .u8 0, .int .u8 0, .int .u8 0, .int .i64 0, .int .u8 0, .int .u8 0, .int .u8 0, .int .u8 0, .int .u8 0], .int .i64 12]) w) := by
  have e1 := and_mask x h0 h1
  have e2 := and_mask (x / 67108864) (by omega) (by omega)
  obtain ⟨qa, qb, qf⟩ := q
  have Hc1 := Lib.hid (fun w : World => o_color_n (x % 67108864) k1 i1 r1 g1 b1 w (by omega) (by omega) qa)
  have Hc2 := Lib.hid (fun w : World => o_color_n (x / 67108864 % 67108864) k2 i2 r2 g2 b2 w (by omega) (by omega) qb)
  have Hv := Lib.hid hv
  replace qf : x / 4503599627370496 = f := by omega
  have hq : (x / 1152921504606846976 != 0) = false := by simp; omega
  clear hv qa qb
  go_enter Tryd.func45, Tryd.ntmps45
  go_wp2_with fail
  refine (Hc1.out _).mono ?_
  rintro e w1 ⟨rfl, hb_w1⟩
  have hz_w1 := hb_w1.size
  have B0_w1 := hb_w1.block (w.heap.size) (by first | (simp only [hs_alloc, hs_set, hs_drew]; omega) | omega)
  (try simp only [hs_alloc, hs_set, hs_drew] at hz_w1)
  simp (disch := omega) only [hp_alloc, hp_set, hp_drew, hs_alloc, hs_set, hs_drew, if_pos, if_neg, ↓reduceIte, Option.map_some, putO] at B0_w1
  obtain ⟨c0_w1, f0_w1⟩ := blk B0_w1
  have H0_w1 := Lib.hid B0_w1
  clear B0_w1
  have z0_w1 : w.heap.size < w1.heap.size := by omega
  have b_w1 : Below w.heap.size w w1 := bw_call (by repeat (first | with_reducible refine bw_set ?_ (by omega) _ | with_reducible refine bw_alloc ?_ _ | with_reducible refine bw_drew ?_ | with_reducible assumption | with_reducible exact Below.refl _ _)) hb_w1
  clear hb_w1
  go_wp2_with fail
  refine (Hc2.out _).mono ?_
  rintro e w2 ⟨rfl, hb_w2⟩
  have hz_w2 := hb_w2.size
  have B0_w2 := hb_w2.block (w.heap.size) (by first | (simp only [hs_alloc, hs_set, hs_drew]; omega) | omega)
  (try simp only [hs_alloc, hs_set, hs_drew] at hz_w2)
  simp (disch := omega) only [hp_alloc, hp_set, hp_drew, hs_alloc, hs_set, hs_drew, if_pos, if_neg, ↓reduceIte, Option.map_some, putO, H0_w1.out] at B0_w2
  clear c0_w1 f0_w1 z0_w1
  obtain ⟨c0_w2, f0_w2⟩ := blk B0_w2
  have H0_w2 := Lib.hid B0_w2
  clear B0_w2
  have z0_w2 : w.heap.size < w2.heap.size := by omega
  have b_w2 : Below w.heap.size w w2 := bw_call (by repeat (first | with_reducible refine bw_set ?_ (by omega) _ | with_reducible refine bw_alloc ?_ _ | with_reducible refine bw_drew ?_ | with_reducible assumption | with_reducible exact Below.refl _ _)) hb_w2
  clear hb_w2
  clear e1 e2
  go_wp2_with fail
  refine (o_valid_n k1 i1 r1 g1 b1 k2 i2 r2 g2 b2 f false _ Hv.out).mono ?_
  rintro e w3 ⟨rfl, hb_w3⟩
  have hz_w3 := hb_w3.size
  have B0_w3 := hb_w3.block (w.heap.size) (by first | (simp only [hs_alloc, hs_set, hs_drew]; omega) | omega)
  have B1_w3 := hb_w3.block (w2.heap.size) (by first | (simp only [hs_alloc, hs_set, hs_drew]; omega) | omega)
  (try simp only [hs_alloc, hs_set, hs_drew] at hz_w3)
  simp (disch := omega) only [hp_alloc, hp_set, hp_drew, hs_alloc, hs_set, hs_drew, if_pos, if_neg, ↓reduceIte, Option.map_some, putO, H0_w2.out] at B0_w3 B1_w3
  clear c0_w2 f0_w2 z0_w2
  obtain ⟨c0_w3, f0_w3⟩ := blk B0_w3
  have H0_w3 := Lib.hid B0_w3
  clear B0_w3
  have z0_w3 : w.heap.size < w3.heap.size := by omega
  obtain ⟨c1_w3, f1_w3⟩ := blk B1_w3
  have H1_w3 := Lib.hid B1_w3
  clear B1_w3
  have z1_w3 : w2.heap.size < w3.heap.size := by omega
  have b_w3 : Below w.heap.size w w3 := bw_call (by repeat (first | with_reducible refine bw_set ?_ (by omega) _ | with_reducible refine bw_alloc ?_ _ | with_reducible refine bw_drew ?_ | with_reducible assumption | with_reducible exact Below.refl _ _)) hb_w3
  clear hb_w3
  go_wp2
  refine post_gen ?_
  intro w9 hb_w9
  have hz_w9 := hb_w9.size
  have B0_w9 := hb_w9.block (w.heap.size) (by first | (simp only [hs_alloc, hs_set, hs_drew]; omega) | omega)
  (try simp only [hs_alloc, hs_set, hs_drew] at hz_w9)
  simp (disch := omega) only [hp_alloc, hp_set, hp_drew, hs_alloc, hs_set, hs_drew, if_pos, if_neg, ↓reduceIte, Option.map_some, putO, H0_w3.out, H1_w3.out] at B0_w9
  clear c0_w3 f0_w3 z0_w3 c1_w3 f1_w3 z1_w3
  obtain ⟨c0_w9, f0_w9⟩ := blk B0_w9
  have H0_w9 := Lib.hid B0_w9
  clear B0_w9
  have z0_w9 : w.heap.size < w9.heap.size := by omega
  have b_w9 : Below w.heap.size w w9 := bw_call (by repeat (first | with_reducible refine bw_set ?_ (by omega) _ | with_reducible refine bw_alloc ?_ _ | with_reducible refine bw_drew ?_ | with_reducible assumption | with_reducible exact Below.refl _ _)) hb_w9
  clear hb_w9
  refine bodyPost_ret (v := (.tuple #[.agg #[.int .i64 0, .int .u8 0, .int .u8 0, .int .u8 0, .int .u8 0, .int .i64 0, .int .u8 0, .int .u8 0, .int .u8 0, .int .u8 0, .int .u8 0], .int .i64 12])) (by simp [results, Tryd.results45, go_sem, c0_w9]) rfl ⟨rfl, by repeat (first | with_reducible refine bw_set ?_ (by omega) _ | with_reducible refine bw_alloc ?_ _ | with_reducible refine bw_drew ?_ | with_reducible assumption | with_reducible exact Below.refl _ _)⟩


set_option maxRecDepth 100000 in
set_option maxHeartbeats 2000000 in
theorem o_unpack_big (x k1 i1 r1 g1 b1 k2 i2 r2 g2 b2 f : Int) (w : World) (h0 : 0 ≤ x) (h1 : x < 18446744073709551616) (q : o_Parts x k1 i1 r1 g1 b1 k2 i2 r2 g2 b2 f) (hz : 1152921504606846976 ≤ x) : Calls Tryd.prog 45 #[.int .u64 x] w (Ret (.tuple #[.agg #[.int .i64 0, .int .u8 0, .int .u8 0, .int .u8 0, .int .u8 0, .int .i64 0, .int .u8 0, .int .u8 0, .int .u8 0, .int .u8 0, .int .u8 0], .int .i64 12]) w) := by
  have e1 := and_mask x h0 h1
  have e2 := and_mask (x / 67108864) (by omega) (by omega)
  obtain ⟨qa, qb, qf⟩ := q
  have Hc1 := Lib.hid (fun w : World => o_color_n (x % 67108864) k1 i1 r1 g1 b1 w (by omega) (by omega) qa)
  have Hc2 := Lib.hid (fun w : World => o_color_n (x / 67108864 % 67108864) k2 i2 r2 g2 b2 w (by omega) (by omega) qb)
  skip
  skip
  have hq : (x / 1152921504606846976 != 0) = true := by simp; omega
  clear qa qb
  go_enter Tryd.func45, Tryd.ntmps45
  go_wp2_with fail
  refine (Hc1.out _).mono ?_
  rintro e w1 ⟨rfl, hb_w1⟩
  have hz_w1 := hb_w1.size
  have B0_w1 := hb_w1.block (w.heap.size) (by first | (simp only [hs_alloc, hs_set, hs_drew]; omega) | omega)
  (try simp only [hs_alloc, hs_set, hs_drew] at hz_w1)
  simp (disch := omega) only [hp_alloc, hp_set, hp_drew, hs_alloc, hs_set, hs_drew, if_pos, if_neg, ↓reduceIte, Option.map_some, putO] at B0_w1
  obtain ⟨c0_w1, f0_w1⟩ := blk B0_w1
  have H0_w1 := Lib.hid B0_w1
  clear B0_w1
  have z0_w1 : w.heap.size < w1.heap.size := by omega
  have b_w1 : Below w.heap.size w w1 := bw_call (by repeat (first | with_reducible refine bw_set ?_ (by omega) _ | with_reducible refine bw_alloc ?_ _ | with_reducible refine bw_drew ?_ | with_reducible assumption | with_reducible exact Below.refl _ _)) hb_w1
  clear hb_w1
  go_wp2_with fail
  refine (Hc2.out _).mono ?_
  rintro e w2 ⟨rfl, hb_w2⟩
  have hz_w2 := hb_w2.size
  have B0_w2 := hb_w2.block (w.heap.size) (by first | (simp only [hs_alloc, hs_set, hs_drew]; omega) | omega)
  (try simp only [hs_alloc, hs_set, hs_drew] at hz_w2)
  simp (disch := omega) only [hp_alloc, hp_set, hp_drew, hs_alloc, hs_set, hs_drew, if_pos, if_neg, ↓reduceIte, Option.map_some, putO, H0_w1.out] at B0_w2
  clear c0_w1 f0_w1 z0_w1
  obtain ⟨c0_w2, f0_w2⟩ := blk B0_w2
  have H0_w2 := Lib.hid B0_w2
  clear B0_w2
  have z0_w2 : w.heap.size < w2.heap.size := by omega
  have b_w2 : Below w.heap.size w w2 := bw_call (by repeat (first | with_reducible refine bw_set ?_ (by omega) _ | with_reducible refine bw_alloc ?_ _ | with_reducible refine bw_drew ?_ | with_reducible assumption | with_reducible exact Below.refl _ _)) hb_w2
  clear hb_w2
  clear e1 e2
  go_wp2
  refine post_gen ?_
  intro w9 hb_w9
  have hz_w9 := hb_w9.size
  have B0_w9 := hb_w9.block (w.heap.size) (by first | (simp only [hs_alloc, hs_set, hs_drew]; omega) | omega)
  (try simp only [hs_alloc, hs_set, hs_drew] at hz_w9)
  simp (disch := omega) only [hp_alloc, hp_set, hp_drew, hs_alloc, hs_set, hs_drew, if_pos, if_neg, ↓reduceIte, Option.map_some, putO, H0_w2.out] at B0_w9
  clear c0_w2 f0_w2 z0_w2
  obtain ⟨c0_w9, f0_w9⟩ := blk B0_w9
  have H0_w9 := Lib.hid B0_w9
  clear B0_w9
  have z0_w9 : w.heap.size < w9.heap.size := by omega
  have b_w9 : Below w.heap.size w w9 := bw_call (by repeat (first | with_reducible refine bw_set ?_ (by omega) _ | with_reducible refine bw_alloc ?_ _ | with_reducible refine bw_drew ?_ | with_reducible assumption | with_reducible exact Below.refl _ _)) hb_w9
  clear hb_w9
  refine bodyPost_ret (v := (.tuple #[.agg #[.int .i64 0, .int .u8 0, .int .u8 0, .int .u8 0, .int .u8 0, .int .i64 0, .int .u8 0, .int .u8 0, .int .u8 0, .int .u8 0, .int .u8 0], .int .i64 12])) (by simp [results, Tryd.results45, go_sem, c0_w9]) rfl ⟨rfl, by repeat (first | with_reducible refine bw_set ?_ (by omega) _ | with_reducible refine bw_alloc ?_ _ | with_reducible refine bw_drew ?_ | with_reducible assumption | with_reducible exact Below.refl _ _)⟩


end Go.Proofs.YtfbkoflapamicaaDoor
