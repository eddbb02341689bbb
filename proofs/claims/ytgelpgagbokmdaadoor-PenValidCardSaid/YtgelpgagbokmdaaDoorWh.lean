/-
  Three laws return true, whatever they are called with. Condition: the package-level table holds what it was laid with.
-/
import Derived.Test.YtgelpgagbokmdaaDoorWb
import Derived.Test.YtgelpgagbokmdaaDoorWg
namespace Go.Proofs.YtgelpgagbokmdaaDoor
open Go.RowKit
set_option linter.unusedSimpArgs false
set_option linter.unusedVariables false

theorem rvalid_n (k1 i1 r1 g1 b1 k2 i2 r2 g2 b2 f : Int) (v : Bool) (w : World) (q : vP k1 i1 r1 g1 b1 k2 i2 r2 g2 b2 f = v) : Calls Tryd.prog 11 #[.agg #[.int .i64 k1, .int .u8 i1, .int .u8 r1, .int .u8 g1, .int .u8 b1, .int .i64 k2, .int .u8 i2, .int .u8 r2, .int .u8 g2, .int .u8 b2, .int .u8 f]] w (Ret (.bool v) w) := by
  subst q
  exact rvalid_c k1 i1 r1 g1 b1 k2 i2 r2 g2 b2 f w
set_option maxHeartbeats 1000000 in
theorem colors_ok (n r g b : Int) (w : World) (L : Laid w) : Calls Tryd.prog 4 #[.int .u8 n, .int .u8 r, .int .u8 g, .int .u8 b] w (Ret (.bool true) w) := by
  have heq := eqC
  go_enter Tryd.func4, Tryd.ntmps4
  go_wp2_with fail
  refine (pindex_c _ _).mono ?_
  rintro e w1 ⟨rfl, hb_w1⟩
  have hz_w1 := hb_w1.size
  (try simp only [hs_alloc, hs_set, hs_drew] at hz_w1)
  have b_w1 : Below w.heap.size w w1 := bw_call (by repeat (first | with_reducible refine bw_set ?_ (by omega) _ | with_reducible refine bw_alloc ?_ _ | with_reducible refine bw_drew ?_ | with_reducible assumption | with_reducible exact Below.refl _ _)) hb_w1
  clear hb_w1
  go_wp2_with fail
  refine (ptrue_c _ _ _ _).mono ?_
  rintro e w2 ⟨rfl, hb_w2⟩
  have hz_w2 := hb_w2.size
  (try simp only [hs_alloc, hs_set, hs_drew] at hz_w2)
  have b_w2 : Below w.heap.size w w2 := bw_call (by repeat (first | with_reducible refine bw_set ?_ (by omega) _ | with_reducible refine bw_alloc ?_ _ | with_reducible refine bw_drew ?_ | with_reducible assumption | with_reducible exact Below.refl _ _)) hb_w2
  clear hb_w2
  go_wp2_with fail
  refine (known_ok _ (L.below (by repeat (first | with_reducible refine bw_set ?_ (by omega) _ | with_reducible refine bw_alloc ?_ _ | with_reducible refine bw_drew ?_ | with_reducible assumption | with_reducible exact Below.refl _ _)))).mono ?_
  rintro e w3 ⟨rfl, hb_w3⟩
  have hz_w3 := hb_w3.size
  (try simp only [hs_alloc, hs_set, hs_drew] at hz_w3)
  have b_w3 : Below w.heap.size w w3 := bw_call (by repeat (first | with_reducible refine bw_set ?_ (by omega) _ | with_reducible refine bw_alloc ?_ _ | with_reducible refine bw_drew ?_ | with_reducible assumption | with_reducible exact Below.refl _ _)) hb_w3
  clear hb_w3
  go_wp2
  go_ret
  exact ⟨rfl, by repeat (first | with_reducible refine bw_set ?_ (by omega) _ | with_reducible refine bw_alloc ?_ _ | with_reducible refine bw_drew ?_ | with_reducible assumption | with_reducible exact Below.refl _ _)⟩

set_option maxRecDepth 100000 in
set_option maxHeartbeats 4000000 in
theorem penValid_ok (k1 i1 r1 g1 b1 k2 i2 r2 g2 b2 f : Int) (w : World) (L : Laid w) (hB : Bytes k1 i1 r1 g1 b1 k2 i2 r2 g2 b2 f) : Calls Tryd.prog 3 #[.agg #[.int .i64 k1, .int .u8 i1, .int .u8 r1, .int .u8 g1, .int .u8 b1, .int .i64 k2, .int .u8 i2, .int .u8 r2, .int .u8 g2, .int .u8 b2, .int .u8 f]] w (Ret (.bool true) w) := by
  cases hv : vP k1 i1 r1 g1 b1 k2 i2 r2 g2 b2 f with
  | false =>
    have HV := Lib.hid hv
    clear hv hB
    go_enter Tryd.func3, Tryd.ntmps3
    go_wp2_with fail
    refine wp_gen ?_
    intro w1 hb_w1
    have hz_w1 := hb_w1.size
    have B0_w1 := hb_w1.block (w.heap.size) (by first | (simp only [hs_alloc, hs_set, hs_drew]; omega) | omega)
    (try simp only [hs_alloc, hs_set, hs_drew] at hz_w1)
    simp (disch := omega) only [hp_alloc, hp_set, hp_drew, hs_alloc, hs_set, hs_drew, if_pos, if_neg, ↓reduceIte, Option.map_some, putO] at B0_w1
    obtain ⟨c0_w1, f0_w1⟩ := blk B0_w1
    have H0_w1 := Lib.hid B0_w1
    clear B0_w1
    have z0_w1 : w.heap.size < w1.heap.size := by omega
    have b_w1 : Below w.heap.size w w1 := bw_call (by repeat (first | with_reducible refine bw_set ?_ (by omega) _ | with_reducible refine bw_alloc ?_ _ | with_reducible refine bw_drew ?_ | with_reducible assumption | with_reducible exact Below.refl _ _)) hb_w1
    clear hb_w1
    refine wp_region_cls (by kernel_rfl) (by kernel_rfl) ?_
    have q0_w1 := fun (n : Cls w1) (o : Nat) => (n.h.cell (p := ⟨w.heap.size, o, none⟩) (by first | (simp only [hs_alloc, hs_set, hs_drew]; omega) | omega)).trans (c0_w1 o)
    repeat (go_big_quiet_step ((first | (go_at_call 8; exact cls_of (validColor_c _ _ _ _ _ _)) | (go_at_call 9; exact cls_of (rcolor_c _ _ _ _ _ _)) | (go_at_call 10; exact cls_of (valid_c k1 i1 r1 g1 b1 k2 i2 r2 g2 b2 f _)) | (go_at_call 11; exact cls_of (rvalid_c k1 i1 r1 g1 b1 k2 i2 r2 g2 b2 f _)))))
    refine wpQuiet_nil ?_
    rintro w2 ⟨m_w2, hm_w2⟩
    have hb_w2 := m_w2.h
    rw [← hm_w2] at hb_w2
    clear hm_w2 m_w2
    clear q0_w1
    have hz_w2 := hb_w2.size
    have B0_w2 := hb_w2.block (w.heap.size) (by first | (simp only [hs_alloc, hs_set, hs_drew]; omega) | omega)
    (try simp only [hs_alloc, hs_set, hs_drew] at hz_w2)
    simp (disch := omega) only [hp_alloc, hp_set, hp_drew, hs_alloc, hs_set, hs_drew, if_pos, if_neg, ↓reduceIte, Option.map_some, putO, H0_w1.out] at B0_w2
    clear c0_w1 f0_w1 z0_w1
    obtain ⟨c0_w2, f0_w2⟩ := blk B0_w2
    have H0_w2 := Lib.hid B0_w2
    clear B0_w2
    have z0_w2 : w.heap.size < w2.heap.size := by omega
    have b_w2 : Below w.heap.size w w2 := bw_call (by repeat (first | with_reducible refine bw_set ?_ (by omega) _ | with_reducible refine bw_alloc ?_ _ | with_reducible refine bw_drew ?_ | with_reducible assumption | with_reducible exact Below.refl _ _)) hb_w2
    clear hb_w2
    go_wp2_with fail
    refine (rvalid_n k1 i1 r1 g1 b1 k2 i2 r2 g2 b2 f false _ HV.out).mono ?_
    rintro e w3 ⟨rfl, hb_w3⟩
    have hz_w3 := hb_w3.size
    have B0_w3 := hb_w3.block (w.heap.size) (by first | (simp only [hs_alloc, hs_set, hs_drew]; omega) | omega)
    (try simp only [hs_alloc, hs_set, hs_drew] at hz_w3)
    simp (disch := omega) only [hp_alloc, hp_set, hp_drew, hs_alloc, hs_set, hs_drew, if_pos, if_neg, ↓reduceIte, Option.map_some, putO, H0_w2.out] at B0_w3
    clear c0_w2 f0_w2 z0_w2
    obtain ⟨c0_w3, f0_w3⟩ := blk B0_w3
    have H0_w3 := Lib.hid B0_w3
    clear B0_w3
    have z0_w3 : w.heap.size < w3.heap.size := by omega
    have b_w3 : Below w.heap.size w w3 := bw_call (by repeat (first | with_reducible refine bw_set ?_ (by omega) _ | with_reducible refine bw_alloc ?_ _ | with_reducible refine bw_drew ?_ | with_reducible assumption | with_reducible exact Below.refl _ _)) hb_w3
    clear hb_w3
    go_wp2_with fail
    refine (packs_of k1 i1 r1 g1 b1 k2 i2 r2 g2 b2 f 0 2 _ (Lib.hid fun w => pack_no k1 i1 r1 g1 b1 k2 i2 r2 g2 b2 f w HV.out)).mono ?_
    rintro e w4 ⟨rfl, hb_w4⟩
    have hz_w4 := hb_w4.size
    have B0_w4 := hb_w4.block (w.heap.size) (by first | (simp only [hs_alloc, hs_set, hs_drew]; omega) | omega)
    (try simp only [hs_alloc, hs_set, hs_drew] at hz_w4)
    simp (disch := omega) only [hp_alloc, hp_set, hp_drew, hs_alloc, hs_set, hs_drew, if_pos, if_neg, ↓reduceIte, Option.map_some, putO, H0_w3.out] at B0_w4
    clear c0_w3 f0_w3 z0_w3
    obtain ⟨c0_w4, f0_w4⟩ := blk B0_w4
    have H0_w4 := Lib.hid B0_w4
    clear B0_w4
    have z0_w4 : w.heap.size < w4.heap.size := by omega
    have b_w4 : Below w.heap.size w w4 := bw_call (by repeat (first | with_reducible refine bw_set ?_ (by omega) _ | with_reducible refine bw_alloc ?_ _ | with_reducible refine bw_drew ?_ | with_reducible assumption | with_reducible exact Below.refl _ _)) hb_w4
    clear hb_w4
    go_wp2_with fail
    refine (known_ok _ (L.below (by repeat (first | with_reducible refine bw_set ?_ (by omega) _ | with_reducible refine bw_alloc ?_ _ | with_reducible refine bw_drew ?_ | with_reducible assumption | with_reducible exact Below.refl _ _)))).mono ?_
    rintro e w5 ⟨rfl, hb_w5⟩
    have hz_w5 := hb_w5.size
    have B0_w5 := hb_w5.block (w.heap.size) (by first | (simp only [hs_alloc, hs_set, hs_drew]; omega) | omega)
    (try simp only [hs_alloc, hs_set, hs_drew] at hz_w5)
    simp (disch := omega) only [hp_alloc, hp_set, hp_drew, hs_alloc, hs_set, hs_drew, if_pos, if_neg, ↓reduceIte, Option.map_some, putO, H0_w4.out] at B0_w5
    clear c0_w4 f0_w4 z0_w4
    obtain ⟨c0_w5, f0_w5⟩ := blk B0_w5
    have H0_w5 := Lib.hid B0_w5
    clear B0_w5
    have z0_w5 : w.heap.size < w5.heap.size := by omega
    have b_w5 : Below w.heap.size w w5 := bw_call (by repeat (first | with_reducible refine bw_set ?_ (by omega) _ | with_reducible refine bw_alloc ?_ _ | with_reducible refine bw_drew ?_ | with_reducible assumption | with_reducible exact Below.refl _ _)) hb_w5
    clear hb_w5
    go_wp2
    go_ret
    exact ⟨rfl, by repeat (first | with_reducible refine bw_set ?_ (by omega) _ | with_reducible refine bw_alloc ?_ _ | with_reducible refine bw_drew ?_ | with_reducible assumption | with_reducible exact Below.refl _ _)⟩

  | true =>
    have HV := Lib.hid hv
    obtain ⟨⟨a1, a2, a3, a4⟩, ⟨c1, c2, c3, c4⟩, d⟩ := hB
    have hrp := rP_ok k1 i1 r1 g1 b1 k2 i2 r2 g2 b2 f hv
    obtain ⟨⟨p1, p2, p3⟩, p4, p5⟩ := parts_back k1 i1 r1 g1 b1 k2 i2 r2 g2 b2 f hv a1 a2 a3 a4 c1 c2 c3 c4 d
    have hv2 : vC k1 i1 r1 g1 b1 = true ∧ vC k2 i2 r2 g2 b2 = true := by simpa [vP] using hv
    obtain ⟨X, hX⟩ : ∃ X, wP k1 i1 r1 g1 b1 k2 i2 r2 g2 b2 f = X := ⟨_, rfl⟩
    have hpart : Parts X k1 i1 r1 g1 b1 k2 i2 r2 g2 b2 f := by
      rw [← hX]
      refine ⟨?_, ?_, p3⟩
      · rw [p1]; exact color_back _ _ _ _ _ hv2.1 a1 a2 a3 a4
      · rw [p2]; exact color_back _ _ _ _ _ hv2.2 c1 c2 c3 c4
    have Hrp := Lib.hid (fun w : World => (show Calls Tryd.prog 14 #[.agg #[.int .i64 k1, .int .u8 i1, .int .u8 r1, .int .u8 g1, .int .u8 b1, .int .i64 k2, .int .u8 i2, .int .u8 r2, .int .u8 g2, .int .u8 b2, .int .u8 f]] w (Ret (.int .u64 X) w) by have := rpack_c k1 i1 r1 g1 b1 k2 i2 r2 g2 b2 f w a1 a2 a3 a4 c1 c2 c3 c4 d; rwa [hrp, hX] at this))
    have Hps := Lib.hid (fun w : World => packs_of k1 i1 r1 g1 b1 k2 i2 r2 g2 b2 f X 0 w (Lib.hid fun w => pack_n k1 i1 r1 g1 b1 k2 i2 r2 g2 b2 f X w hv ⟨⟨a1, a2, a3, a4⟩, ⟨c1, c2, c3, c4⟩, d⟩ hX))
    rw [hX] at p4 p5
    have Hus := Lib.hid (fun w : World => unpacks_of k1 i1 r1 g1 b1 k2 i2 r2 g2 b2 f X 0 w (Lib.hid fun w => unpack_yes X k1 i1 r1 g1 b1 k2 i2 r2 g2 b2 f w p4 (by omega) hpart p5 hv))
    clear hv a1 a2 a3 a4 c1 c2 c3 c4 d hrp p1 p2 p3 p4 p5 hv2 hX hpart
    go_enter Tryd.func3, Tryd.ntmps3
    go_wp2_with fail
    refine wp_gen ?_
    intro w1 hb_w1
    have hz_w1 := hb_w1.size
    have B0_w1 := hb_w1.block (w.heap.size) (by first | (simp only [hs_alloc, hs_set, hs_drew]; omega) | omega)
    (try simp only [hs_alloc, hs_set, hs_drew] at hz_w1)
    simp (disch := omega) only [hp_alloc, hp_set, hp_drew, hs_alloc, hs_set, hs_drew, if_pos, if_neg, ↓reduceIte, Option.map_some, putO] at B0_w1
    obtain ⟨c0_w1, f0_w1⟩ := blk B0_w1
    have H0_w1 := Lib.hid B0_w1
    clear B0_w1
    have z0_w1 : w.heap.size < w1.heap.size := by omega
    have b_w1 : Below w.heap.size w w1 := bw_call (by repeat (first | with_reducible refine bw_set ?_ (by omega) _ | with_reducible refine bw_alloc ?_ _ | with_reducible refine bw_drew ?_ | with_reducible assumption | with_reducible exact Below.refl _ _)) hb_w1
    clear hb_w1
    refine wp_region_cls (by kernel_rfl) (by kernel_rfl) ?_
    have q0_w1 := fun (n : Cls w1) (o : Nat) => (n.h.cell (p := ⟨w.heap.size, o, none⟩) (by first | (simp only [hs_alloc, hs_set, hs_drew]; omega) | omega)).trans (c0_w1 o)
    repeat (go_big_quiet_step ((first | (go_at_call 8; exact cls_of (validColor_c _ _ _ _ _ _)) | (go_at_call 9; exact cls_of (rcolor_c _ _ _ _ _ _)) | (go_at_call 10; exact cls_of (valid_c k1 i1 r1 g1 b1 k2 i2 r2 g2 b2 f _)) | (go_at_call 11; exact cls_of (rvalid_c k1 i1 r1 g1 b1 k2 i2 r2 g2 b2 f _)))))
    refine wpQuiet_nil ?_
    rintro w2 ⟨m_w2, hm_w2⟩
    have hb_w2 := m_w2.h
    rw [← hm_w2] at hb_w2
    clear hm_w2 m_w2
    clear q0_w1
    have hz_w2 := hb_w2.size
    have B0_w2 := hb_w2.block (w.heap.size) (by first | (simp only [hs_alloc, hs_set, hs_drew]; omega) | omega)
    (try simp only [hs_alloc, hs_set, hs_drew] at hz_w2)
    simp (disch := omega) only [hp_alloc, hp_set, hp_drew, hs_alloc, hs_set, hs_drew, if_pos, if_neg, ↓reduceIte, Option.map_some, putO, H0_w1.out] at B0_w2
    clear c0_w1 f0_w1 z0_w1
    obtain ⟨c0_w2, f0_w2⟩ := blk B0_w2
    have H0_w2 := Lib.hid B0_w2
    clear B0_w2
    have z0_w2 : w.heap.size < w2.heap.size := by omega
    have b_w2 : Below w.heap.size w w2 := bw_call (by repeat (first | with_reducible refine bw_set ?_ (by omega) _ | with_reducible refine bw_alloc ?_ _ | with_reducible refine bw_drew ?_ | with_reducible assumption | with_reducible exact Below.refl _ _)) hb_w2
    clear hb_w2
    go_wp2_with fail
    refine (rvalid_n k1 i1 r1 g1 b1 k2 i2 r2 g2 b2 f true _ HV.out).mono ?_
    rintro e w3 ⟨rfl, hb_w3⟩
    have hz_w3 := hb_w3.size
    have B0_w3 := hb_w3.block (w.heap.size) (by first | (simp only [hs_alloc, hs_set, hs_drew]; omega) | omega)
    (try simp only [hs_alloc, hs_set, hs_drew] at hz_w3)
    simp (disch := omega) only [hp_alloc, hp_set, hp_drew, hs_alloc, hs_set, hs_drew, if_pos, if_neg, ↓reduceIte, Option.map_some, putO, H0_w2.out] at B0_w3
    clear c0_w2 f0_w2 z0_w2
    obtain ⟨c0_w3, f0_w3⟩ := blk B0_w3
    have H0_w3 := Lib.hid B0_w3
    clear B0_w3
    have z0_w3 : w.heap.size < w3.heap.size := by omega
    have b_w3 : Below w.heap.size w w3 := bw_call (by repeat (first | with_reducible refine bw_set ?_ (by omega) _ | with_reducible refine bw_alloc ?_ _ | with_reducible refine bw_drew ?_ | with_reducible assumption | with_reducible exact Below.refl _ _)) hb_w3
    clear hb_w3
    go_wp2_with fail
    refine wp_gen ?_
    intro w4 hb_w4
    have hz_w4 := hb_w4.size
    have B0_w4 := hb_w4.block (w.heap.size) (by first | (simp only [hs_alloc, hs_set, hs_drew]; omega) | omega)
    (try simp only [hs_alloc, hs_set, hs_drew] at hz_w4)
    simp (disch := omega) only [hp_alloc, hp_set, hp_drew, hs_alloc, hs_set, hs_drew, if_pos, if_neg, ↓reduceIte, Option.map_some, putO, H0_w3.out] at B0_w4
    clear c0_w3 f0_w3 z0_w3
    obtain ⟨c0_w4, f0_w4⟩ := blk B0_w4
    have H0_w4 := Lib.hid B0_w4
    clear B0_w4
    have z0_w4 : w.heap.size < w4.heap.size := by omega
    have b_w4 : Below w.heap.size w w4 := bw_call (by repeat (first | with_reducible refine bw_set ?_ (by omega) _ | with_reducible refine bw_alloc ?_ _ | with_reducible refine bw_drew ?_ | with_reducible assumption | with_reducible exact Below.refl _ _)) hb_w4
    clear hb_w4
    have L4 := Lib.hid (L.below b_w4)
    refine wp_region_cls (by kernel_rfl) (by kernel_rfl) ?_
    have q0_w4 := fun (n : Cls w4) (o : Nat) => (n.h.cell (p := ⟨w.heap.size, o, none⟩) (by first | (simp only [hs_alloc, hs_set, hs_drew]; omega) | omega)).trans (c0_w4 o)
    repeat (go_big_quiet_step ((first | (go_at_call 14; exact cls_of (Hrp.out _)) | (go_at_call 12; exact cls_of (Hps.out _)) | (go_at_call 15; exact cls_of (Hus.out _)) | (go_at_call 13; exact cls_of (known_ok _ (L4.out.below (Cls.h _)))))))
    refine wpQuiet_nil ?_
    rintro w5 ⟨m_w5, hm_w5⟩
    have hb_w5 := m_w5.h
    rw [← hm_w5] at hb_w5
    clear hm_w5 m_w5
    clear q0_w4
    have hz_w5 := hb_w5.size
    have B0_w5 := hb_w5.block (w.heap.size) (by first | (simp only [hs_alloc, hs_set, hs_drew]; omega) | omega)
    (try simp only [hs_alloc, hs_set, hs_drew] at hz_w5)
    simp (disch := omega) only [hp_alloc, hp_set, hp_drew, hs_alloc, hs_set, hs_drew, if_pos, if_neg, ↓reduceIte, Option.map_some, putO, H0_w4.out] at B0_w5
    clear c0_w4 f0_w4 z0_w4
    obtain ⟨c0_w5, f0_w5⟩ := blk B0_w5
    have H0_w5 := Lib.hid B0_w5
    clear B0_w5
    have z0_w5 : w.heap.size < w5.heap.size := by omega
    have b_w5 : Below w.heap.size w w5 := bw_call (by repeat (first | with_reducible refine bw_set ?_ (by omega) _ | with_reducible refine bw_alloc ?_ _ | with_reducible refine bw_drew ?_ | with_reducible assumption | with_reducible exact Below.refl _ _)) hb_w5
    clear hb_w5
    go_wp2
    go_ret
    exact ⟨rfl, by repeat (first | with_reducible refine bw_set ?_ (by omega) _ | with_reducible refine bw_alloc ?_ _ | with_reducible refine bw_drew ?_ | with_reducible assumption | with_reducible exact Below.refl _ _)⟩

set_option maxRecDepth 100000 in
set_option maxHeartbeats 4000000 in
theorem penWords_ok (x : Int) (w : World) (L : Laid w) (h0 : 0 ≤ x) (h1 : x < 18446744073709551616) : Calls Tryd.prog 5 #[.int .u64 x] w (Ret (.bool true) w) := by
  rcases words_law x h0 h1 with ⟨e1, e2, e3, ea, eb⟩ | ⟨e1, e2⟩
  · have bd : ∀ y : Int, (0 ≤ cI y ∧ cI y ≤ 255) ∧ (0 ≤ cR y ∧ cR y ≤ 255) ∧ (0 ≤ cG y ∧ cG y ≤ 255) ∧ (0 ≤ cB y ∧ cB y ≤ 255) := fun y => by
      refine ⟨⟨?_, ?_⟩, ⟨?_, ?_⟩, ⟨?_, ?_⟩, ⟨?_, ?_⟩⟩ <;> (first | unfold cI | unfold cR | unfold cG | unfold cB) <;> (try split) <;> omega
    have ba := bd (x % 67108864)
    have bb := bd (x / 67108864 % 67108864)
    clear bd
    rw [ea.1, ea.2.1, ea.2.2.1, ea.2.2.2.1, ea.2.2.2.2, eb.1, eb.2.1, eb.2.2.1, eb.2.2.2.1, eb.2.2.2.2] at e1
    have hfb : 0 ≤ (x / 4503599627370496 % 256) ∧ (x / 4503599627370496 % 256) ≤ 255 := by omega
    obtain ⟨k1, qk1⟩ : ∃ z, cK (x % 67108864) = z := ⟨_, rfl⟩
    obtain ⟨i1, qi1⟩ : ∃ z, cI (x % 67108864) = z := ⟨_, rfl⟩
    obtain ⟨r1, qr1⟩ : ∃ z, cR (x % 67108864) = z := ⟨_, rfl⟩
    obtain ⟨g1, qg1⟩ : ∃ z, cG (x % 67108864) = z := ⟨_, rfl⟩
    obtain ⟨b1, qb1⟩ : ∃ z, cB (x % 67108864) = z := ⟨_, rfl⟩
    obtain ⟨k2, qk2⟩ : ∃ z, cK (x / 67108864 % 67108864) = z := ⟨_, rfl⟩
    obtain ⟨i2, qi2⟩ : ∃ z, cI (x / 67108864 % 67108864) = z := ⟨_, rfl⟩
    obtain ⟨r2, qr2⟩ : ∃ z, cR (x / 67108864 % 67108864) = z := ⟨_, rfl⟩
    obtain ⟨g2, qg2⟩ : ∃ z, cG (x / 67108864 % 67108864) = z := ⟨_, rfl⟩
    obtain ⟨b2, qb2⟩ : ∃ z, cB (x / 67108864 % 67108864) = z := ⟨_, rfl⟩
    obtain ⟨f, qf⟩ : ∃ z, (x / 4503599627370496 % 256) = z := ⟨_, rfl⟩
    rw [qk1, qi1, qr1, qg1, qb1, qk2, qi2, qr2, qg2, qb2, qf] at e1
    rw [qk1, qi1, qr1, qg1, qb1, qk2, qi2, qr2, qg2, qb2, qf] at e3
    rw [qi1, qr1, qg1, qb1] at ba
    rw [qi2, qr2, qg2, qb2] at bb
    rw [qf] at hfb
    rw [qk1, qi1, qr1, qg1, qb1] at ea
    rw [qk2, qi2, qr2, qg2, qb2] at eb
    have e4 : wP k1 i1 r1 g1 b1 k2 i2 r2 g2 b2 f = x := by rw [← rP_ok k1 i1 r1 g1 b1 k2 i2 r2 g2 b2 f e3]; exact e1
    have Hr := Lib.hid (fun w : World => runpack_c x k1 i1 r1 g1 b1 k2 i2 r2 g2 b2 f true w h0 h1 ea eb qf (by rw [e1]; simp))
    have Hu := Lib.hid (fun w : World => unpacks_of k1 i1 r1 g1 b1 k2 i2 r2 g2 b2 f x 0 w (Lib.hid fun w => unpack_yes x k1 i1 r1 g1 b1 k2 i2 r2 g2 b2 f w h0 h1 ⟨⟨qk1, qi1, qr1, qg1, qb1⟩, ⟨qk2, qi2, qr2, qg2, qb2⟩, qf⟩ e2 e3))
    have Hp := Lib.hid (fun w : World => packs_of k1 i1 r1 g1 b1 k2 i2 r2 g2 b2 f x 0 w (Lib.hid fun w => pack_n k1 i1 r1 g1 b1 k2 i2 r2 g2 b2 f x w e3 ⟨ba, bb, hfb⟩ e4))
    clear e1 e2 e3 e4 ea eb ba bb hfb qk1 qi1 qr1 qg1 qb1 qk2 qi2 qr2 qg2 qb2 qf h0 h1
    go_enter Tryd.func5, Tryd.ntmps5
    go_wp2_with fail
    refine (Hr.out _).mono ?_
    rintro e w1 ⟨rfl, hb_w1⟩
    have hz_w1 := hb_w1.size
    (try simp only [hs_alloc, hs_set, hs_drew] at hz_w1)
    have b_w1 : Below w.heap.size w w1 := bw_call (by repeat (first | with_reducible refine bw_set ?_ (by omega) _ | with_reducible refine bw_alloc ?_ _ | with_reducible refine bw_drew ?_ | with_reducible assumption | with_reducible exact Below.refl _ _)) hb_w1
    clear hb_w1
    go_wp2_with fail
    refine (Hu.out _).mono ?_
    rintro e w2 ⟨rfl, hb_w2⟩
    have hz_w2 := hb_w2.size
    have B0_w2 := hb_w2.block (w1.heap.size) (by first | (simp only [hs_alloc, hs_set, hs_drew]; omega) | omega)
    (try simp only [hs_alloc, hs_set, hs_drew] at hz_w2)
    simp (disch := omega) only [hp_alloc, hp_set, hp_drew, hs_alloc, hs_set, hs_drew, if_pos, if_neg, ↓reduceIte, Option.map_some, putO] at B0_w2
    obtain ⟨c0_w2, f0_w2⟩ := blk B0_w2
    have H0_w2 := Lib.hid B0_w2
    clear B0_w2
    have z0_w2 : w1.heap.size < w2.heap.size := by omega
    have b_w2 : Below w.heap.size w w2 := bw_call (by repeat (first | with_reducible refine bw_set ?_ (by omega) _ | with_reducible refine bw_alloc ?_ _ | with_reducible refine bw_drew ?_ | with_reducible assumption | with_reducible exact Below.refl _ _)) hb_w2
    clear hb_w2
    go_wp2_with fail
    refine (Hp.out _).mono ?_
    rintro e w3 ⟨rfl, hb_w3⟩
    have hz_w3 := hb_w3.size
    have B0_w3 := hb_w3.block (w1.heap.size) (by first | (simp only [hs_alloc, hs_set, hs_drew]; omega) | omega)
    (try simp only [hs_alloc, hs_set, hs_drew] at hz_w3)
    simp (disch := omega) only [hp_alloc, hp_set, hp_drew, hs_alloc, hs_set, hs_drew, if_pos, if_neg, ↓reduceIte, Option.map_some, putO, H0_w2.out] at B0_w3
    clear c0_w2 f0_w2 z0_w2
    obtain ⟨c0_w3, f0_w3⟩ := blk B0_w3
    have H0_w3 := Lib.hid B0_w3
    clear B0_w3
    have z0_w3 : w1.heap.size < w3.heap.size := by omega
    have b_w3 : Below w.heap.size w w3 := bw_call (by repeat (first | with_reducible refine bw_set ?_ (by omega) _ | with_reducible refine bw_alloc ?_ _ | with_reducible refine bw_drew ?_ | with_reducible assumption | with_reducible exact Below.refl _ _)) hb_w3
    clear hb_w3
    go_wp2_with fail
    refine (known_ok _ (L.below (by repeat (first | with_reducible refine bw_set ?_ (by omega) _ | with_reducible refine bw_alloc ?_ _ | with_reducible refine bw_drew ?_ | with_reducible assumption | with_reducible exact Below.refl _ _)))).mono ?_
    rintro e w4 ⟨rfl, hb_w4⟩
    have hz_w4 := hb_w4.size
    have B0_w4 := hb_w4.block (w1.heap.size) (by first | (simp only [hs_alloc, hs_set, hs_drew]; omega) | omega)
    (try simp only [hs_alloc, hs_set, hs_drew] at hz_w4)
    simp (disch := omega) only [hp_alloc, hp_set, hp_drew, hs_alloc, hs_set, hs_drew, if_pos, if_neg, ↓reduceIte, Option.map_some, putO, H0_w3.out] at B0_w4
    clear c0_w3 f0_w3 z0_w3
    obtain ⟨c0_w4, f0_w4⟩ := blk B0_w4
    have H0_w4 := Lib.hid B0_w4
    clear B0_w4
    have z0_w4 : w1.heap.size < w4.heap.size := by omega
    have b_w4 : Below w.heap.size w w4 := bw_call (by repeat (first | with_reducible refine bw_set ?_ (by omega) _ | with_reducible refine bw_alloc ?_ _ | with_reducible refine bw_drew ?_ | with_reducible assumption | with_reducible exact Below.refl _ _)) hb_w4
    clear hb_w4
    go_wp2
    go_ret
    exact ⟨rfl, by repeat (first | with_reducible refine bw_set ?_ (by omega) _ | with_reducible refine bw_alloc ?_ _ | with_reducible refine bw_drew ?_ | with_reducible assumption | with_reducible exact Below.refl _ _)⟩

  · obtain ⟨k1, qk1⟩ : ∃ z, cK (x % 67108864) = z := ⟨_, rfl⟩
    obtain ⟨i1, qi1⟩ : ∃ z, cI (x % 67108864) = z := ⟨_, rfl⟩
    obtain ⟨r1, qr1⟩ : ∃ z, cR (x % 67108864) = z := ⟨_, rfl⟩
    obtain ⟨g1, qg1⟩ : ∃ z, cG (x % 67108864) = z := ⟨_, rfl⟩
    obtain ⟨b1, qb1⟩ : ∃ z, cB (x % 67108864) = z := ⟨_, rfl⟩
    obtain ⟨k2, qk2⟩ : ∃ z, cK (x / 67108864 % 67108864) = z := ⟨_, rfl⟩
    obtain ⟨i2, qi2⟩ : ∃ z, cI (x / 67108864 % 67108864) = z := ⟨_, rfl⟩
    obtain ⟨r2, qr2⟩ : ∃ z, cR (x / 67108864 % 67108864) = z := ⟨_, rfl⟩
    obtain ⟨g2, qg2⟩ : ∃ z, cG (x / 67108864 % 67108864) = z := ⟨_, rfl⟩
    obtain ⟨b2, qb2⟩ : ∃ z, cB (x / 67108864 % 67108864) = z := ⟨_, rfl⟩
    obtain ⟨f, qf⟩ : ∃ z, (x / 4503599627370496 % 256) = z := ⟨_, rfl⟩
    obtain ⟨k1', qk1'⟩ : ∃ z, rK (x % 67108864) = z := ⟨_, rfl⟩
    obtain ⟨i1', qi1'⟩ : ∃ z, rI (x % 67108864) = z := ⟨_, rfl⟩
    obtain ⟨r1', qr1'⟩ : ∃ z, rR (x % 67108864) = z := ⟨_, rfl⟩
    obtain ⟨g1', qg1'⟩ : ∃ z, rG (x % 67108864) = z := ⟨_, rfl⟩
    obtain ⟨b1', qb1'⟩ : ∃ z, rBl (x % 67108864) = z := ⟨_, rfl⟩
    obtain ⟨k2', qk2'⟩ : ∃ z, rK (x / 67108864 % 67108864) = z := ⟨_, rfl⟩
    obtain ⟨i2', qi2'⟩ : ∃ z, rI (x / 67108864 % 67108864) = z := ⟨_, rfl⟩
    obtain ⟨r2', qr2'⟩ : ∃ z, rR (x / 67108864 % 67108864) = z := ⟨_, rfl⟩
    obtain ⟨g2', qg2'⟩ : ∃ z, rG (x / 67108864 % 67108864) = z := ⟨_, rfl⟩
    obtain ⟨b2', qb2'⟩ : ∃ z, rBl (x / 67108864 % 67108864) = z := ⟨_, rfl⟩
    rw [qk1', qi1', qr1', qg1', qb1', qk2', qi2', qr2', qg2', qb2', qf] at e1
    rw [qk1, qi1, qr1, qg1, qb1, qk2, qi2, qr2, qg2, qb2, qf] at e2
    have hp : Parts x k1 i1 r1 g1 b1 k2 i2 r2 g2 b2 f := ⟨⟨qk1, qi1, qr1, qg1, qb1⟩, ⟨qk2, qi2, qr2, qg2, qb2⟩, qf⟩
    have Hr := Lib.hid (fun w : World => runpack_c x k1' i1' r1' g1' b1' k2' i2' r2' g2' b2' f false w h0 h1 ⟨qk1', qi1', qr1', qg1', qb1'⟩ ⟨qk2', qi2', qr2', qg2', qb2'⟩ qf (by simpa using e1))
    have Hu := Lib.hid (fun w : World => unpacks_of 0 0 0 0 0 0 0 0 0 0 0 x 12 w (Lib.hid fun w => (show Calls Tryd.prog 25 #[.int .u64 x] w (Ret (.tuple #[.agg #[.int .i64 0, .int .u8 0, .int .u8 0, .int .u8 0, .int .u8 0, .int .i64 0, .int .u8 0, .int .u8 0, .int .u8 0, .int .u8 0, .int .u8 0], .int .i64 12]) w) by
      by_cases hx : x < 1152921504606846976
      · exact unpack_bad x k1 i1 r1 g1 b1 k2 i2 r2 g2 b2 f w h0 h1 hp hx (e2 hx)
      · exact unpack_big x k1 i1 r1 g1 b1 k2 i2 r2 g2 b2 f w h0 h1 hp (by omega))))
    clear e1 e2 hp qk1 qi1 qr1 qg1 qb1 qk2 qi2 qr2 qg2 qb2 qf qk1' qi1' qr1' qg1' qb1' qk2' qi2' qr2' qg2' qb2' h0 h1
    go_enter Tryd.func5, Tryd.ntmps5
    go_wp2_with fail
    refine (Hr.out _).mono ?_
    rintro e w1 ⟨rfl, hb_w1⟩
    have hz_w1 := hb_w1.size
    (try simp only [hs_alloc, hs_set, hs_drew] at hz_w1)
    have b_w1 : Below w.heap.size w w1 := bw_call (by repeat (first | with_reducible refine bw_set ?_ (by omega) _ | with_reducible refine bw_alloc ?_ _ | with_reducible refine bw_drew ?_ | with_reducible assumption | with_reducible exact Below.refl _ _)) hb_w1
    clear hb_w1
    go_wp2_with fail
    refine (Hu.out _).mono ?_
    rintro e w2 ⟨rfl, hb_w2⟩
    have hz_w2 := hb_w2.size
    have B0_w2 := hb_w2.block (w1.heap.size) (by first | (simp only [hs_alloc, hs_set, hs_drew]; omega) | omega)
    (try simp only [hs_alloc, hs_set, hs_drew] at hz_w2)
    simp (disch := omega) only [hp_alloc, hp_set, hp_drew, hs_alloc, hs_set, hs_drew, if_pos, if_neg, ↓reduceIte, Option.map_some, putO] at B0_w2
    obtain ⟨c0_w2, f0_w2⟩ := blk B0_w2
    have H0_w2 := Lib.hid B0_w2
    clear B0_w2
    have z0_w2 : w1.heap.size < w2.heap.size := by omega
    have b_w2 : Below w.heap.size w w2 := bw_call (by repeat (first | with_reducible refine bw_set ?_ (by omega) _ | with_reducible refine bw_alloc ?_ _ | with_reducible refine bw_drew ?_ | with_reducible assumption | with_reducible exact Below.refl _ _)) hb_w2
    clear hb_w2
    go_wp2_with fail
    refine (known_ok _ (L.below (by repeat (first | with_reducible refine bw_set ?_ (by omega) _ | with_reducible refine bw_alloc ?_ _ | with_reducible refine bw_drew ?_ | with_reducible assumption | with_reducible exact Below.refl _ _)))).mono ?_
    rintro e w3 ⟨rfl, hb_w3⟩
    have hz_w3 := hb_w3.size
    have B0_w3 := hb_w3.block (w1.heap.size) (by first | (simp only [hs_alloc, hs_set, hs_drew]; omega) | omega)
    (try simp only [hs_alloc, hs_set, hs_drew] at hz_w3)
    simp (disch := omega) only [hp_alloc, hp_set, hp_drew, hs_alloc, hs_set, hs_drew, if_pos, if_neg, ↓reduceIte, Option.map_some, putO, H0_w2.out] at B0_w3
    clear c0_w2 f0_w2 z0_w2
    obtain ⟨c0_w3, f0_w3⟩ := blk B0_w3
    have H0_w3 := Lib.hid B0_w3
    clear B0_w3
    have z0_w3 : w1.heap.size < w3.heap.size := by omega
    have b_w3 : Below w.heap.size w w3 := bw_call (by repeat (first | with_reducible refine bw_set ?_ (by omega) _ | with_reducible refine bw_alloc ?_ _ | with_reducible refine bw_drew ?_ | with_reducible assumption | with_reducible exact Below.refl _ _)) hb_w3
    clear hb_w3
    go_wp2
    go_ret
    exact ⟨rfl, by repeat (first | with_reducible refine bw_set ?_ (by omega) _ | with_reducible refine bw_alloc ?_ _ | with_reducible refine bw_drew ?_ | with_reducible assumption | with_reducible exact Below.refl _ _)⟩

end Go.Proofs.YtgelpgagbokmdaaDoor
