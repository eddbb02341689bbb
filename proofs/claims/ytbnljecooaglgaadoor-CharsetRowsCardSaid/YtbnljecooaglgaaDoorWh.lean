/-
  The law of the rows returns true, whatever it is called with. Condition: the package-level tables hold what they were laid with.
-/
import Derived.Test.YtbnljecooaglgaaDoorWg
namespace Go.Proofs.YtbnljecooaglgaaDoor
open Go.RowKit
set_option linter.unusedSimpArgs false
set_option linter.unusedVariables false

set_option maxRecDepth 100000 in
set_option maxHeartbeats 2000000 in
theorem rows_ok (g0 g1 a : Int) (w : World) (L : Laid w) : Calls Tryd.prog 5 #[.agg #[.int .i64 g0, .int .i64 g1, .int .i64 a]] w (Ret (.bool true) w) := by
  go_enter Tryd.func5, Tryd.ntmps5
  go_wp2_with fail
  refine wp_gen ?_
  intro w1 hb_w1
  have hz_w1 := hb_w1.size
  have B0_w1 := hb_w1.block (w.heap.size) (by first | omega | (simp only [hs_alloc, hs_set, hs_drew]; omega))
  (try simp only [hs_alloc, hs_set, hs_drew] at hz_w1)
  simp (disch := omega) only [hp_alloc, hp_set, hp_drew, hs_alloc, hs_set, hs_drew, if_pos, if_neg, ↓reduceIte, Option.map_some, putO] at B0_w1
  obtain ⟨c0_w1, f0_w1⟩ := blk B0_w1
  have H0_w1 := Lib.hid B0_w1
  clear B0_w1
  have z0_w1 : w.heap.size < w1.heap.size := by omega
  have b_w1 : Below w.heap.size w w1 := bw_call (by repeat (first | exact Below.refl _ _ | assumption | refine bw_alloc ?_ _ | refine bw_drew ?_ | refine bw_set ?_ (by omega) _)) hb_w1
  clear hb_w1
  have L1 := Lib.hid (L.below b_w1)
  go_loopw [3] (fun r wr => ∃ k : Nat, k ≤ 256 ∧ r = .int .i32 k ∧ Below w1.heap.size w1 wr) (fun r _ => 256 - (intOf r).toNat)
  case atStart => exact ⟨0, Nat.zero_le _, rfl, Below.refl _ _⟩
  case round =>
    obtain ⟨k, hk, rfl, hb_wr⟩ := hrel
    have Hk := Lib.hid hb_wr
    have hz_wr := hb_wr.size
    have B0_wr := hb_wr.block (w.heap.size) (by first | omega | (simp only [hs_alloc, hs_set, hs_drew]; omega))
    (try simp only [hs_alloc, hs_set, hs_drew] at hz_wr)
    simp (disch := omega) only [hp_alloc, hp_set, hp_drew, hs_alloc, hs_set, hs_drew, if_pos, if_neg, ↓reduceIte, Option.map_some, putO, H0_w1.out] at B0_wr
    clear c0_w1 f0_w1 z0_w1
    obtain ⟨c0_wr, f0_wr⟩ := blk B0_wr
    have H0_wr := Lib.hid B0_wr
    clear B0_wr
    have z0_wr : w.heap.size < wr.heap.size := by omega
    have b_wr : Below w.heap.size w wr := bw_call (by repeat (first | exact Below.refl _ _ | assumption | refine bw_alloc ?_ _ | refine bw_drew ?_ | refine bw_set ?_ (by omega) _)) hb_wr
    clear hb_wr
    have Lr := Lib.hid (L1.out.below Hk.out)
    by_cases hlt : k < 256
    · skip
      go_wp2_with fail
      refine wp_gen ?_
      intro w2 hb_w2
      have hc_w2 := Lib.hid hb_w2
      have hz_w2 := hb_w2.size
      have B0_w2 := hb_w2.block (w.heap.size) (by first | omega | (simp only [hs_alloc, hs_set, hs_drew]; omega))
      (try simp only [hs_alloc, hs_set, hs_drew] at hz_w2)
      simp (disch := omega) only [hp_alloc, hp_set, hp_drew, hs_alloc, hs_set, hs_drew, if_pos, if_neg, ↓reduceIte, Option.map_some, putO, H0_wr.out] at B0_w2
      clear c0_wr f0_wr z0_wr
      obtain ⟨c0_w2, f0_w2⟩ := blk B0_w2
      have H0_w2 := Lib.hid B0_w2
      clear B0_w2
      have z0_w2 : w.heap.size < w2.heap.size := by omega
      have b_w2 : Below w.heap.size w w2 := bw_call (by repeat (first | exact Below.refl _ _ | assumption | refine bw_alloc ?_ _ | refine bw_drew ?_ | refine bw_set ?_ (by omega) _)) hb_w2
      clear hb_w2
      refine wp_region_cls (by kernel_rfl) (by kernel_rfl) ?_
      have q0_w2 := fun (n : Cls w2) (o : Nat) => (n.h.cell (p := ⟨w.heap.size, o, none⟩) (by first | omega | (simp only [hs_alloc, hs_set, hs_drew]; omega))).trans (c0_w2 o)
      repeat (go_big_quiet_step ((first | (go_at_call 16; exact cls_of (map_c _ _ _ _ _ (Lr.out.below (bw_call hc_w2.out (Cls.h _))) (by omega) (by omega))) | (go_at_call 17; exact cls_of (rmap_c _ _ _ _ _)))))
      refine wpQuiet_nil ?_
      rintro w3 ⟨m_w3, hm_w3⟩
      have hb_w3 := m_w3.h
      rw [← hm_w3] at hb_w3
      have Hn := Lib.hid (bw_call (bw_call Hk.out hc_w2.out) hb_w3)
      clear hm_w3 m_w3
      clear q0_w2
      have hz_w3 := hb_w3.size
      have B0_w3 := hb_w3.block (w.heap.size) (by first | omega | (simp only [hs_alloc, hs_set, hs_drew]; omega))
      (try simp only [hs_alloc, hs_set, hs_drew] at hz_w3)
      simp (disch := omega) only [hp_alloc, hp_set, hp_drew, hs_alloc, hs_set, hs_drew, if_pos, if_neg, ↓reduceIte, Option.map_some, putO, H0_w2.out] at B0_w3
      clear c0_w2 f0_w2 z0_w2
      obtain ⟨c0_w3, f0_w3⟩ := blk B0_w3
      have H0_w3 := Lib.hid B0_w3
      clear B0_w3
      have z0_w3 : w.heap.size < w3.heap.size := by omega
      have b_w3 : Below w.heap.size w w3 := bw_call (by repeat (first | exact Below.refl _ _ | assumption | refine bw_alloc ?_ _ | refine bw_drew ?_ | refine bw_set ?_ (by omega) _)) hb_w3
      clear hb_w3
      go_wp2
      go_roundw
      case rel => exact ⟨k + 1, by omega, by go_num, Hn.out⟩
      case measure => simp [intOf]; omega
    · skip
      go_wp2_with fail
      refine (lines_c _).mono ?_
      rintro e w4 ⟨rfl, hb_w4, hc⟩
      have Hc := Lib.hid hc
      clear hc
      have hz_w4 := hb_w4.size
      have B0_w4 := hb_w4.block (w.heap.size) (by first | omega | (simp only [hs_alloc, hs_set, hs_drew]; omega))
      (try simp only [hs_alloc, hs_set, hs_drew] at hz_w4)
      simp (disch := omega) only [hp_alloc, hp_set, hp_drew, hs_alloc, hs_set, hs_drew, if_pos, if_neg, ↓reduceIte, Option.map_some, putO, H0_wr.out] at B0_w4
      clear c0_wr f0_wr z0_wr
      obtain ⟨c0_w4, f0_w4⟩ := blk B0_w4
      have H0_w4 := Lib.hid B0_w4
      clear B0_w4
      have z0_w4 : w.heap.size < w4.heap.size := by omega
      have b_w4 : Below w.heap.size w w4 := bw_call (by repeat (first | exact Below.refl _ _ | assumption | refine bw_alloc ?_ _ | refine bw_drew ?_ | refine bw_set ?_ (by omega) _)) hb_w4
      clear hb_w4
      have L4 := Lib.hid (L.below b_w4)
      obtain ⟨B, hB⟩ : ∃ B, B = wr.heap.size := ⟨_, rfl⟩
      rw [← hB] at Hc ⊢
      clear hB
      have hB4 : B < w4.heap.size := World.block_lt_of_cell? w4 _ (Hc.out 0 (by omega))
      go_wp2
      go_loopw [21] (fun i w5 => ∃ j : Nat, j ≤ 32 ∧ i = .int .i64 j ∧ Below w4.heap.size w4 w5) (fun i _ => 32 - (intOf i).toNat)
      case atStart => exact ⟨0, Nat.zero_le _, rfl, Below.refl _ _⟩
      case round =>
        obtain ⟨w5, rfl⟩ : ∃ w5 : World, w5 = wr := ⟨_, rfl⟩
        obtain ⟨j, hj, rfl, hb_w5⟩ := hrel
        have Hk5 := Lib.hid hb_w5
        have hz_w5 := hb_w5.size
        have B0_w5 := hb_w5.block (w.heap.size) (by first | omega | (simp only [hs_alloc, hs_set, hs_drew]; omega))
        (try simp only [hs_alloc, hs_set, hs_drew] at hz_w5)
        simp (disch := omega) only [hp_alloc, hp_set, hp_drew, hs_alloc, hs_set, hs_drew, if_pos, if_neg, ↓reduceIte, Option.map_some, putO, H0_w4.out] at B0_w5
        clear c0_w4 f0_w4 z0_w4
        obtain ⟨c0_w5, f0_w5⟩ := blk B0_w5
        have H0_w5 := Lib.hid B0_w5
        clear B0_w5
        have z0_w5 : w.heap.size < w5.heap.size := by omega
        have b_w5 : Below w.heap.size w w5 := bw_call (by repeat (first | exact Below.refl _ _ | assumption | refine bw_alloc ?_ _ | refine bw_drew ?_ | refine bw_set ?_ (by omega) _)) hb_w5
        clear hb_w5
        have L5 := Lib.hid (L4.out.below Hk5.out)
        clear c0_w5 f0_w5 z0_w5
        by_cases hj2 : j < 32
        · skip
          have hcj : w5.cell? ⟨B, j, none⟩ = some (.int .i32 (lineF j)) := (Hk5.out.cell (p := ⟨B, j, none⟩) hB4).trans (Hc.out j hj2)
          go_wp2_with fail
          refine (rback_c _ _).mono ?_
          rintro e w6 ⟨rfl, hb_w6⟩
          have Hn6 := Lib.hid (bw_call Hk5.out hb_w6)
          have L6 := Lib.hid (L5.out.below hb_w6)
          clear hb_w6 hcj
          go_wp2_with fail
          refine (lback_c _ _ _ rfl rfl _ L6.out).mono ?_
          rintro e w' ⟨rfl, rfl⟩
          go_wp2
          go_roundw
          case rel => exact ⟨j + 1, by omega, by go_num, Hn6.out⟩
          case measure => simp [intOf]; omega
        · skip
          go_wp2_with fail
          refine (known_ok _ L5.out).mono ?_
          rintro e w6 ⟨rfl, hb_w6⟩
          have Hn6 := Lib.hid (bw_call b_w5 hb_w6)
          clear hb_w6
          go_wp2
          go_ret
          exact ⟨rfl, Hn6.out⟩
end Go.Proofs.YtbnljecooaglgaaDoor
