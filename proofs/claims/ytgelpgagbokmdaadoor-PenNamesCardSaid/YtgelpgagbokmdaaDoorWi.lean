/-
  The law of the names returns true, whatever it is called with. Condition: the package-level table holds what it was laid with.
-/
import Derived.Test.YtgelpgagbokmdaaDoorWg
namespace Go.Proofs.YtgelpgagbokmdaaDoor
open Go.RowKit
set_option linter.unusedSimpArgs false
set_option linter.unusedVariables false

def dbl : Nat → Int
  | 0 => 1
  | k + 1 => 2 * dbl k
theorem dbl_flag : ∀ k, k < 8 → flagF k = dbl k := by decide
theorem dbl_bd : ∀ k, k ≤ 8 → 1 ≤ dbl k ∧ dbl k ≤ 256 := by decide
theorem dbl_ne : ∀ k, k < 8 → ∀ j, j < k → (dbl k == dbl j) = false := by decide
set_option maxHeartbeats 1000000 in
theorem number_yes (k : Nat) (hk : k < 8) (w : World) : Calls Tryd.prog 23 #[.int .u8 (flagF k)] w fun e w' => e = .returned (.int .i64 k) ∧ w = w' := by
  rw [dbl_flag k hk]
  obtain ⟨b1, b2⟩ := dbl_bd k (by omega)
  go_enter Tryd.func23, Tryd.ntmps23
  go_wp2
  go_loop [3, 4] (fun n i => ∃ j : Nat, j ≤ k ∧ i = .int .i64 j ∧ n = .int .i64 (dbl j)) (fun _ i => 8 - (intOf i).toNat)
  case atStart => exact ⟨0, Nat.zero_le _, rfl, rfl⟩
  case round =>
    obtain ⟨j, hj, rfl, rfl⟩ := hrel
    obtain ⟨c1, c2⟩ := dbl_bd j (by omega)
    by_cases hlt : j < k
    · have hne := dbl_ne k hk j hlt
      go_wp2
      go_round
      case rel => exact ⟨j + 1, by omega, by go_num, rfl⟩
      case measure => simp [intOf]; omega
    · obtain rfl : j = k := by omega
      have hne : (dbl j == dbl j) = true := by simp
      go_wp2
      go_ret
      exact ⟨rfl, rfl⟩
set_option maxHeartbeats 1000000 in
theorem number_no (q : Int) (h0 : 0 ≤ q) (h1 : q ≤ 255) (ho : oneB q = false) (w : World) : Calls Tryd.prog 23 #[.int .u8 q] w fun e w' => e = .returned (.int .i64 (-1)) ∧ w = w' := by
  have HO := Lib.hid (show ∀ j, j < 8 → (q == dbl j) = false from fun j hj => by
    have := one_not q ho j hj
    rw [dbl_flag j hj] at this
    rw [Bool.beq_comm]
    exact this)
  clear ho
  go_enter Tryd.func23, Tryd.ntmps23
  go_wp2
  go_loop [3, 4] (fun n i => ∃ j : Nat, j ≤ 8 ∧ i = .int .i64 j ∧ n = .int .i64 (dbl j)) (fun _ i => 8 - (intOf i).toNat)
  case atStart => exact ⟨0, Nat.zero_le _, rfl, rfl⟩
  case round =>
    obtain ⟨j, hj, rfl, rfl⟩ := hrel
    obtain ⟨c1, c2⟩ := dbl_bd j (by omega)
    by_cases hlt : j < 8
    · have hne := HO.out j hlt
      go_wp2
      go_round
      case rel => exact ⟨j + 1, by omega, by go_num, rfl⟩
      case measure => simp [intOf]; omega
    · go_wp2
      go_ret
      exact ⟨rfl, rfl⟩
set_option maxHeartbeats 1000000 in
theorem rwords_c (w : World) : Calls Tryd.prog 20 #[] w fun e w' => e = .returned (.slice (some ⟨w.heap.size, 0, none⟩) 8 8) ∧ Below w.heap.size w w' ∧ w.heap.size < w'.heap.size ∧ ∀ i, i < 8 → w'.cell? ⟨w.heap.size, i, none⟩ = some (.string (wordB i)) := by
  go_enter Tryd.func20, Tryd.ntmps20
  go_wp2
  go_ret
  refine ⟨rfl, bw_alloc (Below.refl _ _) _, by simp, fun i hi => ?_⟩
  rw [World.cell?, heap_alloc_new]
  have hcase : i = 0 ∨ i = 1 ∨ i = 2 ∨ i = 3 ∨ i = 4 ∨ i = 5 ∨ i = 6 ∨ i = 7 := by omega
  rcases hcase with rfl | rfl | rfl | rfl | rfl | rfl | rfl | rfl <;> rfl
def fnd (s : ByteArray) (k : Nat) : Bool := (List.range k).any fun j => (wordB j).toList == s.toList
theorem fnd_succ (s : ByteArray) (k : Nat) : fnd s (k + 1) = (fnd s k || (wordB k).toList == s.toList) := by
  simp [fnd, List.range_succ]
theorem fnd_no (s : ByteArray) (h : fnd s 8 = false) : ∀ j, j < 8 → (s.toList == (wordB j).toList) = false := by
  intro j hj
  simp only [fnd, List.any_eq_false, List.mem_range] at h
  have := h j hj
  rw [Bool.beq_comm]
  simpa using this
set_option maxRecDepth 100000 in
set_option maxHeartbeats 8000000 in
theorem penNames_ok (q : Int) (s : ByteArray) (w : World) (L : Laid w) (hq0 : 0 ≤ q) (hq1 : q ≤ 255) : Calls Tryd.prog 6 #[.int .u8 q, .string s] w (Ret (.bool true) w) := by
  have HL := Lib.hid L
  clear L
  by_cases hs : 40 < s.size
  · go_enter Tryd.func6, Tryd.ntmps6
    go_wp2_with fail
    refine (known_ok _ HL.out).mono ?_
    rintro e w1 ⟨rfl, hb1⟩
    have HB1 := Lib.hid hb1
    clear hb1
    go_wp2
    go_ret
    exact ⟨rfl, HB1.out⟩
  go_enter Tryd.func6, Tryd.ntmps6
  go_wp2_with fail
  refine (all_c _).mono ?_
  rintro e w2 ⟨g, c, rfl, hge, hb2, hg2, hc2⟩
  have HB2 := Lib.hid hb2
  have HC2 := Lib.hid hc2
  clear hb2 hc2
  go_wp2_with fail
  refine (rwords_c _).mono ?_
  rintro e w3 ⟨rfl, hb3, hz3, hw3⟩
  have HB3 := Lib.hid (bw_call HB2.out hb3)
  have HC3 := Lib.hid (show ∀ i, i < 8 → w3.cell? ⟨g, i, none⟩ = some (.int .u8 (flagF i)) from fun i hi => (hb3.cell (p := ⟨g, i, none⟩) hg2).trans (HC2.out i hi))
  have HW := Lib.hid hw3
  clear hb3 hw3
  go_wp2
  go_loopw [6, 19] (fun fd i wr => ∃ k : Nat, k ≤ 8 ∧ i = .int .i64 k ∧ fd = .bool (fnd s k) ∧ Below w3.heap.size w3 wr) (fun _ i _ => 8 - (intOf i).toNat)
  case atStart => exact ⟨0, Nat.zero_le _, rfl, rfl, Below.refl _ _⟩
  case round =>
    obtain ⟨w4, rfl⟩ : ∃ w4 : World, w4 = wr := ⟨_, rfl⟩
    obtain ⟨k, hk, rfl, rfl, hb4⟩ := hrel
    have HK := Lib.hid hb4
    have hz4 := hb4.size
    have HB4 := Lib.hid (bw_call HB3.out hb4)
    have L4 := Lib.hid (HL.out.below HB4.out)
    have HC4 := Lib.hid (show ∀ i, i < 8 → w4.cell? ⟨g, i, none⟩ = some (.int .u8 (flagF i)) from fun i hi => (hb4.cell (p := ⟨g, i, none⟩) (show g < w3.heap.size by omega)).trans (HC3.out i hi))
    by_cases hlt : k < 8
    · have hcase : k = 0 ∨ k = 1 ∨ k = 2 ∨ k = 3 ∨ k = 4 ∨ k = 5 ∨ k = 6 ∨ k = 7 := by omega
      rcases hcase with rfl | rfl | rfl | rfl | rfl | rfl | rfl | rfl
      · have q1 := fun m : Cls w4 => (m.h.cell (p := ⟨g, 0, none⟩) (show g < w4.heap.size by omega)).trans (HC4.out 0 (by omega))
        have f1 : flagF 0 = 1 := by decide
        simp only [f1] at q1
        have Hbw := Lib.hid (fun m : Cls w4 => lbyword_of 1 0 (wordB 0) m.v (Lib.hid (byword_n 0 1 _ m.v (by omega) f1 rfl (L4.out.below m.h))))
        have Hwd := Lib.hid (fun m : Cls w4 => lword_of 1 0 (wordB 0) m.v (Lib.hid (word_n 0 1 _ m.v (by omega) f1 rfl (L4.out.below m.h))))
        have hcw := (hb4.cell (p := ⟨w2.heap.size, 0, none⟩) (show w2.heap.size < w3.heap.size by omega)).trans (HW.out 0 (by omega))
        have HN := Lib.hid (fnd_succ s 0)
        clear hb4 f1
        cases hf : fnd s 0 with
        | true =>
          rw [hf] at HN
          go_wp2_with fail
          refine wp_region_cls (by kernel_rfl) (by kernel_rfl) ?_
          repeat (go_big_quiet_step ((first | (go_at_call 21; exact cls_of (Hbw.out _)) | (go_at_call 22; exact cls_of (Hwd.out _)))))
          refine wpQuiet_nil ?_
          rintro w5 ⟨m, hm⟩
          have hb5 := m.h
          rw [← hm] at hb5
          have HB5 := Lib.hid (bw_call HK.out hb5)
          clear hb5 hm m q1 hcw hf
          go_wp2
          go_roundw
          case rel => exact ⟨1, by omega, by go_num, by rw [HN.out]; rfl, HB5.out⟩
          case measure => simp [intOf]
        | false =>
          rw [hf] at HN
          go_wp2_with fail
          refine wp_region_cls (by kernel_rfl) (by kernel_rfl) ?_
          repeat (go_big_quiet_step ((first | (go_at_call 21; exact cls_of (Hbw.out _)) | (go_at_call 22; exact cls_of (Hwd.out _)))))
          refine wpQuiet_nil ?_
          rintro w5 ⟨m, hm⟩
          have hb5 := m.h
          rw [← hm] at hb5
          have HB5 := Lib.hid (bw_call HK.out hb5)
          clear hb5 hm m q1 hcw hf
          go_wp2
          go_roundw
          case rel => exact ⟨1, by omega, by go_num, by rw [HN.out]; rfl, HB5.out⟩
          case measure => simp [intOf]
      · have q1 := fun m : Cls w4 => (m.h.cell (p := ⟨g, 1, none⟩) (show g < w4.heap.size by omega)).trans (HC4.out 1 (by omega))
        have f1 : flagF 1 = 2 := by decide
        simp only [f1] at q1
        have Hbw := Lib.hid (fun m : Cls w4 => lbyword_of 2 0 (wordB 1) m.v (Lib.hid (byword_n 1 2 _ m.v (by omega) f1 rfl (L4.out.below m.h))))
        have Hwd := Lib.hid (fun m : Cls w4 => lword_of 2 0 (wordB 1) m.v (Lib.hid (word_n 1 2 _ m.v (by omega) f1 rfl (L4.out.below m.h))))
        have hcw := (hb4.cell (p := ⟨w2.heap.size, 1, none⟩) (show w2.heap.size < w3.heap.size by omega)).trans (HW.out 1 (by omega))
        have HN := Lib.hid (fnd_succ s 1)
        clear hb4 f1
        cases hf : fnd s 1 with
        | true =>
          rw [hf] at HN
          go_wp2_with fail
          refine wp_region_cls (by kernel_rfl) (by kernel_rfl) ?_
          repeat (go_big_quiet_step ((first | (go_at_call 21; exact cls_of (Hbw.out _)) | (go_at_call 22; exact cls_of (Hwd.out _)))))
          refine wpQuiet_nil ?_
          rintro w5 ⟨m, hm⟩
          have hb5 := m.h
          rw [← hm] at hb5
          have HB5 := Lib.hid (bw_call HK.out hb5)
          clear hb5 hm m q1 hcw hf
          go_wp2
          go_roundw
          case rel => exact ⟨2, by omega, by go_num, by rw [HN.out]; rfl, HB5.out⟩
          case measure => simp [intOf]
        | false =>
          rw [hf] at HN
          go_wp2_with fail
          refine wp_region_cls (by kernel_rfl) (by kernel_rfl) ?_
          repeat (go_big_quiet_step ((first | (go_at_call 21; exact cls_of (Hbw.out _)) | (go_at_call 22; exact cls_of (Hwd.out _)))))
          refine wpQuiet_nil ?_
          rintro w5 ⟨m, hm⟩
          have hb5 := m.h
          rw [← hm] at hb5
          have HB5 := Lib.hid (bw_call HK.out hb5)
          clear hb5 hm m q1 hcw hf
          go_wp2
          go_roundw
          case rel => exact ⟨2, by omega, by go_num, by rw [HN.out]; rfl, HB5.out⟩
          case measure => simp [intOf]
      · have q1 := fun m : Cls w4 => (m.h.cell (p := ⟨g, 2, none⟩) (show g < w4.heap.size by omega)).trans (HC4.out 2 (by omega))
        have f1 : flagF 2 = 4 := by decide
        simp only [f1] at q1
        have Hbw := Lib.hid (fun m : Cls w4 => lbyword_of 4 0 (wordB 2) m.v (Lib.hid (byword_n 2 4 _ m.v (by omega) f1 rfl (L4.out.below m.h))))
        have Hwd := Lib.hid (fun m : Cls w4 => lword_of 4 0 (wordB 2) m.v (Lib.hid (word_n 2 4 _ m.v (by omega) f1 rfl (L4.out.below m.h))))
        have hcw := (hb4.cell (p := ⟨w2.heap.size, 2, none⟩) (show w2.heap.size < w3.heap.size by omega)).trans (HW.out 2 (by omega))
        have HN := Lib.hid (fnd_succ s 2)
        clear hb4 f1
        cases hf : fnd s 2 with
        | true =>
          rw [hf] at HN
          go_wp2_with fail
          refine wp_region_cls (by kernel_rfl) (by kernel_rfl) ?_
          repeat (go_big_quiet_step ((first | (go_at_call 21; exact cls_of (Hbw.out _)) | (go_at_call 22; exact cls_of (Hwd.out _)))))
          refine wpQuiet_nil ?_
          rintro w5 ⟨m, hm⟩
          have hb5 := m.h
          rw [← hm] at hb5
          have HB5 := Lib.hid (bw_call HK.out hb5)
          clear hb5 hm m q1 hcw hf
          go_wp2
          go_roundw
          case rel => exact ⟨3, by omega, by go_num, by rw [HN.out]; rfl, HB5.out⟩
          case measure => simp [intOf]
        | false =>
          rw [hf] at HN
          go_wp2_with fail
          refine wp_region_cls (by kernel_rfl) (by kernel_rfl) ?_
          repeat (go_big_quiet_step ((first | (go_at_call 21; exact cls_of (Hbw.out _)) | (go_at_call 22; exact cls_of (Hwd.out _)))))
          refine wpQuiet_nil ?_
          rintro w5 ⟨m, hm⟩
          have hb5 := m.h
          rw [← hm] at hb5
          have HB5 := Lib.hid (bw_call HK.out hb5)
          clear hb5 hm m q1 hcw hf
          go_wp2
          go_roundw
          case rel => exact ⟨3, by omega, by go_num, by rw [HN.out]; rfl, HB5.out⟩
          case measure => simp [intOf]
      · have q1 := fun m : Cls w4 => (m.h.cell (p := ⟨g, 3, none⟩) (show g < w4.heap.size by omega)).trans (HC4.out 3 (by omega))
        have f1 : flagF 3 = 8 := by decide
        simp only [f1] at q1
        have Hbw := Lib.hid (fun m : Cls w4 => lbyword_of 8 0 (wordB 3) m.v (Lib.hid (byword_n 3 8 _ m.v (by omega) f1 rfl (L4.out.below m.h))))
        have Hwd := Lib.hid (fun m : Cls w4 => lword_of 8 0 (wordB 3) m.v (Lib.hid (word_n 3 8 _ m.v (by omega) f1 rfl (L4.out.below m.h))))
        have hcw := (hb4.cell (p := ⟨w2.heap.size, 3, none⟩) (show w2.heap.size < w3.heap.size by omega)).trans (HW.out 3 (by omega))
        have HN := Lib.hid (fnd_succ s 3)
        clear hb4 f1
        cases hf : fnd s 3 with
        | true =>
          rw [hf] at HN
          go_wp2_with fail
          refine wp_region_cls (by kernel_rfl) (by kernel_rfl) ?_
          repeat (go_big_quiet_step ((first | (go_at_call 21; exact cls_of (Hbw.out _)) | (go_at_call 22; exact cls_of (Hwd.out _)))))
          refine wpQuiet_nil ?_
          rintro w5 ⟨m, hm⟩
          have hb5 := m.h
          rw [← hm] at hb5
          have HB5 := Lib.hid (bw_call HK.out hb5)
          clear hb5 hm m q1 hcw hf
          go_wp2
          go_roundw
          case rel => exact ⟨4, by omega, by go_num, by rw [HN.out]; rfl, HB5.out⟩
          case measure => simp [intOf]
        | false =>
          rw [hf] at HN
          go_wp2_with fail
          refine wp_region_cls (by kernel_rfl) (by kernel_rfl) ?_
          repeat (go_big_quiet_step ((first | (go_at_call 21; exact cls_of (Hbw.out _)) | (go_at_call 22; exact cls_of (Hwd.out _)))))
          refine wpQuiet_nil ?_
          rintro w5 ⟨m, hm⟩
          have hb5 := m.h
          rw [← hm] at hb5
          have HB5 := Lib.hid (bw_call HK.out hb5)
          clear hb5 hm m q1 hcw hf
          go_wp2
          go_roundw
          case rel => exact ⟨4, by omega, by go_num, by rw [HN.out]; rfl, HB5.out⟩
          case measure => simp [intOf]
      · have q1 := fun m : Cls w4 => (m.h.cell (p := ⟨g, 4, none⟩) (show g < w4.heap.size by omega)).trans (HC4.out 4 (by omega))
        have f1 : flagF 4 = 16 := by decide
        simp only [f1] at q1
        have Hbw := Lib.hid (fun m : Cls w4 => lbyword_of 16 0 (wordB 4) m.v (Lib.hid (byword_n 4 16 _ m.v (by omega) f1 rfl (L4.out.below m.h))))
        have Hwd := Lib.hid (fun m : Cls w4 => lword_of 16 0 (wordB 4) m.v (Lib.hid (word_n 4 16 _ m.v (by omega) f1 rfl (L4.out.below m.h))))
        have hcw := (hb4.cell (p := ⟨w2.heap.size, 4, none⟩) (show w2.heap.size < w3.heap.size by omega)).trans (HW.out 4 (by omega))
        have HN := Lib.hid (fnd_succ s 4)
        clear hb4 f1
        cases hf : fnd s 4 with
        | true =>
          rw [hf] at HN
          go_wp2_with fail
          refine wp_region_cls (by kernel_rfl) (by kernel_rfl) ?_
          repeat (go_big_quiet_step ((first | (go_at_call 21; exact cls_of (Hbw.out _)) | (go_at_call 22; exact cls_of (Hwd.out _)))))
          refine wpQuiet_nil ?_
          rintro w5 ⟨m, hm⟩
          have hb5 := m.h
          rw [← hm] at hb5
          have HB5 := Lib.hid (bw_call HK.out hb5)
          clear hb5 hm m q1 hcw hf
          go_wp2
          go_roundw
          case rel => exact ⟨5, by omega, by go_num, by rw [HN.out]; rfl, HB5.out⟩
          case measure => simp [intOf]
        | false =>
          rw [hf] at HN
          go_wp2_with fail
          refine wp_region_cls (by kernel_rfl) (by kernel_rfl) ?_
          repeat (go_big_quiet_step ((first | (go_at_call 21; exact cls_of (Hbw.out _)) | (go_at_call 22; exact cls_of (Hwd.out _)))))
          refine wpQuiet_nil ?_
          rintro w5 ⟨m, hm⟩
          have hb5 := m.h
          rw [← hm] at hb5
          have HB5 := Lib.hid (bw_call HK.out hb5)
          clear hb5 hm m q1 hcw hf
          go_wp2
          go_roundw
          case rel => exact ⟨5, by omega, by go_num, by rw [HN.out]; rfl, HB5.out⟩
          case measure => simp [intOf]
      · have q1 := fun m : Cls w4 => (m.h.cell (p := ⟨g, 5, none⟩) (show g < w4.heap.size by omega)).trans (HC4.out 5 (by omega))
        have f1 : flagF 5 = 32 := by decide
        simp only [f1] at q1
        have Hbw := Lib.hid (fun m : Cls w4 => lbyword_of 32 0 (wordB 5) m.v (Lib.hid (byword_n 5 32 _ m.v (by omega) f1 rfl (L4.out.below m.h))))
        have Hwd := Lib.hid (fun m : Cls w4 => lword_of 32 0 (wordB 5) m.v (Lib.hid (word_n 5 32 _ m.v (by omega) f1 rfl (L4.out.below m.h))))
        have hcw := (hb4.cell (p := ⟨w2.heap.size, 5, none⟩) (show w2.heap.size < w3.heap.size by omega)).trans (HW.out 5 (by omega))
        have HN := Lib.hid (fnd_succ s 5)
        clear hb4 f1
        cases hf : fnd s 5 with
        | true =>
          rw [hf] at HN
          go_wp2_with fail
          refine wp_region_cls (by kernel_rfl) (by kernel_rfl) ?_
          repeat (go_big_quiet_step ((first | (go_at_call 21; exact cls_of (Hbw.out _)) | (go_at_call 22; exact cls_of (Hwd.out _)))))
          refine wpQuiet_nil ?_
          rintro w5 ⟨m, hm⟩
          have hb5 := m.h
          rw [← hm] at hb5
          have HB5 := Lib.hid (bw_call HK.out hb5)
          clear hb5 hm m q1 hcw hf
          go_wp2
          go_roundw
          case rel => exact ⟨6, by omega, by go_num, by rw [HN.out]; rfl, HB5.out⟩
          case measure => simp [intOf]
        | false =>
          rw [hf] at HN
          go_wp2_with fail
          refine wp_region_cls (by kernel_rfl) (by kernel_rfl) ?_
          repeat (go_big_quiet_step ((first | (go_at_call 21; exact cls_of (Hbw.out _)) | (go_at_call 22; exact cls_of (Hwd.out _)))))
          refine wpQuiet_nil ?_
          rintro w5 ⟨m, hm⟩
          have hb5 := m.h
          rw [← hm] at hb5
          have HB5 := Lib.hid (bw_call HK.out hb5)
          clear hb5 hm m q1 hcw hf
          go_wp2
          go_roundw
          case rel => exact ⟨6, by omega, by go_num, by rw [HN.out]; rfl, HB5.out⟩
          case measure => simp [intOf]
      · have q1 := fun m : Cls w4 => (m.h.cell (p := ⟨g, 6, none⟩) (show g < w4.heap.size by omega)).trans (HC4.out 6 (by omega))
        have f1 : flagF 6 = 64 := by decide
        simp only [f1] at q1
        have Hbw := Lib.hid (fun m : Cls w4 => lbyword_of 64 0 (wordB 6) m.v (Lib.hid (byword_n 6 64 _ m.v (by omega) f1 rfl (L4.out.below m.h))))
        have Hwd := Lib.hid (fun m : Cls w4 => lword_of 64 0 (wordB 6) m.v (Lib.hid (word_n 6 64 _ m.v (by omega) f1 rfl (L4.out.below m.h))))
        have hcw := (hb4.cell (p := ⟨w2.heap.size, 6, none⟩) (show w2.heap.size < w3.heap.size by omega)).trans (HW.out 6 (by omega))
        have HN := Lib.hid (fnd_succ s 6)
        clear hb4 f1
        cases hf : fnd s 6 with
        | true =>
          rw [hf] at HN
          go_wp2_with fail
          refine wp_region_cls (by kernel_rfl) (by kernel_rfl) ?_
          repeat (go_big_quiet_step ((first | (go_at_call 21; exact cls_of (Hbw.out _)) | (go_at_call 22; exact cls_of (Hwd.out _)))))
          refine wpQuiet_nil ?_
          rintro w5 ⟨m, hm⟩
          have hb5 := m.h
          rw [← hm] at hb5
          have HB5 := Lib.hid (bw_call HK.out hb5)
          clear hb5 hm m q1 hcw hf
          go_wp2
          go_roundw
          case rel => exact ⟨7, by omega, by go_num, by rw [HN.out]; rfl, HB5.out⟩
          case measure => simp [intOf]
        | false =>
          rw [hf] at HN
          go_wp2_with fail
          refine wp_region_cls (by kernel_rfl) (by kernel_rfl) ?_
          repeat (go_big_quiet_step ((first | (go_at_call 21; exact cls_of (Hbw.out _)) | (go_at_call 22; exact cls_of (Hwd.out _)))))
          refine wpQuiet_nil ?_
          rintro w5 ⟨m, hm⟩
          have hb5 := m.h
          rw [← hm] at hb5
          have HB5 := Lib.hid (bw_call HK.out hb5)
          clear hb5 hm m q1 hcw hf
          go_wp2
          go_roundw
          case rel => exact ⟨7, by omega, by go_num, by rw [HN.out]; rfl, HB5.out⟩
          case measure => simp [intOf]
      · have q1 := fun m : Cls w4 => (m.h.cell (p := ⟨g, 7, none⟩) (show g < w4.heap.size by omega)).trans (HC4.out 7 (by omega))
        have f1 : flagF 7 = 128 := by decide
        simp only [f1] at q1
        have Hbw := Lib.hid (fun m : Cls w4 => lbyword_of 128 0 (wordB 7) m.v (Lib.hid (byword_n 7 128 _ m.v (by omega) f1 rfl (L4.out.below m.h))))
        have Hwd := Lib.hid (fun m : Cls w4 => lword_of 128 0 (wordB 7) m.v (Lib.hid (word_n 7 128 _ m.v (by omega) f1 rfl (L4.out.below m.h))))
        have hcw := (hb4.cell (p := ⟨w2.heap.size, 7, none⟩) (show w2.heap.size < w3.heap.size by omega)).trans (HW.out 7 (by omega))
        have HN := Lib.hid (fnd_succ s 7)
        clear hb4 f1
        cases hf : fnd s 7 with
        | true =>
          rw [hf] at HN
          go_wp2_with fail
          refine wp_region_cls (by kernel_rfl) (by kernel_rfl) ?_
          repeat (go_big_quiet_step ((first | (go_at_call 21; exact cls_of (Hbw.out _)) | (go_at_call 22; exact cls_of (Hwd.out _)))))
          refine wpQuiet_nil ?_
          rintro w5 ⟨m, hm⟩
          have hb5 := m.h
          rw [← hm] at hb5
          have HB5 := Lib.hid (bw_call HK.out hb5)
          clear hb5 hm m q1 hcw hf
          go_wp2
          go_roundw
          case rel => exact ⟨8, by omega, by go_num, by rw [HN.out]; rfl, HB5.out⟩
          case measure => simp [intOf]
        | false =>
          rw [hf] at HN
          go_wp2_with fail
          refine wp_region_cls (by kernel_rfl) (by kernel_rfl) ?_
          repeat (go_big_quiet_step ((first | (go_at_call 21; exact cls_of (Hbw.out _)) | (go_at_call 22; exact cls_of (Hwd.out _)))))
          refine wpQuiet_nil ?_
          rintro w5 ⟨m, hm⟩
          have hb5 := m.h
          rw [← hm] at hb5
          have HB5 := Lib.hid (bw_call HK.out hb5)
          clear hb5 hm m q1 hcw hf
          go_wp2
          go_roundw
          case rel => exact ⟨8, by omega, by go_num, by rw [HN.out]; rfl, HB5.out⟩
          case measure => simp [intOf]
    · obtain rfl : k = 8 := by omega
      clear hb4
      cases hf : fnd s 8 with
      | true =>
        clear hf
        cases ho : oneB q with
        | true =>
          have HB5 := HB4
          obtain ⟨w5, rfl⟩ : ∃ w5 : World, w5 = w4 := ⟨_, rfl⟩
          obtain ⟨k, hk, rfl⟩ := one_flag q ho
          clear ho
          go_wp2_with fail
          refine (number_yes k hk _).mono ?_
          rintro e w' ⟨rfl, rfl⟩
          have hk0 : (0 : Int) ≤ (k : Int) := by omega
          go_wp2_with fail
          refine (known_ok _ (HL.out.below HB5.out)).mono ?_
          rintro e w6 ⟨rfl, hb6⟩
          have HB6 := Lib.hid (bw_call HB5.out hb6)
          clear hb6
          go_wp2
          go_ret
          exact ⟨rfl, HB6.out⟩

        | false =>
          have HB5 := HB4
          obtain ⟨w5, rfl⟩ : ∃ w5 : World, w5 = w4 := ⟨_, rfl⟩
          have Ho := Lib.hid ho
          clear ho
          go_wp2_with fail
          refine (number_no q hq0 hq1 Ho.out _).mono ?_
          rintro e w' ⟨rfl, rfl⟩
          go_wp2_with fail
          refine (lword_of q 2 ⟨#[]⟩ _ (Lib.hid (word_no q _ Ho.out))).mono ?_
          rintro e w6 ⟨rfl, hb6⟩
          have HB6 := Lib.hid (bw_call HB5.out hb6)
          clear hb6
          go_wp2_with fail
          refine (known_ok _ (HL.out.below HB6.out)).mono ?_
          rintro e w7 ⟨rfl, hb7⟩
          have HB7 := Lib.hid (bw_call HB6.out hb7)
          clear hb7
          go_wp2
          go_ret
          exact ⟨rfl, HB7.out⟩

      | false =>
        have HNo := Lib.hid (fnd_no s hf)
        clear hf
        cases ho : oneB q with
        | true =>
          go_wp2_with fail
          refine (lbyword_of 0 6 s _ (Lib.hid (byword_no s _ HNo.out L4.out))).mono ?_
          rintro e w5 ⟨rfl, hb5⟩
          have HB5 := Lib.hid (bw_call HB4.out hb5)
          clear hb5
          obtain ⟨k, hk, rfl⟩ := one_flag q ho
          clear ho
          go_wp2_with fail
          refine (number_yes k hk _).mono ?_
          rintro e w' ⟨rfl, rfl⟩
          have hk0 : (0 : Int) ≤ (k : Int) := by omega
          go_wp2_with fail
          refine (known_ok _ (HL.out.below HB5.out)).mono ?_
          rintro e w6 ⟨rfl, hb6⟩
          have HB6 := Lib.hid (bw_call HB5.out hb6)
          clear hb6
          go_wp2
          go_ret
          exact ⟨rfl, HB6.out⟩

        | false =>
          go_wp2_with fail
          refine (lbyword_of 0 6 s _ (Lib.hid (byword_no s _ HNo.out L4.out))).mono ?_
          rintro e w5 ⟨rfl, hb5⟩
          have HB5 := Lib.hid (bw_call HB4.out hb5)
          clear hb5
          have Ho := Lib.hid ho
          clear ho
          go_wp2_with fail
          refine (number_no q hq0 hq1 Ho.out _).mono ?_
          rintro e w' ⟨rfl, rfl⟩
          go_wp2_with fail
          refine (lword_of q 2 ⟨#[]⟩ _ (Lib.hid (word_no q _ Ho.out))).mono ?_
          rintro e w6 ⟨rfl, hb6⟩
          have HB6 := Lib.hid (bw_call HB5.out hb6)
          clear hb6
          go_wp2_with fail
          refine (known_ok _ (HL.out.below HB6.out)).mono ?_
          rintro e w7 ⟨rfl, hb7⟩
          have HB7 := Lib.hid (bw_call HB6.out hb7)
          clear hb7
          go_wp2
          go_ret
          exact ⟨rfl, HB7.out⟩

end Go.Proofs.YtgelpgagbokmdaaDoor
