/-
  The walks of the words. Condition: the package-level table holds what it was laid with.
-/
import Derived.Test.YtgelpgagbokmdaaDoorWc
namespace Go.Proofs.YtgelpgagbokmdaaDoor
open Go.RowKit
set_option linter.unusedSimpArgs false
set_option linter.unusedVariables false

theorem word_ne : ∀ k, k < 8 → ∀ j, j < k → ((wordB k).toList == (wordB j).toList) = false := by decide +kernel
set_option maxHeartbeats 1000000 in
theorem word_yes (k : Nat) (hk : k < 8) (w : World) (L : Laid w) : Calls Tryd.prog 32 #[.int .u8 (flagF k)] w (Ret (.tuple #[.string (wordB k), .int .i64 0]) w) := by
  have HL := Lib.hid L
  clear L
  go_enter Tryd.func32, Tryd.ntmps32
  go_wp2_with fail
  refine (all_c _).mono ?_
  rintro e w1 ⟨g, c, rfl, hge, hb1, hg1, hc⟩
  have HB1 := Lib.hid hb1
  have HC := Lib.hid hc
  clear hb1 hc
  go_wp2
  go_loopw [8] (fun i wr => ∃ j : Nat, j ≤ k ∧ i = .int .i64 j ∧ Below w1.heap.size w1 wr) (fun i _ => 8 - (intOf i).toNat)
  case atStart => exact ⟨0, Nat.zero_le _, rfl, Below.refl _ _⟩
  case round =>
    obtain ⟨j, hj, rfl, hb⟩ := hrel
    have HB := Lib.hid hb
    have hcj := (hb.cell (p := ⟨g, j, none⟩) hg1).trans (HC.out j (by omega))
    clear hb
    by_cases hlt : j < k
    · have hne := flag_ne k hk j hlt
      go_wp2
      go_roundw
      case rel => exact ⟨j + 1, by omega, by go_num, HB.out⟩
      case measure => simp [intOf]; omega
    · obtain rfl : j = k := by omega
      have hs := (HL.out.below (bw_call HB1.out HB.out)).s j hk
      go_wp2
      go_ret2
      exact ⟨rfl, bw_call HB1.out HB.out⟩
set_option maxHeartbeats 1000000 in
theorem word_no (q : Int) (w : World) (hq : oneB q = false) : Calls Tryd.prog 32 #[.int .u8 q] w (Ret (.tuple #[.string ⟨#[]⟩, .int .i64 2]) w) := by
  have HQ := Lib.hid (one_not q hq)
  clear hq
  go_enter Tryd.func32, Tryd.ntmps32
  go_wp2_with fail
  refine (all_c _).mono ?_
  rintro e w1 ⟨g, c, rfl, hge, hb1, hg1, hc⟩
  have HB1 := Lib.hid hb1
  have HC := Lib.hid hc
  clear hb1 hc
  go_wp2
  go_loopw [8] (fun i wr => ∃ j : Nat, j ≤ 8 ∧ i = .int .i64 j ∧ Below w1.heap.size w1 wr) (fun i _ => 8 - (intOf i).toNat)
  case atStart => exact ⟨0, Nat.zero_le _, rfl, Below.refl _ _⟩
  case round =>
    obtain ⟨j, hj, rfl, hb⟩ := hrel
    have HB := Lib.hid hb
    by_cases hlt : j < 8
    · have hcj := (hb.cell (p := ⟨g, j, none⟩) hg1).trans (HC.out j (by omega))
      clear hb
      have hne := HQ.out j hlt
      go_wp2
      go_roundw
      case rel => exact ⟨j + 1, by omega, by go_num, HB.out⟩
      case measure => simp [intOf]; omega
    · clear hb
      go_wp2
      go_ret2
      exact ⟨rfl, bw_call HB1.out HB.out⟩
set_option maxHeartbeats 1000000 in
theorem sindex_yes (k : Nat) (hk : k < 8) (s : ByteArray) (w : World) (hs : s = wordB k) (L : Laid w) : Calls Tryd.prog 36 #[.slice (some ⟨0, 0, none⟩) 8 8, .string s] w fun e w' => e = .returned (.int .i64 k) ∧ w = w' := by
  have HL := Lib.hid L
  have HS := Lib.hid hs
  clear L hs
  go_enter Tryd.func36, Tryd.ntmps36
  go_wp2
  go_loop [8] (fun i => ∃ j : Nat, j ≤ k ∧ i = .int .i64 j) (fun i => 8 - (intOf i).toNat)
  case atStart => exact ⟨0, Nat.zero_le _, rfl⟩
  case round =>
    obtain ⟨j, hj, rfl⟩ := hrel
    have hcj := HL.out.s j (by omega)
    by_cases hlt : j < k
    · have hne : (s.toList == (wordB j).toList) = false := by rw [HS.out]; exact word_ne k hk j hlt
      go_wp2
      go_round
      case rel => exact ⟨j + 1, by omega, by go_num⟩
      case measure => simp [intOf]; omega
    · obtain rfl : j = k := by omega
      have hne : (s.toList == (wordB j).toList) = true := by rw [HS.out]; simp
      go_wp2
      go_ret
      exact ⟨rfl, rfl⟩
set_option maxHeartbeats 1000000 in
theorem sindex_no (s : ByteArray) (w : World) (hs : ∀ j, j < 8 → (s.toList == (wordB j).toList) = false) (L : Laid w) : Calls Tryd.prog 36 #[.slice (some ⟨0, 0, none⟩) 8 8, .string s] w fun e w' => e = .returned (.int .i64 (-1)) ∧ w = w' := by
  have HL := Lib.hid L
  have HS := Lib.hid hs
  clear L hs
  go_enter Tryd.func36, Tryd.ntmps36
  go_wp2
  go_loop [8] (fun i => ∃ j : Nat, j ≤ 8 ∧ i = .int .i64 j) (fun i => 8 - (intOf i).toNat)
  case atStart => exact ⟨0, Nat.zero_le _, rfl⟩
  case round =>
    obtain ⟨j, hj, rfl⟩ := hrel
    by_cases hlt : j < 8
    · have hcj := HL.out.s j (by omega)
      have hne := HS.out j hlt
      go_wp2
      go_round
      case rel => exact ⟨j + 1, by omega, by go_num⟩
      case measure => simp [intOf]; omega
    · go_wp2
      go_ret
      exact ⟨rfl, rfl⟩
set_option maxHeartbeats 1000000 in
theorem byword_yes (k : Nat) (hk : k < 8) (s : ByteArray) (w : World) (hs : s = wordB k) (L : Laid w) : Calls Tryd.prog 31 #[.string s] w fun e w' => e = .returned (.tuple #[.int .u8 (flagF k), .int .i64 0]) ∧ w = w' := by
  have H := Lib.hid (sindex_yes k hk s w hs L)
  clear L hs
  have hcase : k = 0 ∨ k = 1 ∨ k = 2 ∨ k = 3 ∨ k = 4 ∨ k = 5 ∨ k = 6 ∨ k = 7 := by omega
  rcases hcase with rfl | rfl | rfl | rfl | rfl | rfl | rfl | rfl
  all_goals
    go_enter Tryd.func31, Tryd.ntmps31
    go_wp2_with fail
    refine H.out.mono ?_
    rintro e w' ⟨rfl, rfl⟩
    go_wp2
    go_ret2
    exact ⟨rfl, rfl⟩
set_option maxHeartbeats 1000000 in
theorem byword_no (s : ByteArray) (w : World) (hs : ∀ j, j < 8 → (s.toList == (wordB j).toList) = false) (L : Laid w) : Calls Tryd.prog 31 #[.string s] w fun e w' => e = .returned (.tuple #[.int .u8 0, .int .i64 6]) ∧ w = w' := by
  have H := Lib.hid (sindex_no s w hs L)
  clear L hs
  go_enter Tryd.func31, Tryd.ntmps31
  go_wp2_with fail
  refine H.out.mono ?_
  rintro e w' ⟨rfl, rfl⟩
  go_wp2
  go_ret2
  exact ⟨rfl, rfl⟩
end Go.Proofs.YtgelpgagbokmdaaDoor
