/-
  Two laws return true, whatever they are called with. Condition: the package-level tables hold what they were laid with.
-/
import Derived.Test.YtklofnojojiljaaDoorWd
namespace Go.Proofs.YtklofnojojiljaaDoor
open Go.RowKit
set_option linter.unusedSimpArgs false
set_option linter.unusedVariables false

set_option maxHeartbeats 2000000 in
theorem widthOf_ok (r : Int) (w : World) (L : LaidW w) : Calls Tryd.prog 3 #[.int .i32 r] w (Ret (.bool true) w) := by
  go_enter Tryd.func3, Tryd.ntmps3
  go_wp2_with fail
  refine (of_c _ _ (L.below (by repeat (first | exact Below.refl _ _ | assumption | refine bw_alloc ?_ _ | refine bw_drew ?_ | refine bw_set ?_ (by omega) _)))).mono ?_
  rintro e w1 ⟨rfl, hb_w1⟩
  have hz_w1 := hb_w1.size
  (try simp only [hs_alloc, hs_set, hs_drew] at hz_w1)
  have b_w1 : Below w.heap.size w w1 := bw_call (by repeat (first | exact Below.refl _ _ | assumption | refine bw_alloc ?_ _ | refine bw_drew ?_ | refine bw_set ?_ (by omega) _)) hb_w1
  clear hb_w1
  go_wp2_with fail
  refine (rof_c _ _).mono ?_
  rintro e w2 ⟨rfl, hb_w2⟩
  have hz_w2 := hb_w2.size
  (try simp only [hs_alloc, hs_set, hs_drew] at hz_w2)
  have b_w2 : Below w.heap.size w w2 := bw_call (by repeat (first | exact Below.refl _ _ | assumption | refine bw_alloc ?_ _ | refine bw_drew ?_ | refine bw_set ?_ (by omega) _)) hb_w2
  clear hb_w2
  go_wp2_with fail
  refine (of_c _ _ (L.below (by repeat (first | exact Below.refl _ _ | assumption | refine bw_alloc ?_ _ | refine bw_drew ?_ | refine bw_set ?_ (by omega) _)))).mono ?_
  rintro e w3 ⟨rfl, hb_w3⟩
  have hz_w3 := hb_w3.size
  (try simp only [hs_alloc, hs_set, hs_drew] at hz_w3)
  have b_w3 : Below w.heap.size w w3 := bw_call (by repeat (first | exact Below.refl _ _ | assumption | refine bw_alloc ?_ _ | refine bw_drew ?_ | refine bw_set ?_ (by omega) _)) hb_w3
  clear hb_w3
  go_wp2_with fail
  refine (rof_c _ _).mono ?_
  rintro e w4 ⟨rfl, hb_w4⟩
  have hz_w4 := hb_w4.size
  (try simp only [hs_alloc, hs_set, hs_drew] at hz_w4)
  have b_w4 : Below w.heap.size w w4 := bw_call (by repeat (first | exact Below.refl _ _ | assumption | refine bw_alloc ?_ _ | refine bw_drew ?_ | refine bw_set ?_ (by omega) _)) hb_w4
  clear hb_w4
  go_wp2_with fail
  refine (of_c _ _ (L.below (by repeat (first | exact Below.refl _ _ | assumption | refine bw_alloc ?_ _ | refine bw_drew ?_ | refine bw_set ?_ (by omega) _)))).mono ?_
  rintro e w5 ⟨rfl, hb_w5⟩
  have hz_w5 := hb_w5.size
  (try simp only [hs_alloc, hs_set, hs_drew] at hz_w5)
  have b_w5 : Below w.heap.size w w5 := bw_call (by repeat (first | exact Below.refl _ _ | assumption | refine bw_alloc ?_ _ | refine bw_drew ?_ | refine bw_set ?_ (by omega) _)) hb_w5
  clear hb_w5
  go_wp2_with fail
  refine (rof_c _ _).mono ?_
  rintro e w6 ⟨rfl, hb_w6⟩
  have hz_w6 := hb_w6.size
  (try simp only [hs_alloc, hs_set, hs_drew] at hz_w6)
  have b_w6 : Below w.heap.size w w6 := bw_call (by repeat (first | exact Below.refl _ _ | assumption | refine bw_alloc ?_ _ | refine bw_drew ?_ | refine bw_set ?_ (by omega) _)) hb_w6
  clear hb_w6
  go_wp2_with fail
  refine (known_ok _ (L.below (by repeat (first | exact Below.refl _ _ | assumption | refine bw_alloc ?_ _ | refine bw_drew ?_ | refine bw_set ?_ (by omega) _)))).mono ?_
  rintro e w7 ⟨rfl, hb_w7⟩
  have hz_w7 := hb_w7.size
  (try simp only [hs_alloc, hs_set, hs_drew] at hz_w7)
  have b_w7 : Below w.heap.size w w7 := bw_call (by repeat (first | exact Below.refl _ _ | assumption | refine bw_alloc ?_ _ | refine bw_drew ?_ | refine bw_set ?_ (by omega) _)) hb_w7
  clear hb_w7
  go_wp2
  go_ret
  exact ⟨rfl, by repeat (first | exact Below.refl _ _ | assumption | refine bw_alloc ?_ _ | refine bw_drew ?_ | refine bw_set ?_ (by omega) _)⟩

set_option maxRecDepth 100000 in
set_option maxHeartbeats 2000000 in
theorem widthRows_ok (row : Int) (w : World) (L : LaidW w) (h0 : 0 ≤ row) (h1 : row ≤ 65535) : Calls Tryd.prog 4 #[.int .u16 row] w (Ret (.bool true) w) := by
  have HL := Lib.hid L
  clear L
  by_cases hr : 4352 < row
  · go_enter Tryd.func4, Tryd.ntmps4
    go_wp2_with fail
    refine (known_ok _ HL.out).mono ?_
    rintro e w1 ⟨rfl, hb⟩
    have HB := Lib.hid hb
    clear hb
    go_wp2
    go_ret
    exact ⟨rfl, HB.out⟩
  · go_enter Tryd.func4, Tryd.ntmps4
    go_wp2
    go_loopw [3] (fun i wr => ∃ k : Nat, k ≤ 256 ∧ i = .int .i64 k ∧ Below w.heap.size w wr) (fun i _ => 256 - (intOf i).toNat)
    case atStart => exact ⟨0, Nat.zero_le _, rfl, Below.refl _ _⟩
    case round =>
      obtain ⟨k, hk, rfl, hb⟩ := hrel
      have HB := Lib.hid hb
      clear hb
      by_cases hlt : k < 256
      · go_wp2_with fail
        refine (of_c _ _ (HL.out.below HB.out)).mono ?_
        rintro e w2 ⟨rfl, hb⟩
        have HB2 := Lib.hid (bw_call HB.out hb)
        clear hb
        go_wp2_with fail
        refine (rof_c _ _).mono ?_
        rintro e w3 ⟨rfl, hb⟩
        have HB3 := Lib.hid (bw_call HB2.out hb)
        clear hb
        go_wp2
        go_roundw
        case rel => exact ⟨k + 1, by omega, by go_num, HB3.out⟩
        case measure => simp [intOf]; omega
      · go_wp2_with fail
        refine (known_ok _ (HL.out.below HB.out)).mono ?_
        rintro e w2 ⟨rfl, hb⟩
        have HB2 := Lib.hid (bw_call HB.out hb)
        clear hb
        go_wp2
        go_ret
        exact ⟨rfl, HB2.out⟩
end Go.Proofs.YtklofnojojiljaaDoor
