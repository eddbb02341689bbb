/-
  The law of the tables returns true, whatever it is called with. Condition: the package-level tables hold what they were laid with.
-/
import Derived.Test.YtklofnojojiljaaDoorWf
namespace Go.Proofs.YtklofnojojiljaaDoor
open Go.RowKit
set_option linter.unusedSimpArgs false
set_option linter.unusedVariables false

theorem NewTab.pairs {n : Nat} {f : Nat → Int} {w' : World} {g : Nat} {cur : Array Value} (h3 : w'.heap[g]? = some (.cells cur 30 (0, 0))) (h4 : ∀ i, i < n * 2 → cur[i]? = some (.int .i32 (f i))) : Pairs w' g n f := fun i hi => by
  rw [(blk h3).1, h4 i hi]
theorem of_n (r v : Int) (w : World) (L : LaidW w) (q : ofV r = v) : Calls Tryd.prog 7 #[.int .i32 r] w (Ret (.int .i64 v) w) := by
  subst q
  exact of_c r w L
set_option maxRecDepth 100000 in
set_option maxHeartbeats 2000000 in
theorem widthTables_ok (by_ : Int) (w : World) (L : LaidW w) : Calls Tryd.prog 5 #[.int .i32 by_] w (Ret (.bool true) w) := by
  have HL := Lib.hid L
  clear L
  go_enter Tryd.func5, Tryd.ntmps5
  go_wp2
  go_loopw [5] (fun i wr => ∃ k : Nat, k ≤ 2 ∧ i = .int .i64 k ∧ Below w.heap.size w wr) (fun i _ => 2 - (intOf i).toNat)
  case atStart => exact ⟨0, Nat.zero_le _, rfl, Below.refl _ _⟩
  case round =>
    obtain ⟨k, hk, rfl, hbw⟩ := hrel
    have HB := Lib.hid hbw
    have hz0 := hbw.size
    clear hbw
    by_cases hlt : k < 2
    · go_wp2_with fail
      refine (wmarks_c _ (HL.out.below HB.out)).mono ?_
      rintro e w1 ⟨g1, c1, cur1, rfl, h1, h2, h3, h4, h5⟩
      have HB1 := Lib.hid (bw_call HB.out h2)
      have H3 := Lib.hid h3
      have H4 := Lib.hid h4
      have hz1 := h2.size
      have hg1 : g1 < w1.heap.size := (Array.getElem?_eq_some_iff.1 h3).1
      clear h2 h3 h4
      go_wp2_with fail
      refine (wwide_c _ (HL.out.below HB1.out)).mono ?_
      rintro e w2 ⟨g2, c2, cur2, rfl, k1, k2, k3, k4, k5⟩
      have HB2 := Lib.hid (bw_call HB1.out k2)
      have K3 := Lib.hid k3
      have K4 := Lib.hid k4
      have H32 := Lib.hid ((k2.block g1 hg1).trans H3.out)
      have hz2 := k2.size
      have hg2 : g2 < w2.heap.size := (Array.getElem?_eq_some_iff.1 k3).1
      clear k2 k3 k4
      go_wp2_with fail
      refine (rmarks_c _).mono ?_
      rintro e w3 ⟨rfl, hz3, hb3, hp3⟩
      have HB3 := Lib.hid (bw_call HB2.out hb3)
      have HP3 := Lib.hid hp3
      have H33 := Lib.hid ((hb3.block g1 (by omega)).trans H32.out)
      have K33 := Lib.hid ((hb3.block g2 (by omega)).trans K3.out)
      clear hb3 hp3
      go_wp2_with fail
      refine (same_c g1 w2.heap.size 18 _ _ marksF _ (by omega) (NewTab.pairs H33.out H4.out) HP3.out (fun _ => by omega) (fun _ => by omega)).mono ?_
      rintro e w4 ⟨rfl, hb4⟩
      have HB4 := Lib.hid (bw_call HB3.out hb4)
      have H34 := Lib.hid ((hb4.block g1 (by omega)).trans H33.out)
      have K34 := Lib.hid ((hb4.block g2 (by omega)).trans K33.out)
      have hz4 := hb4.size
      clear hb4
      go_wp2_with fail
      refine (rwide_c _).mono ?_
      rintro e w5 ⟨rfl, hz5, hb5, hp5⟩
      have HB5 := Lib.hid (bw_call HB4.out hb5)
      have HP5 := Lib.hid hp5
      have H35 := Lib.hid ((hb5.block g1 (by omega)).trans H34.out)
      have K35 := Lib.hid ((hb5.block g2 (by omega)).trans K34.out)
      clear hb5 hp5
      go_wp2_with fail
      refine (same_c g2 w4.heap.size 19 _ _ wideF _ (by omega) (NewTab.pairs K35.out K4.out) HP5.out (fun _ => by omega) (fun _ => by omega)).mono ?_
      rintro e w6 ⟨rfl, hb6⟩
      have HB6 := Lib.hid (bw_call HB5.out hb6)
      have H36 := Lib.hid ((hb6.block g1 (by omega)).trans H35.out)
      have K36 := Lib.hid ((hb6.block g2 (by omega)).trans K35.out)
      have hz6 := hb6.size
      clear hb6
      have ca : w6.cell? ⟨g1, 0, none⟩ = some (.int .i32 768) := by rw [(blk H36.out).1, H4.out 0 (by omega)]; rfl
      have cb : w6.cell? ⟨g2, 1, none⟩ = some (.int .i32 4447) := by rw [(blk K36.out).1, K4.out 1 (by omega)]; rfl
      have fa : w6.frozen? ⟨g1, 0, none⟩ = false := (blk H36.out).2 0
      have fb : w6.frozen? ⟨g2, 1, none⟩ = false := (blk K36.out).2 1
      have hne : g1 ≠ g2 := by omega
      have hne' : g2 ≠ g1 := by omega
      go_wp2
      go_region
      all_goals go_wp2
      all_goals go_roundw
      case rel => exact ⟨k + 1, by omega, by go_num, by repeat (first | exact HB6.out | refine bw_drew ?_ | refine bw_set ?_ (by omega) _)⟩
      case measure => simp [intOf]; omega
    · go_wp2_with fail
      refine (of_n 768 0 _ (HL.out.below HB.out) (by decide)).mono ?_
      rintro e w1 ⟨rfl, h1⟩
      have HB1 := Lib.hid (bw_call HB.out h1)
      clear h1
      go_wp2_with fail
      refine (of_n 4447 2 _ (HL.out.below HB1.out) (by decide)).mono ?_
      rintro e w2 ⟨rfl, h1⟩
      have HB2 := Lib.hid (bw_call HB1.out h1)
      clear h1
      go_wp2_with fail
      refine (known_ok _ (HL.out.below HB2.out)).mono ?_
      rintro e w3 ⟨rfl, h1⟩
      have HB3 := Lib.hid (bw_call HB2.out h1)
      clear h1
      go_wp2
      go_ret
      exact ⟨rfl, HB3.out⟩
end Go.Proofs.YtklofnojojiljaaDoor
