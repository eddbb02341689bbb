/-
  The theorem of the stage returns true, whatever it is called with. Condition: the package-level tables hold what they were laid with.
-/
import Derived.Test.YtklofnojojiljaaDoorWg
import Derived.Test.YtklofnojojiljaaDoorOwn
import Derived.Test.YtklofnojojiljaaDoorRead
namespace Go.Proofs.YtklofnojojiljaaDoor
open Go.RowKit
set_option linter.unusedSimpArgs false
set_option linter.unusedVariables false

theorem apart_ok : ∀ k, k < 18 → ∀ l, l < 19 → (decide (marksF (k * 2) ≤ wideF (l * 2 + 1)) && decide (wideF (l * 2) ≤ marksF (k * 2 + 1))) = false := by decide
def intVs (f : Nat → Int) (n : Nat) : List Value := (List.range n).map fun i => .int .i32 (f i)
theorem Ints.sl {w : World} {A : Option Addr} {n : Nat} {f : Nat → Int} (h : Ints w .i32 A n f) : Sl w A n 1 (intVs f n) := ⟨by simp [intVs], fun hn => by
  obtain ⟨b, off, e, hb, hc⟩ := h hn
  exact ⟨b, off, e, hb, fun j hj => by rw [hc j (by omega)]; simp [intVs, show j < n by omega]⟩⟩
theorem Sl.ints {w : World} {A : Option Addr} {n : Nat} {f : Nat → Int} {cs : List Value} (h : Sl w A n 1 cs) (hc : ∀ j, j < n → cs[j]? = some (.int .i32 (f j))) : Ints w .i32 A n f := fun hn => by
  obtain ⟨b, off, e, hb, hcell⟩ := h.2 hn
  exact ⟨b, off, e, hb, fun i hi => by rw [hcell i (by omega), hc i hi]⟩
theorem both_cells (f g : Nat → Int) (n m j : Nat) (hj : j < n + m) : (intVs f n ++ intVs g m)[j]? = some (.int .i32 (if j < n then f j else g (j - n))) := by
  by_cases h : j < n
  · rw [List.getElem?_append_left (by simpa [intVs] using h)]
    simp [intVs, h]
  · rw [List.getElem?_append_right (by simp [intVs]; omega)]
    simp [intVs, h, show j - n < m by omega]
theorem info_i32 : (Tryd.prog.info? 21).map (fun i => (i.zero, i.size, i.bytes)) = some (some (.int .i32 0), 1, 4) := by kernel_rfl

set_option maxRecDepth 100000 in
set_option maxHeartbeats 8000000 in
theorem holds_main (P Q : Option Addr) (n m ca cb : Nat) (f g : Nat → Int) (x y : Int) (w : World) (L : LaidW w) (hx0 : 0 ≤ x) (hy0 : 0 ≤ y) (hP : P = none → ca = 0) (hQ : Q = none → cb = 0)
    (RA : Ints w .i32 P n f) (RB : Ints w .i32 Q m g) (hn : n ≤ 60) (hm : m ≤ 60) (hx : x ≤ 200) (hy : y ≤ 200) :
    Calls Tryd.prog 6 #[.slice P n ca, .slice Q m cb, .int .u8 x, .int .u8 y] w (Ret (.bool true) w) := by
  have HL := Lib.hid L
  have HRA := Lib.hid RA
  have HRB := Lib.hid RB
  have HP := Lib.hid hP
  have HQ := Lib.hid hQ
  clear L RA RB hP hQ
  have d1 : decide (60 < (n : Int)) = false := decide_eq_false (by omega)
  have d2 : decide (60 < (m : Int)) = false := decide_eq_false (by omega)
  have d3 : decide (200 < x) = false := decide_eq_false (by omega)
  have d4 : decide (200 < y) = false := decide_eq_false (by omega)
  go_enter Tryd.func6, Tryd.ntmps6
  go_wp2_with fail
  refine (wmarks_c _ HL.out).mono ?_
  rintro e w1 ⟨g1, c1, cur1, rfl, h1, h2, h3, h4, h5⟩
  have HB1 := Lib.hid h2
  have HT1 := Lib.hid (NewTab.pairs h3 h4)
  have hz1 := h2.size
  have hg1 : g1 < w1.heap.size := (Array.getElem?_eq_some_iff.1 h3).1
  clear h2 h3 h4
  go_wp2_with fail
  refine (wwide_c _ (HL.out.below HB1.out)).mono ?_
  rintro e w2 ⟨g2, c2, cur2, rfl, k1, k2, k3, k4, k5⟩
  have HB2 := Lib.hid (bw_call HB1.out k2)
  have HT2 := Lib.hid (NewTab.pairs k3 k4)
  have HT1' := Lib.hid (HT1.out.below hg1 k2)
  have hz2 := k2.size
  have hg2 : g2 < w2.heap.size := (Array.getElem?_eq_some_iff.1 k3).1
  clear k2 k3 k4
  go_wp2_with fail
  refine wp_gen ?_
  intro w3 hb3
  have B3 := hb3.block w2.heap.size (by first | omega | (simp only [hs_alloc, hs_set, hs_drew]; omega))
  simp (disch := omega) only [hp_alloc, hs_alloc, if_pos, if_neg, ↓reduceIte] at B3
  have hz3 := hb3.size
  simp only [hs_alloc] at hz3
  have HT23 := Lib.hid (HT2.out.below hg2 (bw_call (bw_alloc (Below.refl _ _) _) hb3))
  have HT13 := Lib.hid (HT1'.out.below (by omega) (bw_call (bw_alloc (Below.refl _ _) _) hb3))
  have HB3 := Lib.hid (bw_call HB2.out (bw_call (bw_alloc (Below.refl _ _) _) hb3))
  have HS3 := Lib.hid B3
  clear hb3 B3
  go_loopw [40] (fun q wr => ∃ i : Nat, i ≤ 2 ∧ q = .int .i64 i ∧ Below w3.heap.size w3 wr) (fun q _ => 2 - (intOf q).toNat)
  case atStart => exact ⟨0, Nat.zero_le _, rfl, Below.refl _ _⟩
  case round =>
    obtain ⟨w4, rfl⟩ : ∃ w4 : World, w4 = wr := ⟨_, rfl⟩
    obtain ⟨i, hi, rfl, hb4⟩ := hrel
    have HK := Lib.hid hb4
    have hz4 := hb4.size
    have B4 := (hb4.block w2.heap.size (by omega)).trans HS3.out
    clear hb4
    have hcase : i = 0 ∨ i = 1 ∨ i = 2 := by omega
    rcases hcase with rfl | rfl | rfl
    · have cS := (blk B4).1
      go_wp2
      clear cS
      go_loopw [46] (fun q w5 => ∃ j : Nat, j ≤ 18 ∧ q = .int .i64 j ∧ Below w3.heap.size w3 w5) (fun q _ => 18 - (intOf q).toNat)
      case atStart => exact ⟨0, Nat.zero_le _, rfl, HK.out⟩
      case round =>
        obtain ⟨w5, rfl⟩ : ∃ w5 : World, w5 = wr := ⟨_, rfl⟩
        obtain ⟨j, hj, rfl, hb5⟩ := hrel
        have HK5 := Lib.hid hb5
        have hz5 := hb5.size
        clear hb5
        by_cases hlt : j < 18
        · have hp5 := (HT13).out.below (by omega) HK5.out
          have hc1 := hp5 (j * 2) (by omega)
          have hc2 := hp5 (j * 2 + 1) (by omega)
          obtain ⟨r1, r2⟩ := marks_rising j hlt
          have HP5 := Lib.hid hp5
          clear hp5
          cases j with
          | zero =>
            have hd1 : decide (marksF (0 * 2 + 1) < marksF (0 * 2)) = false := decide_eq_false (by omega)
            go_wp2_with fail
            refine wp_gen ?_
            intro w6 hb6
            have hb7 := hb6
            have B6 := hb6.block w5.heap.size (by first | omega | (simp only [hs_alloc, hs_set, hs_drew]; omega))
            simp (disch := omega) only [hp_alloc, hp_set, hs_alloc, hs_set, if_pos, if_neg, ↓reduceIte, Option.map_some, putO] at B6
            have hz6 := hb6.size
            simp only [hs_alloc, hs_set] at hz6
            have HB6 := Lib.hid (show Below w5.heap.size w5 w6 from bw_call (by repeat (first | exact Below.refl _ _ | assumption | refine bw_alloc ?_ _ | refine bw_drew ?_ | refine bw_set ?_ (by omega) _)) hb6)
            clear hb6 hb7 r1 r2 hc1 hc2
            have q1 := fun (m : Cls w6) (o : Nat) => (m.h.cell (p := ⟨w5.heap.size, o, none⟩) (show w5.heap.size < _ by omega)).trans ((blk B6).1 o)
            refine wp_region_cls (by kernel_rfl) (by kernel_rfl) ?_
            repeat (go_big_quiet_step (fail))
            refine wpQuiet_nil ?_
            rintro w7 ⟨m, hm⟩
            have hb2 := m.h
            rw [← hm] at hb2
            have HN := Lib.hid (bw_call (bw_call HK5.out HB6.out) hb2)
            clear hb2 hm m q1 B6
            go_wp2
            go_roundw
            case rel => exact ⟨1, by omega, by go_num, HN.out⟩
            case measure => simp [intOf]
          | succ p =>
            have hd1 : decide (marksF ((p + 1) * 2 + 1) < marksF ((p + 1) * 2)) = false := decide_eq_false (by omega)
            have r3 := r2 p (by omega)
            have hd2 : decide (marksF ((p + 1) * 2) ≤ marksF (p * 2 + 1)) = false := decide_eq_false (by omega)
            go_wp2_with fail
            refine wp_gen ?_
            intro w6 hb6
            have B6 := hb6.block w5.heap.size (by first | omega | (simp only [hs_alloc, hs_set, hs_drew]; omega))
            simp (disch := omega) only [hp_alloc, hp_set, hs_alloc, hs_set, if_pos, if_neg, ↓reduceIte, Option.map_some, putO] at B6
            have hz6 := hb6.size
            simp only [hs_alloc, hs_set] at hz6
            have HB6 := Lib.hid (show Below w5.heap.size w5 w6 from bw_call (by repeat (first | exact Below.refl _ _ | assumption | refine bw_alloc ?_ _ | refine bw_drew ?_ | refine bw_set ?_ (by omega) _)) hb6)
            clear hb6 r1 r2 r3 hc1 hc2
            have hp6 := HP5.out.below (by omega) HB6.out
            have q1 := fun (m : Cls w6) (o : Nat) => (m.h.cell (p := ⟨w5.heap.size, o, none⟩) (show w5.heap.size < _ by omega)).trans ((blk B6).1 o)
            have q2 := fun (m : Cls w6) => (hp6.below (by omega) m.h) (p * 2 + 1) (by omega)
            clear hp6
            have k0 : (0 : Int) ≤ (p : Int) := by omega
            have k1 : (p : Int) < 18 := by omega
            refine wp_region_cls (by kernel_rfl) (by kernel_rfl) ?_
            repeat (go_big_quiet_step (fail))
            refine wpQuiet_nil ?_
            rintro w7 ⟨m, hm⟩
            have hb2 := m.h
            rw [← hm] at hb2
            have HN := Lib.hid (bw_call (bw_call HK5.out HB6.out) hb2)
            clear hb2 hm m q1 q2 B6
            go_wp2
            go_roundw
            case rel => exact ⟨p + 1 + 1, by omega, by go_num, HN.out⟩
            case measure => simp [intOf]; omega
        · go_wp2
          go_roundw
          case rel => exact ⟨1, by omega, by go_num, HK5.out⟩
          case measure => simp [intOf]
    · have cS := (blk B4).1
      go_wp2
      clear cS
      go_loopw [46] (fun q w5 => ∃ j : Nat, j ≤ 19 ∧ q = .int .i64 j ∧ Below w3.heap.size w3 w5) (fun q _ => 19 - (intOf q).toNat)
      case atStart => exact ⟨0, Nat.zero_le _, rfl, HK.out⟩
      case round =>
        obtain ⟨w5, rfl⟩ : ∃ w5 : World, w5 = wr := ⟨_, rfl⟩
        obtain ⟨j, hj, rfl, hb5⟩ := hrel
        have HK5 := Lib.hid hb5
        have hz5 := hb5.size
        clear hb5
        by_cases hlt : j < 19
        · have hp5 := (HT23).out.below (by omega) HK5.out
          have hc1 := hp5 (j * 2) (by omega)
          have hc2 := hp5 (j * 2 + 1) (by omega)
          obtain ⟨r1, r2⟩ := wide_rising j hlt
          have HP5 := Lib.hid hp5
          clear hp5
          cases j with
          | zero =>
            have hd1 : decide (wideF (0 * 2 + 1) < wideF (0 * 2)) = false := decide_eq_false (by omega)
            go_wp2_with fail
            refine wp_gen ?_
            intro w6 hb6
            have hb7 := hb6
            have B6 := hb6.block w5.heap.size (by first | omega | (simp only [hs_alloc, hs_set, hs_drew]; omega))
            simp (disch := omega) only [hp_alloc, hp_set, hs_alloc, hs_set, if_pos, if_neg, ↓reduceIte, Option.map_some, putO] at B6
            have hz6 := hb6.size
            simp only [hs_alloc, hs_set] at hz6
            have HB6 := Lib.hid (show Below w5.heap.size w5 w6 from bw_call (by repeat (first | exact Below.refl _ _ | assumption | refine bw_alloc ?_ _ | refine bw_drew ?_ | refine bw_set ?_ (by omega) _)) hb6)
            clear hb6 hb7 r1 r2 hc1 hc2
            have q1 := fun (m : Cls w6) (o : Nat) => (m.h.cell (p := ⟨w5.heap.size, o, none⟩) (show w5.heap.size < _ by omega)).trans ((blk B6).1 o)
            refine wp_region_cls (by kernel_rfl) (by kernel_rfl) ?_
            repeat (go_big_quiet_step (fail))
            refine wpQuiet_nil ?_
            rintro w7 ⟨m, hm⟩
            have hb2 := m.h
            rw [← hm] at hb2
            have HN := Lib.hid (bw_call (bw_call HK5.out HB6.out) hb2)
            clear hb2 hm m q1 B6
            go_wp2
            go_roundw
            case rel => exact ⟨1, by omega, by go_num, HN.out⟩
            case measure => simp [intOf]
          | succ p =>
            have hd1 : decide (wideF ((p + 1) * 2 + 1) < wideF ((p + 1) * 2)) = false := decide_eq_false (by omega)
            have r3 := r2 p (by omega)
            have hd2 : decide (wideF ((p + 1) * 2) ≤ wideF (p * 2 + 1)) = false := decide_eq_false (by omega)
            go_wp2_with fail
            refine wp_gen ?_
            intro w6 hb6
            have B6 := hb6.block w5.heap.size (by first | omega | (simp only [hs_alloc, hs_set, hs_drew]; omega))
            simp (disch := omega) only [hp_alloc, hp_set, hs_alloc, hs_set, if_pos, if_neg, ↓reduceIte, Option.map_some, putO] at B6
            have hz6 := hb6.size
            simp only [hs_alloc, hs_set] at hz6
            have HB6 := Lib.hid (show Below w5.heap.size w5 w6 from bw_call (by repeat (first | exact Below.refl _ _ | assumption | refine bw_alloc ?_ _ | refine bw_drew ?_ | refine bw_set ?_ (by omega) _)) hb6)
            clear hb6 r1 r2 r3 hc1 hc2
            have hp6 := HP5.out.below (by omega) HB6.out
            have q1 := fun (m : Cls w6) (o : Nat) => (m.h.cell (p := ⟨w5.heap.size, o, none⟩) (show w5.heap.size < _ by omega)).trans ((blk B6).1 o)
            have q2 := fun (m : Cls w6) => (hp6.below (by omega) m.h) (p * 2 + 1) (by omega)
            clear hp6
            have k0 : (0 : Int) ≤ (p : Int) := by omega
            have k1 : (p : Int) < 19 := by omega
            refine wp_region_cls (by kernel_rfl) (by kernel_rfl) ?_
            repeat (go_big_quiet_step (fail))
            refine wpQuiet_nil ?_
            rintro w7 ⟨m, hm⟩
            have hb2 := m.h
            rw [← hm] at hb2
            have HN := Lib.hid (bw_call (bw_call HK5.out HB6.out) hb2)
            clear hb2 hm m q1 q2 B6
            go_wp2
            go_roundw
            case rel => exact ⟨p + 1 + 1, by omega, by go_num, HN.out⟩
            case measure => simp [intOf]; omega
        · go_wp2
          go_roundw
          case rel => exact ⟨2, by omega, by go_num, HK5.out⟩
          case measure => simp [intOf]
    · clear B4
      have HB4 := Lib.hid (bw_call HB3.out HK.out)
      clear hz1 hg1 hz2 hg2 hz3 hz4
      go_wp2_with fail
      refine (wmarks_c _ (HL.out.below HB4.out)).mono ?_
      rintro e w5 ⟨g3, c3, cur3, rfl, h1', h2, h3, h4, h5'⟩
      have HB5 := Lib.hid (bw_call HB4.out h2)
      have HT3 := Lib.hid (NewTab.pairs h3 h4)
      have hg3 : g3 < w5.heap.size := (Array.getElem?_eq_some_iff.1 h3).1
      clear h2 h3 h4
      go_wp2
      go_loopw [75] (fun q wr => ∃ i : Nat, i ≤ 18 ∧ q = .int .i64 i ∧ Below w5.heap.size w5 wr) (fun q _ => 18 - (intOf q).toNat)
      case atStart => exact ⟨0, Nat.zero_le _, rfl, Below.refl _ _⟩
      case round =>
        obtain ⟨w6, rfl⟩ : ∃ w6 : World, w6 = wr := ⟨_, rfl⟩
        obtain ⟨i, hi, rfl, hb6⟩ := hrel
        have HK6 := Lib.hid hb6
        have hz6 := hb6.size
        clear hb6
        by_cases hi2 : i < 18
        · have hp6 := HT3.out.below hg3 HK6.out
          have hc1 := hp6 (i * 2) (by omega)
          have hc2 := hp6 (i * 2 + 1) (by omega)
          clear hp6
          go_wp2_with fail
          refine calls_gen ?_
          intro w7 hb7
          have B7 := hb7.block w6.heap.size (by first | omega | (simp only [hs_alloc, hs_set, hs_drew]; omega))
          simp (disch := omega) only [hp_alloc, hp_set, hs_alloc, hs_set, if_pos, if_neg, ↓reduceIte, Option.map_some, putO] at B7
          have hz7 := hb7.size
          simp only [hs_alloc, hs_set] at hz7
          have HB7 := Lib.hid (show Below w6.heap.size w6 w7 from bw_call (by repeat (first | exact Below.refl _ _ | assumption | refine bw_alloc ?_ _ | refine bw_drew ?_ | refine bw_set ?_ (by omega) _)) hb7)
          have HS7 := Lib.hid B7
          clear hb7 hc1 hc2 B7
          refine (wwide_c _ (HL.out.below (bw_call (bw_call HB5.out HK6.out) HB7.out))).mono ?_
          rintro e w8 ⟨g4, c4, cur4, rfl, k1', k2, k3, k4, k5'⟩
          have HB8 := Lib.hid (bw_call HB7.out k2)
          have HS8 := Lib.hid ((k2.block w6.heap.size (by omega)).trans HS7.out)
          have hz8 := k2.size
          have HT4 := Lib.hid (NewTab.pairs k3 k4)
          have hg4 : g4 < w8.heap.size := (Array.getElem?_eq_some_iff.1 k3).1
          clear k2 k3 k4
          go_wp2
          go_loopw [81] (fun q wr => ∃ j : Nat, j ≤ 19 ∧ q = .int .i64 j ∧ Below w8.heap.size w8 wr) (fun q _ => 19 - (intOf q).toNat)
          case atStart => exact ⟨0, Nat.zero_le _, rfl, Below.refl _ _⟩
          case round =>
            obtain ⟨w9, rfl⟩ : ∃ w9 : World, w9 = wr := ⟨_, rfl⟩
            obtain ⟨j, hj, rfl, hb9⟩ := hrel
            have HK9 := Lib.hid hb9
            have hz9 := hb9.size
            have cA := (blk ((hb9.block w6.heap.size (by omega)).trans HS8.out)).1
            clear hb9
            by_cases hj2 : j < 19
            · have hp9 := HT4.out.below hg4 HK9.out
              have hc1 := hp9 (j * 2) (by omega)
              have hc2 := hp9 (j * 2 + 1) (by omega)
              clear hp9
              have hq := apart_ok i hi2 j hj2
              have zA : w6.heap.size < w9.heap.size := by omega
              rcases Bool.and_eq_false_iff.1 hq with q1 | q1
              · clear hq
                go_wp2
                go_roundw
                case rel => exact ⟨j + 1, by omega, by go_num, by repeat (first | exact HK9.out | refine bw_alloc ?_ _ | refine bw_set ?_ (by omega) _)⟩
                case measure => simp [intOf]; omega
              · cases q0 : decide (marksF (i * 2) ≤ wideF (j * 2 + 1)) with
                | false =>
                  clear hq q1
                  go_wp2
                  go_roundw
                  case rel => exact ⟨j + 1, by omega, by go_num, by repeat (first | exact HK9.out | refine bw_alloc ?_ _ | refine bw_set ?_ (by omega) _)⟩
                  case measure => simp [intOf]; omega
                | true =>
                  clear hq
                  have q0' : marksF (i * 2) ≤ wideF (j * 2 + 1) := of_decide_eq_true q0
                  go_wp2
                  go_roundw
                  case rel => exact ⟨j + 1, by omega, by go_num, by repeat (first | exact HK9.out | refine bw_alloc ?_ _ | refine bw_set ?_ (by omega) _)⟩
                  case measure => simp [intOf]; omega
            · clear cA
              go_wp2
              go_roundw
              case rel => exact ⟨i + 1, by omega, by go_num, bw_call (bw_call HK6.out HB8.out) HK9.out⟩
              case measure => simp [intOf]; omega
        · have HBW := Lib.hid (bw_call HB5.out HK6.out)
          clear hz6
          have HRA6 := Lib.hid (HRA.out.below HBW.out).sl
          have HRB6 := Lib.hid (HRB.out.below HBW.out).sl
          have o1 : Hid (∀ u ∈ intVs f n, u.oneCell' = true) := Lib.hid (by simp [intVs, Value.oneCell'])
          have o2 : Hid (∀ u ∈ intVs g m, u.oneCell' = true) := Lib.hid (by simp [intVs, Value.oneCell'])
          obtain ⟨i0, hi0, hz0, hz1, hz2⟩ := info_parts info_i32
          go_wp2_with (first
            | (at_builtin
               refine wpList_append_sl _ rfl (.const (.slice none 0 0)) (.tmp 99) 31 rfl w6.heap.size 21 i0 _ 1 4 Tryd.underlying31 hi0 hz0 hz1 hz2 rfl (by decide) (.slice none 0 0) 0 [] rfl ⟨rfl, .inl ⟨rfl, rfl⟩⟩ P n ca (intVs f n) rfl HRA6.out HP.out o1.out (by unfold maxLen; omega) (by omega) (Nat.le_refl _) ?_
               intro A1 N1 c5 wa hN1 hl1 hown1 hgr1 hat1
               have HN1 := Lib.hid hN1
               have hN1' : N1 ≤ 60 := by omega
               have Hown1 := Lib.hid hown1
               have HBa := Lib.hid (show Below w6.heap.size w6 wa from (Below.refl _ _).grown hgr1 (Nat.le_refl _) (fun k e => by cases e))
               have Hat1 := Lib.hid hat1
               have hza := HBa.out.size
               clear hN1 hl1 hown1 hgr1 hat1)
            | (at_builtin
               refine wpList_append_sl _ rfl (.tmp 100) (.tmp 101) 31 rfl w6.heap.size 21 i0 _ 1 4 Tryd.underlying31 hi0 hz0 hz1 hz2 rfl (by decide) (.slice A1 N1 c5) N1 ([] ++ intVs f n) rfl Hown1.out Q m cb (intVs g m) rfl (HRB6.out.below HBa.out) HQ.out o2.out (by unfold maxLen; omega) (by omega) hza ?_
               intro A2 N c6 wb hN hl2 hown2 hgr2 hat2
               have HN := Lib.hid hN
               have hN' : N ≤ 120 := by omega
               have Hown2 := Lib.hid hown2
               have HBb := Lib.hid (show Below w6.heap.size w6 wb from HBa.out.grown hgr2 hza (fun k e => by
                 have e' := Hat1.out
                 rw [e] at e'
                 rcases e' with e' | e'
                 · cases e'
                 · injection e' with e'; omega))
               clear hN hl2 hown2 hgr2 hat2))
          obtain ⟨h, hh⟩ : ∃ h : Nat → Int, h = fun i => if i < n then f i else g (i - n) := ⟨_, rfl⟩
          have HE : Hid (N = n + m) := Lib.hid (by have a1 := HN.out; have a2 := HN1.out; omega)
          have HI := Lib.hid (show Ints wb .i32 A2 N h from (sl_of_own Hown2.out).ints fun j hj => by
            rw [hh, List.nil_append]
            exact both_cells f g n m j (by have := HE.out; omega))
          have HT := Lib.hid (show textN h N = textN f n + textN g m by rw [HE.out, hh]; exact textN_add f g n m)
          have hcap : N ≤ c6 := by
            rcases Hown2.out.2 with ⟨e, e2⟩ | ⟨_, _, _, e, _, _, e2, _⟩
            · omega
            · injection e with _ _ e3
              omega
          have HBW2 := Lib.hid (bw_call HBW.out HBb.out)
          have hne : (textN h N != textN f n + textN g m) = false := by simpa using HT.out
          obtain ⟨a1, a2⟩ := textN_bd f n
          obtain ⟨a3, a4⟩ := textN_bd g m
          obtain ⟨K, hK⟩ : ∃ K, fitsN h N x = K := ⟨_, rfl⟩
          obtain ⟨b1, b2, b3⟩ := fitsN_spec h N x
          rw [hK] at b1 b2 b3
          have d5 : decide (x < textN h K) = false := decide_eq_false (by
            cases K with
            | zero => simp [textN]; omega
            | succ p => have := b2 p (by omega); omega)
          have d7 : decide ((K : Int) ≤ fitsN h N (x + y)) = true := decide_eq_true (by
            obtain ⟨e1, e2, e3⟩ := fitsN_spec h N (x + y)
            rcases Nat.lt_or_ge (fitsN h N (x + y)) K with q | q
            · have := e3 (by omega)
              have := b2 _ q
              omega
            · omega)
          have d7' : K ≤ fitsN h N (x + y) := by have := of_decide_eq_true d7; omega
          clear d7
          have HK := Lib.hid hK
          have HB3' := Lib.hid b3
          clear b2 b3 hK hh
          go_wp2_with fail
          refine (text_c A2 N c6 h _ (HL.out.below HBW2.out) (by omega) HI.out).mono ?_
          rintro e wc ⟨rfl, hb⟩
          have HBc := Lib.hid hb
          clear hb
          go_wp2_with fail
          refine (text_c P n ca f _ (HL.out.below (bw_call HBW2.out HBc.out)) (by omega) (HRA.out.below (bw_call HBW2.out HBc.out))).mono ?_
          rintro e wd ⟨rfl, hb⟩
          have HBd := Lib.hid (bw_call HBc.out hb)
          clear hb
          go_wp2_with fail
          refine (text_c Q m cb g _ (HL.out.below (bw_call HBW2.out HBd.out)) (by omega) (HRB.out.below (bw_call HBW2.out HBd.out))).mono ?_
          rintro e we ⟨rfl, hb⟩
          have HBe := Lib.hid (bw_call HBd.out hb)
          clear hb
          go_wp2_with fail
          refine (fits_c A2 N c6 h x _ (HL.out.below (bw_call HBW2.out HBe.out)) (by omega) (by omega) (by omega) (HI.out.below HBe.out)).mono ?_
          rintro e wf ⟨rfl, hb⟩
          have HBf := Lib.hid (bw_call HBe.out hb)
          clear hb
          rw [HK.out]
          go_wp2_with fail
          refine (text_c A2 K c6 h _ (HL.out.below (bw_call HBW2.out HBf.out)) (by omega) ((HI.out.below HBf.out).take b1)).mono ?_
          rintro e wg ⟨rfl, hb⟩
          have HBg := Lib.hid (bw_call HBf.out hb)
          clear hb
          by_cases hKN : K < N
          · have d6 : decide (textN h (K + 1) ≤ x) = false := decide_eq_false (by have := HB3'.out hKN; omega)
            go_wp2_with fail
            refine (text_c A2 (K + 1) c6 h _ (HL.out.below (bw_call HBW2.out HBg.out)) (by omega) ((HI.out.below HBg.out).take hKN)).mono ?_
            rintro e wh ⟨rfl, hb⟩
            have HBh := Lib.hid (bw_call HBg.out hb)
            clear hb
            go_wp2_with fail
            refine (fits_c A2 N c6 h _ _ (HL.out.below (bw_call HBW2.out HBh.out)) (by omega) (by omega) (by omega) (HI.out.below HBh.out)).mono ?_
            rintro e wi ⟨rfl, hb⟩
            have HBi := Lib.hid (bw_call HBh.out hb)
            clear hb
            go_wp2_with fail
            refine (known_ok _ (HL.out.below (bw_call HBW2.out HBi.out))).mono ?_
            rintro e wj ⟨rfl, hb⟩
            have HBj := Lib.hid (bw_call HBi.out hb)
            clear hb
            go_wp2
            go_ret
            exact ⟨rfl, bw_call HBW2.out HBj.out⟩
          · have d6 : decide ((K : Int) < N) = false := decide_eq_false (by omega)
            have d6' : decide (K < N) = false := decide_eq_false hKN
            go_wp2_with fail
            refine (fits_c A2 N c6 h _ _ (HL.out.below (bw_call HBW2.out HBg.out)) (by omega) (by omega) (by omega) (HI.out.below HBg.out)).mono ?_
            rintro e wi ⟨rfl, hb⟩
            have HBi := Lib.hid (bw_call HBg.out hb)
            clear hb
            go_wp2_with fail
            refine (known_ok _ (HL.out.below (bw_call HBW2.out HBi.out))).mono ?_
            rintro e wj ⟨rfl, hb⟩
            have HBj := Lib.hid (bw_call HBi.out hb)
            clear hb
            go_wp2
            go_ret
            exact ⟨rfl, bw_call HBW2.out HBj.out⟩

set_option maxRecDepth 100000 in
set_option maxHeartbeats 1000000 in
theorem widthHolds_ok (P Q : Option Addr) (n m ca cb : Nat) (f g : Nat → Int) (x y : Int) (w : World) (L : LaidW w) (hx0 : 0 ≤ x) (hy0 : 0 ≤ y) (hP : P = none → ca = 0) (hQ : Q = none → cb = 0)
    (RA : Ints w .i32 P n f) (RB : Ints w .i32 Q m g) (hnm : n ≤ 9223372036854775807) (hmm : m ≤ 9223372036854775807) :
    Calls Tryd.prog 6 #[.slice P n ca, .slice Q m cb, .int .u8 x, .int .u8 y] w (Ret (.bool true) w) := by
  by_cases h : n ≤ 60 ∧ m ≤ 60 ∧ x ≤ 200 ∧ y ≤ 200
  · exact holds_main P Q n m ca cb f g x y w L hx0 hy0 hP hQ RA RB h.1 h.2.1 h.2.2.1 h.2.2.2
  · have HL := Lib.hid L
    clear L RA RB hP hQ hnm hmm
    have h' : 60 < n ∨ n ≤ 60 ∧ 60 < m ∨ n ≤ 60 ∧ m ≤ 60 ∧ 200 < x ∨ n ≤ 60 ∧ m ≤ 60 ∧ x ≤ 200 ∧ 200 < y := by omega
    clear h
    rcases h' with h1 | ⟨h1, h2⟩ | ⟨h1, h2, h3⟩ | ⟨h1, h2, h3, h4⟩
    all_goals
      go_enter Tryd.func6, Tryd.ntmps6
      go_wp2_with fail
      refine (known_ok _ HL.out).mono ?_
      rintro e w1 ⟨rfl, hb⟩
      have HB := Lib.hid hb
      clear hb
      go_wp2
      go_ret
      exact ⟨rfl, HB.out⟩
theorem rd_ints {W : World} {P : Option Addr} {n c : Nat} (h : Rd W (.sl (.int .i32)) [.slice P n c]) : ∃ f : Nat → Int, Ints W .i32 P n f ∧ (P = none → c = 0) ∧ n ≤ 9223372036854775807 := by
  obtain ⟨h1, h2, h3, h4⟩ := rd_sl (s := .int .i32) h (by simp [Sh.size])
  unfold maxLen at h3
  by_cases hn : 0 < n
  · obtain ⟨b, off, rfl, hb, hc⟩ := h4 hn
    have h5 : ∀ i, i < n → ∃ z : Int, W.cell? ⟨b, off + i, none⟩ = some (.int .i32 z) := fun i hi => by
      obtain ⟨es, ⟨z, rfl, _⟩, hc'⟩ := hc i hi
      have := hc' 0 (by simp [Sh.size])
      exact ⟨z, by simpa [Sh.size] using this⟩
    refine ⟨fun i => if hi : i < n then (h5 i hi).choose else 0, fun _ => ⟨b, off, rfl, hb, fun i hi => ?_⟩, fun h => by (cases h), by omega⟩
    simp only [hi, dite_true]
    exact (h5 i hi).choose_spec
  · exact ⟨fun _ => 0, fun h => absurd h hn, fun h => (h1 h).2, by omega⟩
end Go.Proofs.YtklofnojojiljaaDoor
