/-
  The walks of Map and of its reference. Condition: the package-level tables hold what they were laid with.
-/
import Derived.Test.YtbnljecooaglgaaDoorWc
import Derived.IntWalk
namespace Go.Proofs.YtbnljecooaglgaaDoor
open Go.RowKit
set_option linter.unusedSimpArgs false
set_option linter.unusedVariables false

set_option maxHeartbeats 1000000 in
theorem map_c (g0 g1 a r : Int) (w : World) (L : Laid w) (hr0 : -2147483648 ≤ r) (hr1 : r ≤ 2147483647) :
    Calls Tryd.prog 16 #[.agg #[.int .i64 g0, .int .i64 g1, .int .i64 a], .int .i32 r] w (Ret (.int .i32 (mpR g0 g1 a r)) w) := by
  rcases mp_ways g0 g1 a r with ⟨hv, Hm⟩ | ⟨hv, ⟨rfl, hk, Hm⟩ | ⟨rfl, hk, Hm⟩ | ⟨rfl, rfl, hr, Hm⟩ | ⟨rfl, rfl, hr, Hm⟩ | ⟨rfl, rfl, hr, Hm⟩ | ⟨rfl, rfl, hr, Hm⟩ | ⟨rfl, rfl, hr, hr2, Hm⟩ | ⟨rfl, rfl, hr, hr2, Hm⟩⟩
  all_goals (replace Hm := Lib.hid Hm)
  all_goals
    go_enter Tryd.func16, Tryd.ntmps16
    go_wp2_with fail
    refine (valid_c _ _ _ _).mono ?_
    rintro e w1 ⟨rfl, hb_w1⟩
    have hz_w1 := hb_w1.size
    have B0_w1 := hb_w1.block (w.heap.size) (by first | omega | (simp only [hs_alloc, hs_set, hs_drew]; omega))
    (try simp only [hs_alloc, hs_set, hs_drew] at hz_w1)
    simp (disch := omega) only [hp_alloc, hp_set, hp_drew, hs_alloc, hs_set, hs_drew, if_pos, if_neg, ↓reduceIte, Option.map_some, putO] at B0_w1
    obtain ⟨c0_w1, f0_w1⟩ := blk B0_w1
    have H0_w1 := Lib.hid B0_w1
    clear B0_w1
    have z0_w1 : w.heap.size < w1.heap.size := by omega
    have b_w1 : Below w.heap.size w w1 := bw_call (by repeat (first | exact Below.refl _ _ | assumption | refine bw_alloc ?_ _ | refine bw_drew ?_ | refine bw_set ?_ (by omega) _)) hb_w1
    clear hb_w1
    have hl := (L.below b_w1).l
    try (have hl1 := hl (r - 95).toNat (by omega); have e1 : IntKind.i32.wrap (r - 95) = r - 95 := IntWalk.i32_in _ (by omega); have e2 : (0 : Int) ≤ r - 95 := (by omega); have e3 : r - 95 < 32 := (by omega))
    clear hl
    go_wp2
    go_ret
    exact ⟨ret_int (by first | rfl | exact Hm.out.symm), by repeat (first | exact Below.refl _ _ | assumption | refine bw_alloc ?_ _ | refine bw_drew ?_ | refine bw_set ?_ (by omega) _)⟩


/-- what the reference's loop looks for -/
theorem mp_here (g0 g1 a r k : Int) (hv : vB g0 g1 a = true) (hk : act g0 g1 a = 1) (i : Nat) (hi : i < 32) (hr : r = 95 + (i : Int)) : mpR g0 g1 a r = lineF i := by
  have e : (r - 95).toNat = i := by omega
  have : mpOk g0 g1 a r = true := by simp [mpOk, hv, hk]; omega
  simp [mpR, this, e]
theorem mp_not (g0 g1 a r : Int) (h : ∀ i : Nat, i < 32 → ¬ (act g0 g1 a = 1 ∧ r = 95 + (i : Int))) : mpR g0 g1 a r = r := by
  have : mpOk g0 g1 a r = false := by
    cases hh : mpOk g0 g1 a r
    · rfl
    · exfalso
      simp [mpOk] at hh
      exact h (r - 95).toNat (by omega) ⟨hh.2.1, by omega⟩
  simp [mpR, this]

set_option maxHeartbeats 1000000 in
theorem rmap_c (g0 g1 a r : Int) (w : World) :
    Calls Tryd.prog 17 #[.agg #[.int .i64 g0, .int .i64 g1, .int .i64 a], .int .i32 r] w (Ret (.int .i32 (mpR g0 g1 a r)) w) := by
  cases hv : vB g0 g1 a with
  | false =>
    have Hm := Lib.hid (show mpR g0 g1 a r = r by simp [mpR, mpOk, hv])
    go_enter Tryd.func17, Tryd.ntmps17
    go_wp2_with fail
    refine (rvalid_c _ _ _ _).mono ?_
    rintro e w1 ⟨rfl, hb_w1⟩
    have hz_w1 := hb_w1.size
    have B0_w1 := hb_w1.block (w.heap.size) (by first | omega | (simp only [hs_alloc, hs_set, hs_drew]; omega))
    (try simp only [hs_alloc, hs_set, hs_drew] at hz_w1)
    simp (disch := omega) only [hp_alloc, hp_set, hp_drew, hs_alloc, hs_set, hs_drew, if_pos, if_neg, ↓reduceIte, Option.map_some, putO] at B0_w1
    obtain ⟨c0_w1, f0_w1⟩ := blk B0_w1
    have H0_w1 := Lib.hid B0_w1
    clear B0_w1
    have z0_w1 : w.heap.size < w1.heap.size := by omega
    have b_w1 : Below w.heap.size w w1 := bw_call (by repeat (first | exact Below.refl _ _ | assumption | refine bw_alloc ?_ _ | refine bw_drew ?_ | refine bw_set ?_ (by omega) _)) hb_w1
    clear hb_w1
    go_wp2
    go_ret
    exact ⟨ret_int Hm.out.symm, by repeat (first | exact Below.refl _ _ | assumption | refine bw_alloc ?_ _ | refine bw_drew ?_ | refine bw_set ?_ (by omega) _)⟩
  | true =>
  have ha : a = 0 ∧ act g0 g1 a = g0 ∨ a = 1 ∧ act g0 g1 a = g1 := by grind [vB, kB, act]
  rcases ha with ⟨rfl, hK⟩ | ⟨rfl, hK⟩
  all_goals
    have HK := Lib.hid hK
    clear hK
    go_enter Tryd.func17, Tryd.ntmps17
    go_wp2_with fail
    refine (rvalid_c _ _ _ _).mono ?_
    rintro e w1 ⟨rfl, hb_w1⟩
    have hz_w1 := hb_w1.size
    have B0_w1 := hb_w1.block (w.heap.size) (by first | omega | (simp only [hs_alloc, hs_set, hs_drew]; omega))
    (try simp only [hs_alloc, hs_set, hs_drew] at hz_w1)
    simp (disch := omega) only [hp_alloc, hp_set, hp_drew, hs_alloc, hs_set, hs_drew, if_pos, if_neg, ↓reduceIte, Option.map_some, putO] at B0_w1
    obtain ⟨c0_w1, f0_w1⟩ := blk B0_w1
    have H0_w1 := Lib.hid B0_w1
    clear B0_w1
    have z0_w1 : w.heap.size < w1.heap.size := by omega
    have b_w1 : Below w.heap.size w w1 := bw_call (by repeat (first | exact Below.refl _ _ | assumption | refine bw_alloc ?_ _ | refine bw_drew ?_ | refine bw_set ?_ (by omega) _)) hb_w1
    clear hb_w1
    go_wp2_with fail
    refine (lines_c w1).mono ?_
    rintro e w2 ⟨rfl, hb_w2, hc⟩
    have HB := Lib.hid (bw_call b_w1 hb_w2)
    clear hb_w2 c0_w1 f0_w1 b_w1 hz_w1

    go_wp2
  · go_loop [7] (fun i => ∃ k : Nat, k ≤ 32 ∧ i = .int .i64 k ∧ ∀ j : Nat, j < k → ¬ (g0 = 1 ∧ r = 95 + (j : Int))) (fun i => 32 - (intOf i).toNat)
    case atStart => exact ⟨0, Nat.zero_le _, rfl, fun j hj => by omega⟩
    case round =>
      obtain ⟨k, hk, rfl, hno⟩ := hrel
      have Hno := Lib.hid hno
      clear hno
      by_cases hlt : k < 32
      · have hck := hc k hlt
        clear hc
        have e1 : IntKind.i32.wrap (95 + (k : Int)) = 95 + k := IntWalk.i32_in _ (by omega)
        by_cases hk1 : g0 = 1
        · by_cases hx : r = 95 + (k : Int)
          · have Hm := Lib.hid (mp_here g0 g1 _ r 1 hv (HK.out.trans hk1) k hlt hx)
            have hk1' : (g0 == 1) = true := by simpa using hk1
            have hx' : (r == 95 + (k : Int)) = true := by simpa using hx
            clear hk1 hx
            go_wp2
            go_ret
            exact ⟨ret_int Hm.out.symm, HB.out⟩
          · have hk1' : (g0 == 1) = true := by simpa using hk1
            have hx' : (r == 95 + (k : Int)) = false := by simpa using hx
            have Hx := Lib.hid hx
            clear hk1 hx
            go_wp2
            go_round
            case rel => exact ⟨k + 1, by omega, by go_num, fun j hj => by
              rcases Nat.lt_succ_iff_lt_or_eq.1 hj with h | h
              · exact Hno.out j h
              · subst h; exact fun e => Hx.out e.2⟩
            case measure => simp [intOf]; omega
        · have hk1' : (g0 == 1) = false := by simpa using hk1
          have Hx := Lib.hid hk1
          clear hk1
          go_wp2
          go_round
          case rel => exact ⟨k + 1, by omega, by go_num, fun j hj => by
            rcases Nat.lt_succ_iff_lt_or_eq.1 hj with h | h
            · exact Hno.out j h
            · subst h; exact fun e => Hx.out e.1⟩
          case measure => simp [intOf]; omega
      · clear hc
        have Hm := Lib.hid (mp_not g0 g1 _ r (fun i hi => by rw [HK.out]; exact Hno.out i (by omega)))
        go_wp2
        go_ret
        exact ⟨ret_int Hm.out.symm, HB.out⟩
  · go_loop [7] (fun i => ∃ k : Nat, k ≤ 32 ∧ i = .int .i64 k ∧ ∀ j : Nat, j < k → ¬ (g1 = 1 ∧ r = 95 + (j : Int))) (fun i => 32 - (intOf i).toNat)
    case atStart => exact ⟨0, Nat.zero_le _, rfl, fun j hj => by omega⟩
    case round =>
      obtain ⟨k, hk, rfl, hno⟩ := hrel
      have Hno := Lib.hid hno
      clear hno
      by_cases hlt : k < 32
      · have hck := hc k hlt
        clear hc
        have e1 : IntKind.i32.wrap (95 + (k : Int)) = 95 + k := IntWalk.i32_in _ (by omega)
        by_cases hk1 : g1 = 1
        · by_cases hx : r = 95 + (k : Int)
          · have Hm := Lib.hid (mp_here g0 g1 _ r 1 hv (HK.out.trans hk1) k hlt hx)
            have hk1' : (g1 == 1) = true := by simpa using hk1
            have hx' : (r == 95 + (k : Int)) = true := by simpa using hx
            clear hk1 hx
            go_wp2
            go_ret
            exact ⟨ret_int Hm.out.symm, HB.out⟩
          · have hk1' : (g1 == 1) = true := by simpa using hk1
            have hx' : (r == 95 + (k : Int)) = false := by simpa using hx
            have Hx := Lib.hid hx
            clear hk1 hx
            go_wp2
            go_round
            case rel => exact ⟨k + 1, by omega, by go_num, fun j hj => by
              rcases Nat.lt_succ_iff_lt_or_eq.1 hj with h | h
              · exact Hno.out j h
              · subst h; exact fun e => Hx.out e.2⟩
            case measure => simp [intOf]; omega
        · have hk1' : (g1 == 1) = false := by simpa using hk1
          have Hx := Lib.hid hk1
          clear hk1
          go_wp2
          go_round
          case rel => exact ⟨k + 1, by omega, by go_num, fun j hj => by
            rcases Nat.lt_succ_iff_lt_or_eq.1 hj with h | h
            · exact Hno.out j h
            · subst h; exact fun e => Hx.out e.1⟩
          case measure => simp [intOf]; omega
      · clear hc
        have Hm := Lib.hid (mp_not g0 g1 _ r (fun i hi => by rw [HK.out]; exact Hno.out i (by omega)))
        go_wp2
        go_ret
        exact ⟨ret_int Hm.out.symm, HB.out⟩
end Go.Proofs.YtbnljecooaglgaaDoor
