/-
  The walks of the reference. No condition.
-/
import Derived.Test.YtklofnojojiljaaDoorWa
namespace Go.Proofs.YtklofnojojiljaaDoor
open Go.RowKit
set_option linter.unusedSimpArgs false
set_option linter.unusedVariables false

theorem pr_ways (r : Int) : (unB r = true ∧ (r < 32 ∨ 126 < r ∧ r < 160 ∨ 55296 ≤ r ∧ r ≤ 57343 ∨ 1114112 ≤ r)) ∨ (unB r = false ∧ (32 ≤ r ∧ r ≤ 126 ∨ 160 ≤ r ∧ r < 55296 ∨ 57343 < r ∧ r < 1114112)) := by
  rcases un_ways r with ⟨h, h'⟩ | ⟨h, h'⟩
  · exact .inl ⟨h, by omega⟩
  · exact .inr ⟨h, by omega⟩
set_option maxHeartbeats 1000000 in
theorem printed_c (r : Int) (w : World) : Calls Tryd.prog 18 #[.int .i32 r] w fun e w' => e = .returned (.bool (!unB r)) ∧ w = w' := by
  rcases pr_ways r with ⟨hu, h | ⟨h, h'⟩ | ⟨h, h'⟩ | h⟩ | ⟨hu, ⟨h, h'⟩ | ⟨h, h'⟩ | ⟨h, h'⟩⟩
  all_goals
    have HU := Lib.hid hu
    clear hu
    go_enter Tryd.func18, Tryd.ntmps18
    go_wp2
    go_ret
    exact ⟨ret_bool (by rw [HU.out]; first | rfl | (simp; omega)), rfl⟩
set_option maxHeartbeats 1000000 in
theorem rin_c (b n : Nat) (f : Nat → Int) (r : Int) (w : World) (hn : n ≤ 1000) (C : Pairs w b n f) :
    Calls Tryd.prog 19 #[.slice (some ⟨b, 0, none⟩) n n, .int .i32 r] w fun e w' => e = .returned (.bool (inB f n r)) ∧ w = w' := by
  have HC := Lib.hid C
  clear C
  go_enter Tryd.func19, Tryd.ntmps19
  go_wp2
  go_loop [5] (fun i => ∃ k : Nat, k ≤ n ∧ i = .int .i64 k ∧ Hid (∀ j, j < k → ¬ (f (j * 2) ≤ r ∧ r ≤ f (j * 2 + 1)))) (fun i => n - (intOf i).toNat)
  case atStart => exact ⟨0, Nat.zero_le _, rfl, Lib.hid fun j hj => by omega⟩
  case round =>
    obtain ⟨k, hk, rfl, H⟩ := hrel
    by_cases hlt : k < n
    · have hc1 := HC.out (k * 2) (by omega)
      have hc2 := HC.out (k * 2 + 1) (by omega)
      by_cases h1 : f (k * 2) ≤ r
      · by_cases h2 : r ≤ f (k * 2 + 1)
        · have HF := Lib.hid (inB_yes (f := f) (n := n) (r := r) k hlt h1 h2)
          go_wp2
          go_ret
          exact ⟨ret_bool HF.out.symm, rfl⟩
        · have HX := Lib.hid h2
          have h2' : decide (r ≤ f (k * 2 + 1)) = false := by simpa using h2
          go_wp2
          go_round
          case rel => exact ⟨k + 1, by omega, by go_num, Lib.hid fun j hj => by
            rcases Nat.lt_succ_iff_lt_or_eq.1 hj with h | h
            · exact H.out j h
            · subst h; exact fun e => HX.out e.2⟩
          case measure => simp [intOf]; omega
      · have HX := Lib.hid h1
        have h1' : decide (f (k * 2) ≤ r) = false := by simpa using h1
        go_wp2
        go_round
        case rel => exact ⟨k + 1, by omega, by go_num, Lib.hid fun j hj => by
          rcases Nat.lt_succ_iff_lt_or_eq.1 hj with h | h
          · exact H.out j h
          · subst h; exact fun e => HX.out e.1⟩
        case measure => simp [intOf]; omega
    · have HF := Lib.hid (inB_no (f := f) (n := n) (r := r) fun j hj => H.out j (by omega))
      go_wp2
      go_ret
      exact ⟨ret_bool HF.out.symm, rfl⟩
def marksV (i : Nat) : Value := .int .i32 (marksF i)
def wideV (i : Nat) : Value := .int .i32 (wideF i)
/-- a table in new memory -/
def NewPairs (n : Nat) (f : Nat → Int) (w : World) (e : Ending) (w' : World) : Prop := ∃ b c, w.heap.size ≤ b ∧ b < w'.heap.size ∧ e = .returned (.slice (some ⟨b, 0, none⟩) n c) ∧ Below w.heap.size w w' ∧ Pairs w' b n f ∧ n ≤ c

set_option maxRecDepth 100000 in
set_option maxHeartbeats 2000000 in
theorem rmarks_c (w : World) : Calls Tryd.prog 13 #[] w fun e w' => e = .returned (.slice (some ⟨w.heap.size, 0, none⟩) 18 18) ∧ w.heap.size < w'.heap.size ∧ Below w.heap.size w w' ∧ Pairs w' w.heap.size 18 marksF := by
  go_enter Tryd.func13, Tryd.ntmps13
  go_wp2
  go_ret
  refine ⟨rfl, by simp, bw_alloc (Below.refl _ _) _, fun i hi => ?_⟩
  rw [World.cell?, heap_alloc_new]
  show (((List.range 36).map marksV).toArray)[i]? = some (marksV i)
  simp [show i < 36 from hi]

set_option maxRecDepth 100000 in
set_option maxHeartbeats 2000000 in
theorem rwide_c (w : World) : Calls Tryd.prog 14 #[] w fun e w' => e = .returned (.slice (some ⟨w.heap.size, 0, none⟩) 19 19) ∧ w.heap.size < w'.heap.size ∧ Below w.heap.size w w' ∧ Pairs w' w.heap.size 19 wideF := by
  go_enter Tryd.func14, Tryd.ntmps14
  go_wp2
  go_ret
  refine ⟨rfl, by simp, bw_alloc (Below.refl _ _) _, fun i hi => ?_⟩
  rw [World.cell?, heap_alloc_new]
  show (((List.range 38).map wideV).toArray)[i]? = some (wideV i)
  simp [show i < 38 from hi]

set_option maxHeartbeats 1000000 in
theorem rof_c (r : Int) (w : World) : Calls Tryd.prog 8 #[.int .i32 r] w (Ret (.int .i64 (ofV r)) w) := by
  cases hu : unB r with
  | true =>
    have HV := Lib.hid (ofV_un hu)
    go_enter Tryd.func8, Tryd.ntmps8
    go_wp2_with fail
    refine (printed_c _ _).mono ?_
    rintro e w' ⟨rfl, rfl⟩
    rw [hu]
    clear hu
    go_wp2
    go_ret
    exact ⟨ret_int HV.out.symm, Below.refl _ _⟩
  | false =>
    go_enter Tryd.func8, Tryd.ntmps8
    go_wp2_with fail
    refine (printed_c _ _).mono ?_
    rintro e w' ⟨rfl, rfl⟩
    rw [hu]
    have HU := Lib.hid hu
    clear hu
    go_wp2_with fail
    refine (rmarks_c _).mono ?_
    rintro e w1 ⟨rfl, hz1, hb1, hp1⟩
    have HB1 := Lib.hid hb1
    have HP1 := Lib.hid hp1
    clear hb1 hp1
    go_wp2_with fail
    refine (rin_c _ 18 marksF _ _ (by omega) HP1.out).mono ?_
    rintro e w' ⟨rfl, rfl⟩
    cases h1 : inB marksF 18 r with
    | true =>
      have HV := Lib.hid (ofV_m HU.out h1)
      clear h1
      go_wp2_with fail
      go_ret
      exact ⟨ret_int HV.out.symm, HB1.out⟩
    | false =>
      go_wp2_with fail
      refine (rwide_c _).mono ?_
      rintro e w2 ⟨rfl, hz2, hb2, hp2⟩
      have HB2 := Lib.hid (bw_call HB1.out hb2)
      have HP2 := Lib.hid hp2
      clear hb2 hp2
      go_wp2_with fail
      refine (rin_c _ 19 wideF _ _ (by omega) HP2.out).mono ?_
      rintro e w' ⟨rfl, rfl⟩
      cases h2 : inB wideF 19 r with
      | true =>
        have HV := Lib.hid (ofV_w HU.out h1 h2)
        clear h1 h2
        go_wp2_with fail
        go_ret
        exact ⟨ret_int HV.out.symm, HB2.out⟩
      | false =>
        have HV := Lib.hid (ofV_1 HU.out h1 h2)
        clear h1 h2
        go_wp2_with fail
        go_ret
        exact ⟨ret_int HV.out.symm, HB2.out⟩
end Go.Proofs.YtklofnojojiljaaDoor
