/-
  The walks of the width of a rune, and of what it calls. Condition: the package-level tables hold what they were laid with.
-/
import Derived.Test.YtdmpodpdpncobaaDoorBase
import Derived.Test.YtdmpodpdpncobaaDoorDat
namespace Go.Proofs.YtdmpodpdpncobaaDoor
open Go.RowKit
set_option linter.unusedSimpArgs false
set_option linter.unusedVariables false

/-- The package-level tables hold what they were laid with. -/
structure LaidW (w : World) : Prop where
  m : ∀ i, i < 36 → w.cell? ⟨0, i, none⟩ = some (.int .i32 (marksF i))
  v : ∀ i, i < 38 → w.cell? ⟨1, i, none⟩ = some (.int .i32 (wideF i))
  sz : 2 ≤ w.heap.size
theorem LaidW.below {w w' : World} (L : LaidW w) (b : Below w.heap.size w w') : LaidW w' :=
  ⟨fun i hi => (b.cell (p := ⟨0, i, none⟩) (by have := L.sz; show 0 < _; omega)).trans (L.m i hi), fun i hi => (b.cell (p := ⟨1, i, none⟩) (by have := L.sz; show 1 < _; omega)).trans (L.v i hi), Nat.le_trans L.sz b.size⟩

set_option maxHeartbeats 400000 in
theorem cmp_c (x y r : Int) (w : World) : Calls Tryd.prog 108 #[.agg #[.int .i32 x, .int .i32 y], .int .i32 r] w (Ret (.int .i64 (cmpV x y r)) w) := by
  go_enter Tryd.func108, Tryd.ntmps108
  go_wp2
  all_goals (go_ret; refine ⟨ret_int ?_, bw_alloc (Below.refl _ _) _⟩)
  all_goals (unfold cmpV; first | rw [if_pos (by omega)] | (rw [if_neg (by omega), if_pos (by omega)]) | (rw [if_neg (by omega), if_neg (by omega)]))

/-- what the search returns: some place, and whether it was found -/
def BsPost (v : Bool) (w : World) (e : Ending) (w' : World) : Prop := ∃ i : Int, e = .returned (.tuple #[.int .i64 i, .bool v]) ∧ Below w.heap.size w w'
/-- a slice of n pairs of runes at block b -/
def Pairs (w : World) (b n : Nat) (f : Nat → Int) : Prop := ∀ i, i < n * 2 → w.cell? ⟨b, i, none⟩ = some (.int .i32 (f i))
theorem Pairs.below {w w' : World} {b n : Nat} {f : Nat → Int} (h : Pairs w b n f) (hb : b < w.heap.size) (k : Below w.heap.size w w') : Pairs w' b n f := fun i hi => (k.cell (p := ⟨b, i, none⟩) hb).trans (h i hi)

set_option maxRecDepth 100000 in
set_option maxHeartbeats 1000000 in
theorem bs_c (b n : Nat) (f : Nat → Int) (r : Int) (w : World) (hn : n ≤ 1000) (hb : b < w.heap.size) (R : Rising f n) (C : Pairs w b n f) :
    Calls Tryd.prog 107 #[.slice (some ⟨b, 0, none⟩) n n, .int .i32 r, .func (.func 108) #[] #[]] w (BsPost (inB f n r) w) := by
  have HR := Lib.hid R
  have HC := Lib.hid C
  clear R C
  go_enter Tryd.func107, Tryd.ntmps107
  go_wp2
  go_loopw [9, 10] (fun i j wr => ∃ p q : Nat, p ≤ q ∧ q ≤ n ∧ i = .int .i64 p ∧ j = .int .i64 q ∧ Below w.heap.size w wr ∧ Hid (∀ k, k < p → f (k * 2 + 1) < r) ∧ Hid (∀ k, q ≤ k → k < n → r ≤ f (k * 2 + 1))) (fun i j _ => (intOf j).toNat - (intOf i).toNat)
  case atStart => exact ⟨0, n, Nat.zero_le _, Nat.le_refl _, rfl, rfl, Below.refl _ _, Lib.hid fun k hk => by omega, Lib.hid fun k h1 h2 => by omega⟩
  case round =>
    obtain ⟨p, q, hpq, hqn, rfl, rfl, hbw, H1, H2⟩ := hrel
    have HB := Lib.hid hbw
    have HCr := Lib.hid (HC.out.below hb hbw)
    clear hbw
    by_cases hlt : p < q
    · have hc1 := HCr.out ((p + q) / 2 * 2) (by omega)
      have hc2 := HCr.out ((p + q) / 2 * 2 + 1) (by omega)
      go_wp2_with fail
      refine (cmp_c _ _ _ _).mono ?_
      rintro e w2 ⟨rfl, hb2⟩
      have HB2 := Lib.hid (bw_call HB.out hb2)
      clear hb2 hc1 hc2
      by_cases hx : f ((p + q) / 2 * 2 + 1) < r
      · have hd : cmpV (f ((p + q) / 2 * 2)) (f ((p + q) / 2 * 2 + 1)) r = -1 := by rw [cmpV, if_pos hx]
        rw [hd]
        have HX := Lib.hid hx
        clear hd hx
        go_wp2
        go_roundw
        case rel => exact ⟨(p + q) / 2 + 1, q, by omega, hqn, by go_num, rfl, HB2.out, Lib.hid fun k hk => by
          rcases Nat.lt_succ_iff_lt_or_eq.1 hk with h | h
          · have h3 := HX.out
            have h4 := (HR.out ((p + q) / 2) (by omega)).1
            have h5 := (HR.out ((p + q) / 2) (by omega)).2 k h
            omega
          · rw [h]; exact HX.out, H2⟩
        case measure => simp [intOf]; omega
      · obtain ⟨c, hc, hc0⟩ : ∃ c, cmpV (f ((p + q) / 2 * 2)) (f ((p + q) / 2 * 2 + 1)) r = c ∧ 0 ≤ c := ⟨_, rfl, by rw [cmpV, if_neg hx]; split <;> omega⟩
        rw [hc]
        have HX := Lib.hid hx
        clear hc hx
        go_wp2
        go_roundw
        case rel => exact ⟨p, (p + q) / 2, by omega, by omega, rfl, by go_num, HB2.out, H1, Lib.hid fun k hk hk2 => by
          have h3 := HX.out
          rcases Nat.lt_or_ge ((p + q) / 2) k with h | h
          · have h4 := (HR.out k hk2).1
            have h5 := (HR.out k hk2).2 _ h
            omega
          · rw [show k = (p + q) / 2 by omega]; omega⟩
        case measure => simp [intOf]; omega
    · obtain rfl : p = q := by omega
      by_cases hpn : p < n
      · have hc1 := HCr.out (p * 2) (by omega)
        have hc2 := HCr.out (p * 2 + 1) (by omega)
        have HF := Lib.hid (search_yes HR.out p hpn H1.out H2.out)
        go_wp2_with fail
        refine (cmp_c _ _ _ _).mono ?_
        rintro e w2 ⟨rfl, hb2⟩
        have HB2 := Lib.hid (bw_call HB.out hb2)
        clear hb2 hc1 hc2
        go_wp2
        go_ret2
        exact ⟨p, ret_ib rfl HF.out.symm, HB2.out⟩
      · have HF := Lib.hid (search_no (f := f) (n := n) (r := r) fun k hk => H1.out k (by omega))
        go_wp2_with fail
        go_ret2
        exact ⟨p, ret_ib rfl HF.out.symm, HB.out⟩

set_option maxHeartbeats 400000 in
theorem in_c (b n : Nat) (f : Nat → Int) (r : Int) (w : World) (hn : n ≤ 1000) (hb : b < w.heap.size) (R : Rising f n) (C : Pairs w b n f) :
    Calls Tryd.prog 104 #[.slice (some ⟨b, 0, none⟩) n n, .int .i32 r] w (Ret (.bool (inB f n r)) w) := by
  have H := Lib.hid (bs_c b n f r w hn hb R C)
  clear R C
  go_enter Tryd.func104, Tryd.ntmps104
  go_wp2_with fail
  refine H.out.mono ?_
  rintro e w2 ⟨i, rfl, hb2⟩
  have HB := Lib.hid hb2
  clear hb2
  go_wp2
  go_ret
  exact ⟨rfl, HB.out⟩

theorem ofV_un {r : Int} (h : unB r = true) : ofV r = -1 := by simp [ofV, h]
theorem ofV_m {r : Int} (h : unB r = false) (h1 : inB marksF 18 r = true) : ofV r = 0 := by simp [ofV, h, h1]
theorem ofV_w {r : Int} (h : unB r = false) (h1 : inB marksF 18 r = false) (h2 : inB wideF 19 r = true) : ofV r = 2 := by simp [ofV, h, h1, h2]
theorem ofV_1 {r : Int} (h : unB r = false) (h1 : inB marksF 18 r = false) (h2 : inB wideF 19 r = false) : ofV r = 1 := by simp [ofV, h, h1, h2]
theorem un_ways (r : Int) : (unB r = true ∧ (r < 32 ∨ 127 ≤ r ∧ r < 160 ∨ 55296 ≤ r ∧ r ≤ 57343 ∨ 1114111 < r)) ∨ (unB r = false ∧ (32 ≤ r ∧ r < 127 ∨ 160 ≤ r ∧ r < 55296 ∨ 57343 < r ∧ r ≤ 1114111)) := by
  cases h : unB r
  · right
    simp [unB] at h
    exact ⟨rfl, by omega⟩
  · left
    simp [unB] at h
    exact ⟨rfl, by omega⟩
set_option maxHeartbeats 2000000 in
theorem of_c (r : Int) (w : World) (L : LaidW w) : Calls Tryd.prog 102 #[.int .i32 r] w (Ret (.int .i64 (ofV r)) w) := by
  have hm := L.sz
  have Hm := Lib.hid (in_c 0 18 marksF r w (by omega) (by omega) marks_rising L.m)
  have Hw := Lib.hid (fun w1 (hb : Below w.heap.size w w1) => in_c 1 19 wideF r w1 (by omega) (by have := (L.below hb).sz; omega) wide_rising (L.below hb).v)
  clear L hm
  rcases un_ways r with ⟨hu, h | ⟨h, h'⟩ | ⟨h, h'⟩ | h⟩ | ⟨hu, h⟩
  iterate 4
    · have HV := Lib.hid (ofV_un hu)
      clear hu
      go_enter Tryd.func102, Tryd.ntmps102
      go_wp2_with fail
      go_ret
      exact ⟨ret_int HV.out.symm, Below.refl _ _⟩
  · rcases h with ⟨h, h'⟩ | ⟨h, h'⟩ | ⟨h, h'⟩
    all_goals
      have HU := Lib.hid hu
      clear hu
      go_enter Tryd.func102, Tryd.ntmps102
      go_wp2_with fail
      refine Hm.out.mono ?_
      rintro e w1 ⟨rfl, hb1⟩
      have HB1 := Lib.hid hb1
      clear hb1
      cases h1 : inB marksF 18 r with
      | true =>
        have HV := Lib.hid (ofV_m HU.out h1)
        clear h1
        go_wp2_with fail
        go_ret
        exact ⟨ret_int HV.out.symm, HB1.out⟩
      | false =>
        go_wp2_with fail
        refine (Hw.out w1 HB1.out).mono ?_
        rintro e w2 ⟨rfl, hb2⟩
        have HB2 := Lib.hid (bw_call HB1.out hb2)
        clear hb2
        cases h2 : inB wideF 19 r with
        | true =>
          have HV := Lib.hid (ofV_w HU.out h1 h2)
          clear h1 h2
          go_wp2_with fail
          go_ret
          exact ⟨ret_int HV.out.symm, HB2.out⟩
        | false =>
          have HV := Lib.hid (ofV_1 HU.out h1 h2)
          clear h1 h2
          go_wp2_with fail
          go_ret
          exact ⟨ret_int HV.out.symm, HB2.out⟩

theorem pr_ways (r : Int) : (unB r = true ∧ (r < 32 ∨ 126 < r ∧ r < 160 ∨ 55296 ≤ r ∧ r ≤ 57343 ∨ 1114112 ≤ r)) ∨ (unB r = false ∧ (32 ≤ r ∧ r ≤ 126 ∨ 160 ≤ r ∧ r < 55296 ∨ 57343 < r ∧ r < 1114112)) := by
  rcases un_ways r with ⟨h, h'⟩ | ⟨h, h'⟩
  · exact .inl ⟨h, by omega⟩
  · exact .inr ⟨h, by omega⟩
set_option maxHeartbeats 1000000 in
theorem printed_c (r : Int) (w : World) : Calls Tryd.prog 97 #[.int .i32 r] w fun e w' => e = .returned (.bool (!unB r)) ∧ w = w' := by
  rcases pr_ways r with ⟨hu, h | ⟨h, h'⟩ | ⟨h, h'⟩ | h⟩ | ⟨hu, ⟨h, h'⟩ | ⟨h, h'⟩ | ⟨h, h'⟩⟩
  all_goals
    have HU := Lib.hid hu
    clear hu
    go_enter Tryd.func97, Tryd.ntmps97
    go_wp2
    go_ret
    exact ⟨ret_bool (by rw [HU.out]; first | rfl | (simp; omega)), rfl⟩
set_option maxHeartbeats 1000000 in
theorem rin_c (b n : Nat) (f : Nat → Int) (r : Int) (w : World) (hn : n ≤ 1000) (C : Pairs w b n f) :
    Calls Tryd.prog 98 #[.slice (some ⟨b, 0, none⟩) n n, .int .i32 r] w fun e w' => e = .returned (.bool (inB f n r)) ∧ w = w' := by
  have HC := Lib.hid C
  clear C
  go_enter Tryd.func98, Tryd.ntmps98
  go_wp2
  go_loop [5] (fun i => ∃ k : Nat, k ≤ n ∧ i = .int .i64 k ∧ Hid (∀ j, j < k → ¬ (f (j * 2) ≤ r ∧ r ≤ f (j * 2 + 1)))) (fun i => n - (intOf i).toNat)
  case atStart => exact ⟨0, Nat.zero_le _, rfl, Lib.hid fun j hj => by omega⟩
  case round =>
    obtain ⟨k, hk, rfl, H⟩ := hrel
    by_cases hlt : k < n
    · have hc1 := HC.out (k * 2) (by omega)
      have hc2 := HC.out (k * 2 + 1) (by omega)
      by_cases h1 : f (k * 2) ≤ r
      · by_cases h2 : r ≤ f (k * 2 + 1)
        · have HF := Lib.hid (inB_yes (f := f) (n := n) (r := r) k hlt h1 h2)
          go_wp2
          go_ret
          exact ⟨ret_bool HF.out.symm, rfl⟩
        · have HX := Lib.hid h2
          have h2' : decide (r ≤ f (k * 2 + 1)) = false := by simpa using h2
          go_wp2
          go_round
          case rel => exact ⟨k + 1, by omega, by go_num, Lib.hid fun j hj => by
            rcases Nat.lt_succ_iff_lt_or_eq.1 hj with h | h
            · exact H.out j h
            · subst h; exact fun e => HX.out e.2⟩
          case measure => simp [intOf]; omega
      · have HX := Lib.hid h1
        have h1' : decide (f (k * 2) ≤ r) = false := by simpa using h1
        go_wp2
        go_round
        case rel => exact ⟨k + 1, by omega, by go_num, Lib.hid fun j hj => by
          rcases Nat.lt_succ_iff_lt_or_eq.1 hj with h | h
          · exact H.out j h
          · subst h; exact fun e => HX.out e.1⟩
        case measure => simp [intOf]; omega
    · have HF := Lib.hid (inB_no (f := f) (n := n) (r := r) fun j hj => H.out j (by omega))
      go_wp2
      go_ret
      exact ⟨ret_bool HF.out.symm, rfl⟩
def marksV (i : Nat) : Value := .int .i32 (marksF i)
def wideV (i : Nat) : Value := .int .i32 (wideF i)
set_option maxRecDepth 100000 in
set_option maxHeartbeats 2000000 in
theorem rmarks_c (w : World) : Calls Tryd.prog 99 #[] w fun e w' => e = .returned (.slice (some ⟨w.heap.size, 0, none⟩) 18 18) ∧ w.heap.size < w'.heap.size ∧ Below w.heap.size w w' ∧ Pairs w' w.heap.size 18 marksF := by
  go_enter Tryd.func99, Tryd.ntmps99
  go_wp2
  go_ret
  refine ⟨rfl, by simp, bw_alloc (Below.refl _ _) _, fun i hi => ?_⟩
  rw [World.cell?, heap_alloc_new]
  show (((List.range 36).map marksV).toArray)[i]? = some (marksV i)
  simp [show i < 36 from hi]

set_option maxRecDepth 100000 in
set_option maxHeartbeats 2000000 in
theorem rwide_c (w : World) : Calls Tryd.prog 100 #[] w fun e w' => e = .returned (.slice (some ⟨w.heap.size, 0, none⟩) 19 19) ∧ w.heap.size < w'.heap.size ∧ Below w.heap.size w w' ∧ Pairs w' w.heap.size 19 wideF := by
  go_enter Tryd.func100, Tryd.ntmps100
  go_wp2
  go_ret
  refine ⟨rfl, by simp, bw_alloc (Below.refl _ _) _, fun i hi => ?_⟩
  rw [World.cell?, heap_alloc_new]
  show (((List.range 38).map wideV).toArray)[i]? = some (wideV i)
  simp [show i < 38 from hi]

set_option maxHeartbeats 1000000 in
theorem rof_c (r : Int) (w : World) : Calls Tryd.prog 94 #[.int .i32 r] w (Ret (.int .i64 (ofV r)) w) := by
  cases hu : unB r with
  | true =>
    have HV := Lib.hid (ofV_un hu)
    go_enter Tryd.func94, Tryd.ntmps94
    go_wp2_with fail
    refine (printed_c _ _).mono ?_
    rintro e w' ⟨rfl, rfl⟩
    rw [hu]
    clear hu
    go_wp2
    go_ret
    exact ⟨ret_int HV.out.symm, Below.refl _ _⟩
  | false =>
    go_enter Tryd.func94, Tryd.ntmps94
    go_wp2_with fail
    refine (printed_c _ _).mono ?_
    rintro e w' ⟨rfl, rfl⟩
    rw [hu]
    have HU := Lib.hid hu
    clear hu
    go_wp2_with fail
    refine (rmarks_c _).mono ?_
    rintro e w1 ⟨rfl, hz1, hb1, hp1⟩
    have HB1 := Lib.hid hb1
    have HP1 := Lib.hid hp1
    clear hb1 hp1
    go_wp2_with fail
    refine (rin_c _ 18 marksF _ _ (by omega) HP1.out).mono ?_
    rintro e w' ⟨rfl, rfl⟩
    cases h1 : inB marksF 18 r with
    | true =>
      have HV := Lib.hid (ofV_m HU.out h1)
      clear h1
      go_wp2_with fail
      go_ret
      exact ⟨ret_int HV.out.symm, HB1.out⟩
    | false =>
      go_wp2_with fail
      refine (rwide_c _).mono ?_
      rintro e w2 ⟨rfl, hz2, hb2, hp2⟩
      have HB2 := Lib.hid (bw_call HB1.out hb2)
      have HP2 := Lib.hid hp2
      clear hb2 hp2
      go_wp2_with fail
      refine (rin_c _ 19 wideF _ _ (by omega) HP2.out).mono ?_
      rintro e w' ⟨rfl, rfl⟩
      cases h2 : inB wideF 19 r with
      | true =>
        have HV := Lib.hid (ofV_w HU.out h1 h2)
        clear h1 h2
        go_wp2_with fail
        go_ret
        exact ⟨ret_int HV.out.symm, HB2.out⟩
      | false =>
        have HV := Lib.hid (ofV_1 HU.out h1 h2)
        clear h1 h2
        go_wp2_with fail
        go_ret
        exact ⟨ret_int HV.out.symm, HB2.out⟩
end Go.Proofs.YtdmpodpdpncobaaDoor
