/-
  The walks of Map, Back, ByFinal and Final, and of their references. Condition: the package-level tables hold what they were laid with.
-/
import Derived.Test.YtbnljecooaglgaaDoorWb
namespace Go.Proofs.YtbnljecooaglgaaDoor
open Go.RowKit
set_option linter.unusedSimpArgs false
set_option linter.unusedVariables false

def linesL : List Int := [160, 9670, 9618, 9225, 9228, 9229, 9226, 176, 177, 9252, 9227, 9496, 9488, 9484, 9492, 9532, 9146, 9147, 9472, 9148, 9149, 9500, 9508, 9524, 9516, 9474, 8804, 8805, 960, 8800, 163, 183]
/-- The package-level tables hold what they were laid with. -/
structure Laid (w : World) : Prop where
  l : ∀ i, i < 32 → w.cell? ⟨0, i, none⟩ = some (.int .i32 (linesL.getD i 0))
  f : ∀ i, i < 2 → w.cell? ⟨1, i, none⟩ = some (.int .i32 ([66, 48].getD i 0))
  sz : 2 ≤ w.heap.size
theorem Laid.below {w w' : World} (L : Laid w) (b : Below w.heap.size w w') : Laid w' :=
  ⟨fun i hi => (b.cell (p := ⟨0, i, none⟩) (by have := L.sz; show 0 < _; omega)).trans (L.l i hi), fun i hi => (b.cell (p := ⟨1, i, none⟩) (by have := L.sz; show 1 < _; omega)).trans (L.f i hi), Nat.le_trans L.sz b.size⟩
/-- the first place below n at which f has the value x, or -1 -/
def findF (f : Nat → Int) (n : Nat) (x : Int) : Int := match (List.range n).find? (fun i => f i == x) with | some i => (i : Int) | none => -1
theorem findF_here (f : Nat → Int) (n : Nat) (k : Nat) (hk : k < n) (hno : ∀ j, j < k → f j ≠ f k) : findF f n (f k) = k := by
  have : (List.range n).find? (fun i => f i == f k) = some k := by
    rw [List.find?_range_eq_some]
    refine ⟨by simp, by simpa using hk, fun j hj => by simpa using hno j hj⟩
  simp [findF, this]
theorem findF_not (f : Nat → Int) (n : Nat) (x : Int) (hno : ∀ j, j < n → f j ≠ x) : findF f n x = -1 := by
  have : (List.range n).find? (fun i => f i == x) = none := by
    rw [List.find?_eq_none]
    intro j hj
    simpa using hno j (by simpa using hj)
  simp [findF, this]

set_option maxHeartbeats 400000 in
theorem index_c (b n : Nat) (f : Nat → Int) (r : Int) (w : World) (hl : n ≤ 1000) (hc : ∀ i, i < n → w.cell? ⟨b, i, none⟩ = some (.int .i32 (f i))) :
    Calls Tryd.prog 30 #[.slice (some ⟨b, 0, none⟩) n n, .int .i32 r] w fun e w' => e = .returned (.int .i64 (findF f n r)) ∧ w = w' := by
  go_enter Tryd.func30, Tryd.ntmps30
  go_wp2
  go_loop [5, 8] (fun _ i => ∃ k : Nat, k ≤ n ∧ i = .int .i64 k ∧ ∀ j, j < k → f j ≠ r) (fun _ i => n - (intOf i).toNat)
  case atStart => exact ⟨0, Nat.zero_le _, rfl, fun j hj => by omega⟩
  case round =>
    obtain ⟨k, hk, rfl, hno⟩ := hrel
    have Hno := Lib.hid hno
    clear hno
    by_cases hlt : k < n
    · have hck := hc k hlt
      clear hc
      by_cases hx : f k = r
      · subst hx
        have Hf := Lib.hid (findF_here f n k hlt Hno.out)
        go_wp2
        go_ret
        exact ⟨ret_int Hf.out.symm, rfl⟩
      · have hx' : (r == f k) = false := by simpa using fun h => hx h.symm
        have Hx := Lib.hid hx
        clear hx
        go_wp2
        go_round
        case rel => exact ⟨k + 1, by omega, by go_num, fun j hj => by
          rcases Nat.lt_succ_iff_lt_or_eq.1 hj with h | h
          · exact Hno.out j h
          · subst h; exact Hx.out⟩
        case measure => simp [intOf]; omega
    · have Hf := Lib.hid (findF_not f n r fun j hj => Hno.out j (by omega))
      go_wp2
      go_ret
      exact ⟨ret_int Hf.out.symm, rfl⟩

def lineF (i : Nat) : Int := linesL.getD i 0
def finF (i : Nat) : Int := [66, 48].getD i 0
theorem finF_0 : finF 0 = 66 := rfl
theorem finF_1 : finF 1 = 48 := rfl
/-- what Back returns -/
def bkV (r : Int) : Int := if findF lineF 32 r < 0 then 0 else 95 + findF lineF 32 r
def bkE (r : Int) : Int := if findF lineF 32 r < 0 then 9 else 0
theorem findF_lo (f : Nat → Int) (n : Nat) (x : Int) : -1 ≤ findF f n x ∧ findF f n x < n := by
  unfold findF
  split
  · rename_i i h
    rw [List.find?_range_eq_some] at h
    have := h.2.1
    simp at this
    omega
  · omega

set_option maxHeartbeats 400000 in
theorem back_c (r : Int) (w : World) (L : Laid w) :
    Calls Tryd.prog 25 #[.int .i32 r] w fun e w' => e = .returned (.tuple #[.int .i32 (bkV r), .int .i64 (bkE r)]) ∧ w = w' := by
  obtain ⟨hi1, hi2⟩ := findF_lo lineF 32 r
  have Hr := Lib.hid (index_c 0 32 lineF r w (by omega) L.l)
  have Hv : Hid (bkV r = if findF lineF 32 r < 0 then 0 else 95 + findF lineF 32 r) := Lib.hid rfl
  have He : Hid (bkE r = if findF lineF 32 r < 0 then 9 else 0) := Lib.hid rfl
  by_cases h : findF lineF 32 r < 0
  all_goals
    go_enter Tryd.func25, Tryd.ntmps25
    go_wp2_with fail
    refine Hr.out.mono ?_
    rintro e w' ⟨rfl, rfl⟩
    go_wp2
    go_ret2
    rw [Hv.out, He.out]
    first | (rw [if_pos h, if_pos h]; exact ⟨rfl, rfl⟩) | (rw [if_neg (by omega), if_neg (by omega)]; exact ⟨rfl, rfl⟩)

def lineRow (i : Nat) : Value := .int .i32 (lineF i)
set_option maxHeartbeats 400000 in
theorem lines_c (w : World) :
    Calls Tryd.prog 19 #[] w fun e w' => e = .returned (.slice (some ⟨w.heap.size, 0, none⟩) 32 32) ∧ Below w.heap.size w w' ∧ ∀ i, i < 32 → w'.cell? ⟨w.heap.size, i, none⟩ = some (.int .i32 (lineF i)) := by
  go_enter Tryd.func19, Tryd.ntmps19
  go_wp2
  go_ret
  refine ⟨rfl, bw_alloc (Below.refl _ _) _, fun i hi => ?_⟩
  rw [World.cell?, heap_alloc_new]
  show (((List.range 32).map lineRow).toArray)[i]? = some (lineRow i)
  simp [hi]

set_option maxHeartbeats 400000 in
theorem rback_c (r : Int) (w : World) :
    Calls Tryd.prog 15 #[.int .i32 r] w (Ret (.tuple #[.int .i32 (bkV r), .int .i64 (bkE r)]) w) := by
  go_enter Tryd.func15, Tryd.ntmps15
  go_wp2_with fail
  refine (lines_c w).mono ?_
  rintro e w1 ⟨rfl, hb, hc⟩
  have HB := Lib.hid hb
  clear hb
  go_wp2
  go_loop [5] (fun i => ∃ k : Nat, k ≤ 32 ∧ i = .int .i64 k ∧ ∀ j, j < k → lineF j ≠ r) (fun i => 32 - (intOf i).toNat)
  case atStart => exact ⟨0, Nat.zero_le _, rfl, fun j hj => by omega⟩
  case round =>
    obtain ⟨k, hk, rfl, hno⟩ := hrel
    have Hno := Lib.hid hno
    clear hno
    by_cases hlt : k < 32
    · have hck := hc k hlt
      clear hc
      by_cases hx : lineF k = r
      · subst hx
        have Hf := Lib.hid (findF_here lineF 32 k hlt Hno.out)
        go_wp2
        go_ret2
        refine ⟨?_, HB.out⟩
        exact ret_ii (by rw [bkV, Hf.out, if_neg (by omega)]) (by rw [bkE, Hf.out, if_neg (by omega)])
      · have hx' : (lineF k == r) = false := by simpa using hx
        have Hx := Lib.hid hx
        clear hx
        go_wp2
        go_round
        case rel => exact ⟨k + 1, by omega, by go_num, fun j hj => by
          rcases Nat.lt_succ_iff_lt_or_eq.1 hj with h | h
          · exact Hno.out j h
          · subst h; exact Hx.out⟩
        case measure => simp [intOf]; omega
    · have Hf := Lib.hid (findF_not lineF 32 r fun j hj => Hno.out j (by omega))
      clear hc
      go_wp2
      go_ret2
      refine ⟨?_, HB.out⟩
      exact ret_ii (by rw [bkV, Hf.out, if_pos (by omega)]) (by rw [bkE, Hf.out, if_pos (by omega)])

/-- what ByFinal returns -/
def bfV (r : Int) : Int := if r = 48 then 1 else 0
def bfE (r : Int) : Int := if r = 66 ∨ r = 48 then 0 else 9
theorem bf_find (r : Int) : (findF finF 2 r = if r = 66 then 0 else if r = 48 then 1 else -1) := by
  unfold findF
  have : (List.range 2) = [0, 1] := rfl
  rw [this]
  simp only [List.find?_cons, List.find?_nil, finF_0, finF_1]
  by_cases h : r = 66
  · subst h; rfl
  · by_cases h' : r = 48
    · subst h'; rfl
    · have h1 : ((66 : Int) == r) = false := by simpa using fun e => h e.symm
      have h2 : ((48 : Int) == r) = false := by simpa using fun e => h' e.symm
      simp [h1, h2, h, h']

set_option maxHeartbeats 400000 in
theorem byFinal_c (r : Int) (w : World) (L : Laid w) :
    Calls Tryd.prog 28 #[.int .i32 r] w fun e w' => e = .returned (.tuple #[.int .i64 (bfV r), .int .i64 (bfE r)]) ∧ w = w' := by
  have Hr := Lib.hid (index_c 1 2 finF r w (by omega) L.f)
  have hi : findF finF 2 r = -1 ∧ ¬ r = 66 ∧ ¬ r = 48 ∨ findF finF 2 r = 0 ∧ r = 66 ∨ findF finF 2 r = 1 ∧ r = 48 := by
    rw [bf_find]
    by_cases h : r = 66
    · simp [h]
    · by_cases h' : r = 48 <;> simp [h, h']
  rcases hi with ⟨hi, h, h'⟩ | ⟨hi, rfl⟩ | ⟨hi, rfl⟩
  all_goals
    rw [hi] at Hr
    clear hi
    go_enter Tryd.func28, Tryd.ntmps28
    go_wp2_with fail
    refine Hr.out.mono ?_
    rintro e w' ⟨rfl, rfl⟩
    go_wp2
    go_ret2
    exact ⟨ret_ii (by grind [bfV]) (by grind [bfE]), rfl⟩

set_option maxHeartbeats 400000 in
theorem rbyFinal_c (r : Int) (w : World) :
    Calls Tryd.prog 20 #[.int .i32 r] w fun e w' => e = .returned (.tuple #[.int .i64 (bfV r), .int .i64 (bfE r)]) ∧ w = w' := by
  by_cases h : r = 66
  · subst h
    go_enter Tryd.func20, Tryd.ntmps20
    go_wp2
    go_ret2
    exact ⟨ret_ii (by grind [bfV]) (by grind [bfE]), rfl⟩
  · by_cases h' : r = 48
    · subst h'
      go_enter Tryd.func20, Tryd.ntmps20
      go_wp2
      go_ret2
      exact ⟨ret_ii (by grind [bfV]) (by grind [bfE]), rfl⟩
    · have h1 : (r == 66) = false := by simpa using h
      have h2 : (r == 48) = false := by simpa using h'
      go_enter Tryd.func20, Tryd.ntmps20
      go_wp2
      go_ret2
      exact ⟨ret_ii (by grind [bfV]) (by grind [bfE]), rfl⟩

/-- what Final returns -/
def fnV (k : Int) : Int := if k = 0 then 66 else if k = 1 then 48 else 0
def fnE (k : Int) : Int := if k = 0 ∨ k = 1 then 0 else 2
set_option maxHeartbeats 400000 in
theorem final_c (k : Int) (w : World) (L : Laid w) :
    Calls Tryd.prog 24 #[.int .i64 k] w fun e w' => e = .returned (.tuple #[.int .i32 (fnV k), .int .i64 (fnE k)]) ∧ w = w' := by
  have c0 : w.cell? ⟨1, 0, none⟩ = some (.int .i32 66) := L.f 0 (by omega)
  have c1 : w.cell? ⟨1, 1, none⟩ = some (.int .i32 48) := L.f 1 (by omega)
  have hk : k = 0 ∨ k = 1 ∨ kB k = false ∧ ¬ k = 0 ∧ ¬ k = 1 := by grind [kB]
  rcases hk with rfl | rfl | ⟨hk, h0, h1⟩
  all_goals
    go_enter Tryd.func24, Tryd.ntmps24
    go_wp2_with fail
    refine (known_c _ _).mono ?_
    rintro e w' ⟨rfl, rfl⟩
    first | (have hk : kB 0 = true := rfl; go_wp2) | (have hk : kB 1 = true := rfl; go_wp2) | go_wp2
    go_ret2
    exact ⟨ret_ii (by grind [fnV]) (by grind [fnE]), rfl⟩

/-- which set is used; what a rune becomes -/
def act (g0 g1 a : Int) : Int := if a = 1 then g1 else g0
def mpOk (g0 g1 a r : Int) : Bool := vB g0 g1 a && (decide (act g0 g1 a = 1) && (decide (95 ≤ r) && decide (r < 127)))
def mpR (g0 g1 a r : Int) : Int := if mpOk g0 g1 a r then lineF (r - 95).toNat else r
theorem mp_ways (g0 g1 a r : Int) : (vB g0 g1 a = false ∧ mpR g0 g1 a r = r) ∨ (vB g0 g1 a = true ∧ (a = 0 ∧ (g0 != 1) = true ∧ mpR g0 g1 0 r = r ∨ a = 1 ∧ (g1 != 1) = true ∧ mpR g0 g1 1 r = r
    ∨ a = 0 ∧ g0 = 1 ∧ r < 95 ∧ mpR 1 g1 0 r = r ∨ a = 1 ∧ g1 = 1 ∧ r < 95 ∧ mpR g0 1 1 r = r ∨ a = 0 ∧ g0 = 1 ∧ 127 ≤ r ∧ mpR 1 g1 0 r = r ∨ a = 1 ∧ g1 = 1 ∧ 127 ≤ r ∧ mpR g0 1 1 r = r
    ∨ a = 0 ∧ g0 = 1 ∧ 95 ≤ r ∧ r < 127 ∧ mpR 1 g1 0 r = lineF (r - 95).toNat ∨ a = 1 ∧ g1 = 1 ∧ 95 ≤ r ∧ r < 127 ∧ mpR g0 1 1 r = lineF (r - 95).toNat)) := by
  cases hv : vB g0 g1 a
  · left; simp [mpR, mpOk, hv]
  · right
    have ha : a = 0 ∨ a = 1 := by grind [vB, kB]
    rcases ha with rfl | rfl
    · by_cases h1 : g0 = 1
      · subst h1
        have hr : r < 95 ∨ 127 ≤ r ∨ 95 ≤ r ∧ r < 127 := by omega
        grind [mpR, mpOk, act]
      · grind [mpR, mpOk, act]
    · by_cases h1 : g1 = 1
      · subst h1
        have hr : r < 95 ∨ 127 ≤ r ∨ 95 ≤ r ∧ r < 127 := by omega
        grind [mpR, mpOk, act]
      · grind [mpR, mpOk, act]
end Go.Proofs.YtbnljecooaglgaaDoor
