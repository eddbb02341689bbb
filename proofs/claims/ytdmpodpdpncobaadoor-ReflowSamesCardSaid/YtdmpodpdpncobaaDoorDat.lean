/-
  Pens, cells and widths, as plain data. No condition.
-/
import Derived.WalkKit
namespace Go.Proofs.YtdmpodpdpncobaaDoor
open Go.RowKit
set_option linter.unusedSimpArgs false
set_option linter.unusedVariables false

structure Pen where
  (k1 i1 r1 g1 b1 k2 i2 r2 g2 b2 f : Int)
  deriving DecidableEq
/-- a pen's cells in memory -/
def Pen.l (p : Pen) : List Value := [.int .i64 p.k1, .int .u8 p.i1, .int .u8 p.r1, .int .u8 p.g1, .int .u8 p.b1, .int .i64 p.k2, .int .u8 p.i2, .int .u8 p.r2, .int .u8 p.g2, .int .u8 p.b2, .int .u8 p.f]
def Pen.fl (p : Pen) : List Value := [.int .i64 p.k1, .int .u8 p.i1, .int .u8 p.r1, .int .u8 p.g1, .int .u8 p.b1]
def colL (k i r g b : Int) : List Value := [.int .i64 k, .int .u8 i, .int .u8 r, .int .u8 g, .int .u8 b]
def Pen.zero : Pen := ⟨0, 0, 0, 0, 0, 0, 0, 0, 0, 0, 0⟩
/-- a screen's cell -/
structure Cl where
  (r m0 m1 m2 w : Int)
  pen : Pen
  deriving DecidableEq
/-- its cells in memory -/
def Cl.l (c : Cl) : List Value := [.int .i32 c.r, .int .i32 c.m0, .int .i32 c.m1, .int .i32 c.m2, .int .i64 c.w, .int .i64 c.pen.k1, .int .u8 c.pen.i1, .int .u8 c.pen.r1, .int .u8 c.pen.g1, .int .u8 c.pen.b1, .int .i64 c.pen.k2, .int .u8 c.pen.i2, .int .u8 c.pen.r2, .int .u8 c.pen.g2, .int .u8 c.pen.b2, .int .u8 c.pen.f]
def Cl.zero : Cl := ⟨0, 0, 0, 0, 0, Pen.zero⟩
/-- a row -/
structure Ln where
  cells : List Cl
  soft : Bool
  deriving DecidableEq
/-- a blank cell with a pen; the spacer behind a wide one -/
def blank (p : Pen) : Cl := ⟨0, 0, 0, 0, 1, p⟩
def spacer (p : Pen) : Cl := ⟨0, 0, 0, 0, 0, p⟩
/-- is there such a color? -/
def vC (k i r g b : Int) : Bool := (k == 0 && (i == 0 && (r == 0 && (g == 0 && b == 0)))) || ((k == 1 && (r == 0 && (g == 0 && b == 0))) || (k == 2 && i == 0))
def vP (k1 i1 r1 g1 b1 k2 i2 r2 g2 b2 f : Int) : Bool := vC k1 i1 r1 g1 b1 && vC k2 i2 r2 g2 b2
def vPn (p : Pen) : Bool := vP p.k1 p.i1 p.r1 p.g1 p.b1 p.k2 p.i2 p.r2 p.g2 p.b2 p.f

def marksL : List Int := [768, 879, 1155, 1161, 1425, 1469, 1552, 1562, 1611, 1631, 1750, 1756, 3633, 3633, 3636, 3642, 3655, 3662, 6832, 6911, 7616, 7679, 8203, 8207, 8400, 8447, 12330, 12335, 12441, 12442, 65024, 65039, 65056, 65071, 917760, 917999]
def wideL : List Int := [4352, 4447, 9001, 9002, 11904, 12329, 12336, 12350, 12353, 12440, 12443, 13311, 13312, 19903, 19968, 42191, 43360, 43391, 44032, 55203, 63744, 64255, 65072, 65135, 65280, 65376, 65504, 65510, 127744, 128591, 128640, 128767, 129280, 129535, 131072, 196605, 196608, 262141]
def marksF (i : Nat) : Int := marksL.getD i 0
def wideF (i : Nat) : Int := wideL.getD i 0
/-- is r in one of the first n ranges of the table f? -/
def inB (f : Nat → Int) (n : Nat) (r : Int) : Bool := (List.range n).any fun k => decide (f (k * 2) ≤ r) && decide (r ≤ f (k * 2 + 1))
/-- the ranges are in order -/
def Rising (f : Nat → Int) (n : Nat) : Prop := ∀ k, k < n → f (k * 2) ≤ f (k * 2 + 1) ∧ ∀ l, l < k → f (l * 2 + 1) < f (k * 2)
theorem marks_rising : Rising marksF 18 := by unfold Rising; decide
theorem wide_rising : Rising wideF 19 := by unfold Rising; decide
theorem inB_iff (f : Nat → Int) (n : Nat) (r : Int) : inB f n r = true ↔ ∃ k, k < n ∧ f (k * 2) ≤ r ∧ r ≤ f (k * 2 + 1) := by
  simp [inB]
theorem inB_yes {f : Nat → Int} {n : Nat} {r : Int} (k : Nat) (hk : k < n) (h1 : f (k * 2) ≤ r) (h2 : r ≤ f (k * 2 + 1)) : inB f n r = true := (inB_iff f n r).2 ⟨k, hk, h1, h2⟩
theorem inB_no {f : Nat → Int} {n : Nat} {r : Int} (h : ∀ k, k < n → ¬ (f (k * 2) ≤ r ∧ r ≤ f (k * 2 + 1))) : inB f n r = false := by
  cases e : inB f n r
  · rfl
  · obtain ⟨k, hk, h1⟩ := (inB_iff f n r).1 e
    exact absurd h1 (h k hk)
/-- how a range lies to a rune -/
def cmpV (x y r : Int) : Int := if y < r then -1 else if r < x then 1 else 0
/-- what the search comes to: all ranges below i end before r, none from i on does -/
theorem search_yes {f : Nat → Int} {n : Nat} {r : Int} (R : Rising f n) (i : Nat) (hi : i < n) (h1 : ∀ k, k < i → f (k * 2 + 1) < r) (h2 : ∀ k, i ≤ k → k < n → r ≤ f (k * 2 + 1)) : inB f n r = (cmpV (f (i * 2)) (f (i * 2 + 1)) r == 0) := by
  have h3 := h2 i (Nat.le_refl _) hi
  by_cases hx : f (i * 2) ≤ r
  · rw [inB_yes i hi hx h3, cmpV, if_neg (by omega), if_neg (by omega)]
    rfl
  · rw [inB_no, cmpV, if_neg (by omega), if_pos (by omega)]
    · rfl
    · intro k hk ⟨h4, h5⟩
      rcases Nat.lt_trichotomy k i with e | e | e
      · have := h1 k e; omega
      · subst e; omega
      · have := (R k hk).2 i e; omega
theorem search_no {f : Nat → Int} {n : Nat} {r : Int} (h1 : ∀ k, k < n → f (k * 2 + 1) < r) : inB f n r = false :=
  inB_no fun k hk ⟨_, h5⟩ => by have := h1 k hk; omega
/-- a rune that is not printed -/
def unB (r : Int) : Bool := decide (r < 32) || (decide (127 ≤ r) && decide (r < 160) || (decide (55296 ≤ r) && decide (r ≤ 57343) || decide (1114111 < r)))
/-- how many columns a rune has -/
def ofV (r : Int) : Int := if unB r then -1 else if inB marksF 18 r then 0 else if inB wideF 19 r then 2 else 1
theorem ofV_bd (r : Int) : -1 ≤ ofV r ∧ ofV r ≤ 2 := by unfold ofV; split <;> (try split) <;> (try split) <;> omega

/-- a mark that spoils a cell: one that has columns, or one behind none -/
def bad (m : Int) (behind : Bool) : Bool := m != 0 && (ofV m != 0 || behind)
def vCl (c : Cl) : Bool := vPn c.pen && (if c.r = 0 then (c.w == 0 || c.w == 1) && (c.m0 == 0 && (c.m1 == 0 && c.m2 == 0)) else !(bad c.m0 false || (bad c.m1 (c.m0 == 0) || bad c.m2 (c.m1 == 0))) && (decide (0 < c.w) && c.w == ofV c.r))
theorem vCl_w (c : Cl) (h : vCl c = true) : c.w = 0 ∨ c.w = 1 ∨ c.w = 2 := by
  unfold vCl at h
  simp only [Bool.and_eq_true] at h
  have h2 := h.2
  split at h2
  · simp at h2; omega
  · simp at h2
    have := ofV_bd c.r
    omega
theorem ofV_zero : ofV 0 = -1 := by decide
theorem vCl_spacer (p : Pen) : vCl (spacer p) = vPn p := by simp [vCl, spacer]
end Go.Proofs.YtdmpodpdpncobaaDoor
