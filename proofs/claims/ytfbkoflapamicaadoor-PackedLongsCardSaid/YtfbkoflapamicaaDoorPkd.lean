/-
  Words of cells and runs, as plain data. No condition.
-/
import Derived.Test.YtfbkoflapamicaaDoorRow
import Derived.Test.YtfbkoflapamicaaDoorWr
import Derived.Test.YtfbkoflapamicaaDoorRep
namespace Go.Proofs.YtfbkoflapamicaaDoor
open Go.RowKit
set_option linter.unusedSimpArgs false
set_option linter.unusedVariables false
def Pen.word (p : Pen) : Int := wP p.k1 p.i1 p.r1 p.g1 p.b1 p.k2 p.i2 p.r2 p.g2 p.b2 p.f
def InP (p : Pen) : Prop := ((0 ≤ p.i1 ∧ p.i1 ≤ 255) ∧ (0 ≤ p.r1 ∧ p.r1 ≤ 255) ∧ (0 ≤ p.g1 ∧ p.g1 ≤ 255) ∧ (0 ≤ p.b1 ∧ p.b1 ≤ 255)) ∧ ((0 ≤ p.i2 ∧ p.i2 ≤ 255) ∧ (0 ≤ p.r2 ∧ p.r2 ≤ 255) ∧ (0 ≤ p.g2 ∧ p.g2 ≤ 255) ∧ (0 ≤ p.b2 ∧ p.b2 ≤ 255)) ∧ (0 ≤ p.f ∧ p.f ≤ 255)
/-- three words -/
structure W3 where
  (a b c : Int)
  deriving DecidableEq
def W3.l (x : W3) : List Value := [.int .u64 x.a, .int .u64 x.b, .int .u64 x.c]
def W3.zero : W3 := ⟨0, 0, 0⟩
def InW (x : W3) : Prop := (0 ≤ x.a ∧ x.a < 18446744073709551616) ∧ (0 ≤ x.b ∧ x.b < 18446744073709551616) ∧ (0 ≤ x.c ∧ x.c < 18446744073709551616)
def word1 (c : Cl) : Int := c.r + 2097152 * c.w
def word2 (c : Cl) : Int := c.m0 + 2097152 * (c.m1 + 2097152 * c.m2)
def Cl.words (c : Cl) : W3 := ⟨c.pen.word, word1 c, word2 c⟩
def wordsV (c : Cl) : W3 := if vCl c then c.words else W3.zero
def wordsE (c : Cl) : Int := if vCl c then 0 else 2
/-- the pen of a word -/
def penOf (x : Int) : Pen := ⟨cK (x % 67108864), cI (x % 67108864), cR (x % 67108864), cG (x % 67108864), cB (x % 67108864), cK (x / 67108864 % 67108864), cI (x / 67108864 % 67108864), cR (x / 67108864 % 67108864), cG (x / 67108864 % 67108864), cB (x / 67108864 % 67108864), x / 4503599627370496 % 256⟩
def okP (x : Int) : Bool := decide (x < 1152921504606846976) && vPn (penOf x)
def cellOf (x : W3) : Cl := ⟨x.b % 2097152, x.c % 2097152, x.c / 2097152 % 2097152, x.c / 4398046511104 % 2097152, x.b / 2097152, penOf x.a⟩
def okW (x : W3) : Bool := okP x.a && (decide (x.b < 8388608) && (decide (x.c < 9223372036854775808) && vCl (cellOf x)))
def cellV (x : W3) : Cl := if okW x then cellOf x else Cl.zero
def cellE (x : W3) : Int := if okW x then 0 else 12
theorem penOf_in {x : Int} : InP (penOf x) := by
  have bd : ∀ y : Int, (0 ≤ cI y ∧ cI y ≤ 255) ∧ (0 ≤ cR y ∧ cR y ≤ 255) ∧ (0 ≤ cG y ∧ cG y ≤ 255) ∧ (0 ≤ cB y ∧ cB y ≤ 255) := fun y => by
    unfold cI cR cG cB
    refine ⟨?_, ?_, ?_, ?_⟩ <;> first | omega | (split <;> omega)
  exact ⟨bd _, bd _, by simp only [penOf]; omega⟩
theorem ofV_rng (r : Int) (h : 0 ≤ ofV r) : 0 ≤ r ∧ r < 2097152 := by
  cases hu : unB r with
  | true => rw [ofV, hu, if_pos rfl] at h; omega
  | false =>
    unfold unB at hu
    simp at hu
    omega
theorem vCl_bd {c : Cl} (h : vCl c = true) : (0 ≤ c.r ∧ c.r < 2097152) ∧ (0 ≤ c.m0 ∧ c.m0 < 2097152) ∧ (0 ≤ c.m1 ∧ c.m1 < 2097152) ∧ (0 ≤ c.m2 ∧ c.m2 < 2097152) := by
  have hr : ∀ r, 0 ≤ ofV r → 0 ≤ r ∧ r < 2097152 := fun r hr => ofV_rng r hr
  have hm : ∀ m b, bad m b = false → 0 ≤ m ∧ m < 2097152 := fun m b hb => by
    by_cases h0 : m = 0
    · omega
    · have : ofV m = 0 := by
        unfold bad at hb
        simp [h0] at hb
        exact hb.1
      exact hr m (by omega)
  unfold vCl at h
  simp only [Bool.and_eq_true] at h
  have h2 := h.2
  split at h2
  · rename_i h0
    simp at h2
    omega
  · simp at h2
    obtain ⟨⟨h3, h4, h5⟩, h6, h7⟩ := h2
    exact ⟨hr c.r (by omega), hm _ _ h3, hm _ _ h4, hm _ _ h5⟩
theorem vCl_pen' {c : Cl} (h : vCl c = true) : vPn c.pen = true := vCl_pen c h
theorem word_back {p : Pen} (hv : vPn p = true) (hi : InP p) : (0 ≤ p.word ∧ p.word < 1152921504606846976) ∧ penOf p.word = p := by
  obtain ⟨k1, i1, r1, g1, b1, k2, i2, r2, g2, b2, f⟩ := p
  obtain ⟨⟨a1, a2, a3, a4⟩, ⟨b1', b2', b3, b4⟩, hf⟩ := hi
  have hv2 : vC k1 i1 r1 g1 b1 = true ∧ vC k2 i2 r2 g2 b2 = true := by
    have h9 : vP k1 i1 r1 g1 b1 k2 i2 r2 g2 b2 f = true := hv
    simpa [vP] using h9
  obtain ⟨⟨h1, h2, h3⟩, h4, h5⟩ := parts_back k1 i1 r1 g1 b1 k2 i2 r2 g2 b2 f hv a1 a2 a3 a4 b1' b2' b3 b4 hf
  obtain ⟨c1, c2, c3, c4, c5⟩ := color_back k1 i1 r1 g1 b1 hv2.1 a1 a2 a3 a4
  obtain ⟨d1, d2, d3, d4, d5⟩ := color_back k2 i2 r2 g2 b2 hv2.2 b1' b2' b3 b4
  refine ⟨⟨h4, h5⟩, ?_⟩
  simp only [penOf, Pen.word, h1, h2, h3, c1, c2, c3, c4, c5, d1, d2, d3, d4, d5]
/-- what both read from a word -/
theorem okP_law {x : Int} (h0 : 0 ≤ x) (h1 : x < 18446744073709551616) :
    (okP x = true ∧ (penOf x).word = x ∧ (rK (x % 67108864) = cK (x % 67108864) ∧ rI (x % 67108864) = cI (x % 67108864) ∧ rR (x % 67108864) = cR (x % 67108864) ∧ rG (x % 67108864) = cG (x % 67108864) ∧ rBl (x % 67108864) = cB (x % 67108864)) ∧ (rK (x / 67108864 % 67108864) = cK (x / 67108864 % 67108864) ∧ rI (x / 67108864 % 67108864) = cI (x / 67108864 % 67108864) ∧ rR (x / 67108864 % 67108864) = cR (x / 67108864 % 67108864) ∧ rG (x / 67108864 % 67108864) = cG (x / 67108864 % 67108864) ∧ rBl (x / 67108864 % 67108864) = cB (x / 67108864 % 67108864))) ∨
    (okP x = false ∧ (x < 1152921504606846976 → vPn (penOf x) = false) ∧ rP (rK (x % 67108864)) (rI (x % 67108864)) (rR (x % 67108864)) (rG (x % 67108864)) (rBl (x % 67108864)) (rK (x / 67108864 % 67108864)) (rI (x / 67108864 % 67108864)) (rR (x / 67108864 % 67108864)) (rG (x / 67108864 % 67108864)) (rBl (x / 67108864 % 67108864)) (x / 4503599627370496 % 256) ≠ x) := by
  rcases words_law x h0 h1 with ⟨e1, e2, e3, e4, e5⟩ | ⟨e1, e2⟩
  · left
    have hv : vPn (penOf x) = true := e3
    refine ⟨by rw [okP, decide_eq_true e2, hv]; rfl, ?_, e4, e5⟩
    rw [e4.1, e4.2.1, e4.2.2.1, e4.2.2.2.1, e4.2.2.2.2, e5.1, e5.2.1, e5.2.2.1, e5.2.2.2.1, e5.2.2.2.2, rP_ok _ _ _ _ _ _ _ _ _ _ _ e3] at e1
    exact e1
  · right
    refine ⟨?_, e2, e1⟩
    by_cases h : x < 1152921504606846976
    · have : vPn (penOf x) = false := e2 h
      rw [okP, this, Bool.and_false]
    · rw [okP, decide_eq_false h, Bool.false_and]
/-- words give the cell back -/
theorem words_back {c : Cl} (hv : vCl c = true) (hi : InP c.pen) : InW c.words ∧ okW c.words = true ∧ cellOf c.words = c := by
  obtain ⟨h1, h2, h3, h4⟩ := vCl_bd hv
  have hw := vCl_w c hv
  have hp := vCl_pen' hv
  obtain ⟨p1, p2⟩ := word_back hp hi
  have hc : cellOf c.words = c := by
    obtain ⟨r, m0, m1, m2, wd, pn⟩ := c
    simp only at h1 h2 h3 h4 hw p2
    simp only [cellOf, Cl.words, word1, word2, p2, Cl.mk.injEq, and_true]
    omega
  have hb : word1 c < 8388608 ∧ 0 ≤ word1 c := by unfold word1; omega
  have hc2 : word2 c < 9223372036854775808 ∧ 0 ≤ word2 c := by unfold word2; omega
  refine ⟨⟨⟨p1.1, by show c.pen.word < _; omega⟩, ⟨hb.2, by show word1 c < _; omega⟩, ⟨hc2.2, by show word2 c < _; omega⟩⟩, ?_, hc⟩
  rw [okW, hc, hv, decide_eq_true (show c.words.c < 9223372036854775808 from hc2.1), decide_eq_true (show c.words.b < 8388608 from hb.1), okP, show penOf c.words.a = c.pen from p2, hp, decide_eq_true (show c.words.a < 1152921504606846976 from p1.2)]
  rfl
theorem okW_parts {x : W3} (h : okW x = true) : okP x.a = true ∧ x.b < 8388608 ∧ x.c < 9223372036854775808 ∧ vCl (cellOf x) = true := by
  simp only [okW, Bool.and_eq_true, decide_eq_true_eq] at h
  exact h
/-- a cell gives the words back -/
theorem cell_back {x : W3} (hx : InW x) (h : okW x = true) : (cellOf x).words = x ∧ InP (cellOf x).pen := by
  obtain ⟨h1, h2, h3, h4⟩ := okW_parts h
  obtain ⟨⟨a0, a1⟩, ⟨b0, b1⟩, ⟨c0, c1⟩⟩ := hx
  have ha : (penOf x.a).word = x.a := by
    rcases okP_law a0 a1 with ⟨_, e, _⟩ | ⟨e, _⟩
    · exact e
    · rw [h1] at e; cases e
  refine ⟨?_, penOf_in⟩
  obtain ⟨xa, xb, xc⟩ := x
  simp only at ha h2 h3 b0 c0
  simp only [Cl.words, cellOf, word1, word2, W3.mk.injEq]
  refine ⟨ha, ?_, ?_⟩ <;> omega
/-- the reference's cell -/
def earlyW (x : W3) : Bool := okP x.a && decide (x.b < 8388608)
def rcellV (x : W3) : Cl := if earlyW x then cellOf x else Cl.zero
theorem okW_words {x : W3} (hx : InW x) (he : earlyW x = true) : (vCl (cellOf x) && decide ((cellOf x).words = x)) = okW x := by
  rw [earlyW, Bool.and_eq_true, decide_eq_true_eq] at he
  obtain ⟨⟨a0, a1⟩, ⟨b0, b1⟩, ⟨c0, c1⟩⟩ := hx
  have ha : (penOf x.a).word = x.a := by
    rcases okP_law a0 a1 with ⟨_, e, _⟩ | ⟨e, _⟩
    · exact e
    · rw [he.1] at e; cases e
  rw [okW, he.1, decide_eq_true he.2, Bool.true_and, Bool.true_and, Bool.and_comm]
  congr 1
  obtain ⟨xa, xb, xc⟩ := x
  simp only at ha c0 b0 c1
  rw [decide_eq_decide]
  simp only [Cl.words, cellOf, word1, word2, W3.mk.injEq, ha, true_and]
  omega
theorem okW_early {x : W3} (he : earlyW x = false) : okW x = false := by
  rw [earlyW, Bool.and_eq_false_iff] at he
  rcases he with h | h
  · rw [okW, h, Bool.false_and]
  · rw [okW, h, Bool.false_and, Bool.and_false]
/-! ### Bits -/
theorem and21 (x : Int) (h0 : 0 ≤ x) (h1 : x < 18446744073709551616) : bits .and .u64 x 2097151 = x % 2097152 := by
  obtain ⟨c, rfl⟩ := Int.eq_ofNat_of_zero_le h0
  rw [show (2097151 : Int) = ((2097151 : Nat) : Int) from rfl, u64_and_nat _ _ (by omega) (by omega), show (2097151 : Nat) = 2 ^ 21 - 1 from rfl, Nat.and_two_pow_sub_one_eq_mod]
  omega
theorem quo_u64 {a b : Int} (ha : 0 ≤ a) (hb : a / b < 18446744073709551616) (hb0 : 0 ≤ a / b) : IntKind.u64.wrap (a.tdiv b) = a / b := by
  rw [Int.tdiv_eq_ediv_of_nonneg ha]
  exact wrap_u64_in _ hb0 hb
def unpV (x : Int) : Pen := if okP x then penOf x else Pen.zero
def unpE (x : Int) : Int := if okP x then 0 else 12
def rpenOf (x : Int) : Pen := ⟨rK (x % 67108864), rI (x % 67108864), rR (x % 67108864), rG (x % 67108864), rBl (x % 67108864), rK (x / 67108864 % 67108864), rI (x / 67108864 % 67108864), rR (x / 67108864 % 67108864), rG (x / 67108864 % 67108864), rBl (x / 67108864 % 67108864), x / 4503599627370496 % 256⟩
theorem rpen_ok {x : Int} (h0 : 0 ≤ x) (h1 : x < 18446744073709551616) (h : okP x = true) : rpenOf x = penOf x := by
  rcases okP_law h0 h1 with ⟨_, _, ⟨a1, a2, a3, a4, a5⟩, ⟨b1, b2, b3, b4, b5⟩⟩ | ⟨e, _⟩
  · rw [rpenOf, penOf, a1, a2, a3, a4, a5, b1, b2, b3, b4, b5]
  · rw [h] at e; cases e
/-! ### Runs -/
structure Rn where
  cnt : Int
  w : W3
  deriving DecidableEq
def Rn.l (x : Rn) : List Value := [.int .i64 x.cnt, .int .u64 x.w.a, .int .u64 x.w.b, .int .u64 x.w.c]
theorem Rn.l_length (x : Rn) : x.l.length = 4 := rfl
def rl (xs : List Rn) : List Value := xs.flatMap Rn.l
theorem rl_snoc (xs : List Rn) (x : Rn) : rl (xs ++ [x]) = rl xs ++ x.l := flat_snoc _ xs x
theorem rl_append (xs ys : List Rn) : rl (xs ++ ys) = rl xs ++ rl ys := by simp [rl]
theorem length_rl (xs : List Rn) : (rl xs).length = xs.length * 4 := length_flat Rn.l_length xs
theorem one_rl (xs : List Rn) : ((rl xs).all fun u => u.oneCell') = true := by
  induction xs with
  | nil => rfl
  | cons c t ih =>
    rw [rl, List.flatMap_cons, List.all_append, ← rl, ih]
    rfl
def RsR (σ : Nat → Option Obj) (A : Option Addr) (n c : Nat) (xs : List Rn) : Prop := SlR 4 (fun x cs => cs = x.l) σ A n c xs
def InR (rs : List Rn) : Prop := ∀ x ∈ rs, InW x.w
/-- are runs those of cells, behind s cells and a run with some words? -/
def vRf : Int → Option W3 → List Rn → Bool
  | _, _, [] => true
  | s, pv, x :: l => decide (1 ≤ x.cnt ∧ x.cnt ≤ 100000) && (decide (pv ≠ some x.w) && (okW x.w && (decide (s + x.cnt ≤ 100000) && vRf (s + x.cnt) (some x.w) l)))
def vR (rs : List Rn) : Bool := vRf 0 none rs
def sumR (rs : List Rn) : Int := (rs.map Rn.cnt).sum
def flatR (rs : List Rn) : List Cl := rs.flatMap fun x => List.replicate x.cnt.toNat (cellOf x.w)
def prevW (rs : List Rn) (i : Nat) : Option W3 := if 0 < i then rs[i - 1]?.map Rn.w else none
theorem take_snoc {α : Type} {l : List α} {i : Nat} {x : α} (h : l[i]? = some x) : l.take (i + 1) = l.take i ++ [x] := by
  rw [List.take_add_one, h]; rfl
theorem drop_get {α : Type} {X : List α} {i : Nat} {x : α} (h : X[i]? = some x) : X.drop i = x :: X.drop (i + 1) := by
  obtain ⟨hi, e⟩ := List.getElem?_eq_some_iff.1 h
  rw [List.drop_eq_getElem_cons hi, e]
theorem sumR_snoc (a : List Rn) (x : Rn) : sumR (a ++ [x]) = sumR a + x.cnt := by simp [sumR]
theorem flatR_snoc (a : List Rn) (x : Rn) : flatR (a ++ [x]) = flatR a ++ List.replicate x.cnt.toNat (cellOf x.w) := by simp [flatR]
theorem prevW_succ {rs : List Rn} {i : Nat} {x : Rn} (h : rs[i]? = some x) : prevW rs (i + 1) = some x.w := by simp [prevW, h]
theorem vRf_parts : ∀ (l : List Rn) (s : Int) (pv : Option W3), vRf s pv l = true → (∀ x ∈ l, (1 ≤ x.cnt ∧ x.cnt ≤ 100000) ∧ okW x.w = true) ∧ (l ≠ [] → s + sumR l ≤ 100000) ∧ (l.length : Int) ≤ sumR l
  | [], s, pv, _ => ⟨fun x hx => (by cases hx), fun h => absurd rfl h, Int.le_refl _⟩
  | x :: l, s, pv, h => by
    simp only [vRf, Bool.and_eq_true] at h
    obtain ⟨h1, _, h3, h4, h5⟩ := h
    have h1' := of_decide_eq_true h1
    have h4' := of_decide_eq_true h4
    obtain ⟨g1, g2, g3⟩ := vRf_parts l _ _ h5
    have e : sumR (x :: l) = x.cnt + sumR l := by simp [sumR]
    refine ⟨fun y hy => ?_, fun _ => ?_, ?_⟩
    · rcases List.mem_cons.1 hy with rfl | hy
      · exact ⟨h1', h3⟩
      · exact g1 y hy
    · rw [e]
      by_cases hl : l = []
      · subst hl
        have : sumR [] = 0 := rfl
        omega
      · have := g2 hl
        omega
    · rw [e, List.length_cons]
      omega
theorem vR_parts {rs : List Rn} (h : vR rs = true) : (∀ x ∈ rs, (1 ≤ x.cnt ∧ x.cnt ≤ 100000) ∧ okW x.w = true) ∧ sumR rs ≤ 100000 ∧ rs.length ≤ 100000 := by
  obtain ⟨h1, h2, h3⟩ := vRf_parts rs 0 none h
  have h4 : sumR rs ≤ 100000 := by
    by_cases hl : rs = []
    · rw [hl]; decide
    · have := h2 hl; omega
  exact ⟨h1, h4, by omega⟩
theorem sum_bd {rs : List Rn} (h : ∀ x ∈ rs, 1 ≤ x.cnt ∧ x.cnt ≤ 100000) : 0 ≤ sumR rs ∧ sumR rs ≤ rs.length * 100000 ∧ ((flatR rs).length : Int) = sumR rs := by
  induction rs with
  | nil => exact ⟨by decide, by decide, rfl⟩
  | cons x l ih =>
    obtain ⟨h1, h2, h3⟩ := ih fun y hy => h y (List.mem_cons_of_mem _ hy)
    have hx := h x (List.mem_cons_self ..)
    have e : sumR (x :: l) = x.cnt + sumR l := by simp [sumR]
    have e2 : (flatR (x :: l)).length = x.cnt.toNat + (flatR l).length := by simp [flatR]
    rw [e, e2, List.length_cons]
    omega
def countV (rs : List Rn) : Int := if vR rs then sumR rs else 0
def unpackV (rs : List Rn) : List Cl := if vR rs then flatR rs else []
def unpackE (rs : List Rn) : Int := if vR rs then 0 else 12
/-- the runs of cells -/
def bump : List Rn → List Rn
  | [] => []
  | [x] => [{ x with cnt := x.cnt + 1 }]
  | x :: y :: l => x :: bump (y :: l)
def gstep (out : List Rn) (pv : Option Cl) (c : Cl) : List Rn := if pv = some c then bump out else out ++ [⟨1, c.words⟩]
def packF : Option Cl → List Rn → List Cl → List Rn
  | _, out, [] => out
  | pv, out, c :: l => packF (some c) (gstep out pv c) l
def packE (l : List Cl) : Int := if 100000 < l.length then 5 else if l.all vCl then 0 else 2
def packV (l : List Cl) : List Rn := if packE l = 0 then packF none [] l else []
def prevC (l : List Cl) (i : Nat) : Option Cl := if 0 < i then l[i - 1]? else none
theorem bump_len : ∀ l : List Rn, (bump l).length = l.length
  | [] => rfl
  | [_] => rfl
  | x :: y :: l => by simp [bump, bump_len (y :: l)]
theorem bump_set : ∀ (l : List Rn) (x : Rn), 0 < l.length → l[l.length - 1]? = some x → bump l = l.set (l.length - 1) { x with cnt := x.cnt + 1 }
  | [], _, h, _ => by simp at h
  | [y], x, _, h => by simp at h; subst h; rfl
  | y :: z :: l, x, _, h => by
    have h2 : (z :: l)[(z :: l).length - 1]? = some x := by
      simpa using h
    rw [bump, bump_set (z :: l) x (by simp) h2]
    simp
/-- the runs of both of two lists -/
def joinL (a b : List Rn) : List Rn := match a[a.length - 1]?, b[0]? with
  | some x, some y => if x.w = y.w then a.set (a.length - 1) { x with cnt := x.cnt + y.cnt } ++ b.drop 1 else a ++ b
  | _, _ => a ++ b
def joinE (a b : List Rn) : Int := if vR a && vR b then (if 100000 < sumR a + sumR b then 5 else 0) else 12
def joinV (a b : List Rn) : List Rn := if joinE a b = 0 then joinL a b else []
theorem putL_rl : ∀ (xs : List Rn) (k : Nat) (x : Rn) (v : Int), xs[k]? = some x → putL (rl xs) (k * 4) [.int .i64 v] = rl (xs.set k { x with cnt := v })
  | [], k, x, v, h => by simp at h
  | y :: l, 0, x, v, h => by
    simp only [List.getElem?_cons_zero, Option.some.injEq] at h
    subst h
    rfl
  | y :: l, k + 1, x, v, h => by
    simp only [List.getElem?_cons_succ] at h
    have e1 : rl (y :: l) = y.l ++ rl l := rfl
    have e2 : (k + 1) * 4 = y.l.length + k * 4 := by rw [Rn.l_length]; omega
    have hb : ∀ (a ys vs : List Value) (o : Nat), putL (a ++ ys) (a.length + o) vs = a ++ putL ys o vs := fun a ys vs o => by
      unfold putL
      rw [List.take_length_add_append, Nat.add_assoc, List.drop_length_add_append]
      simp [List.append_assoc]
    rw [e1, e2, hb, putL_rl l k x v h]
    rfl
/-! ### A row that was appended to is written -/
theorem rowBlk {w0 w : World} {K K1 : List Ent} {e z m c : Nat} {A : Option Addr} {xs : List Value} (k : KOk w0 K w) (p : Pick K (.row e z A m c xs) K1) (hm : 0 < m) :
    ∃ q : Nat × List Value, (A = some ⟨q.1, 0, none⟩ ∧ q.2.length = c * z ∧ q.2.take (m * z) = xs ∧ m ≤ c ∧ c ≤ 9223372036854775807) ∧ KOk w0 (.blk q.1 q.2 e :: K1) w := by
  have k1 := k.pick p
  obtain ⟨h1, h2⟩ := k1.all.1
  rcases h2 with ⟨hv, hm0⟩ | ⟨g, cap, cur, hv, hb, hg, hc, hcap, hsz, htk⟩
  · omega
  · cases hv
    refine ⟨⟨g, cur.toList⟩, ⟨rfl, by simpa using hsz, htk, hc, by simpa [maxLen] using hcap⟩, k1.bel, ⟨hb, by rw [Array.toArray_toList]; exact hg⟩, fun e' he' hm x hx => k1.all.2.1 e' he' rfl x ?_, k1.all.2.2⟩
    cases hx
    rfl
theorem Kle.blkRow2 {w0 : World} {K : List Ent} {b m c z : Nat} {cs xs : List Value} {e : TypeId} (hl : cs.length = c * z) (ht : cs.take (m * z) = xs) (hx : xs.length = m * z) (hm : m ≤ c) (hc : c ≤ 9223372036854775807) : Kle w0 (.blk b cs e :: K) (.row e z (some ⟨b, 0, none⟩) m c xs :: K) := fun w k => by
  obtain ⟨h1, h2, h3⟩ := k.all
  refine ⟨k.bel, ⟨hx, .inr ⟨b, c, cs.toArray, rfl, h1.1, h1.2, hm, by simpa [maxLen] using hc, by simpa using hl, by simpa using ht⟩⟩, fun e' he' _ x hx => ?_, h3⟩
  cases hx
  exact h2 e' he' rfl b rfl
theorem rl_store {cs : List Value} {out : List Rn} {k : Nat} {x : Rn} {v : Int} (h : cs.take (out.length * 4) = rl out) (hk : out[k]? = some x) :
    (putL cs (k * 4) [.int .i64 v]).take (out.length * 4) = rl (out.set k { x with cnt := v }) ∧ k * 4 + 1 ≤ cs.length ∧ (putL cs (k * 4) [.int .i64 v]).length = cs.length := by
  have hi := (List.getElem?_eq_some_iff.1 hk).1
  have h2 := congrArg List.length h
  rw [List.length_take, length_rl] at h2
  have e : cs = rl out ++ cs.drop (out.length * 4) := by
    rw [← h, List.take_append_drop]
  have hle : k * 4 + 1 ≤ (rl out).length := by rw [length_rl]; omega
  refine ⟨?_, by omega, length_putL _ _ _ (by simp only [List.length_cons, List.length_nil]; omega)⟩
  rw [e]
  have hp : putL (rl out ++ cs.drop (out.length * 4)) (k * 4) [.int .i64 v] = putL (rl out) (k * 4) [.int .i64 v] ++ cs.drop (out.length * 4) := by
    unfold putL
    rw [List.take_append_of_le_length (by omega), List.drop_append_of_le_length (by simp only [List.length_cons, List.length_nil]; omega)]
    simp [List.append_assoc]
  rw [hp, putL_rl out k x v hk, List.take_left' (by rw [length_rl, List.length_set])]
theorem Src.rs {w0 : World} {K K1 : List Ent} {σ : Nat → Option Obj} {A : Option Addr} {m c : Nat} {xs : List Rn} (p : Pick K (.fr σ) K1) (h : RsR σ A m c xs) : Src w0 K A m 4 (rl xs) := fun w k => by
  refine ⟨by rw [length_rl, h.1], fun hn => ?_⟩
  obtain ⟨b, o, hA, hc⟩ := h.2.2.2.2 hn
  have hcell : ∀ j, j < m * 4 → ∃ v, (rl xs)[j]? = some v ∧ w.cell? ⟨b, o + j, none⟩ = some v := fun j hj => by
    have hi : j / 4 < m := by omega
    obtain ⟨x, hx⟩ := get_of_lt h.1 hi
    obtain ⟨_, rfl, _, hat⟩ := hc _ x hx
    have hj2 : j % 4 < x.l.length := by rw [Rn.l_length]; omega
    have hv : x.l[j % 4]? = some x.l[j % 4] := List.getElem?_eq_getElem hj2
    have e : j / 4 * 4 + j % 4 = j := by omega
    refine ⟨x.l[j % 4], ?_, ?_⟩
    · have := get_flat Rn.l_length xs _ _ x _ hx hv
      rwa [e] at this
    · have := at_cell (hat _ _ hv) (k.get p)
      rwa [Nat.add_assoc, e] at this
  refine ⟨b, o, hA, ?_, fun j hj => ?_⟩
  · obtain ⟨v, _, h2⟩ := hcell 0 (by omega)
    unfold World.cell? at h2
    split at h2
    · rename_i X T f hb
      exact lt_of_some hb
    · cases h2
  · obtain ⟨v, h1, h2⟩ := hcell j hj
    rw [h1, h2]
theorem RsR.drop1 {σ : Nat → Option Obj} {A : Option Addr} {n c : Nat} {xs : List Rn} (h : RsR σ A n c xs) (h0 : 0 < n) : RsR σ (subA A c 1 4) (n - 1) (c - 1) (xs.drop 1) := by
  have := SlR.slice h (lo := 1) (hi := n) h0 (Nat.le_refl _)
  rwa [List.take_of_length_le (Nat.le_of_eq h.1)] at this
theorem joinL_yes {a b : List Rn} {x y : Rn} (hx : a[a.length - 1]? = some x) (hy : b[0]? = some y) (e : x.w = y.w) : joinL a b = a.set (a.length - 1) { x with cnt := x.cnt + y.cnt } ++ b.drop 1 := by unfold joinL; simp only [hx, hy, if_pos e]
theorem joinL_no {a b : List Rn} {x y : Rn} (hx : a[a.length - 1]? = some x) (hy : b[0]? = some y) (e : ¬ x.w = y.w) : joinL a b = a ++ b := by unfold joinL; simp only [hx, hy, if_neg e]
theorem joinL_nil {a b : List Rn} (h : a.length = 0 ∨ b.length = 0) : joinL a b = a ++ b := by
  rcases h with h | h
  · obtain rfl := List.length_eq_zero_iff.1 h
    rfl
  · obtain rfl := List.length_eq_zero_iff.1 h
    unfold joinL
    split
    · rename_i h2; simp at h2
    · rfl
def wordsLawV (c : Cl) (x : W3) (no : Int) : Bool := decide (wordsV c = x) && wordsE c == no
def cellLawV (x : W3) (c : Cl) (no : Int) : Bool := decide (cellV x = c) && cellE x == no
def packsV (l : List Cl) (no : Int) (want : List Rn) : Bool := decide (packV l = want) && packE l == no
def unpacksV (l : List Rn) (no : Int) (want : List Cl) : Bool := decide (unpackV l = want) && unpackE l == no
def joinsV (a b : List Rn) (no : Int) (want : List Rn) : Bool := decide (joinV a b = want) && joinE a b == no
def inWB (x : W3) : Bool := decide ((0 ≤ x.a ∧ x.a < 18446744073709551616) ∧ (0 ≤ x.b ∧ x.b < 18446744073709551616) ∧ (0 ≤ x.c ∧ x.c < 18446744073709551616))
def inRB (rs : List Rn) : Bool := rs.all fun x => inWB x.w
theorem inWB_ok {x : W3} (h : inWB x = true) : InW x := by
  unfold inWB at h
  have h9 := of_decide_eq_true h
  exact h9
theorem inRB_ok {rs : List Rn} (h : inRB rs = true) : InR rs := fun x hx => inWB_ok (List.all_eq_true.1 h x hx)
def inPB (p : Pen) : Bool := decide (((0 ≤ p.i1 ∧ p.i1 ≤ 255) ∧ (0 ≤ p.r1 ∧ p.r1 ≤ 255) ∧ (0 ≤ p.g1 ∧ p.g1 ≤ 255) ∧ (0 ≤ p.b1 ∧ p.b1 ≤ 255)) ∧ ((0 ≤ p.i2 ∧ p.i2 ≤ 255) ∧ (0 ≤ p.r2 ∧ p.r2 ≤ 255) ∧ (0 ≤ p.g2 ∧ p.g2 ≤ 255) ∧ (0 ≤ p.b2 ∧ p.b2 ≤ 255)) ∧ (0 ≤ p.f ∧ p.f ≤ 255))
theorem inPB_ok {p : Pen} (h : inPB p = true) : InP p := by
  unfold inPB at h
  have h9 := of_decide_eq_true h
  exact h9
def inCB (l : List Cl) : Bool := l.all fun c => inPB c.pen
theorem inCB_ok {l : List Cl} (h : inCB l = true) : ∀ c ∈ l, InP c.pen := fun c hc => inPB_ok (List.all_eq_true.1 h c hc)
theorem RsR.of_blk {w : World} {b n : Nat} {ls : List Rn} {T : TypeId} {f : Nat × Nat} (hb : w.heap[b]? = some (.cells (rl ls).toArray T f)) (hn : ls.length = n) (hn63 : n ≤ 9223372036854775807 := by decide) : RsR (fun b => w.heap[b]?) (some ⟨b, 0, none⟩) n n ls :=
  SlR.of_row Rn.l_length ⟨by rw [← hn]; exact length_rl ls, Nat.le_refl _, hn63, fun h => (by cases h), fun _ => ⟨b, rfl, fun j v hj => ⟨_, _, _, hb, by rw [Nat.zero_add, List.getElem?_toArray]; exact hj⟩⟩⟩ hn
theorem CsR.of_blkw {w : World} {b n : Nat} {ls : List Cl} {T : TypeId} {f : Nat × Nat} (hb : w.heap[b]? = some (.cells (fl ls).toArray T f)) (hn : ls.length = n) (hn63 : n ≤ 9223372036854775807 := by decide) : CsR (fun b => w.heap[b]?) (some ⟨b, 0, none⟩) n n ls :=
  CsR.of_row ⟨by rw [← hn]; exact length_fl ls, Nat.le_refl _, hn63, fun h => (by cases h), fun _ => ⟨b, rfl, fun j v hj => ⟨_, _, _, hb, by rw [Nat.zero_add, List.getElem?_toArray]; exact hj⟩⟩⟩ hn
theorem RsR_nil (σ : Nat → Option Obj) : RsR σ none 0 0 [] := SlR.nil
theorem KOk.frs3 {w : World} {σ τ υ : Nat → Option Obj} (h : ∀ b o, σ b = some o → w.heap[b]? = some o) (h' : ∀ b o, τ b = some o → w.heap[b]? = some o) (h2 : ∀ b o, υ b = some o → w.heap[b]? = some o) : KOk w [.fr σ, .fr τ, .fr υ] w :=
  ⟨Below.refl _ _, h, fun e he hm => (by simp only [List.mem_cons, List.not_mem_nil, or_false] at he; rcases he with rfl | rfl <;> cases hm), h', fun e he hm => (by rw [List.mem_singleton.1 he] at hm; cases hm), h2, fun e he => (by simp at he), trivial⟩
theorem KOk.atRow {w0 w : World} {K K1 : List Ent} {e z m c : Nat} {A : Option Addr} {xs : List Value} (k : KOk w0 K w) (p : Pick K (.row e z A m c xs) K1) : RowOk (fun b => w.heap[b]?) A m c z xs := by
  obtain ⟨σ, h, k2⟩ := KOk.rowOwn (k.pick p)
  exact h.mono fun b o hb => (k2.all.1 b o hb).2
end Go.Proofs.YtfbkoflapamicaaDoor
