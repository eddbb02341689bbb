/-
  Cells and pens, compared and built. No condition.
-/
import Derived.Test.YtfbkoflapamicaaDoorWc
namespace Go.Proofs.YtfbkoflapamicaaDoor
open Go.RowKit
set_option linter.unusedSimpArgs false
set_option linter.unusedVariables false

theorem Ats.part {σ : Nat → Option Obj} {b o : Nat} {cs : List Value} (h : Ats σ b o cs) (_vs vs : List Value) (k : Nat) (e : (cs.drop k).take vs.length = vs) : Ats σ b (o + k) vs := fun j v hj => by
  rw [← e, List.getElem?_take] at hj
  split at hj
  · rw [List.getElem?_drop] at hj
    rw [Nat.add_assoc]
    exact h (k + j) v hj
  · cases hj
theorem eqc_25 (d : Nat) (k i r g b k' i' r' g' b' : Int) (w : World) : (Op.equalIn (d + 2) 25 (.agg #[.int .i64 k, .int .u8 i, .int .u8 r, .int .u8 g, .int .u8 b]) (.agg #[.int .i64 k', .int .u8 i', .int .u8 r', .int .u8 g', .int .u8 b'])).run Tryd.prog w = .ok (k == k' && (i == i' && (r == r' && (g == g' && b == b')))) w := by
  cases h1 : k == k' <;> cases h2 : i == i' <;> cases h3 : r == r' <;> cases h4 : g == g' <;> cases h5 : b == b' <;> simp [go_sem, part, h1, h2, h3, h4, h5]
theorem pen_eq (p q : Pen) : decide (p = q) = ((p.k1 == q.k1 && (p.i1 == q.i1 && (p.r1 == q.r1 && (p.g1 == q.g1 && p.b1 == q.b1)))) && ((p.k2 == q.k2 && (p.i2 == q.i2 && (p.r2 == q.r2 && (p.g2 == q.g2 && p.b2 == q.b2)))) && p.f == q.f)) := by
  obtain ⟨ak1, ai1, ar1, ag1, ab1, ak2, ai2, ar2, ag2, ab2, af⟩ := p
  obtain ⟨bk1, bi1, br1, bg1, bb1, bk2, bi2, br2, bg2, bb2, bf⟩ := q
  rw [Bool.eq_iff_iff]
  simp only [decide_eq_true_eq, Pen.mk.injEq, Bool.and_eq_true, beq_iff_eq]
  grind
theorem eqp_28 (d : Nat) (p q : Pen) (w : World) : (Op.equalIn (d + 3) 28 (.agg p.l.toArray) (.agg q.l.toArray)).run Tryd.prog w = .ok (decide (p = q)) w := by
  have heq := eqc_25
  rw [pen_eq]
  cases h1 : (p.k1 == q.k1 && (p.i1 == q.i1 && (p.r1 == q.r1 && (p.g1 == q.g1 && p.b1 == q.b1)))) <;> cases h2 : (p.k2 == q.k2 && (p.i2 == q.i2 && (p.r2 == q.r2 && (p.g2 == q.g2 && p.b2 == q.b2)))) <;> cases h3 : p.f == q.f <;> simp [go_sem, part, Pen.l, heq, h1, h2, h3]
theorem eq_28 (p q : Pen) (w : World) : (Op.equal 28 (.agg p.l.toArray) (.agg q.l.toArray)).run Tryd.prog w = .ok (decide (p = q)) w := eqp_28 9997 p q w
theorem cl_eq (c d : Cl) : decide (c = d) = (c.r == d.r && ((c.m0 == d.m0 && (c.m1 == d.m1 && c.m2 == d.m2)) && (c.w == d.w && decide (c.pen = d.pen)))) := by
  obtain ⟨r, m0, m1, m2, w, p⟩ := c
  obtain ⟨r', m0', m1', m2', w', p'⟩ := d
  rw [Bool.eq_iff_iff]
  simp only [decide_eq_true_eq, Cl.mk.injEq, Bool.and_eq_true, beq_iff_eq]
  grind
theorem eqq_28 (d : Nat) (p q : Pen) (w : World) : (Op.equalIn (d + 3) 28 (.agg #[.int .i64 p.k1, .int .u8 p.i1, .int .u8 p.r1, .int .u8 p.g1, .int .u8 p.b1, .int .i64 p.k2, .int .u8 p.i2, .int .u8 p.r2, .int .u8 p.g2, .int .u8 p.b2, .int .u8 p.f]) (.agg #[.int .i64 q.k1, .int .u8 q.i1, .int .u8 q.r1, .int .u8 q.g1, .int .u8 q.b1, .int .i64 q.k2, .int .u8 q.i2, .int .u8 q.r2, .int .u8 q.g2, .int .u8 q.b2, .int .u8 q.f])).run Tryd.prog w = .ok (decide (p = q)) w := eqp_28 d p q w
theorem eqj_22 (d : Nat) (a b c a' b' c' : Int) (w : World) : (Op.equalIn (d + 2) 22 (.agg #[.int .i32 a, .int .i32 b, .int .i32 c]) (.agg #[.int .i32 a', .int .i32 b', .int .i32 c'])).run Tryd.prog w = .ok (a == a' && (b == b' && c == c')) w := eqi_22 d a b c a' b' c' w
set_option maxHeartbeats 2000000 in
theorem eq_30 (c d : Cl) (w : World) : (Op.equal 30 (.agg c.l.toArray) (.agg d.l.toArray)).run Tryd.prog w = .ok (decide (c = d)) w := by
  show (Op.equalIn (9996 + 4) _ _ _).run _ _ = _
  have e1 := eqq_28
  have e2 := eqj_22
  rw [cl_eq]
  simp [go_sem, part, Cl.l, e1, e2]
  clear e1 e2
  by_cases h1 : c.r = d.r <;> by_cases h2 : c.m0 = d.m0 <;> by_cases h3 : c.m1 = d.m1 <;> by_cases h4 : c.m2 = d.m2 <;> by_cases h5 : c.w = d.w <;> by_cases h6 : c.pen = d.pen <;> simp [h1, h2, h3, h4, h5, h6]
theorem bld_30_3 (p : Pen) (w : World) : (Instr.build 30 #[(3, .agg p.l.toArray)]).run Tryd.prog w = .ok (.agg (spacer p).l.toArray) w := by kernel_rfl
theorem bld_30_2 (n : Int) (w : World) : (Instr.build 30 #[(2, .int .i64 n)]).run Tryd.prog w = .ok (.agg (Cl.mk 0 0 0 0 n Pen.zero).l.toArray) w := by kernel_rfl
theorem bld_30_2_3 (n : Int) (p : Pen) (w : World) : (Instr.build 30 #[(2, .int .i64 n), (3, .agg p.l.toArray)]).run Tryd.prog w = .ok (.agg (Cl.mk 0 0 0 0 n p).l.toArray) w := by kernel_rfl
theorem bld_30_0_2 (r n : Int) (w : World) : (Instr.build 30 #[(0, .int .i32 r), (2, .int .i64 n)]).run Tryd.prog w = .ok (.agg (Cl.mk r 0 0 0 n Pen.zero).l.toArray) w := by kernel_rfl
theorem bld_30 (w : World) : (Instr.build 30 #[]).run Tryd.prog w = .ok (.agg Cl.zero.l.toArray) w := by kernel_rfl
theorem bld_28 (w : World) : (Instr.build 28 #[]).run Tryd.prog w = .ok (.agg Pen.zero.l.toArray) w := by kernel_rfl
end Go.Proofs.YtfbkoflapamicaaDoor
