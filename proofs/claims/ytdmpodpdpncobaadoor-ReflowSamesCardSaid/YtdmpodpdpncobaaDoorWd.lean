/-
  The walks of rows of cells. Condition: the package-level tables hold what they were laid with.
-/
import Derived.Test.YtdmpodpdpncobaaDoorWc
namespace Go.Proofs.YtdmpodpdpncobaaDoor
open Go.RowKit
set_option linter.unusedSimpArgs false
set_option linter.unusedVariables false

theorem Ats.part {σ : Nat → Option Obj} {b o : Nat} {cs : List Value} (h : Ats σ b o cs) (_vs vs : List Value) (k : Nat) (e : (cs.drop k).take vs.length = vs) : Ats σ b (o + k) vs := fun j v hj => by
  rw [← e, List.getElem?_take] at hj
  split at hj
  · rw [List.getElem?_drop] at hj
    rw [Nat.add_assoc]
    exact h (k + j) v hj
  · cases hj
theorem eqc_53 (d : Nat) (k i r g b k' i' r' g' b' : Int) (w : World) : (Op.equalIn (d + 2) 53 (.agg #[.int .i64 k, .int .u8 i, .int .u8 r, .int .u8 g, .int .u8 b]) (.agg #[.int .i64 k', .int .u8 i', .int .u8 r', .int .u8 g', .int .u8 b'])).run Tryd.prog w = .ok (k == k' && (i == i' && (r == r' && (g == g' && b == b')))) w := by
  cases h1 : k == k' <;> cases h2 : i == i' <;> cases h3 : r == r' <;> cases h4 : g == g' <;> cases h5 : b == b' <;> simp [go_sem, part, h1, h2, h3, h4, h5]
theorem pen_eq (p q : Pen) : decide (p = q) = ((p.k1 == q.k1 && (p.i1 == q.i1 && (p.r1 == q.r1 && (p.g1 == q.g1 && p.b1 == q.b1)))) && ((p.k2 == q.k2 && (p.i2 == q.i2 && (p.r2 == q.r2 && (p.g2 == q.g2 && p.b2 == q.b2)))) && p.f == q.f)) := by
  obtain ⟨ak1, ai1, ar1, ag1, ab1, ak2, ai2, ar2, ag2, ab2, af⟩ := p
  obtain ⟨bk1, bi1, br1, bg1, bb1, bk2, bi2, br2, bg2, bb2, bf⟩ := q
  rw [Bool.eq_iff_iff]
  simp only [decide_eq_true_eq, Pen.mk.injEq, Bool.and_eq_true, beq_iff_eq]
  grind
theorem eqp_56 (d : Nat) (p q : Pen) (w : World) : (Op.equalIn (d + 3) 56 (.agg p.l.toArray) (.agg q.l.toArray)).run Tryd.prog w = .ok (decide (p = q)) w := by
  have heq := eqc_53
  rw [pen_eq]
  cases h1 : (p.k1 == q.k1 && (p.i1 == q.i1 && (p.r1 == q.r1 && (p.g1 == q.g1 && p.b1 == q.b1)))) <;> cases h2 : (p.k2 == q.k2 && (p.i2 == q.i2 && (p.r2 == q.r2 && (p.g2 == q.g2 && p.b2 == q.b2)))) <;> cases h3 : p.f == q.f <;> simp [go_sem, part, Pen.l, heq, h1, h2, h3]
theorem eq_56 (p q : Pen) (w : World) : (Op.equal 56 (.agg p.l.toArray) (.agg q.l.toArray)).run Tryd.prog w = .ok (decide (p = q)) w := eqp_56 9997 p q w
theorem cl_eq (c d : Cl) : decide (c = d) = (c.r == d.r && ((c.m0 == d.m0 && (c.m1 == d.m1 && c.m2 == d.m2)) && (c.w == d.w && decide (c.pen = d.pen)))) := by
  obtain ⟨r, m0, m1, m2, w, p⟩ := c
  obtain ⟨r', m0', m1', m2', w', p'⟩ := d
  rw [Bool.eq_iff_iff]
  simp only [decide_eq_true_eq, Cl.mk.injEq, Bool.and_eq_true, beq_iff_eq]
  grind
theorem eqq_56 (d : Nat) (p q : Pen) (w : World) : (Op.equalIn (d + 3) 56 (.agg #[.int .i64 p.k1, .int .u8 p.i1, .int .u8 p.r1, .int .u8 p.g1, .int .u8 p.b1, .int .i64 p.k2, .int .u8 p.i2, .int .u8 p.r2, .int .u8 p.g2, .int .u8 p.b2, .int .u8 p.f]) (.agg #[.int .i64 q.k1, .int .u8 q.i1, .int .u8 q.r1, .int .u8 q.g1, .int .u8 q.b1, .int .i64 q.k2, .int .u8 q.i2, .int .u8 q.r2, .int .u8 q.g2, .int .u8 q.b2, .int .u8 q.f])).run Tryd.prog w = .ok (decide (p = q)) w := eqp_56 d p q w
theorem eqj_50 (d : Nat) (a b c a' b' c' : Int) (w : World) : (Op.equalIn (d + 2) 50 (.agg #[.int .i32 a, .int .i32 b, .int .i32 c]) (.agg #[.int .i32 a', .int .i32 b', .int .i32 c'])).run Tryd.prog w = .ok (a == a' && (b == b' && c == c')) w := eqi_50 d a b c a' b' c' w
set_option maxHeartbeats 2000000 in
theorem eq_58 (c d : Cl) (w : World) : (Op.equal 58 (.agg c.l.toArray) (.agg d.l.toArray)).run Tryd.prog w = .ok (decide (c = d)) w := by
  show (Op.equalIn (9996 + 4) _ _ _).run _ _ = _
  have e1 := eqq_56
  have e2 := eqj_50
  rw [cl_eq]
  simp [go_sem, part, Cl.l, e1, e2]
  clear e1 e2
  by_cases h1 : c.r = d.r <;> by_cases h2 : c.m0 = d.m0 <;> by_cases h3 : c.m1 = d.m1 <;> by_cases h4 : c.m2 = d.m2 <;> by_cases h5 : c.w = d.w <;> by_cases h6 : c.pen = d.pen <;> simp [h1, h2, h3, h4, h5, h6]
theorem bld_58_3 (p : Pen) (w : World) : (Instr.build 58 #[(3, .agg p.l.toArray)]).run Tryd.prog w = .ok (.agg (spacer p).l.toArray) w := by kernel_rfl
theorem bld_58_2 (n : Int) (w : World) : (Instr.build 58 #[(2, .int .i64 n)]).run Tryd.prog w = .ok (.agg (Cl.mk 0 0 0 0 n Pen.zero).l.toArray) w := by kernel_rfl
theorem bld_58_2_3 (n : Int) (p : Pen) (w : World) : (Instr.build 58 #[(2, .int .i64 n), (3, .agg p.l.toArray)]).run Tryd.prog w = .ok (.agg (Cl.mk 0 0 0 0 n p).l.toArray) w := by kernel_rfl
theorem bld_58_0_2 (r n : Int) (w : World) : (Instr.build 58 #[(0, .int .i32 r), (2, .int .i64 n)]).run Tryd.prog w = .ok (.agg (Cl.mk r 0 0 0 n Pen.zero).l.toArray) w := by kernel_rfl
theorem bld_58 (w : World) : (Instr.build 58 #[]).run Tryd.prog w = .ok (.agg Cl.zero.l.toArray) w := by kernel_rfl
theorem bld_56 (w : World) : (Instr.build 56 #[]).run Tryd.prog w = .ok (.agg Pen.zero.l.toArray) w := by kernel_rfl
set_option maxRecDepth 100000 in
set_option maxHeartbeats 1000000 in
theorem crow_c {σ : Nat → Option Obj} {A : Option Addr} {n c : Nat} {xs : List Cl} (w : World) (L : LaidW w) (h : CsR σ A n c xs) (hs : ∀ b o, σ b = some o → w.heap[b]? = some o) : Calls Tryd.prog 88 #[.slice A n c] w (Ret (.bool (rowR xs)) w) := by
 have hn63 := h.2.1
 have hc63 := h.2.2.1
 refine calls_T (vs := [.slice A n c]) (L0 := [(0, .slice A n c)]) Tryd.func88 rfl rfl rfl rfl (KOk.fr1 hs) ?_
 refine T.seq ?_
 refine T.region ?_
 refine TL.val (OpV.assign rfl) rfl ?_
 refine TL.nil ?_
 refine TE.next ?_
 refine T.seq ?_
 refine T.seq ?_
 refine T.region ?_
 refine TL.val (OpV.move rfl) rfl ?_
 refine TL.val (OpV.len Tryd.underlying35 rfl) rfl ?_
 refine TL.val (OpV.move rfl) rfl ?_
 refine TL.nil ?_
 refine TE.next ?_
 refine T.block ?_
 refine T.loop (ι := Nat) (fun i => i ≤ n ∧ rowFrom (pvAt xs i) (xs.drop i) = rowR xs) (fun i => n - i) (fun i => [(0, .slice A n c), (6, .slice A n c), (7, .int .i64 (n : Int)), (8, .int .i64 (i : Int))]) (fun i => [.fr σ]) 0 ⟨Nat.zero_le _, rfl⟩ (.cons (t := 0) rfl <| .cons (t := 6) rfl <| .cons (t := 7) rfl <| .cons (t := 8) rfl <| .nil) (Kle.refl) ?_
 rintro i hR
 refine T.seq ?_
 refine T.region ?_
 refine TL.val (OpV.lss rfl rfl) rfl ?_
 refine TL.nil ?_
 refine TE.next ?_
 refine T.seq ?_
 refine T.cond rfl ?_ ?_
 ·
  intro ht9
  have hi : i < n := by have h9 := of_decide_eq_true ht9; omega
  obtain ⟨x, hx⟩ := get_of_lt h.1 hi
  obtain ⟨b, o, hA, hat⟩ := h.pos (by omega)
  have hatx := hat i x hx
  obtain ⟨d, hd⟩ : ∃ d, 0 < i → xs[i - 1]? = some d := by
    by_cases h0 : 0 < i
    · obtain ⟨d, hd⟩ := get_of_lt h.1 (show i - 1 < n by omega)
      exact ⟨d, fun _ => hd⟩
    · exact ⟨x, fun h => absurd h h0⟩
  have hrow := row_step hx
  rw [hR.2, ok_at hx hd] at hrow
  have hl1 := h.1
  have hlast : ((i : Int) == (n : Int) - 1) = decide (i + 1 = xs.length) := by rw [Bool.eq_iff_iff]; simp; omega
  have hib := hR.1
  clear hR
  refine T.skip ?_
  refine TE.next ?_
  refine T.seq ?_
  refine T.block ?_
  refine T.seq ?_
  refine T.region ?_
  refine TL.val (OpV.move rfl) rfl ?_
  refine TL.val (OpV.indexAddr se_35 rfl hA rfl (by rfl) (by first | omega | simp)) rfl ?_
  refine TL.val (OpV.loadA ag_58 rfl (by first | exact Cels.blk P0 rfl | exact Cels.blk P1 rfl | exact Cels.blk P2 rfl | exact Cels.blk P3 rfl | exact Cels.frA hatx rfl | exact Cels.frA hatd rfl)) rfl ?_
  refine TL.alloc zo_58 rfl ?_
  intro b4
  refine TL.val (OpV.assign rfl) rfl ?_
  first
    | refine TL.storeAll rfl rfl szz_58 rfl rfl rfl (by first | exact P0 | exact P1 | exact P2 | exact P3) (by rfl) ?_
    | refine TL.store rfl rfl szz_58 rfl rfl rfl (by first | exact P0 | exact P1 | exact P2 | exact P3) (by first | exact Nat.le_of_ble_eq_true rfl | (simp; done) | (simp; omega)) (by simp only [putL, List.take_succ_cons, List.take_zero, List.drop_succ_cons, List.drop_zero, List.cons_append, List.nil_append, List.length_cons, List.length_nil, Nat.reduceAdd]; rfl) ?_
  refine TL.nil ?_
  refine TE.next ?_
  refine T.seq ?_
  refine T.cut [(0, .slice A n c), (3, .int .i64 (i : Int)), (4, .pointer (some ⟨b4, 0, none⟩)), (5, .bool (bh xs i)), (6, .slice A n c), (7, .int .i64 (n : Int)), (8, .int .i64 (i : Int))] ([.blk b4 x.l 58, .fr σ]) ?_ ?_
  ·
   refine T.region ?_
   refine TL.val (OpV.move rfl) rfl ?_
   refine TL.val (OpV.gtr rfl rfl) rfl ?_
   refine TL.val (OpV.move rfl) rfl ?_
   refine TL.part (t := 15) rfl ?_ ?_
   ·
    intro hg15
    have hi0 : 0 < i := by have h9 := of_decide_eq_true hg15; omega
    have hatd := hat (i - 1) d (hd hi0)
    refine TL.open rfl rfl ?_
    refine TL.val (OpV.move rfl) rfl ?_
    refine TL.open rfl rfl ?_
    refine TL.val (OpV.move rfl) rfl ?_
    refine TL.open rfl rfl ?_
    refine TL.val (OpV.sub rfl rfl (by first | exact IntWalk.i64_in _ ⟨by omega, by omega⟩ | rfl)) rfl ?_
    refine TL.open rfl rfl ?_
    refine TL.val (OpV.indexAddr (j := i - 1) se_35 rfl hA rfl (by omega) (by omega)) rfl ?_
    refine TL.open rfl rfl ?_
    refine TL.val (OpV.fieldAddr rfl fo_58_2) rfl ?_
    refine TL.open rfl rfl ?_
    refine TL.val (OpV.load pl_3 rfl (by first | exact Cel.blk P0 rfl | exact Cel.blk P1 rfl | exact Cel.blk P2 rfl | exact Cel.blk P3 rfl | exact Cel.frA (hatx _ _ rfl) | exact Cel.frA (hatd _ _ rfl))) rfl ?_
    refine TL.open rfl rfl ?_
    refine TL.val (OpV.eql rfl rfl) rfl ?_
    refine TL.val ((by first | exact OpV.pick_t rfl rfl | exact OpV.pick_f rfl rfl)) rfl ?_
    refine TL.val (OpV.assign rfl) rfl ?_
    refine TL.nil ?_
    exact TE.met (.cons (t := 0) rfl <| .cons (t := 3) rfl <| .cons (t := 4) rfl <| .cons (t := 5) (by first | (rw [bh_at hi0 (hd hi0)]; rfl) | (rw [bh_zero (by omega)]; rfl)) <| .cons (t := 6) rfl <| .cons (t := 7) rfl <| .cons (t := 8) rfl <| .nil) (Kle.refl)
   ·
    intro hg15
    have hi0 : ¬ 0 < i := by have h9 := of_decide_eq_false hg15; omega
    refine TL.shut rfl rfl ?_
    refine TL.shut rfl rfl ?_
    refine TL.shut rfl rfl ?_
    refine TL.shut rfl rfl ?_
    refine TL.shut rfl rfl ?_
    refine TL.shut rfl rfl ?_
    refine TL.shut rfl rfl ?_
    refine TL.val ((by first | exact OpV.pick_t rfl rfl | exact OpV.pick_f rfl rfl)) rfl ?_
    refine TL.val (OpV.assign rfl) rfl ?_
    refine TL.nil ?_
    exact TE.met (.cons (t := 0) rfl <| .cons (t := 3) rfl <| .cons (t := 4) rfl <| .cons (t := 5) (by first | (rw [bh_at hi0 (hd hi0)]; rfl) | (rw [bh_zero (by omega)]; rfl)) <| .cons (t := 6) rfl <| .cons (t := 7) rfl <| .cons (t := 8) rfl <| .nil) (Kle.refl)
  refine TE.next ?_
  refine T.seq ?_
  refine T.quiet mix (by kernel_rfl) ?_
  refine TQ.val (OpV.loadA ag_58 rfl (by first | exact Cels.blk P0 rfl | exact Cels.blk P1 rfl | exact Cels.blk P2 rfl | exact Cels.blk P3 rfl | exact Cels.frA hatx rfl | exact Cels.frA hatd rfl)) rfl ?_
  refine TQ.call (g := 95) rfl go_95 rfl (fun w1 k1 => cvalid_c x w1 (L.below k1.bel)) rfl ?_
  refine TQ.val (OpV.not rfl) rfl ?_
  refine TQ.val (OpV.move rfl) rfl ?_
  refine TQ.part (t := 27) rfl ?_ ?_
  ·
   intro hg27
   refine TQ.shut rfl rfl ?_
   refine TQ.shut rfl rfl ?_
   refine TQ.shut rfl rfl ?_
   refine TQ.shut rfl rfl ?_
   refine TQ.shut rfl rfl ?_
   refine TQ.val ((by first | exact OpV.pick_t rfl rfl | exact OpV.pick_f rfl rfl)) rfl ?_
   refine TQ.val (OpV.move rfl) rfl ?_
   refine TQ.shut rfl rfl ?_
   refine TQ.shut rfl rfl ?_
   refine TQ.shutU rfl rfl ?_
   refine TQ.shutU rfl rfl ?_
   refine TQ.shutU rfl rfl ?_
   refine TQ.shutU rfl rfl ?_
   refine TQ.shutU rfl rfl ?_
   refine TQ.shutU rfl rfl ?_
   refine TQ.shutU rfl rfl ?_
   refine TQ.shutU rfl rfl ?_
   refine TQ.shutU rfl rfl ?_
   refine TQ.shut rfl rfl ?_
   refine TQ.val ((by first | exact OpV.pick_t rfl rfl | exact OpV.pick_f rfl rfl)) rfl ?_
   refine TQ.val (OpV.move rfl) rfl ?_
   refine TQ.shut rfl rfl ?_
   refine TQ.shut rfl rfl ?_
   refine TQ.shut rfl rfl ?_
   refine TQ.shut rfl rfl ?_
   refine TQ.shutU rfl rfl ?_
   refine TQ.shutU rfl rfl ?_
   refine TQ.shutU rfl rfl ?_
   refine TQ.shutU rfl rfl ?_
   refine TQ.shutU rfl rfl ?_
   refine TQ.shut rfl rfl ?_
   refine TQ.val ((by first | exact OpV.pick_t rfl rfl | exact OpV.pick_f rfl rfl)) rfl ?_
   refine TQ.nil ?_
   refine TE.sub (.cons (t := 0) rfl <| .cons (t := 6) rfl <| .cons (t := 7) rfl <| .cons (t := 8) rfl <| .cons (t := 59) rfl <| .nil) ?_
   refine TE.next ?_
   refine T.yes rfl ?_
   refine T.seq ?_
   refine T.region ?_
   refine TL.val (OpV.assign rfl) rfl ?_
   refine TL.nil ?_
   refine TE.next ?_
   refine T.ret ?_
   refine TE.out_ret ?_
   refine TE.pass_ret ?_
   refine TE.pass_ret ?_
   refine TE.out_ret ?_
   refine TE.pass_ret ?_
   refine TE.ret1 rfl (ResV.tmp rfl) ?_
   exact fun w1 k1 => ⟨ret_bool (by rw [hrow]; grind), k1.bel⟩
  ·
   intro hg27
   refine TQ.open rfl rfl ?_
   refine TQ.val (OpV.fieldAddr rfl fo_58_2) rfl ?_
   refine TQ.open rfl rfl ?_
   refine TQ.val (OpV.load pl_3 rfl (by first | exact Cel.blk P0 rfl | exact Cel.blk P1 rfl | exact Cel.blk P2 rfl | exact Cel.blk P3 rfl | exact Cel.frA (hatx _ _ rfl) | exact Cel.frA (hatd _ _ rfl))) rfl ?_
   refine TQ.open rfl rfl ?_
   refine TQ.val (OpV.eql rfl rfl) rfl ?_
   refine TQ.open rfl rfl ?_
   refine TQ.val (OpV.move rfl) rfl ?_
   refine TQ.open rfl rfl ?_
   refine TQ.val (OpV.bneq Tryd.underlying4 rfl rfl) rfl ?_
   refine TQ.val ((by first | exact OpV.pick_t rfl rfl | exact OpV.pick_f rfl rfl)) rfl ?_
   refine TQ.val (OpV.move rfl) rfl ?_
   refine TQ.part (t := 34) rfl ?_ ?_
   ·
    intro hg34
    refine TQ.shut rfl rfl ?_
    refine TQ.shut rfl rfl ?_
    refine TQ.shutU rfl rfl ?_
    refine TQ.shutU rfl rfl ?_
    refine TQ.shutU rfl rfl ?_
    refine TQ.shutU rfl rfl ?_
    refine TQ.shutU rfl rfl ?_
    refine TQ.shutU rfl rfl ?_
    refine TQ.shutU rfl rfl ?_
    refine TQ.shutU rfl rfl ?_
    refine TQ.shutU rfl rfl ?_
    refine TQ.shut rfl rfl ?_
    refine TQ.val ((by first | exact OpV.pick_t rfl rfl | exact OpV.pick_f rfl rfl)) rfl ?_
    refine TQ.val (OpV.move rfl) rfl ?_
    refine TQ.shut rfl rfl ?_
    refine TQ.shut rfl rfl ?_
    refine TQ.shut rfl rfl ?_
    refine TQ.shut rfl rfl ?_
    refine TQ.shutU rfl rfl ?_
    refine TQ.shutU rfl rfl ?_
    refine TQ.shutU rfl rfl ?_
    refine TQ.shutU rfl rfl ?_
    refine TQ.shutU rfl rfl ?_
    refine TQ.shut rfl rfl ?_
    refine TQ.val ((by first | exact OpV.pick_t rfl rfl | exact OpV.pick_f rfl rfl)) rfl ?_
    refine TQ.nil ?_
    refine TE.sub (.cons (t := 0) rfl <| .cons (t := 6) rfl <| .cons (t := 7) rfl <| .cons (t := 8) rfl <| .cons (t := 59) rfl <| .nil) ?_
    refine TE.next ?_
    refine T.yes rfl ?_
    refine T.seq ?_
    refine T.region ?_
    refine TL.val (OpV.assign rfl) rfl ?_
    refine TL.nil ?_
    refine TE.next ?_
    refine T.ret ?_
    refine TE.out_ret ?_
    refine TE.pass_ret ?_
    refine TE.pass_ret ?_
    refine TE.out_ret ?_
    refine TE.pass_ret ?_
    refine TE.ret1 rfl (ResV.tmp rfl) ?_
    exact fun w1 k1 => ⟨ret_bool (by rw [hrow]; grind), k1.bel⟩
   ·
    intro hg34
    refine TQ.open rfl rfl ?_
    refine TQ.val (OpV.move rfl) rfl ?_
    refine TQ.open rfl rfl ?_
    refine TQ.val (OpV.move rfl) rfl ?_
    refine TQ.part (t := 36) rfl ?_ ?_
    ·
     intro hg36
     refine TQ.open rfl rfl ?_
     refine TQ.val (OpV.fieldAddr rfl fo_58_3) rfl ?_
     refine TQ.open rfl rfl ?_
     refine TQ.val (OpV.loadA ag_56 rfl (Cels.blkAt x.pen.l (by first | exact P0 | exact P1 | exact P2 | exact P3) rfl rfl)) rfl ?_
     refine TQ.open rfl rfl ?_
     refine TQ.val (OpV.move rfl) rfl ?_
     refine TQ.open rfl rfl ?_
     refine TQ.val (OpV.move rfl) rfl ?_
     refine TQ.open rfl rfl ?_
     refine TQ.val (OpV.sub rfl rfl (by first | exact IntWalk.i64_in _ ⟨by omega, by omega⟩ | rfl)) rfl ?_
     refine TQ.open rfl rfl ?_
     have hi0 := bh_pos hg36
     have hatd := hat (i - 1) d (hd hi0)
     refine TQ.val (OpV.indexAddr (j := i - 1) se_35 rfl hA rfl (by omega) (by omega)) rfl ?_
     refine TQ.open rfl rfl ?_
     refine TQ.val (OpV.fieldAddr rfl fo_58_3) rfl ?_
     refine TQ.open rfl rfl ?_
     refine TQ.val (OpV.loadA ag_56 rfl (by first | exact Cels.fr P0 (hatd.part x.pen.l d.pen.l 5 rfl) rfl | exact Cels.fr P1 (hatd.part x.pen.l d.pen.l 5 rfl) rfl | exact Cels.fr P2 (hatd.part x.pen.l d.pen.l 5 rfl) rfl | exact Cels.fr P3 (hatd.part x.pen.l d.pen.l 5 rfl) rfl)) rfl ?_
     refine TQ.open rfl rfl ?_
     refine TQ.val (OpV.aneq rfl rfl eg_56 (eq_56 _ _)) rfl ?_
     refine TQ.open rfl rfl ?_
     refine TQ.val ((by first | exact OpV.pick_t rfl rfl | exact OpV.pick_f rfl rfl)) rfl ?_
     refine TQ.val ((by first | exact OpV.pick_t rfl rfl | exact OpV.pick_f rfl rfl)) rfl ?_
     refine TQ.val (OpV.move rfl) rfl ?_
     refine TQ.part (t := 48) rfl ?_ ?_
     ·
      intro hg48
      refine TQ.shut rfl rfl ?_
      refine TQ.shut rfl rfl ?_
      refine TQ.shut rfl rfl ?_
      refine TQ.shut rfl rfl ?_
      refine TQ.shutU rfl rfl ?_
      refine TQ.shutU rfl rfl ?_
      refine TQ.shutU rfl rfl ?_
      refine TQ.shutU rfl rfl ?_
      refine TQ.shutU rfl rfl ?_
      refine TQ.shut rfl rfl ?_
      refine TQ.val ((by first | exact OpV.pick_t rfl rfl | exact OpV.pick_f rfl rfl)) rfl ?_
      refine TQ.nil ?_
      refine TE.sub (.cons (t := 0) rfl <| .cons (t := 6) rfl <| .cons (t := 7) rfl <| .cons (t := 8) rfl <| .cons (t := 59) rfl <| .nil) ?_
      refine TE.next ?_
      refine T.yes rfl ?_
      refine T.seq ?_
      refine T.region ?_
      refine TL.val (OpV.assign rfl) rfl ?_
      refine TL.nil ?_
      refine TE.next ?_
      refine T.ret ?_
      refine TE.out_ret ?_
      refine TE.pass_ret ?_
      refine TE.pass_ret ?_
      refine TE.out_ret ?_
      refine TE.pass_ret ?_
      refine TE.ret1 rfl (ResV.tmp rfl) ?_
      exact fun w1 k1 => ⟨ret_bool (by rw [hrow]; grind), k1.bel⟩
     ·
      intro hg48
      refine TQ.open rfl rfl ?_
      refine TQ.val (OpV.fieldAddr rfl fo_58_2) rfl ?_
      refine TQ.open rfl rfl ?_
      refine TQ.val (OpV.load pl_3 rfl (by first | exact Cel.blk P0 rfl | exact Cel.blk P1 rfl | exact Cel.blk P2 rfl | exact Cel.blk P3 rfl | exact Cel.frA (hatx _ _ rfl) | exact Cel.frA (hatd _ _ rfl))) rfl ?_
      refine TQ.open rfl rfl ?_
      refine TQ.val (OpV.eql rfl rfl) rfl ?_
      refine TQ.open rfl rfl ?_
      refine TQ.val (OpV.move rfl) rfl ?_
      refine TQ.part (t := 52) rfl ?_ ?_
      ·
       intro hg52
       refine TQ.open rfl rfl ?_
       refine TQ.val (OpV.move rfl) rfl ?_
       refine TQ.open rfl rfl ?_
       refine TQ.val (OpV.move rfl) rfl ?_
       refine TQ.open rfl rfl ?_
       refine TQ.val (OpV.len Tryd.underlying35 rfl) rfl ?_
       refine TQ.open rfl rfl ?_
       refine TQ.val (OpV.sub rfl rfl (by first | exact IntWalk.i64_in _ ⟨by omega, by omega⟩ | rfl)) rfl ?_
       refine TQ.open rfl rfl ?_
       refine TQ.val (OpV.eql rfl rfl) rfl ?_
       refine TQ.said (t := 57) rfl (congrArg Value.bool hlast) ?_
       refine TQ.open rfl rfl ?_
       refine TQ.val ((by first | exact OpV.pick_t rfl rfl | exact OpV.pick_f rfl rfl)) rfl ?_
       refine TQ.val ((by first | exact OpV.pick_t rfl rfl | exact OpV.pick_f rfl rfl)) rfl ?_
       refine TQ.nil ?_
       refine TE.sub (.cons (t := 0) rfl <| .cons (t := 6) rfl <| .cons (t := 7) rfl <| .cons (t := 8) rfl <| .cons (t := 59) rfl <| .nil) ?_
       refine TE.next ?_
       refine T.cond rfl ?_ ?_
       ·
        intro ht59
        refine T.seq ?_
        refine T.region ?_
        refine TL.val (OpV.assign rfl) rfl ?_
        refine TL.nil ?_
        refine TE.next ?_
        refine T.ret ?_
        refine TE.out_ret ?_
        refine TE.pass_ret ?_
        refine TE.pass_ret ?_
        refine TE.out_ret ?_
        refine TE.pass_ret ?_
        refine TE.ret1 rfl (ResV.tmp rfl) ?_
        exact fun w1 k1 => ⟨ret_bool (by rw [hrow]; grind), k1.bel⟩
       ·
        intro ht59
        refine T.skip ?_
        refine TE.out ?_
        refine TE.next ?_
        refine T.region ?_
        refine TL.val (OpV.add rfl rfl (by first | exact IntWalk.i64_in _ ⟨by omega, by omega⟩ | rfl)) rfl ?_
        refine TL.val (OpV.move rfl) rfl ?_
        refine TL.nil ?_
        exact TE.meet (i + 1) ⟨⟨by omega, by rw [hrow]; grind⟩, by omega⟩ (.cons (t := 0) (by first | rfl | (simp [lk]; done)) <| .cons (t := 6) (by first | rfl | (simp [lk]; done)) <| .cons (t := 7) (by first | rfl | (simp [lk]; done)) <| .cons (t := 8) (by first | rfl | (simp [lk]; done)) <| .nil) (Perm.kle (.cons (by first | exact P0 | exact P1 | exact P2 | exact P3) .nil))
      ·
       intro hg52
       refine TQ.shut rfl rfl ?_
       refine TQ.shut rfl rfl ?_
       refine TQ.shut rfl rfl ?_
       refine TQ.shut rfl rfl ?_
       refine TQ.shut rfl rfl ?_
       refine TQ.open rfl rfl ?_
       refine TQ.val ((by first | exact OpV.pick_t rfl rfl | exact OpV.pick_f rfl rfl)) rfl ?_
       refine TQ.val ((by first | exact OpV.pick_t rfl rfl | exact OpV.pick_f rfl rfl)) rfl ?_
       refine TQ.nil ?_
       refine TE.sub (.cons (t := 0) rfl <| .cons (t := 6) rfl <| .cons (t := 7) rfl <| .cons (t := 8) rfl <| .cons (t := 59) rfl <| .nil) ?_
       refine TE.next ?_
       refine T.no rfl ?_
       refine T.skip ?_
       refine TE.out ?_
       refine TE.next ?_
       refine T.region ?_
       refine TL.val (OpV.add rfl rfl (by first | exact IntWalk.i64_in _ ⟨by omega, by omega⟩ | rfl)) rfl ?_
       refine TL.val (OpV.move rfl) rfl ?_
       refine TL.nil ?_
       exact TE.meet (i + 1) ⟨⟨by omega, by rw [hrow]; grind⟩, by omega⟩ (.cons (t := 0) (by first | rfl | (simp [lk]; done)) <| .cons (t := 6) (by first | rfl | (simp [lk]; done)) <| .cons (t := 7) (by first | rfl | (simp [lk]; done)) <| .cons (t := 8) (by first | rfl | (simp [lk]; done)) <| .nil) (Perm.kle (.cons (by first | exact P0 | exact P1 | exact P2 | exact P3) .nil))
    ·
     intro hg36
     refine TQ.shut rfl rfl ?_
     refine TQ.shut rfl rfl ?_
     refine TQ.shut rfl rfl ?_
     refine TQ.shut rfl rfl ?_
     refine TQ.shut rfl rfl ?_
     refine TQ.shut rfl rfl ?_
     refine TQ.shut rfl rfl ?_
     refine TQ.shut rfl rfl ?_
     refine TQ.shut rfl rfl ?_
     refine TQ.open rfl rfl ?_
     refine TQ.val ((by first | exact OpV.pick_t rfl rfl | exact OpV.pick_f rfl rfl)) rfl ?_
     refine TQ.val ((by first | exact OpV.pick_t rfl rfl | exact OpV.pick_f rfl rfl)) rfl ?_
     refine TQ.val (OpV.move rfl) rfl ?_
     refine TQ.open rfl rfl ?_
     refine TQ.val (OpV.fieldAddr rfl fo_58_2) rfl ?_
     refine TQ.open rfl rfl ?_
     refine TQ.val (OpV.load pl_3 rfl (by first | exact Cel.blk P0 rfl | exact Cel.blk P1 rfl | exact Cel.blk P2 rfl | exact Cel.blk P3 rfl | exact Cel.frA (hatx _ _ rfl) | exact Cel.frA (hatd _ _ rfl))) rfl ?_
     refine TQ.open rfl rfl ?_
     refine TQ.val (OpV.eql rfl rfl) rfl ?_
     refine TQ.open rfl rfl ?_
     refine TQ.val (OpV.move rfl) rfl ?_
     refine TQ.part (t := 52) rfl ?_ ?_
     ·
      intro hg52
      refine TQ.open rfl rfl ?_
      refine TQ.val (OpV.move rfl) rfl ?_
      refine TQ.open rfl rfl ?_
      refine TQ.val (OpV.move rfl) rfl ?_
      refine TQ.open rfl rfl ?_
      refine TQ.val (OpV.len Tryd.underlying35 rfl) rfl ?_
      refine TQ.open rfl rfl ?_
      refine TQ.val (OpV.sub rfl rfl (by first | exact IntWalk.i64_in _ ⟨by omega, by omega⟩ | rfl)) rfl ?_
      refine TQ.open rfl rfl ?_
      refine TQ.val (OpV.eql rfl rfl) rfl ?_
      refine TQ.said (t := 57) rfl (congrArg Value.bool hlast) ?_
      refine TQ.open rfl rfl ?_
      refine TQ.val ((by first | exact OpV.pick_t rfl rfl | exact OpV.pick_f rfl rfl)) rfl ?_
      refine TQ.val ((by first | exact OpV.pick_t rfl rfl | exact OpV.pick_f rfl rfl)) rfl ?_
      refine TQ.nil ?_
      refine TE.sub (.cons (t := 0) rfl <| .cons (t := 6) rfl <| .cons (t := 7) rfl <| .cons (t := 8) rfl <| .cons (t := 59) rfl <| .nil) ?_
      refine TE.next ?_
      refine T.cond rfl ?_ ?_
      ·
       intro ht59
       refine T.seq ?_
       refine T.region ?_
       refine TL.val (OpV.assign rfl) rfl ?_
       refine TL.nil ?_
       refine TE.next ?_
       refine T.ret ?_
       refine TE.out_ret ?_
       refine TE.pass_ret ?_
       refine TE.pass_ret ?_
       refine TE.out_ret ?_
       refine TE.pass_ret ?_
       refine TE.ret1 rfl (ResV.tmp rfl) ?_
       exact fun w1 k1 => ⟨ret_bool (by rw [hrow]; grind), k1.bel⟩
      ·
       intro ht59
       refine T.skip ?_
       refine TE.out ?_
       refine TE.next ?_
       refine T.region ?_
       refine TL.val (OpV.add rfl rfl (by first | exact IntWalk.i64_in _ ⟨by omega, by omega⟩ | rfl)) rfl ?_
       refine TL.val (OpV.move rfl) rfl ?_
       refine TL.nil ?_
       exact TE.meet (i + 1) ⟨⟨by omega, by rw [hrow]; grind⟩, by omega⟩ (.cons (t := 0) (by first | rfl | (simp [lk]; done)) <| .cons (t := 6) (by first | rfl | (simp [lk]; done)) <| .cons (t := 7) (by first | rfl | (simp [lk]; done)) <| .cons (t := 8) (by first | rfl | (simp [lk]; done)) <| .nil) (Perm.kle (.cons (by first | exact P0 | exact P1 | exact P2 | exact P3) .nil))
     ·
      intro hg52
      refine TQ.shut rfl rfl ?_
      refine TQ.shut rfl rfl ?_
      refine TQ.shut rfl rfl ?_
      refine TQ.shut rfl rfl ?_
      refine TQ.shut rfl rfl ?_
      refine TQ.open rfl rfl ?_
      refine TQ.val ((by first | exact OpV.pick_t rfl rfl | exact OpV.pick_f rfl rfl)) rfl ?_
      refine TQ.val ((by first | exact OpV.pick_t rfl rfl | exact OpV.pick_f rfl rfl)) rfl ?_
      refine TQ.nil ?_
      refine TE.sub (.cons (t := 0) rfl <| .cons (t := 6) rfl <| .cons (t := 7) rfl <| .cons (t := 8) rfl <| .cons (t := 59) rfl <| .nil) ?_
      refine TE.next ?_
      refine T.no rfl ?_
      refine T.skip ?_
      refine TE.out ?_
      refine TE.next ?_
      refine T.region ?_
      refine TL.val (OpV.add rfl rfl (by first | exact IntWalk.i64_in _ ⟨by omega, by omega⟩ | rfl)) rfl ?_
      refine TL.val (OpV.move rfl) rfl ?_
      refine TL.nil ?_
      exact TE.meet (i + 1) ⟨⟨by omega, by rw [hrow]; grind⟩, by omega⟩ (.cons (t := 0) (by first | rfl | (simp [lk]; done)) <| .cons (t := 6) (by first | rfl | (simp [lk]; done)) <| .cons (t := 7) (by first | rfl | (simp [lk]; done)) <| .cons (t := 8) (by first | rfl | (simp [lk]; done)) <| .nil) (Perm.kle (.cons (by first | exact P0 | exact P1 | exact P2 | exact P3) .nil))
 ·
  intro ht9
  have hin : i = n := by have h9 := of_decide_eq_false ht9; have h8 := hR.1; omega
  refine T.exit ?_
  refine TE.pass_exit ?_
  refine TE.pass_exit ?_
  refine TE.here ?_
  refine TE.next ?_
  refine T.seq ?_
  refine T.region ?_
  refine TL.val (OpV.assign rfl) rfl ?_
  refine TL.nil ?_
  refine TE.next ?_
  refine T.ret ?_
  refine TE.ret1 rfl (ResV.tmp rfl) ?_
  exact fun w1 k1 => ⟨ret_bool (by rw [← hR.2, hin, ← h.1, List.drop_length]; rfl), k1.bel⟩
set_option maxRecDepth 100000 in
set_option maxHeartbeats 1000000 in
theorem rrow_c {σ : Nat → Option Obj} {A : Option Addr} {n c : Nat} {xs : List Cl} (w : World) (h : CsR σ A n c xs) (hs : ∀ b o, σ b = some o → w.heap[b]? = some o) : Calls Tryd.prog 58 #[.slice A n c] w (Ret (.bool (rowR xs)) w) := by
 have hn63 := h.2.1
 have hc63 := h.2.2.1
 refine calls_T (vs := [.slice A n c]) (L0 := [(0, .slice A n c)]) Tryd.func58 rfl rfl rfl rfl (KOk.fr1 hs) ?_
 refine T.seq ?_
 refine T.region ?_
 refine TL.val (OpV.assign rfl) rfl ?_
 refine TL.nil ?_
 refine TE.next ?_
 refine T.seq ?_
 refine T.region ?_
 refine TL.val (OpV.assign rfl) rfl ?_
 refine TL.nil ?_
 refine TE.next ?_
 refine T.seq ?_
 refine T.block ?_
 refine T.loop (ι := Nat) (fun i => i ≤ n ∧ rowR (xs.drop i) = rowR xs) (fun i => n - i) (fun i => [(0, .slice A n c), (3, .int .i64 (i : Int))]) (fun i => [.fr σ]) 0 ⟨Nat.zero_le _, rfl⟩ (.cons (t := 0) rfl <| .cons (t := 3) rfl <| .nil) (Kle.refl) ?_
 rintro i hR
 refine T.seq ?_
 refine T.seq ?_
 refine T.region ?_
 refine TL.val (OpV.move rfl) rfl ?_
 refine TL.val (OpV.move rfl) rfl ?_
 refine TL.val (OpV.len Tryd.underlying35 rfl) rfl ?_
 refine TL.val (OpV.lss rfl rfl) rfl ?_
 refine TL.nil ?_
 refine TE.next ?_
 refine T.cond rfl ?_ ?_
 ·
  intro ht7
  have hi : i < n := by have h9 := of_decide_eq_true ht7; omega
  obtain ⟨x, hx⟩ := get_of_lt h.1 hi
  obtain ⟨b, o, hA, hat⟩ := h.pos (by omega)
  have hatx := hat i x hx
  have hrow := hR.2
  rw [drop_at hx] at hrow
  have hib := hR.1
  have hl1 := h.1
  clear hR
  refine T.skip ?_
  refine TE.next ?_
  refine T.block ?_
  refine T.seq ?_
  refine T.seq ?_
  refine T.region ?_
  refine TL.val (OpV.move rfl) rfl ?_
  refine TL.val (OpV.move rfl) rfl ?_
  refine TL.val (OpV.indexAddr se_35 rfl hA rfl (by rfl) (by first | omega | simp)) rfl ?_
  refine TL.val (OpV.loadA ag_58 rfl (by first | exact Cels.blk P0 rfl | exact Cels.blk P1 rfl | exact Cels.blk P2 rfl | exact Cels.blk P3 rfl | exact Cels.frA hatx rfl | exact Cels.frA haty rfl)) rfl ?_
  refine TL.call (g := 81) rfl go_81 rfl (fun w1 k1 => rcvalid_c x w1) rfl ?_
  refine TL.val (OpV.not rfl) rfl ?_
  refine TL.val (OpV.move rfl) rfl ?_
  refine TL.part (t := 14) rfl ?_ ?_
  ·
   intro hg14
   refine TL.shut rfl rfl ?_
   refine TL.shut rfl rfl ?_
   refine TL.shut rfl rfl ?_
   refine TL.shut rfl rfl ?_
   refine TL.shut rfl rfl ?_
   refine TL.shut rfl rfl ?_
   refine TL.val ((by first | exact OpV.pick_t rfl rfl | exact OpV.pick_f rfl rfl)) rfl ?_
   refine TL.nil ?_
   refine TE.sub (.cons (t := 0) rfl <| .cons (t := 3) rfl <| .cons (t := 21) rfl <| .nil) ?_
   refine TE.next ?_
   refine T.yes rfl ?_
   refine T.seq ?_
   refine T.region ?_
   refine TL.val (OpV.assign rfl) rfl ?_
   refine TL.nil ?_
   refine TE.next ?_
   refine T.ret ?_
   refine TE.pass_ret ?_
   refine TE.out_ret ?_
   refine TE.pass_ret ?_
   refine TE.out_ret ?_
   refine TE.pass_ret ?_
   refine TE.ret1 rfl (ResV.tmp rfl) ?_
   exact fun w1 k1 => ⟨ret_bool (by rw [← hrow]; grind [rowR_bad, rowR_zero, rowR_one, rowR_two, rowR_two_nil, vCl_w]), k1.bel⟩
  ·
   intro hg14
   refine TL.open rfl rfl ?_
   refine TL.val (OpV.move rfl) rfl ?_
   refine TL.open rfl rfl ?_
   refine TL.val (OpV.move rfl) rfl ?_
   refine TL.open rfl rfl ?_
   refine TL.val (OpV.indexAddr se_35 rfl hA rfl (by rfl) (by first | omega | simp)) rfl ?_
   refine TL.open rfl rfl ?_
   refine TL.val (OpV.fieldAddr rfl fo_58_2) rfl ?_
   refine TL.open rfl rfl ?_
   refine TL.val (OpV.load pl_3 rfl (by first | exact Cel.blk P0 rfl | exact Cel.blk P1 rfl | exact Cel.blk P2 rfl | exact Cel.blk P3 rfl | exact Cel.frA (hatx _ _ rfl) | exact Cel.frA (haty _ _ rfl))) rfl ?_
   refine TL.open rfl rfl ?_
   refine TL.val (OpV.eql rfl rfl) rfl ?_
   refine TL.val ((by first | exact OpV.pick_t rfl rfl | exact OpV.pick_f rfl rfl)) rfl ?_
   refine TL.nil ?_
   refine TE.sub (.cons (t := 0) rfl <| .cons (t := 3) rfl <| .cons (t := 21) rfl <| .nil) ?_
   refine TE.next ?_
   refine T.cond rfl ?_ ?_
   ·
    intro ht21
    refine T.seq ?_
    refine T.region ?_
    refine TL.val (OpV.assign rfl) rfl ?_
    refine TL.nil ?_
    refine TE.next ?_
    refine T.ret ?_
    refine TE.pass_ret ?_
    refine TE.out_ret ?_
    refine TE.pass_ret ?_
    refine TE.out_ret ?_
    refine TE.pass_ret ?_
    refine TE.ret1 rfl (ResV.tmp rfl) ?_
    exact fun w1 k1 => ⟨ret_bool (by rw [← hrow]; grind [rowR_bad, rowR_zero, rowR_one, rowR_two, rowR_two_nil, vCl_w]), k1.bel⟩
   ·
    intro ht21
    refine T.skip ?_
    refine TE.next ?_
    refine T.seq ?_
    refine T.seq ?_
    refine T.region ?_
    refine TL.val (OpV.move rfl) rfl ?_
    refine TL.val (OpV.move rfl) rfl ?_
    refine TL.val (OpV.indexAddr se_35 rfl hA rfl (by rfl) (by first | omega | simp)) rfl ?_
    refine TL.val (OpV.fieldAddr rfl fo_58_2) rfl ?_
    refine TL.val (OpV.load pl_3 rfl (by first | exact Cel.blk P0 rfl | exact Cel.blk P1 rfl | exact Cel.blk P2 rfl | exact Cel.blk P3 rfl | exact Cel.frA (hatx _ _ rfl) | exact Cel.frA (haty _ _ rfl))) rfl ?_
    refine TL.val (OpV.eql rfl rfl) rfl ?_
    refine TL.nil ?_
    refine TE.next ?_
    refine T.cond rfl ?_ ?_
    ·
     intro ht27
     refine T.seq ?_
     refine T.region ?_
     refine TL.val (OpV.move rfl) rfl ?_
     refine TL.val (OpV.add rfl rfl (by first | exact IntWalk.i64_in _ ⟨by omega, by omega⟩ | rfl)) rfl ?_
     refine TL.val (OpV.assign rfl) rfl ?_
     refine TL.nil ?_
     refine TE.sub (.cons (t := 0) rfl <| .cons (t := 3) rfl <| .nil) ?_
     refine TE.next ?_
     refine T.exit ?_
     refine TE.pass_exit ?_
     refine TE.here ?_
     exact TE.meet (i + 1) ⟨⟨by omega, by rw [← hrow]; grind [rowR_bad, rowR_zero, rowR_one, rowR_two, rowR_two_nil, vCl_w]⟩, by omega⟩ (.cons (t := 0) (by first | rfl | (simp [lk]; done)) <| .cons (t := 3) (by first | rfl | (simp [lk]; done)) <| .nil) (Perm.kle (.cons (by first | exact P0 | exact P1 | exact P2 | exact P3) .nil))
    ·
     intro ht27
     refine T.skip ?_
     refine TE.sub (.cons (t := 0) rfl <| .cons (t := 3) rfl <| .nil) ?_
     refine TE.next ?_
     refine T.seq ?_
     refine T.seq ?_
     refine T.quiet mix (by kernel_rfl) ?_
     refine TQ.val (OpV.move rfl) rfl ?_
     refine TQ.val (OpV.add rfl rfl (by first | exact IntWalk.i64_in _ ⟨by omega, by omega⟩ | rfl)) rfl ?_
     refine TQ.val (OpV.move rfl) rfl ?_
     refine TQ.val (OpV.len Tryd.underlying35 rfl) rfl ?_
     refine TQ.val (OpV.geq rfl rfl) rfl ?_
     refine TQ.val (OpV.move rfl) rfl ?_
     refine TQ.part (t := 35) rfl ?_ ?_
     ·
      intro hg35
      have hnil : xs.drop (i + 1) = [] := List.drop_eq_nil_iff.2 (by have h9 := of_decide_eq_true hg35; omega)
      rw [hnil] at hrow
      refine TQ.shut rfl rfl ?_
      refine TQ.shut rfl rfl ?_
      refine TQ.shut rfl rfl ?_
      refine TQ.shut rfl rfl ?_
      refine TQ.shut rfl rfl ?_
      refine TQ.shut rfl rfl ?_
      refine TQ.shut rfl rfl ?_
      refine TQ.shut rfl rfl ?_
      refine TQ.shut rfl rfl ?_
      refine TQ.shut rfl rfl ?_
      refine TQ.shut rfl rfl ?_
      refine TQ.shut rfl rfl ?_
      refine TQ.val ((by first | exact OpV.pick_t rfl rfl | exact OpV.pick_f rfl rfl)) rfl ?_
      refine TQ.nil ?_
      refine TE.sub (.cons (t := 0) rfl <| .cons (t := 3) rfl <| .cons (t := 48) rfl <| .nil) ?_
      refine TE.next ?_
      refine T.yes rfl ?_
      refine T.seq ?_
      refine T.region ?_
      refine TL.val (OpV.assign rfl) rfl ?_
      refine TL.nil ?_
      refine TE.next ?_
      refine T.ret ?_
      refine TE.pass_ret ?_
      refine TE.out_ret ?_
      refine TE.pass_ret ?_
      refine TE.out_ret ?_
      refine TE.pass_ret ?_
      refine TE.ret1 rfl (ResV.tmp rfl) ?_
      exact fun w1 k1 => ⟨ret_bool (by rw [← hrow]; grind [rowR_bad, rowR_zero, rowR_one, rowR_two, rowR_two_nil, vCl_w]), k1.bel⟩
     ·
      intro hg35
      refine TQ.open rfl rfl ?_
      refine TQ.val (OpV.move rfl) rfl ?_
      refine TQ.open rfl rfl ?_
      refine TQ.val (OpV.move rfl) rfl ?_
      refine TQ.open rfl rfl ?_
      refine TQ.val (OpV.add rfl rfl (by first | exact IntWalk.i64_in _ ⟨by omega, by omega⟩ | rfl)) rfl ?_
      refine TQ.open rfl rfl ?_
      obtain ⟨y, hy⟩ := get_of_lt h.1 (show i + 1 < n by have h9 := of_decide_eq_false hg35; omega)
      have haty := hat (i + 1) y hy
      rw [drop_at hy] at hrow
      have hlt2 : i + 1 < n := by have h9 := of_decide_eq_false hg35; omega
      refine TQ.val (OpV.indexAddr (j := i + 1) se_35 rfl hA rfl (by omega) (by omega)) rfl ?_
      refine TQ.open rfl rfl ?_
      refine TQ.val (OpV.loadA ag_58 rfl (by first | exact Cels.blk P0 rfl | exact Cels.blk P1 rfl | exact Cels.blk P2 rfl | exact Cels.blk P3 rfl | exact Cels.frA hatx rfl | exact Cels.frA haty rfl)) rfl ?_
      refine TQ.open rfl rfl ?_
      refine TQ.val (OpV.move rfl) rfl ?_
      refine TQ.open rfl rfl ?_
      refine TQ.val (OpV.move rfl) rfl ?_
      refine TQ.open rfl rfl ?_
      refine TQ.val (OpV.indexAddr se_35 rfl hA rfl (by rfl) (by first | omega | simp)) rfl ?_
      refine TQ.open rfl rfl ?_
      refine TQ.val (OpV.fieldAddr rfl fo_58_3) rfl ?_
      refine TQ.open rfl rfl ?_
      refine TQ.val (OpV.loadA ag_56 rfl (by first | exact Cels.fr P0 (hatx.part x.pen.l x.pen.l 5 rfl) rfl | exact Cels.fr P1 (hatx.part x.pen.l x.pen.l 5 rfl) rfl | exact Cels.fr P2 (hatx.part x.pen.l x.pen.l 5 rfl) rfl | exact Cels.fr P3 (hatx.part x.pen.l x.pen.l 5 rfl) rfl)) rfl ?_
      refine TQ.open rfl rfl ?_
      refine TQ.val (OpV.build (qs := #[(3, _)]) (fun _ f => by simp only [List.map_toArray, List.map_cons, List.map_nil]; rw [f.ev (x := .tmp 45) rfl]) (bld_58_3 x.pen )) rfl ?_
      refine TQ.open rfl rfl ?_
      refine TQ.val (OpV.aneq rfl rfl eg_58 (eq_58 _ _)) rfl ?_
      refine TQ.val ((by first | exact OpV.pick_t rfl rfl | exact OpV.pick_f rfl rfl)) rfl ?_
      refine TQ.nil ?_
      refine TE.sub (.cons (t := 0) rfl <| .cons (t := 3) rfl <| .cons (t := 48) rfl <| .nil) ?_
      refine TE.next ?_
      refine T.cond rfl ?_ ?_
      ·
       intro ht48
       refine T.seq ?_
       refine T.region ?_
       refine TL.val (OpV.assign rfl) rfl ?_
       refine TL.nil ?_
       refine TE.next ?_
       refine T.ret ?_
       refine TE.pass_ret ?_
       refine TE.out_ret ?_
       refine TE.pass_ret ?_
       refine TE.out_ret ?_
       refine TE.pass_ret ?_
       refine TE.ret1 rfl (ResV.tmp rfl) ?_
       exact fun w1 k1 => ⟨ret_bool (by rw [← hrow]; grind [rowR_bad, rowR_zero, rowR_one, rowR_two, rowR_two_nil, vCl_w]), k1.bel⟩
      ·
       intro ht48
       refine T.skip ?_
       refine TE.next ?_
       refine T.region ?_
       refine TL.val (OpV.move rfl) rfl ?_
       refine TL.val (OpV.add rfl rfl (by first | exact IntWalk.i64_in _ ⟨by omega, by omega⟩ | rfl)) rfl ?_
       refine TL.val (OpV.assign rfl) rfl ?_
       refine TL.nil ?_
       refine TE.out ?_
       exact TE.meet (i + 2) ⟨⟨by omega, by rw [← hrow]; grind [rowR_bad, rowR_zero, rowR_one, rowR_two, rowR_two_nil, vCl_w]⟩, by omega⟩ (.cons (t := 0) (by first | rfl | (simp [lk]; done)) <| .cons (t := 3) (by first | rfl | (simp [lk]; done)) <| .nil) (Perm.kle (.cons (by first | exact P0 | exact P1 | exact P2 | exact P3) .nil))
 ·
  intro ht7
  have hin : i = n := by have h9 := of_decide_eq_false ht7; have h8 := hR.1; omega
  refine T.exit ?_
  refine TE.pass_exit ?_
  refine TE.pass_exit ?_
  refine TE.here ?_
  refine TE.next ?_
  refine T.seq ?_
  refine T.region ?_
  refine TL.val (OpV.assign rfl) rfl ?_
  refine TL.nil ?_
  refine TE.next ?_
  refine T.ret ?_
  refine TE.ret1 rfl (ResV.tmp rfl) ?_
  exact fun w1 k1 => ⟨ret_bool (by rw [← hR.2, hin, ← h.1, List.drop_length]; rfl), k1.bel⟩
end Go.Proofs.YtdmpodpdpncobaaDoor
