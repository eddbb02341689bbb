/-
  The walks of Words and Cell. Condition: the package-level tables hold what they were laid with.
-/
import Derived.Test.YtfbkoflapamicaaDoorPkd
import Derived.Test.YtfbkoflapamicaaDoorEng7
import Derived.Test.YtfbkoflapamicaaDoorWd
import Derived.Test.YtfbkoflapamicaaDoorWy
namespace Go.Proofs.YtfbkoflapamicaaDoor
open Go.RowKit
set_option linter.unusedSimpArgs false
set_option linter.unusedVariables false

theorem bld_34 (w : World) : (Instr.build 34 #[]).run Tryd.prog w = .ok (.agg W3.zero.l.toArray) w := by kernel_rfl
theorem bld_34_0_1_2 (a b c : Int) (w : World) : (Instr.build 34 #[(0, .int .u64 a), (1, .int .u64 b), (2, .int .u64 c)]).run Tryd.prog w = .ok (.agg [.int .u64 a, .int .u64 b, .int .u64 c].toArray) w := by kernel_rfl
theorem bld_30_0_2_3 (r n : Int) (p : Pen) (w : World) : (Instr.build 30 #[(0, .int .i32 r), (2, .int .i64 n), (3, .agg p.l.toArray)]).run Tryd.prog w = .ok (.agg (Cl.mk r 0 0 0 n p).l.toArray) w := by kernel_rfl
theorem eqi_34 (d : Nat) (a b c a' b' c' : Int) (w : World) : (Op.equalIn (d + 2) 34 (.agg [.int .u64 a, .int .u64 b, .int .u64 c].toArray) (.agg [.int .u64 a', .int .u64 b', .int .u64 c'].toArray)).run Tryd.prog w = .ok (a == a' && (b == b' && c == c')) w := by
  have hs : ∀ w, (sizeOf 33).run Tryd.prog w = .ok 1 w := fun w => by kernel_rfl
  rw [run_equalIn_array w (d + 1) 34 33 3 1 _ _ Tryd.underlying34 hs]
  cases h1 : a == a' <;> cases h2 : b == b' <;> cases h3 : c == c' <;> simp [List.range, List.range.loop, eqElems, go_sem, part, h1, h2, h3]
theorem eqw_34 (d : Nat) (x y : W3) (w : World) : (Op.equalIn (d + 2) 34 (.agg x.l.toArray) (.agg y.l.toArray)).run Tryd.prog w = .ok (decide (x = y)) w := by
  obtain ⟨a, b, c⟩ := x
  obtain ⟨a', b', c'⟩ := y
  refine (eqi_34 d a b c a' b' c' w).trans (congrArg (fun z => Result.ok z w) ?_)
  rw [Bool.eq_iff_iff]
  simp
theorem eq_34 (x y : W3) (w : World) : (Op.equal 34 (.agg x.l.toArray) (.agg y.l.toArray)).run Tryd.prog w = .ok (decide (x = y)) w := eqw_34 9998 x y w
theorem unpack_c (x : Int) (w : World) (h0 : 0 ≤ x) (h1 : x < 18446744073709551616) : Calls Tryd.prog 45 #[.int .u64 x] w (Ret (.tuple #[.agg (unpV x).l.toArray, .int .i64 (unpE x)]) w) := by
  have q : o_Parts x (penOf x).k1 (penOf x).i1 (penOf x).r1 (penOf x).g1 (penOf x).b1 (penOf x).k2 (penOf x).i2 (penOf x).r2 (penOf x).g2 (penOf x).b2 (penOf x).f := ⟨⟨rfl, rfl, rfl, rfl, rfl⟩, ⟨rfl, rfl, rfl, rfl, rfl⟩, rfl⟩
  rcases okP_law h0 h1 with ⟨e, _⟩ | ⟨e, e2, _⟩
  · have e3 : x < 1152921504606846976 ∧ vPn (penOf x) = true := by simpa [okP] using e
    rw [unpV, unpE, e]
    exact o_unpack_yes x (penOf x).k1 (penOf x).i1 (penOf x).r1 (penOf x).g1 (penOf x).b1 (penOf x).k2 (penOf x).i2 (penOf x).r2 (penOf x).g2 (penOf x).b2 (penOf x).f w h0 h1 q e3.1 e3.2
  · rw [unpV, unpE, e]
    by_cases hz : x < 1152921504606846976
    · exact o_unpack_bad x (penOf x).k1 (penOf x).i1 (penOf x).r1 (penOf x).g1 (penOf x).b1 (penOf x).k2 (penOf x).i2 (penOf x).r2 (penOf x).g2 (penOf x).b2 (penOf x).f w h0 h1 q hz (e2 hz)
    · exact o_unpack_big x (penOf x).k1 (penOf x).i1 (penOf x).r1 (penOf x).g1 (penOf x).b1 (penOf x).k2 (penOf x).i2 (penOf x).r2 (penOf x).g2 (penOf x).b2 (penOf x).f w h0 h1 q (by omega)
theorem runpk_c (x : Int) (w : World) (h0 : 0 ≤ x) (h1 : x < 18446744073709551616) : Calls Tryd.prog 34 #[.int .u64 x] w (Ret (.tuple #[.agg (rpenOf x).l.toArray, .bool (okP x)]) w) := by
  refine o_runpack_c x (rpenOf x).k1 (rpenOf x).i1 (rpenOf x).r1 (rpenOf x).g1 (rpenOf x).b1 (rpenOf x).k2 (rpenOf x).i2 (rpenOf x).r2 (rpenOf x).g2 (rpenOf x).b2 (rpenOf x).f (okP x) w h0 h1 ⟨rfl, rfl, rfl, rfl, rfl⟩ ⟨rfl, rfl, rfl, rfl, rfl⟩ rfl ?_
  rcases okP_law h0 h1 with ⟨e, e2, _⟩ | ⟨e, _, e2⟩
  · rw [e]
    have hv : vP (penOf x).k1 (penOf x).i1 (penOf x).r1 (penOf x).g1 (penOf x).b1 (penOf x).k2 (penOf x).i2 (penOf x).r2 (penOf x).g2 (penOf x).b2 (penOf x).f = true := by
      have h9 : x < 1152921504606846976 ∧ vPn (penOf x) = true := by simpa [okP] using e
      exact h9.2
    have h3 := rP_ok (penOf x).k1 (penOf x).i1 (penOf x).r1 (penOf x).g1 (penOf x).b1 (penOf x).k2 (penOf x).i2 (penOf x).r2 (penOf x).g2 (penOf x).b2 (penOf x).f hv
    rw [rpen_ok h0 h1 e, h3]
    exact beq_iff_eq.2 e2
  · rw [e]
    exact beq_eq_false_iff_ne.2 e2
set_option maxRecDepth 100000 in
set_option maxHeartbeats 1000000 in
theorem words_c (c : Cl) (w : World) (L : LaidW w) (hi : InP c.pen) : Calls Tryd.prog 26 #[.agg c.l.toArray] w (Ret (.tuple #[.agg (wordsV c).l.toArray, .int .i64 (wordsE c)]) w) := by
  refine calls_T (vs := [.agg c.l.toArray]) (L0 := [(0, .agg c.l.toArray)]) Tryd.func26 rfl rfl rfl rfl (KOk.none w) ?_
  refine T.seq ?_
  refine T.region ?_
  refine TL.boxA rfl rfl ?_
  intro b1
  refine TL.alloc zo_34 rfl ?_
  intro b2
  refine TL.val (OpV.assign rfl) rfl ?_
  refine TL.nil ?_
  refine TE.next ?_
  refine T.seq ?_
  refine T.seq ?_
  refine T.region ?_
  refine TL.val (OpV.loadA ag_30 rfl (by first | exact Cels.blk P0 rfl | exact Cels.blk P1 rfl | exact Cels.blk P2 rfl | exact Cels.blk P3 rfl | exact Cels.blk P4 rfl | exact Cels.blk P5 rfl)) rfl ?_
  refine TL.call (g := 37) rfl go_37 rfl (fun w1 k1 => cvalid_c c w1 (L.below k1.bel)) rfl ?_
  refine TL.val (OpV.not rfl) rfl ?_
  refine TL.nil ?_
  refine TE.next ?_
  refine T.cond rfl ?_ ?_
  · intro ht11
    have hv : vCl c = false := by simpa using ht11
    refine T.seq ?_
    refine T.region ?_
    refine TL.val (OpV.build (qs := #[]) (fun _ _ => by simp) (bld_34)) rfl ?_
    first
      | refine TL.storeAll rfl rfl szz_34 rfl rfl rfl (by first | exact P0 | exact P1 | exact P2 | exact P3 | exact P4 | exact P5) (by rfl) ?_
      | refine TL.store rfl rfl szz_34 rfl rfl rfl (by first | exact P0 | exact P1 | exact P2 | exact P3 | exact P4 | exact P5) (by first | exact Nat.le_of_ble_eq_true rfl | (simp; done) | (simp; omega)) (by simp only [putL, List.take_succ_cons, List.take_zero, List.drop_succ_cons, List.drop_zero, List.cons_append, List.nil_append, List.length_cons, List.length_nil, Nat.reduceAdd]; rfl) ?_
    refine TL.val (OpV.assign rfl) rfl ?_
    refine TL.nil ?_
    refine TE.next ?_
    refine T.ret ?_
    refine TE.pass_ret ?_
    refine TE.retN rfl (.cons (ResV.cellA rfl ag_34 (by first | exact Cels.blk P0 rfl | exact Cels.blk P1 rfl | exact Cels.blk P2 rfl | exact Cels.blk P3 rfl | exact Cels.blk P4 rfl | exact Cels.blk P5 rfl)) <| .cons (ResV.tmp rfl) <| .nil) ?_
    exact fun w1 k1 => ⟨by rw [wordsV, wordsE, hv] <;> rfl, k1.bel⟩
  · intro ht11
    have hv : vCl c = true := by simpa using ht11
    have hvp := vCl_pen' hv
    obtain ⟨⟨r0, r9⟩, ⟨m00, m09⟩, ⟨m10, m19⟩, ⟨m20, m29⟩⟩ := vCl_bd hv
    have hw := vCl_w c hv
    refine T.skip ?_
    refine TE.next ?_
    refine T.seq ?_
    refine T.region ?_
    refine TL.val (OpV.fieldAddr rfl fo_30_3) rfl ?_
    refine TL.val (OpV.loadA ag_28 rfl (Cels.blkAt c.pen.l (by first | exact P0 | exact P1 | exact P2 | exact P3) rfl rfl)) rfl ?_
    refine TL.call (g := 38) rfl go_38 rfl (fun w1 k1 => o_pack_yes c.pen.k1 c.pen.i1 c.pen.r1 c.pen.g1 c.pen.b1 c.pen.k2 c.pen.i2 c.pen.r2 c.pen.g2 c.pen.b2 c.pen.f w1 hvp hi.1.1 hi.1.2.1 hi.1.2.2.1 hi.1.2.2.2 hi.2.1.1 hi.2.1.2.1 hi.2.1.2.2.1 hi.2.1.2.2.2 hi.2.2) rfl ?_
    refine TL.said (t := 16) rfl (show _ = Value.tuple #[.int .u64 c.pen.word, .int .i64 0] from rfl) ?_
    refine TL.val (OpV.move rfl) rfl ?_
    refine TL.val (OpV.extract rfl rfl) rfl ?_
    refine TL.val (OpV.extract rfl rfl) rfl ?_
    refine TL.val (OpV.assign rfl) rfl ?_
    refine TL.val (OpV.assign rfl) rfl ?_
    refine TL.nil ?_
    refine TE.sub (.cons (t := 1) rfl <| .cons (t := 2) rfl <| .cons (t := 4) rfl <| .cons (t := 5) rfl <| .nil) ?_
    refine TE.next ?_
    refine T.seq ?_
    refine T.seq ?_
    refine T.region ?_
    refine TL.val (OpV.move rfl) rfl ?_
    refine TL.val (OpV.neq rfl rfl) rfl ?_
    refine TL.said (t := 20) rfl (show _ = Value.bool false from congrArg Value.bool (rfl)) ?_
    refine TL.nil ?_
    refine TE.next ?_
    refine T.no rfl ?_
    refine T.skip ?_
    refine TE.next ?_
    refine T.seq ?_
    refine T.region ?_
    refine TL.val (OpV.move rfl) rfl ?_
    refine TL.val (OpV.fieldAddr rfl fo_30_0) rfl ?_
    refine TL.val (OpV.load pl_21 rfl (by first | exact Cel.blk P0 rfl | exact Cel.blk P1 rfl | exact Cel.blk P2 rfl | exact Cel.blk P3 rfl | exact Cel.blk P4 rfl | exact Cel.blk P5 rfl)) rfl ?_
    refine TL.val (OpV.conv Tryd.underlying21 Tryd.underlying33 rfl (by first | exact IntWalk.u64_in _ ⟨by omega, by omega⟩ | rfl)) rfl ?_
    refine TL.val (OpV.fieldAddr rfl fo_30_2) rfl ?_
    refine TL.val (OpV.load pl_3 rfl (by first | exact Cel.blk P0 rfl | exact Cel.blk P1 rfl | exact Cel.blk P2 rfl | exact Cel.blk P3 rfl | exact Cel.blk P4 rfl | exact Cel.blk P5 rfl)) rfl ?_
    refine TL.val (OpV.conv Tryd.underlying3 Tryd.underlying33 rfl (by first | exact IntWalk.u64_in _ ⟨by omega, by omega⟩ | rfl)) rfl ?_
    refine TL.val (opv_shl (m := 21) rfl rfl rfl (by decide) (by first | exact IntWalk.u64_in _ ⟨by omega, by omega⟩ | rfl)) rfl ?_
    refine TL.val (opv_or rfl rfl (show _ = word1 c from (by rw [or_add' (c.w * 2 ^ 21) (c.r) c.w.toNat 21 (by omega) (by omega) (by omega) (by omega)]; unfold word1; omega))) rfl ?_
    refine TL.val (OpV.build (qs := #[(0, _), (1, _), (2, _)]) (fun _ f => by simp only [List.map_toArray, List.map_cons, List.map_nil]; rw [f.ev (x := .tmp 23) rfl, f.ev (x := .tmp 31) rfl, f.ev (x := .const (.int .u64 0)) rfl]) (bld_34_0_1_2 c.pen.word (word1 c) 0 )) rfl ?_
    refine TL.alloc zo_34 rfl ?_
    intro b6
    first
      | refine TL.storeAll rfl rfl szz_34 rfl rfl rfl (by first | exact P0 | exact P1 | exact P2 | exact P3 | exact P4 | exact P5) (by rfl) ?_
      | refine TL.store rfl rfl szz_34 rfl rfl rfl (by first | exact P0 | exact P1 | exact P2 | exact P3 | exact P4 | exact P5) (by first | exact Nat.le_of_ble_eq_true rfl | (simp; done) | (simp; omega)) (by simp only [putL, List.take_succ_cons, List.take_zero, List.drop_succ_cons, List.drop_zero, List.cons_append, List.nil_append, List.length_cons, List.length_nil, Nat.reduceAdd]; rfl) ?_
    refine TL.nil ?_
    refine TE.sub (.cons (t := 1) rfl <| .cons (t := 2) rfl <| .cons (t := 6) rfl <| .nil) ?_
    refine TE.next ?_
    refine T.seq ?_
    refine T.seq ?_
    refine T.region ?_
    refine TL.val (OpV.fieldAddr rfl fo_30_1) rfl ?_
    refine TL.val (OpV.loadA ag_22 rfl (Cels.blkAt (mlL c.m0 c.m1 c.m2) (by first | exact P0 | exact P1 | exact P2 | exact P3) rfl rfl)) rfl ?_
    refine TL.val (OpV.move rfl) rfl ?_
    refine TL.nil ?_
    refine TE.next ?_
    refine T.block ?_
    refine T.rounds 3 ?_
    refine T.seq ?_
    refine T.region ?_
    refine TL.val (OpV.lss rfl rfl) rfl ?_
    refine TL.nil ?_
    refine TE.next ?_
    refine T.seq ?_
    refine T.yes rfl ?_
    refine T.skip ?_
    refine TE.next ?_
    refine T.seq ?_
    refine T.block ?_
    refine T.seq ?_
    refine T.region ?_
    refine TL.val (OpV.move rfl) rfl ?_
    refine TL.val (OpV.indexA1 (j := 0) ae_22 pl_21 rfl rfl (by rfl) (by decide) (show _ = some (.int .i32 c.m0) from rfl)) rfl ?_
    refine TL.val (OpV.assign rfl) rfl ?_
    refine TL.val (OpV.assign rfl) rfl ?_
    refine TL.nil ?_
    refine TE.next ?_
    refine T.any ([.blk b6 [.int .u64 c.pen.word, .int .u64 (word1 c), .int .u64 0] 34]) [9] mix rfl rfl ?_
    refine TA.takeP (i := 0) (ls := #[true, false, false, false, false, false, false, false, false, false]) rfl rfl rfl rfl rfl (by kernel_rfl) (by kernel_rfl) (by kernel_rfl) (by repeat (first | with_reducible exact PanicOk.body | with_reducible apply PanicOk.next | with_reducible apply PanicOk.block)) (OpV.indexAddrA (j := 2) ae_34 rfl rfl (by first | rfl | omega) (by omega)) rfl (by kernel_rfl) ?_
    refine TA.take (i := 1) (ls := #[true, true, false, false, false, false, false, false, false, false]) rfl rfl rfl rfl rfl (by kernel_rfl) (by kernel_rfl) (by kernel_rfl) (by kernel_rfl) (by repeat (first | with_reducible exact PanicOk.body | with_reducible apply PanicOk.next | with_reducible apply PanicOk.block)) ((.cons (by first | exact P0 | exact P1 | exact P2 | exact P3 | exact P4 | exact P5) .nil)) (OpV.load pl_33 rfl (by first | exact Cel.blk P0 rfl | exact Cel.blk P1 rfl | exact Cel.blk P2 rfl | exact Cel.blk P3 rfl | exact Cel.blk P4 rfl | exact Cel.blk P5 rfl)) rfl (by kernel_rfl) ?_
    refine TA.takeP (i := 2) (ls := #[true, true, true, false, false, false, false, false, false, false]) rfl rfl rfl rfl rfl (by kernel_rfl) (by kernel_rfl) (by kernel_rfl) (by repeat (first | with_reducible exact PanicOk.body | with_reducible apply PanicOk.next | with_reducible apply PanicOk.block)) (OpV.move rfl) rfl (by kernel_rfl) ?_
    refine TA.takeP (i := 3) (ls := #[true, true, true, true, false, false, false, false, false, false]) rfl rfl rfl rfl rfl (by kernel_rfl) (by kernel_rfl) (by kernel_rfl) (by repeat (first | with_reducible exact PanicOk.body | with_reducible apply PanicOk.next | with_reducible apply PanicOk.block)) (OpV.conv Tryd.underlying21 Tryd.underlying33 rfl (by first | exact IntWalk.u64_in _ ⟨by omega, by omega⟩ | rfl)) rfl (by kernel_rfl) ?_
    refine TA.takeP (i := 4) (ls := #[true, true, true, true, true, false, false, false, false, false]) rfl rfl rfl rfl rfl (by kernel_rfl) (by kernel_rfl) (by kernel_rfl) (by repeat (first | with_reducible exact PanicOk.body | with_reducible apply PanicOk.next | with_reducible apply PanicOk.block)) (OpV.move rfl) rfl (by kernel_rfl) ?_
    refine TA.takeP (i := 5) (ls := #[true, true, true, true, true, true, false, false, false, false]) rfl rfl rfl rfl rfl (by kernel_rfl) (by kernel_rfl) (by kernel_rfl) (by repeat (first | with_reducible exact PanicOk.body | with_reducible apply PanicOk.next | with_reducible apply PanicOk.block)) (OpV.mul rfl rfl (by first | exact IntWalk.i64_in _ ⟨by omega, by omega⟩ | rfl)) rfl (by kernel_rfl) ?_
    refine TA.takeP (i := 6) (ls := #[true, true, true, true, true, true, true, false, false, false]) rfl rfl rfl rfl rfl (by kernel_rfl) (by kernel_rfl) (by kernel_rfl) (by repeat (first | with_reducible exact PanicOk.body | with_reducible apply PanicOk.next | with_reducible apply PanicOk.block)) (opv_shl (m := 0) rfl rfl (by rfl) (by decide) (by first | exact IntWalk.u64_in _ ⟨by omega, by omega⟩ | rfl)) rfl (by kernel_rfl) ?_
    refine TA.takeP (i := 7) (ls := #[true, true, true, true, true, true, true, true, false, false]) rfl rfl rfl rfl rfl (by kernel_rfl) (by kernel_rfl) (by kernel_rfl) (by repeat (first | with_reducible exact PanicOk.body | with_reducible apply PanicOk.next | with_reducible apply PanicOk.block)) (opv_or rfl rfl (show _ = c.m0 from (by rw [or_add' (c.m0 * 2 ^ 0) (0) c.m0.toNat 0 (by omega) (by omega) (by omega) (by omega)]; omega))) rfl (by kernel_rfl) ?_
    refine TA.takeP (i := 8) (ls := #[true, true, true, true, true, true, true, true, true, false]) rfl rfl rfl rfl rfl (by kernel_rfl) (by kernel_rfl) (by kernel_rfl) (by repeat (first | with_reducible exact PanicOk.body | with_reducible apply PanicOk.next | with_reducible apply PanicOk.block)) (OpV.indexAddrA (j := 2) ae_34 rfl rfl (by first | rfl | omega) (by omega)) rfl (by kernel_rfl) ?_
    refine TA.one (i := 9) (ls := #[true, true, true, true, true, true, true, true, true, true]) (by kernel_rfl) rfl (by kernel_rfl) (fun w1 => ?_)
    refine TL.store (o := 2) (cs' := [.int .u64 c.pen.word, .int .u64 (word1 c), .int .u64 c.m0]) rfl rfl szz_33 rfl rfl rfl (by first | exact P0 | exact P1 | exact P2 | exact P3 | exact P4 | exact P5) (Nat.le_of_ble_eq_true rfl) (by rfl) ?_
    refine TL.nil ?_
    refine TA.bar rfl ?_
    refine TA.done (by kernel_rfl) ?_
    refine TE.out ?_
    refine TE.sub (.cons (t := 2) rfl <| .cons (t := 6) rfl <| .cons (t := 34) rfl <| .cons (t := 35) rfl <| .nil) ?_
    refine TE.next ?_
    refine T.region ?_
    refine TL.val (OpV.add rfl rfl (by first | exact IntWalk.i64_in _ ⟨by omega, by omega⟩ | rfl)) rfl ?_
    refine TL.val (OpV.move rfl) rfl ?_
    refine TL.nil ?_
    refine TE.round ?_
    refine T.seq ?_
    refine T.region ?_
    refine TL.val (OpV.lss rfl rfl) rfl ?_
    refine TL.nil ?_
    refine TE.next ?_
    refine T.seq ?_
    refine T.yes rfl ?_
    refine T.skip ?_
    refine TE.next ?_
    refine T.seq ?_
    refine T.block ?_
    refine T.seq ?_
    refine T.region ?_
    refine TL.val (OpV.move rfl) rfl ?_
    refine TL.val (OpV.indexA1 (j := 1) ae_22 pl_21 rfl rfl (by rfl) (by decide) (show _ = some (.int .i32 c.m1) from rfl)) rfl ?_
    refine TL.val (OpV.assign rfl) rfl ?_
    refine TL.val (OpV.assign rfl) rfl ?_
    refine TL.nil ?_
    refine TE.next ?_
    refine T.any ([.blk b6 [.int .u64 c.pen.word, .int .u64 (word1 c), .int .u64 c.m0] 34]) [9] mix rfl rfl ?_
    refine TA.takeP (i := 0) (ls := #[true, false, false, false, false, false, false, false, false, false]) rfl rfl rfl rfl rfl (by kernel_rfl) (by kernel_rfl) (by kernel_rfl) (by repeat (first | with_reducible exact PanicOk.body | with_reducible apply PanicOk.next | with_reducible apply PanicOk.block)) (OpV.indexAddrA (j := 2) ae_34 rfl rfl (by first | rfl | omega) (by omega)) rfl (by kernel_rfl) ?_
    refine TA.take (i := 1) (ls := #[true, true, false, false, false, false, false, false, false, false]) rfl rfl rfl rfl rfl (by kernel_rfl) (by kernel_rfl) (by kernel_rfl) (by kernel_rfl) (by repeat (first | with_reducible exact PanicOk.body | with_reducible apply PanicOk.next | with_reducible apply PanicOk.block)) ((.cons (by first | exact P0 | exact P1 | exact P2 | exact P3 | exact P4 | exact P5) .nil)) (OpV.load pl_33 rfl (by first | exact Cel.blk P0 rfl | exact Cel.blk P1 rfl | exact Cel.blk P2 rfl | exact Cel.blk P3 rfl | exact Cel.blk P4 rfl | exact Cel.blk P5 rfl)) rfl (by kernel_rfl) ?_
    refine TA.takeP (i := 2) (ls := #[true, true, true, false, false, false, false, false, false, false]) rfl rfl rfl rfl rfl (by kernel_rfl) (by kernel_rfl) (by kernel_rfl) (by repeat (first | with_reducible exact PanicOk.body | with_reducible apply PanicOk.next | with_reducible apply PanicOk.block)) (OpV.move rfl) rfl (by kernel_rfl) ?_
    refine TA.takeP (i := 3) (ls := #[true, true, true, true, false, false, false, false, false, false]) rfl rfl rfl rfl rfl (by kernel_rfl) (by kernel_rfl) (by kernel_rfl) (by repeat (first | with_reducible exact PanicOk.body | with_reducible apply PanicOk.next | with_reducible apply PanicOk.block)) (OpV.conv Tryd.underlying21 Tryd.underlying33 rfl (by first | exact IntWalk.u64_in _ ⟨by omega, by omega⟩ | rfl)) rfl (by kernel_rfl) ?_
    refine TA.takeP (i := 4) (ls := #[true, true, true, true, true, false, false, false, false, false]) rfl rfl rfl rfl rfl (by kernel_rfl) (by kernel_rfl) (by kernel_rfl) (by repeat (first | with_reducible exact PanicOk.body | with_reducible apply PanicOk.next | with_reducible apply PanicOk.block)) (OpV.move rfl) rfl (by kernel_rfl) ?_
    refine TA.takeP (i := 5) (ls := #[true, true, true, true, true, true, false, false, false, false]) rfl rfl rfl rfl rfl (by kernel_rfl) (by kernel_rfl) (by kernel_rfl) (by repeat (first | with_reducible exact PanicOk.body | with_reducible apply PanicOk.next | with_reducible apply PanicOk.block)) (OpV.mul rfl rfl (by first | exact IntWalk.i64_in _ ⟨by omega, by omega⟩ | rfl)) rfl (by kernel_rfl) ?_
    refine TA.takeP (i := 6) (ls := #[true, true, true, true, true, true, true, false, false, false]) rfl rfl rfl rfl rfl (by kernel_rfl) (by kernel_rfl) (by kernel_rfl) (by repeat (first | with_reducible exact PanicOk.body | with_reducible apply PanicOk.next | with_reducible apply PanicOk.block)) (opv_shl (m := 21) rfl rfl (by rfl) (by decide) (by first | exact IntWalk.u64_in _ ⟨by omega, by omega⟩ | rfl)) rfl (by kernel_rfl) ?_
    refine TA.takeP (i := 7) (ls := #[true, true, true, true, true, true, true, true, false, false]) rfl rfl rfl rfl rfl (by kernel_rfl) (by kernel_rfl) (by kernel_rfl) (by repeat (first | with_reducible exact PanicOk.body | with_reducible apply PanicOk.next | with_reducible apply PanicOk.block)) (opv_or rfl rfl (show _ = (c.m0 + 2097152 * c.m1) from (by rw [or_add' (c.m1 * 2 ^ 21) (c.m0) c.m1.toNat 21 (by omega) (by omega) (by omega) (by omega)]; omega))) rfl (by kernel_rfl) ?_
    refine TA.takeP (i := 8) (ls := #[true, true, true, true, true, true, true, true, true, false]) rfl rfl rfl rfl rfl (by kernel_rfl) (by kernel_rfl) (by kernel_rfl) (by repeat (first | with_reducible exact PanicOk.body | with_reducible apply PanicOk.next | with_reducible apply PanicOk.block)) (OpV.indexAddrA (j := 2) ae_34 rfl rfl (by first | rfl | omega) (by omega)) rfl (by kernel_rfl) ?_
    refine TA.one (i := 9) (ls := #[true, true, true, true, true, true, true, true, true, true]) (by kernel_rfl) rfl (by kernel_rfl) (fun w1 => ?_)
    refine TL.store (o := 2) (cs' := [.int .u64 c.pen.word, .int .u64 (word1 c), .int .u64 (c.m0 + 2097152 * c.m1)]) rfl rfl szz_33 rfl rfl rfl (by first | exact P0 | exact P1 | exact P2 | exact P3 | exact P4 | exact P5) (Nat.le_of_ble_eq_true rfl) (by rfl) ?_
    refine TL.nil ?_
    refine TA.bar rfl ?_
    refine TA.done (by kernel_rfl) ?_
    refine TE.out ?_
    refine TE.sub (.cons (t := 2) rfl <| .cons (t := 6) rfl <| .cons (t := 34) rfl <| .cons (t := 35) rfl <| .nil) ?_
    refine TE.next ?_
    refine T.region ?_
    refine TL.val (OpV.add rfl rfl (by first | exact IntWalk.i64_in _ ⟨by omega, by omega⟩ | rfl)) rfl ?_
    refine TL.val (OpV.move rfl) rfl ?_
    refine TL.nil ?_
    refine TE.round ?_
    refine T.seq ?_
    refine T.region ?_
    refine TL.val (OpV.lss rfl rfl) rfl ?_
    refine TL.nil ?_
    refine TE.next ?_
    refine T.seq ?_
    refine T.yes rfl ?_
    refine T.skip ?_
    refine TE.next ?_
    refine T.seq ?_
    refine T.block ?_
    refine T.seq ?_
    refine T.region ?_
    refine TL.val (OpV.move rfl) rfl ?_
    refine TL.val (OpV.indexA1 (j := 2) ae_22 pl_21 rfl rfl (by rfl) (by decide) (show _ = some (.int .i32 c.m2) from rfl)) rfl ?_
    refine TL.val (OpV.assign rfl) rfl ?_
    refine TL.val (OpV.assign rfl) rfl ?_
    refine TL.nil ?_
    refine TE.next ?_
    refine T.any ([.blk b6 [.int .u64 c.pen.word, .int .u64 (word1 c), .int .u64 (c.m0 + 2097152 * c.m1)] 34]) [9] mix rfl rfl ?_
    refine TA.takeP (i := 0) (ls := #[true, false, false, false, false, false, false, false, false, false]) rfl rfl rfl rfl rfl (by kernel_rfl) (by kernel_rfl) (by kernel_rfl) (by repeat (first | with_reducible exact PanicOk.body | with_reducible apply PanicOk.next | with_reducible apply PanicOk.block)) (OpV.indexAddrA (j := 2) ae_34 rfl rfl (by first | rfl | omega) (by omega)) rfl (by kernel_rfl) ?_
    refine TA.take (i := 1) (ls := #[true, true, false, false, false, false, false, false, false, false]) rfl rfl rfl rfl rfl (by kernel_rfl) (by kernel_rfl) (by kernel_rfl) (by kernel_rfl) (by repeat (first | with_reducible exact PanicOk.body | with_reducible apply PanicOk.next | with_reducible apply PanicOk.block)) ((.cons (by first | exact P0 | exact P1 | exact P2 | exact P3 | exact P4 | exact P5) .nil)) (OpV.load pl_33 rfl (by first | exact Cel.blk P0 rfl | exact Cel.blk P1 rfl | exact Cel.blk P2 rfl | exact Cel.blk P3 rfl | exact Cel.blk P4 rfl | exact Cel.blk P5 rfl)) rfl (by kernel_rfl) ?_
    refine TA.takeP (i := 2) (ls := #[true, true, true, false, false, false, false, false, false, false]) rfl rfl rfl rfl rfl (by kernel_rfl) (by kernel_rfl) (by kernel_rfl) (by repeat (first | with_reducible exact PanicOk.body | with_reducible apply PanicOk.next | with_reducible apply PanicOk.block)) (OpV.move rfl) rfl (by kernel_rfl) ?_
    refine TA.takeP (i := 3) (ls := #[true, true, true, true, false, false, false, false, false, false]) rfl rfl rfl rfl rfl (by kernel_rfl) (by kernel_rfl) (by kernel_rfl) (by repeat (first | with_reducible exact PanicOk.body | with_reducible apply PanicOk.next | with_reducible apply PanicOk.block)) (OpV.conv Tryd.underlying21 Tryd.underlying33 rfl (by first | exact IntWalk.u64_in _ ⟨by omega, by omega⟩ | rfl)) rfl (by kernel_rfl) ?_
    refine TA.takeP (i := 4) (ls := #[true, true, true, true, true, false, false, false, false, false]) rfl rfl rfl rfl rfl (by kernel_rfl) (by kernel_rfl) (by kernel_rfl) (by repeat (first | with_reducible exact PanicOk.body | with_reducible apply PanicOk.next | with_reducible apply PanicOk.block)) (OpV.move rfl) rfl (by kernel_rfl) ?_
    refine TA.takeP (i := 5) (ls := #[true, true, true, true, true, true, false, false, false, false]) rfl rfl rfl rfl rfl (by kernel_rfl) (by kernel_rfl) (by kernel_rfl) (by repeat (first | with_reducible exact PanicOk.body | with_reducible apply PanicOk.next | with_reducible apply PanicOk.block)) (OpV.mul rfl rfl (by first | exact IntWalk.i64_in _ ⟨by omega, by omega⟩ | rfl)) rfl (by kernel_rfl) ?_
    refine TA.takeP (i := 6) (ls := #[true, true, true, true, true, true, true, false, false, false]) rfl rfl rfl rfl rfl (by kernel_rfl) (by kernel_rfl) (by kernel_rfl) (by repeat (first | with_reducible exact PanicOk.body | with_reducible apply PanicOk.next | with_reducible apply PanicOk.block)) (opv_shl (m := 42) rfl rfl (by rfl) (by decide) (by first | exact IntWalk.u64_in _ ⟨by omega, by omega⟩ | rfl)) rfl (by kernel_rfl) ?_
    refine TA.takeP (i := 7) (ls := #[true, true, true, true, true, true, true, true, false, false]) rfl rfl rfl rfl rfl (by kernel_rfl) (by kernel_rfl) (by kernel_rfl) (by repeat (first | with_reducible exact PanicOk.body | with_reducible apply PanicOk.next | with_reducible apply PanicOk.block)) (opv_or rfl rfl (show _ = (word2 c) from (by rw [or_add' (c.m2 * 2 ^ 42) ((c.m0 + 2097152 * c.m1)) c.m2.toNat 42 (by omega) (by omega) (by omega) (by omega)]; unfold word2; omega))) rfl (by kernel_rfl) ?_
    refine TA.takeP (i := 8) (ls := #[true, true, true, true, true, true, true, true, true, false]) rfl rfl rfl rfl rfl (by kernel_rfl) (by kernel_rfl) (by kernel_rfl) (by repeat (first | with_reducible exact PanicOk.body | with_reducible apply PanicOk.next | with_reducible apply PanicOk.block)) (OpV.indexAddrA (j := 2) ae_34 rfl rfl (by first | rfl | omega) (by omega)) rfl (by kernel_rfl) ?_
    refine TA.one (i := 9) (ls := #[true, true, true, true, true, true, true, true, true, true]) (by kernel_rfl) rfl (by kernel_rfl) (fun w1 => ?_)
    refine TL.store (o := 2) (cs' := [.int .u64 c.pen.word, .int .u64 (word1 c), .int .u64 (word2 c)]) rfl rfl szz_33 rfl rfl rfl (by first | exact P0 | exact P1 | exact P2 | exact P3 | exact P4 | exact P5) (Nat.le_of_ble_eq_true rfl) (by rfl) ?_
    refine TL.nil ?_
    refine TA.bar rfl ?_
    refine TA.done (by kernel_rfl) ?_
    refine TE.out ?_
    refine TE.sub (.cons (t := 2) rfl <| .cons (t := 6) rfl <| .cons (t := 34) rfl <| .cons (t := 35) rfl <| .nil) ?_
    refine TE.next ?_
    refine T.region ?_
    refine TL.val (OpV.add rfl rfl (by first | exact IntWalk.i64_in _ ⟨by omega, by omega⟩ | rfl)) rfl ?_
    refine TL.val (OpV.move rfl) rfl ?_
    refine TL.nil ?_
    refine TE.round ?_
    refine T.seq ?_
    refine T.region ?_
    refine TL.val (OpV.lss rfl rfl) rfl ?_
    refine TL.nil ?_
    refine TE.next ?_
    refine T.seq ?_
    refine T.no rfl ?_
    refine T.exit ?_
    refine TE.pass_exit ?_
    refine TE.pass_exit ?_
    refine TE.here ?_
    refine TE.next ?_
    refine T.seq ?_
    refine T.region ?_
    refine TL.val (OpV.loadA ag_34 rfl (by first | exact Cels.blk P0 rfl | exact Cels.blk P1 rfl | exact Cels.blk P2 rfl | exact Cels.blk P3 rfl | exact Cels.blk P4 rfl | exact Cels.blk P5 rfl)) rfl ?_
    first
      | refine TL.storeAll rfl rfl szz_34 rfl rfl rfl (by first | exact P0 | exact P1 | exact P2 | exact P3 | exact P4 | exact P5) (by rfl) ?_
      | refine TL.store rfl rfl szz_34 rfl rfl rfl (by first | exact P0 | exact P1 | exact P2 | exact P3 | exact P4 | exact P5) (by first | exact Nat.le_of_ble_eq_true rfl | (simp; done) | (simp; omega)) (by simp only [putL, List.take_succ_cons, List.take_zero, List.drop_succ_cons, List.drop_zero, List.cons_append, List.nil_append, List.length_cons, List.length_nil, Nat.reduceAdd]; rfl) ?_
    refine TL.val (OpV.assign rfl) rfl ?_
    refine TL.nil ?_
    refine TE.next ?_
    refine T.ret ?_
    refine TE.retN rfl (.cons (ResV.cellA rfl ag_34 (by first | exact Cels.blk P0 rfl | exact Cels.blk P1 rfl | exact Cels.blk P2 rfl | exact Cels.blk P3 rfl | exact Cels.blk P4 rfl | exact Cels.blk P5 rfl)) <| .cons (ResV.tmp rfl) <| .nil) ?_
    exact fun w1 k1 => ⟨by rw [wordsV, wordsE, hv] <;> rfl, k1.bel⟩
set_option maxRecDepth 100000 in
set_option maxHeartbeats 1000000 in
theorem rwords_c (c : Cl) (w : World) (hv : vCl c = true) (hi : InP c.pen) : Calls Tryd.prog 12 #[.agg c.l.toArray] w (Ret (.agg c.words.l.toArray) w) := by
  have hvp := vCl_pen' hv
  obtain ⟨⟨r0, r9⟩, ⟨m00, m09⟩, ⟨m10, m19⟩, ⟨m20, m29⟩⟩ := vCl_bd hv
  have hw := vCl_w c hv
  refine calls_T (vs := [.agg c.l.toArray]) (L0 := [(0, .agg c.l.toArray)]) Tryd.func12 rfl rfl rfl rfl (KOk.none w) ?_
  refine T.seq ?_
  refine T.region ?_
  refine TL.boxA rfl rfl ?_
  intro b1
  refine TL.alloc zo_34 rfl ?_
  intro b2
  refine TL.nil ?_
  refine TE.next ?_
  refine T.seq ?_
  refine T.region ?_
  refine TL.val (OpV.fieldAddr rfl fo_30_0) rfl ?_
  refine TL.val (OpV.load pl_21 rfl (by first | exact Cel.blk P0 rfl | exact Cel.blk P1 rfl | exact Cel.blk P2 rfl | exact Cel.blk P3 rfl | exact Cel.blk P4 rfl | exact Cel.blk P5 rfl)) rfl ?_
  refine TL.val (OpV.conv Tryd.underlying21 Tryd.underlying33 rfl (by first | exact IntWalk.u64_in _ ⟨by omega, by omega⟩ | rfl)) rfl ?_
  refine TL.val (OpV.fieldAddr rfl fo_30_2) rfl ?_
  refine TL.val (OpV.load pl_3 rfl (by first | exact Cel.blk P0 rfl | exact Cel.blk P1 rfl | exact Cel.blk P2 rfl | exact Cel.blk P3 rfl | exact Cel.blk P4 rfl | exact Cel.blk P5 rfl)) rfl ?_
  refine TL.val (OpV.conv Tryd.underlying3 Tryd.underlying33 rfl (by first | exact IntWalk.u64_in _ ⟨by omega, by omega⟩ | rfl)) rfl ?_
  refine TL.val (OpV.mul rfl rfl (by first | exact IntWalk.u64_in _ ⟨by omega, by omega⟩ | rfl)) rfl ?_
  refine TL.val (OpV.add rfl rfl (by first | exact IntWalk.u64_in _ ⟨by omega, by omega⟩ | rfl)) rfl ?_
  refine TL.val (OpV.assign rfl) rfl ?_
  refine TL.nil ?_
  refine TE.sub (.cons (t := 1) rfl <| .cons (t := 2) rfl <| .cons (t := 3) rfl <| .nil) ?_
  refine TE.next ?_
  refine T.seq ?_
  refine T.region ?_
  refine TL.val (OpV.fieldAddr rfl fo_30_1) rfl ?_
  refine TL.val (OpV.indexAddrA (j := 0) ae_22 rfl rfl (by first | rfl | omega) (by omega)) rfl ?_
  refine TL.val (OpV.load pl_21 rfl (by first | exact Cel.blk P0 rfl | exact Cel.blk P1 rfl | exact Cel.blk P2 rfl | exact Cel.blk P3 rfl | exact Cel.blk P4 rfl | exact Cel.blk P5 rfl)) rfl ?_
  refine TL.val (OpV.conv Tryd.underlying21 Tryd.underlying33 rfl (by first | exact IntWalk.u64_in _ ⟨by omega, by omega⟩ | rfl)) rfl ?_
  refine TL.val (OpV.fieldAddr rfl fo_30_1) rfl ?_
  refine TL.val (OpV.indexAddrA (j := 1) ae_22 rfl rfl (by first | rfl | omega) (by omega)) rfl ?_
  refine TL.val (OpV.load pl_21 rfl (by first | exact Cel.blk P0 rfl | exact Cel.blk P1 rfl | exact Cel.blk P2 rfl | exact Cel.blk P3 rfl | exact Cel.blk P4 rfl | exact Cel.blk P5 rfl)) rfl ?_
  refine TL.val (OpV.conv Tryd.underlying21 Tryd.underlying33 rfl (by first | exact IntWalk.u64_in _ ⟨by omega, by omega⟩ | rfl)) rfl ?_
  refine TL.val (OpV.fieldAddr rfl fo_30_1) rfl ?_
  refine TL.val (OpV.indexAddrA (j := 2) ae_22 rfl rfl (by first | rfl | omega) (by omega)) rfl ?_
  refine TL.val (OpV.load pl_21 rfl (by first | exact Cel.blk P0 rfl | exact Cel.blk P1 rfl | exact Cel.blk P2 rfl | exact Cel.blk P3 rfl | exact Cel.blk P4 rfl | exact Cel.blk P5 rfl)) rfl ?_
  refine TL.val (OpV.conv Tryd.underlying21 Tryd.underlying33 rfl (by first | exact IntWalk.u64_in _ ⟨by omega, by omega⟩ | rfl)) rfl ?_
  refine TL.val (OpV.mul rfl rfl (by first | exact IntWalk.u64_in _ ⟨by omega, by omega⟩ | rfl)) rfl ?_
  refine TL.val (OpV.add rfl rfl (by first | exact IntWalk.u64_in _ ⟨by omega, by omega⟩ | rfl)) rfl ?_
  refine TL.val (OpV.mul rfl rfl (by first | exact IntWalk.u64_in _ ⟨by omega, by omega⟩ | rfl)) rfl ?_
  refine TL.val (OpV.add rfl rfl (by first | exact IntWalk.u64_in _ ⟨by omega, by omega⟩ | rfl)) rfl ?_
  refine TL.val (OpV.assign rfl) rfl ?_
  refine TL.nil ?_
  refine TE.sub (.cons (t := 1) rfl <| .cons (t := 2) rfl <| .cons (t := 3) rfl <| .cons (t := 4) rfl <| .nil) ?_
  refine TE.next ?_
  refine T.seq ?_
  refine T.region ?_
  refine TL.val (OpV.fieldAddr rfl fo_30_3) rfl ?_
  refine TL.val (OpV.loadA ag_28 rfl (Cels.blkAt c.pen.l (by first | exact P0 | exact P1 | exact P2 | exact P3) rfl rfl)) rfl ?_
  refine TL.call (g := 32) rfl go_32 rfl (fun w1 k1 => o_rpack_c c.pen.k1 c.pen.i1 c.pen.r1 c.pen.g1 c.pen.b1 c.pen.k2 c.pen.i2 c.pen.r2 c.pen.g2 c.pen.b2 c.pen.f w1 hi.1.1 hi.1.2.1 hi.1.2.2.1 hi.1.2.2.2 hi.2.1.1 hi.2.1.2.1 hi.2.1.2.2.1 hi.2.1.2.2.2 hi.2.2) rfl ?_
  refine TL.said (t := 31) rfl (show _ = Value.int .u64 c.pen.word from congrArg _ (rP_ok c.pen.k1 c.pen.i1 c.pen.r1 c.pen.g1 c.pen.b1 c.pen.k2 c.pen.i2 c.pen.r2 c.pen.g2 c.pen.b2 c.pen.f hvp)) ?_
  refine TL.val (OpV.move rfl) rfl ?_
  refine TL.val (OpV.move rfl) rfl ?_
  refine TL.val (OpV.build (qs := #[(0, _), (1, _), (2, _)]) (fun _ f => by simp only [List.map_toArray, List.map_cons, List.map_nil]; rw [f.ev (x := .tmp 31) rfl, f.ev (x := .tmp 32) rfl, f.ev (x := .tmp 33) rfl]) (bld_34_0_1_2 c.pen.word (c.r + 2097152 * c.w) (c.m0 + 2097152 * (c.m1 + 2097152 * c.m2)) )) rfl ?_
  first
    | refine TL.storeAll rfl rfl szz_34 rfl rfl rfl (by first | exact P0 | exact P1 | exact P2 | exact P3 | exact P4 | exact P5) (by rfl) ?_
    | refine TL.store rfl rfl szz_34 rfl rfl rfl (by first | exact P0 | exact P1 | exact P2 | exact P3 | exact P4 | exact P5) (by first | exact Nat.le_of_ble_eq_true rfl | (simp; done) | (simp; omega)) (by simp only [putL, List.take_succ_cons, List.take_zero, List.drop_succ_cons, List.drop_zero, List.cons_append, List.nil_append, List.length_cons, List.length_nil, Nat.reduceAdd]; rfl) ?_
  refine TL.nil ?_
  refine TE.sub (.cons (t := 2) rfl <| .nil) ?_
  refine TE.next ?_
  refine T.ret ?_
  refine TE.ret1 rfl (ResV.cellA rfl ag_34 (by first | exact Cels.blk P0 rfl | exact Cels.blk P1 rfl | exact Cels.blk P2 rfl | exact Cels.blk P3 rfl | exact Cels.blk P4 rfl | exact Cels.blk P5 rfl)) ?_
  exact fun w1 k1 => ⟨rfl, k1.bel⟩
set_option maxRecDepth 100000 in
set_option maxHeartbeats 1000000 in
theorem cell_c (x : W3) (w : World) (L : LaidW w) (hx : InW x) : Calls Tryd.prog 33 #[.agg x.l.toArray] w (Ret (.tuple #[.agg (cellV x).l.toArray, .int .i64 (cellE x)]) w) := by
  obtain ⟨⟨xa0, xa1⟩, ⟨xb0, xb1⟩, ⟨xc0, xc1⟩⟩ := hx
  refine calls_T (vs := [.agg x.l.toArray]) (L0 := [(0, .agg x.l.toArray)]) Tryd.func33 rfl rfl rfl rfl (KOk.none w) ?_
  refine T.seq ?_
  refine T.region ?_
  refine TL.boxA rfl rfl ?_
  intro b1
  refine TL.alloc zo_30 rfl ?_
  intro b2
  refine TL.val (OpV.assign rfl) rfl ?_
  refine TL.nil ?_
  refine TE.next ?_
  refine T.seq ?_
  refine T.region ?_
  refine TL.val (OpV.indexAddrA (j := 0) ae_34 rfl rfl (by first | rfl | omega) (by omega)) rfl ?_
  refine TL.val (OpV.load pl_33 rfl (by first | exact Cel.blk P0 rfl | exact Cel.blk P1 rfl | exact Cel.blk P2 rfl | exact Cel.blk P3 rfl | exact Cel.blk P4 rfl | exact Cel.blk P5 rfl)) rfl ?_
  refine TL.call (g := 45) rfl go_45 rfl (fun w1 k1 => unpack_c x.a w1 xa0 xa1) rfl ?_
  refine TL.val (OpV.move rfl) rfl ?_
  refine TL.val (OpV.extract rfl rfl) rfl ?_
  refine TL.val (OpV.extract rfl rfl) rfl ?_
  refine TL.alloc zo_28 rfl ?_
  intro b4
  first
    | refine TL.storeAll rfl rfl szz_28 rfl rfl rfl (by first | exact P0 | exact P1 | exact P2 | exact P3 | exact P4 | exact P5) (by rfl) ?_
    | refine TL.store rfl rfl szz_28 rfl rfl rfl (by first | exact P0 | exact P1 | exact P2 | exact P3 | exact P4 | exact P5) (by first | exact Nat.le_of_ble_eq_true rfl | (simp; done) | (simp; omega)) (by simp only [putL, List.take_succ_cons, List.take_zero, List.drop_succ_cons, List.drop_zero, List.cons_append, List.nil_append, List.length_cons, List.length_nil, Nat.reduceAdd]; rfl) ?_
  refine TL.val (OpV.assign rfl) rfl ?_
  refine TL.nil ?_
  refine TE.sub (.cons (t := 1) rfl <| .cons (t := 2) rfl <| .cons (t := 4) rfl <| .cons (t := 5) rfl <| .nil) ?_
  refine TE.next ?_
  refine T.seq ?_
  refine T.seq ?_
  refine T.region ?_
  refine TL.val (OpV.move rfl) rfl ?_
  refine TL.val (OpV.neq rfl rfl) rfl ?_
  refine TL.val (OpV.move rfl) rfl ?_
  refine TL.part (t := 16) rfl ?_ ?_
  · intro hg16
    have hp : okP x.a = false := by cases hp : okP x.a <;> simp_all [unpE]
    have hk : okW x = false := by rw [okW, hp, Bool.false_and]
    refine TL.shut rfl rfl ?_
    refine TL.shut rfl rfl ?_
    refine TL.shut rfl rfl ?_
    refine TL.shut rfl rfl ?_
    refine TL.val ((by first | exact OpV.pick_t rfl rfl | exact OpV.pick_f rfl rfl)) rfl ?_
    refine TL.val (OpV.move rfl) rfl ?_
    refine TL.shut rfl rfl ?_
    refine TL.shut rfl rfl ?_
    refine TL.shut rfl rfl ?_
    refine TL.shut rfl rfl ?_
    refine TL.val ((by first | exact OpV.pick_t rfl rfl | exact OpV.pick_f rfl rfl)) rfl ?_
    refine TL.nil ?_
    refine TE.sub (.cons (t := 1) rfl <| .cons (t := 2) rfl <| .cons (t := 4) rfl <| .cons (t := 27) rfl <| .nil) ?_
    refine TE.next ?_
    refine T.yes rfl ?_
    refine T.seq ?_
    refine T.region ?_
    refine TL.val (OpV.build (qs := #[]) (fun _ _ => by simp) (bld_30)) rfl ?_
    first
      | refine TL.storeAll rfl rfl szz_30 rfl rfl rfl (by first | exact P0 | exact P1 | exact P2 | exact P3 | exact P4 | exact P5) (by rfl) ?_
      | refine TL.store rfl rfl szz_30 rfl rfl rfl (by first | exact P0 | exact P1 | exact P2 | exact P3 | exact P4 | exact P5) (by first | exact Nat.le_of_ble_eq_true rfl | (simp; done) | (simp; omega)) (by simp only [putL, List.take_succ_cons, List.take_zero, List.drop_succ_cons, List.drop_zero, List.cons_append, List.nil_append, List.length_cons, List.length_nil, Nat.reduceAdd]; rfl) ?_
    refine TL.val (OpV.assign rfl) rfl ?_
    refine TL.nil ?_
    refine TE.next ?_
    refine T.ret ?_
    refine TE.pass_ret ?_
    refine TE.retN rfl (.cons (ResV.cellA rfl ag_30 (by first | exact Cels.blk P0 rfl | exact Cels.blk P1 rfl | exact Cels.blk P2 rfl | exact Cels.blk P3 rfl | exact Cels.blk P4 rfl | exact Cels.blk P5 rfl)) <| .cons (ResV.tmp rfl) <| .nil) ?_
    exact fun w1 k1 => ⟨by rw [cellV, cellE, hk] <;> rfl, k1.bel⟩
  · intro hg16
    have hp : okP x.a = true := by cases hp : okP x.a <;> simp_all [unpE]
    refine TL.open rfl rfl ?_
    refine TL.val (OpV.indexAddrA (j := 1) ae_34 rfl rfl (by first | rfl | omega) (by omega)) rfl ?_
    refine TL.open rfl rfl ?_
    refine TL.val (OpV.load pl_33 rfl (by first | exact Cel.blk P0 rfl | exact Cel.blk P1 rfl | exact Cel.blk P2 rfl | exact Cel.blk P3 rfl | exact Cel.blk P4 rfl | exact Cel.blk P5 rfl)) rfl ?_
    refine TL.open rfl rfl ?_
    refine TL.val (opv_shr (m := 23) rfl rfl rfl (by decide) rfl) rfl ?_
    refine TL.open rfl rfl ?_
    refine TL.val (OpV.neq rfl rfl) rfl ?_
    refine TL.val ((by first | exact OpV.pick_t rfl rfl | exact OpV.pick_f rfl rfl)) rfl ?_
    refine TL.val (OpV.move rfl) rfl ?_
    refine TL.part (t := 22) rfl ?_ ?_
    · intro hg22
      have hk : okW x = false := by rw [okW, decide_eq_false (show ¬ x.b < 8388608 by have h9 : (x.b / 2 ^ 23 != 0) = true := hg22; simp at h9; omega), Bool.false_and, Bool.and_false]
      refine TL.shut rfl rfl ?_
      refine TL.shut rfl rfl ?_
      refine TL.shut rfl rfl ?_
      refine TL.shut rfl rfl ?_
      refine TL.val ((by first | exact OpV.pick_t rfl rfl | exact OpV.pick_f rfl rfl)) rfl ?_
      refine TL.nil ?_
      refine TE.sub (.cons (t := 1) rfl <| .cons (t := 2) rfl <| .cons (t := 4) rfl <| .cons (t := 27) rfl <| .nil) ?_
      refine TE.next ?_
      refine T.yes rfl ?_
      refine T.seq ?_
      refine T.region ?_
      refine TL.val (OpV.build (qs := #[]) (fun _ _ => by simp) (bld_30)) rfl ?_
      first
        | refine TL.storeAll rfl rfl szz_30 rfl rfl rfl (by first | exact P0 | exact P1 | exact P2 | exact P3 | exact P4 | exact P5) (by rfl) ?_
        | refine TL.store rfl rfl szz_30 rfl rfl rfl (by first | exact P0 | exact P1 | exact P2 | exact P3 | exact P4 | exact P5) (by first | exact Nat.le_of_ble_eq_true rfl | (simp; done) | (simp; omega)) (by simp only [putL, List.take_succ_cons, List.take_zero, List.drop_succ_cons, List.drop_zero, List.cons_append, List.nil_append, List.length_cons, List.length_nil, Nat.reduceAdd]; rfl) ?_
      refine TL.val (OpV.assign rfl) rfl ?_
      refine TL.nil ?_
      refine TE.next ?_
      refine T.ret ?_
      refine TE.pass_ret ?_
      refine TE.retN rfl (.cons (ResV.cellA rfl ag_30 (by first | exact Cels.blk P0 rfl | exact Cels.blk P1 rfl | exact Cels.blk P2 rfl | exact Cels.blk P3 rfl | exact Cels.blk P4 rfl | exact Cels.blk P5 rfl)) <| .cons (ResV.tmp rfl) <| .nil) ?_
      exact fun w1 k1 => ⟨by rw [cellV, cellE, hk] <;> rfl, k1.bel⟩
    · intro hg22
      have hb : x.b < 8388608 := by have h9 : (x.b / 2 ^ 23 != 0) = false := hg22; simp at h9; omega
      refine TL.open rfl rfl ?_
      refine TL.val (OpV.indexAddrA (j := 2) ae_34 rfl rfl (by first | rfl | omega) (by omega)) rfl ?_
      refine TL.open rfl rfl ?_
      refine TL.val (OpV.load pl_33 rfl (by first | exact Cel.blk P0 rfl | exact Cel.blk P1 rfl | exact Cel.blk P2 rfl | exact Cel.blk P3 rfl | exact Cel.blk P4 rfl | exact Cel.blk P5 rfl)) rfl ?_
      refine TL.open rfl rfl ?_
      refine TL.val (opv_shr (m := 63) rfl rfl rfl (by decide) rfl) rfl ?_
      refine TL.open rfl rfl ?_
      refine TL.val (OpV.neq rfl rfl) rfl ?_
      refine TL.val ((by first | exact OpV.pick_t rfl rfl | exact OpV.pick_f rfl rfl)) rfl ?_
      refine TL.nil ?_
      refine TE.sub (.cons (t := 1) rfl <| .cons (t := 2) rfl <| .cons (t := 4) rfl <| .cons (t := 27) rfl <| .nil) ?_
      refine TE.next ?_
      refine T.cond rfl ?_ ?_
      · intro ht27
        have hk : okW x = false := by rw [okW, decide_eq_false (show ¬ x.c < 9223372036854775808 by have h9 : (x.c / 2 ^ 63 != 0) = true := ht27; simp at h9; omega), Bool.false_and, Bool.and_false, Bool.and_false]
        refine T.seq ?_
        refine T.region ?_
        refine TL.val (OpV.build (qs := #[]) (fun _ _ => by simp) (bld_30)) rfl ?_
        first
          | refine TL.storeAll rfl rfl szz_30 rfl rfl rfl (by first | exact P0 | exact P1 | exact P2 | exact P3 | exact P4 | exact P5) (by rfl) ?_
          | refine TL.store rfl rfl szz_30 rfl rfl rfl (by first | exact P0 | exact P1 | exact P2 | exact P3 | exact P4 | exact P5) (by first | exact Nat.le_of_ble_eq_true rfl | (simp; done) | (simp; omega)) (by simp only [putL, List.take_succ_cons, List.take_zero, List.drop_succ_cons, List.drop_zero, List.cons_append, List.nil_append, List.length_cons, List.length_nil, Nat.reduceAdd]; rfl) ?_
        refine TL.val (OpV.assign rfl) rfl ?_
        refine TL.nil ?_
        refine TE.next ?_
        refine T.ret ?_
        refine TE.pass_ret ?_
        refine TE.retN rfl (.cons (ResV.cellA rfl ag_30 (by first | exact Cels.blk P0 rfl | exact Cels.blk P1 rfl | exact Cels.blk P2 rfl | exact Cels.blk P3 rfl | exact Cels.blk P4 rfl | exact Cels.blk P5 rfl)) <| .cons (ResV.tmp rfl) <| .nil) ?_
        exact fun w1 k1 => ⟨by rw [cellV, cellE, hk] <;> rfl, k1.bel⟩
      · intro ht27
        have hc : x.c < 9223372036854775808 := by have h9 : (x.c / 2 ^ 63 != 0) = false := ht27; simp at h9; omega
        refine T.skip ?_
        refine TE.next ?_
        refine T.seq ?_
        refine T.region ?_
        refine TL.val (OpV.indexAddrA (j := 1) ae_34 rfl rfl (by first | rfl | omega) (by omega)) rfl ?_
        refine TL.val (OpV.load pl_33 rfl (by first | exact Cel.blk P0 rfl | exact Cel.blk P1 rfl | exact Cel.blk P2 rfl | exact Cel.blk P3 rfl | exact Cel.blk P4 rfl | exact Cel.blk P5 rfl)) rfl ?_
        refine TL.val (opv_and rfl rfl (and21 _ xb0 xb1)) rfl ?_
        refine TL.val (OpV.conv Tryd.underlying33 Tryd.underlying21 rfl (by first | exact IntWalk.i32_in _ ⟨by omega, by omega⟩ | rfl)) rfl ?_
        refine TL.val (OpV.indexAddrA (j := 1) ae_34 rfl rfl (by first | rfl | omega) (by omega)) rfl ?_
        refine TL.val (OpV.load pl_33 rfl (by first | exact Cel.blk P0 rfl | exact Cel.blk P1 rfl | exact Cel.blk P2 rfl | exact Cel.blk P3 rfl | exact Cel.blk P4 rfl | exact Cel.blk P5 rfl)) rfl ?_
        refine TL.val (opv_shr (m := 21) rfl rfl rfl (by decide) (show x.b / 2 ^ 21 = x.b / 2097152 from rfl)) rfl ?_
        refine TL.val (OpV.conv Tryd.underlying33 Tryd.underlying3 rfl (by first | exact IntWalk.i64_in _ ⟨by omega, by omega⟩ | rfl)) rfl ?_
        refine TL.val (OpV.loadA ag_28 rfl (Cels.blkAt (unpV x.a).l (by first | exact P0 | exact P1 | exact P2 | exact P3) rfl rfl)) rfl ?_
        refine TL.said (t := 37) rfl (show _ = Value.agg (penOf x.a).l.toArray by rw [unpV, hp, if_pos rfl]) ?_
        refine TL.val (OpV.build (qs := #[(0, _), (2, _), (3, _)]) (fun _ f => by simp only [List.map_toArray, List.map_cons, List.map_nil]; rw [f.ev (x := .tmp 32) rfl, f.ev (x := .tmp 36) rfl, f.ev (x := .tmp 37) rfl]) (bld_30_0_2_3 (x.b % 2097152) (x.b / 2097152) (penOf x.a) )) rfl ?_
        refine TL.alloc zo_30 rfl ?_
        intro b6
        first
          | refine TL.storeAll rfl rfl szz_30 rfl rfl rfl (by first | exact P0 | exact P1 | exact P2 | exact P3 | exact P4 | exact P5) (by rfl) ?_
          | refine TL.store rfl rfl szz_30 rfl rfl rfl (by first | exact P0 | exact P1 | exact P2 | exact P3 | exact P4 | exact P5) (by first | exact Nat.le_of_ble_eq_true rfl | (simp; done) | (simp; omega)) (by simp only [putL, List.take_succ_cons, List.take_zero, List.drop_succ_cons, List.drop_zero, List.cons_append, List.nil_append, List.length_cons, List.length_nil, Nat.reduceAdd]; rfl) ?_
        refine TL.nil ?_
        refine TE.sub (.cons (t := 1) rfl <| .cons (t := 2) rfl <| .cons (t := 6) rfl <| .nil) ?_
        refine TE.next ?_
        refine T.seq ?_
        refine T.seq ?_
        refine T.region ?_
        refine TL.val (OpV.move rfl) rfl ?_
        refine TL.nil ?_
        refine TE.next ?_
        refine T.block ?_
        refine T.rounds 3 ?_
        refine T.seq ?_
        refine T.region ?_
        refine TL.val (OpV.lss rfl rfl) rfl ?_
        refine TL.nil ?_
        refine TE.next ?_
        refine T.seq ?_
        refine T.yes rfl ?_
        refine T.skip ?_
        refine TE.next ?_
        refine T.seq ?_
        refine T.block ?_
        refine T.seq ?_
        refine T.region ?_
        refine TL.val (OpV.move rfl) rfl ?_
        refine TL.val (OpV.assign rfl) rfl ?_
        refine TL.nil ?_
        refine TE.next ?_
        refine T.region ?_
        refine TL.val (OpV.move rfl) rfl ?_
        refine TL.val (OpV.indexAddrA (j := 2) ae_34 rfl rfl (by first | rfl | omega) (by omega)) rfl ?_
        refine TL.val (OpV.load pl_33 rfl (by first | exact Cel.blk P0 rfl | exact Cel.blk P1 rfl | exact Cel.blk P2 rfl | exact Cel.blk P3 rfl | exact Cel.blk P4 rfl | exact Cel.blk P5 rfl)) rfl ?_
        refine TL.val (OpV.move rfl) rfl ?_
        refine TL.val (OpV.mul rfl rfl (by first | exact IntWalk.i64_in _ ⟨by omega, by omega⟩ | rfl)) rfl ?_
        refine TL.val (opv_shr (m := 0) rfl rfl (by rfl) (by decide) rfl) rfl ?_
        refine TL.val (opv_and rfl rfl (show _ = (x.c % 2097152) by rw [and21 _ (by omega) (by omega)]; omega)) rfl ?_
        refine TL.val (OpV.conv Tryd.underlying33 Tryd.underlying21 rfl (by first | exact IntWalk.i32_in _ ⟨by omega, by omega⟩ | rfl)) rfl ?_
        refine TL.val (OpV.fieldAddr rfl fo_30_1) rfl ?_
        refine TL.val (OpV.indexAddrA (j := 0) ae_22 rfl rfl (by rfl) (by decide)) rfl ?_
        refine TL.store (o := 1) (cs' := (Cl.mk (x.b % 2097152) (x.c % 2097152) 0 0 (x.b / 2097152) (penOf x.a)).l) rfl rfl szz_21 rfl rfl rfl (by first | exact P0 | exact P1 | exact P2 | exact P3 | exact P4 | exact P5) (Nat.le_of_ble_eq_true rfl) (by rfl) ?_
        refine TL.nil ?_
        refine TE.out ?_
        refine TE.sub (.cons (t := 1) rfl <| .cons (t := 2) rfl <| .cons (t := 6) rfl <| .cons (t := 39) rfl <| .nil) ?_
        refine TE.next ?_
        refine T.region ?_
        refine TL.val (OpV.add rfl rfl (by first | exact IntWalk.i64_in _ ⟨by omega, by omega⟩ | rfl)) rfl ?_
        refine TL.val (OpV.move rfl) rfl ?_
        refine TL.nil ?_
        refine TE.round ?_
        refine T.seq ?_
        refine T.region ?_
        refine TL.val (OpV.lss rfl rfl) rfl ?_
        refine TL.nil ?_
        refine TE.next ?_
        refine T.seq ?_
        refine T.yes rfl ?_
        refine T.skip ?_
        refine TE.next ?_
        refine T.seq ?_
        refine T.block ?_
        refine T.seq ?_
        refine T.region ?_
        refine TL.val (OpV.move rfl) rfl ?_
        refine TL.val (OpV.assign rfl) rfl ?_
        refine TL.nil ?_
        refine TE.next ?_
        refine T.region ?_
        refine TL.val (OpV.move rfl) rfl ?_
        refine TL.val (OpV.indexAddrA (j := 2) ae_34 rfl rfl (by first | rfl | omega) (by omega)) rfl ?_
        refine TL.val (OpV.load pl_33 rfl (by first | exact Cel.blk P0 rfl | exact Cel.blk P1 rfl | exact Cel.blk P2 rfl | exact Cel.blk P3 rfl | exact Cel.blk P4 rfl | exact Cel.blk P5 rfl)) rfl ?_
        refine TL.val (OpV.move rfl) rfl ?_
        refine TL.val (OpV.mul rfl rfl (by first | exact IntWalk.i64_in _ ⟨by omega, by omega⟩ | rfl)) rfl ?_
        refine TL.val (opv_shr (m := 21) rfl rfl (by rfl) (by decide) rfl) rfl ?_
        refine TL.val (opv_and rfl rfl (show _ = (x.c / 2097152 % 2097152) by rw [and21 _ (by omega) (by omega)]; omega)) rfl ?_
        refine TL.val (OpV.conv Tryd.underlying33 Tryd.underlying21 rfl (by first | exact IntWalk.i32_in _ ⟨by omega, by omega⟩ | rfl)) rfl ?_
        refine TL.val (OpV.fieldAddr rfl fo_30_1) rfl ?_
        refine TL.val (OpV.indexAddrA (j := 1) ae_22 rfl rfl (by rfl) (by decide)) rfl ?_
        refine TL.store (o := 2) (cs' := (Cl.mk (x.b % 2097152) (x.c % 2097152) (x.c / 2097152 % 2097152) 0 (x.b / 2097152) (penOf x.a)).l) rfl rfl szz_21 rfl rfl rfl (by first | exact P0 | exact P1 | exact P2 | exact P3 | exact P4 | exact P5) (Nat.le_of_ble_eq_true rfl) (by rfl) ?_
        refine TL.nil ?_
        refine TE.out ?_
        refine TE.sub (.cons (t := 1) rfl <| .cons (t := 2) rfl <| .cons (t := 6) rfl <| .cons (t := 39) rfl <| .nil) ?_
        refine TE.next ?_
        refine T.region ?_
        refine TL.val (OpV.add rfl rfl (by first | exact IntWalk.i64_in _ ⟨by omega, by omega⟩ | rfl)) rfl ?_
        refine TL.val (OpV.move rfl) rfl ?_
        refine TL.nil ?_
        refine TE.round ?_
        refine T.seq ?_
        refine T.region ?_
        refine TL.val (OpV.lss rfl rfl) rfl ?_
        refine TL.nil ?_
        refine TE.next ?_
        refine T.seq ?_
        refine T.yes rfl ?_
        refine T.skip ?_
        refine TE.next ?_
        refine T.seq ?_
        refine T.block ?_
        refine T.seq ?_
        refine T.region ?_
        refine TL.val (OpV.move rfl) rfl ?_
        refine TL.val (OpV.assign rfl) rfl ?_
        refine TL.nil ?_
        refine TE.next ?_
        refine T.region ?_
        refine TL.val (OpV.move rfl) rfl ?_
        refine TL.val (OpV.indexAddrA (j := 2) ae_34 rfl rfl (by first | rfl | omega) (by omega)) rfl ?_
        refine TL.val (OpV.load pl_33 rfl (by first | exact Cel.blk P0 rfl | exact Cel.blk P1 rfl | exact Cel.blk P2 rfl | exact Cel.blk P3 rfl | exact Cel.blk P4 rfl | exact Cel.blk P5 rfl)) rfl ?_
        refine TL.val (OpV.move rfl) rfl ?_
        refine TL.val (OpV.mul rfl rfl (by first | exact IntWalk.i64_in _ ⟨by omega, by omega⟩ | rfl)) rfl ?_
        refine TL.val (opv_shr (m := 42) rfl rfl (by rfl) (by decide) rfl) rfl ?_
        refine TL.val (opv_and rfl rfl (show _ = (x.c / 4398046511104 % 2097152) by rw [and21 _ (by omega) (by omega)]; omega)) rfl ?_
        refine TL.val (OpV.conv Tryd.underlying33 Tryd.underlying21 rfl (by first | exact IntWalk.i32_in _ ⟨by omega, by omega⟩ | rfl)) rfl ?_
        refine TL.val (OpV.fieldAddr rfl fo_30_1) rfl ?_
        refine TL.val (OpV.indexAddrA (j := 2) ae_22 rfl rfl (by rfl) (by decide)) rfl ?_
        refine TL.store (o := 3) (cs' := (Cl.mk (x.b % 2097152) (x.c % 2097152) (x.c / 2097152 % 2097152) (x.c / 4398046511104 % 2097152) (x.b / 2097152) (penOf x.a)).l) rfl rfl szz_21 rfl rfl rfl (by first | exact P0 | exact P1 | exact P2 | exact P3 | exact P4 | exact P5) (Nat.le_of_ble_eq_true rfl) (by rfl) ?_
        refine TL.nil ?_
        refine TE.out ?_
        refine TE.sub (.cons (t := 1) rfl <| .cons (t := 2) rfl <| .cons (t := 6) rfl <| .cons (t := 39) rfl <| .nil) ?_
        refine TE.next ?_
        refine T.region ?_
        refine TL.val (OpV.add rfl rfl (by first | exact IntWalk.i64_in _ ⟨by omega, by omega⟩ | rfl)) rfl ?_
        refine TL.val (OpV.move rfl) rfl ?_
        refine TL.nil ?_
        refine TE.round ?_
        refine T.seq ?_
        refine T.region ?_
        refine TL.val (OpV.lss rfl rfl) rfl ?_
        refine TL.nil ?_
        refine TE.next ?_
        refine T.seq ?_
        refine T.no rfl ?_
        refine T.exit ?_
        refine TE.pass_exit ?_
        refine TE.pass_exit ?_
        refine TE.here ?_
        refine TE.next ?_
        refine T.seq ?_
        refine T.seq ?_
        refine T.region ?_
        refine TL.val (OpV.loadA ag_30 rfl (Cels.blkAt (cellOf x).l (by first | exact P0 | exact P1 | exact P2 | exact P3) rfl rfl)) rfl ?_
        refine TL.call (g := 37) rfl go_37 rfl (fun w1 k1 => cvalid_c (cellOf x) w1 (L.below k1.bel)) rfl ?_
        refine TL.val (OpV.not rfl) rfl ?_
        refine TL.nil ?_
        refine TE.next ?_
        refine T.cond rfl ?_ ?_
        · intro ht55
          have hk : okW x = false := by rw [okW, show vCl (cellOf x) = false by simpa using ht55]; simp
          refine T.seq ?_
          refine T.region ?_
          refine TL.val (OpV.build (qs := #[]) (fun _ _ => by simp) (bld_30)) rfl ?_
          first
            | refine TL.storeAll rfl rfl szz_30 rfl rfl rfl (by first | exact P0 | exact P1 | exact P2 | exact P3 | exact P4 | exact P5) (by rfl) ?_
            | refine TL.store rfl rfl szz_30 rfl rfl rfl (by first | exact P0 | exact P1 | exact P2 | exact P3 | exact P4 | exact P5) (by first | exact Nat.le_of_ble_eq_true rfl | (simp; done) | (simp; omega)) (by simp only [putL, List.take_succ_cons, List.take_zero, List.drop_succ_cons, List.drop_zero, List.cons_append, List.nil_append, List.length_cons, List.length_nil, Nat.reduceAdd]; rfl) ?_
          refine TL.val (OpV.assign rfl) rfl ?_
          refine TL.nil ?_
          refine TE.sub (.cons (t := 2) rfl <| .cons (t := 3) rfl <| .nil) ?_
          refine TE.next ?_
          refine T.ret ?_
          refine TE.pass_ret ?_
          refine TE.retN rfl (.cons (ResV.cellA rfl ag_30 (by first | exact Cels.blk P0 rfl | exact Cels.blk P1 rfl | exact Cels.blk P2 rfl | exact Cels.blk P3 rfl | exact Cels.blk P4 rfl | exact Cels.blk P5 rfl)) <| .cons (ResV.tmp rfl) <| .nil) ?_
          exact fun w1 k1 => ⟨by rw [cellV, cellE, hk] <;> rfl, k1.bel⟩
        · intro ht55
          have hk : okW x = true := by rw [okW, hp, decide_eq_true hb, decide_eq_true hc, show vCl (cellOf x) = true by simpa using ht55]; rfl
          refine T.skip ?_
          refine TE.sub (.cons (t := 2) rfl <| .cons (t := 6) rfl <| .nil) ?_
          refine TE.next ?_
          refine T.seq ?_
          refine T.region ?_
          refine TL.val (OpV.loadA ag_30 rfl (Cels.blkAt (cellOf x).l (by first | exact P0 | exact P1 | exact P2 | exact P3) rfl rfl)) rfl ?_
          first
            | refine TL.storeAll rfl rfl szz_30 rfl rfl rfl (by first | exact P0 | exact P1 | exact P2 | exact P3 | exact P4 | exact P5) (by rfl) ?_
            | refine TL.store rfl rfl szz_30 rfl rfl rfl (by first | exact P0 | exact P1 | exact P2 | exact P3 | exact P4 | exact P5) (by first | exact Nat.le_of_ble_eq_true rfl | (simp; done) | (simp; omega)) (by simp only [putL, List.take_succ_cons, List.take_zero, List.drop_succ_cons, List.drop_zero, List.cons_append, List.nil_append, List.length_cons, List.length_nil, Nat.reduceAdd]; rfl) ?_
          refine TL.val (OpV.assign rfl) rfl ?_
          refine TL.nil ?_
          refine TE.next ?_
          refine T.ret ?_
          refine TE.retN rfl (.cons (ResV.cellA rfl ag_30 (by first | exact Cels.blk P0 rfl | exact Cels.blk P1 rfl | exact Cels.blk P2 rfl | exact Cels.blk P3 rfl | exact Cels.blk P4 rfl | exact Cels.blk P5 rfl)) <| .cons (ResV.tmp rfl) <| .nil) ?_
          exact fun w1 k1 => ⟨by rw [cellV, cellE, hk] <;> rfl, k1.bel⟩
end Go.Proofs.YtfbkoflapamicaaDoor
