/-
  What the examples of chapter 44 answer. No condition.
-/
import Derived.Test.YtaoepaonjeilgaaMk
import Derived.Test.YtaoepaonjeilgaaEng7
namespace Go.Proofs.Ytaoepaonjeilgaa
open Go.RowKit
set_option linter.unusedSimpArgs false
set_option linter.unusedVariables false
theorem go_12 : isGo Try.prog 12 = true := by kernel_rfl
theorem go_14 : isGo Try.prog 14 = true := by kernel_rfl
theorem go_19 : isGo Try.prog 19 = true := by kernel_rfl
theorem go_8 : isGo Try.prog 8 = true := by kernel_rfl
theorem go_9 : isGo Try.prog 9 = true := by kernel_rfl
theorem sl_24_6_0_1_2_3_4_5 (a b c d e f : Mk) (w : World) : (Instr.buildSlice 24 6 #[(0, .agg a.l.toArray), (1, .agg b.l.toArray), (2, .agg c.l.toArray), (3, .agg d.l.toArray), (4, .agg e.l.toArray), (5, .agg f.l.toArray)]).run Try.prog w = .ok (.slice (some ⟨w.heap.size, 0, none⟩) 6 6) (w.alloc (.cells (ml [a, b, c, d, e, f]).toArray 31)) := by kernel_rfl
theorem sl_34_2_0_1 (a b : Cm) (w : World) : (Instr.buildSlice 34 2 #[(0, .agg a.l.toArray), (1, .agg b.l.toArray)]).run Try.prog w = .ok (.slice (some ⟨w.heap.size, 0, none⟩) 2 2) (w.alloc (.cells (cl [a, b]).toArray 41)) := by kernel_rfl
theorem sl_38_1_0 (a : Int) (w : World) : (Instr.buildSlice 38 1 #[(0, .int .i64 a)]).run Try.prog w = .ok (.slice (some ⟨w.heap.size, 0, none⟩) 1 1) (w.alloc (.cells (il [a]).toArray 29)) := by kernel_rfl
theorem sl_38_2_0_1 (a b : Int) (w : World) : (Instr.buildSlice 38 2 #[(0, .int .i64 a), (1, .int .i64 b)]).run Try.prog w = .ok (.slice (some ⟨w.heap.size, 0, none⟩) 2 2) (w.alloc (.cells (il [a, b]).toArray 29)) := by kernel_rfl
theorem bld_26 (w : World) : (Instr.build 26 #[]).run Try.prog w = .ok (.agg [Value.slice none 0 0].toArray) w := by kernel_rfl
theorem bld_knE (w : World) : (Instr.build 31 #[(0, .int .i64 9), (1, .int .i64 4), (2, .int .i64 1)]).run Try.prog w = .ok (.agg (Mk.mk 9 4 1).l.toArray) w := by kernel_rfl
theorem bld_knP (w : World) : (Instr.build 31 #[(0, .int .i64 12), (1, .int .i64 1), (2, .int .i64 1)]).run Try.prog w = .ok (.agg (Mk.mk 12 1 1).l.toArray) w := by kernel_rfl
theorem bld_kn1 (w : World) : (Instr.build 41 #[(0, .int .i64 3), (4, .bool true), (1, .int .i64 3), (5, .bool true), (2, .int .i64 4), (6, .bool true), (3, .int .i64 9), (7, .bool true), (8, .int .i64 1)]).run Try.prog w = .ok (.agg knOne.l.toArray) w := by kernel_rfl
theorem bld_kn2 (w : World) : (Instr.build 41 #[(0, .int .i64 9), (4, .bool true), (2, .int .i64 12), (6, .bool true)]).run Try.prog w = .ok (.agg knTwo.l.toArray) w := by kernel_rfl
theorem bld_kn3 (w : World) : (Instr.build 41 #[(3, .int .i64 9), (7, .bool true), (8, .int .i64 1)]).run Try.prog w = .ok (.agg knEnd.l.toArray) w := by kernel_rfl
set_option maxRecDepth 100000 in
set_option maxHeartbeats 1000000 in
theorem known_c (w : World) : Calls Try.prog 7 #[] w (Ret (.bool true) w) := by
 refine calls_T (vs := []) (L0 := []) Try.func7 rfl rfl rfl rfl (KOk.none w) ?_
 refine T.seq ?_
 refine T.region ?_
 refine TL.val (OpV.assign rfl) rfl ?_
 refine TL.nil ?_
 refine TE.next ?_
 refine T.seq ?_
 refine T.region ?_
 refine TL.val (OpV.build (qs := #[]) (fun _ _ => by simp) bld_26) rfl ?_
 refine TL.boxA rfl rfl ?_
 intro b8
 refine TL.val (OpV.assign rfl) rfl ?_
 refine TL.nil ?_
 refine TE.next ?_
 refine T.seq ?_
 refine T.region ?_
 refine TL.val (OpV.build (qs := #[(0, .int .i64 9), (1, .int .i64 4), (2, .int .i64 1)]) (fun _ _ => by simp only [List.map_toArray, List.map_cons, List.map_nil]; rfl) bld_knE) rfl ?_
 refine TL.alloc zo_31 rfl ?_
 intro b2
 first
   | refine TL.storeAll rfl rfl szz_31 rfl rfl rfl (by first | exact P0 | exact P1 | exact P2 | exact P3 | exact P4 | exact P5 | exact P6 | exact P7 | exact P8) (by rfl) ?_
   | refine TL.store rfl rfl szz_31 rfl rfl rfl (by first | exact P0 | exact P1 | exact P2 | exact P3 | exact P4 | exact P5 | exact P6 | exact P7 | exact P8) (by first | exact Nat.le_of_ble_eq_true rfl | (simp; done) | (simp; omega)) (by simp only [Mk.l, Cm.l, putL, List.take_succ_cons, List.take_zero, List.drop_succ_cons, List.drop_zero, List.cons_append, List.nil_append, List.length_cons, List.length_nil, Nat.reduceAdd]; rfl) ?_
 refine TL.nil ?_
 refine TE.next ?_
 refine T.seq ?_
 refine T.seq ?_
 refine T.any ([.blk b2 (Mk.mk 9 4 1).l 31]) [] mix rfl rfl ?_
 refine TA.take (i := 3) (ls := #[false, false, false, true, false, false, false, false, false]) rfl rfl rfl rfl rfl (by kernel_rfl) (by kernel_rfl) (by kernel_rfl) (by kernel_rfl) (by repeat (first | with_reducible exact PanicOk.body | with_reducible apply PanicOk.next | with_reducible apply PanicOk.block)) ((.cons (by first | exact P0 | exact P1 | exact P2 | exact P3 | exact P4 | exact P5 | exact P6) .nil)) (OpV.loadA ag_31 rfl (Cels.blkAt (Mk.mk 9 4 1).l (by first | exact P0 | exact P1 | exact P2 | exact P3 | exact P4 | exact P5 | exact P6) rfl rfl)) rfl (by kernel_rfl) ?_
 refine TA.takeP (i := 8) (ls := #[false, false, false, true, false, false, false, false, true]) rfl rfl rfl rfl rfl (by kernel_rfl) (by kernel_rfl) (by kernel_rfl) (by repeat (first | with_reducible exact PanicOk.body | with_reducible apply PanicOk.next | with_reducible apply PanicOk.block)) (OpV.move rfl) rfl (by kernel_rfl) ?_
 refine TA.one (i := 0) (ls := #[true, false, false, true, false, false, false, false, true]) (by kernel_rfl) rfl (by kernel_rfl) (fun w1 => ?_)
 refine TL.call (g := 9) rfl go_9 rfl (fun w1 k1 => mark_c 3 1 w1) rfl ?_
 refine TL.nil ?_
 refine TA.cont ((.cons (by first | exact P0 | exact P1 | exact P2 | exact P3 | exact P4 | exact P5 | exact P6) .nil)) ?_
 refine TA.one (i := 1) (ls := #[true, true, false, true, false, false, false, false, true]) (by kernel_rfl) rfl (by kernel_rfl) (fun w1 => ?_)
 refine TL.call (g := 9) rfl go_9 rfl (fun w1 k1 => mark_c 3 2 w1) rfl ?_
 refine TL.nil ?_
 refine TA.cont ((.cons (by first | exact P0 | exact P1 | exact P2 | exact P3 | exact P4 | exact P5 | exact P6) .nil)) ?_
 refine TA.one (i := 2) (ls := #[true, true, true, true, false, false, false, false, true]) (by kernel_rfl) rfl (by kernel_rfl) (fun w1 => ?_)
 refine TL.call (g := 9) rfl go_9 rfl (fun w1 k1 => mark_c 4 3 w1) rfl ?_
 refine TL.nil ?_
 refine TA.cont ((.cons (by first | exact P0 | exact P1 | exact P2 | exact P3 | exact P4 | exact P5 | exact P6) .nil)) ?_
 refine TA.one (i := 4) (ls := #[true, true, true, true, true, false, false, false, true]) (by kernel_rfl) rfl (by kernel_rfl) (fun w1 => ?_)
 refine TL.call (g := 9) rfl go_9 rfl (fun w1 k1 => mark_c 9 1 w1) rfl ?_
 refine TL.nil ?_
 refine TA.cont ((.cons (by first | exact P0 | exact P1 | exact P2 | exact P3 | exact P4 | exact P5 | exact P6) .nil)) ?_
 refine TA.one (i := 5) (ls := #[true, true, true, true, true, true, false, false, true]) (by kernel_rfl) rfl (by kernel_rfl) (fun w1 => ?_)
 refine TL.call (g := 9) rfl go_9 rfl (fun w1 k1 => mark_c 12 3 w1) rfl ?_
 refine TL.nil ?_
 refine TA.cont ((.cons (by first | exact P0 | exact P1 | exact P2 | exact P3 | exact P4 | exact P5 | exact P6) .nil)) ?_
 refine TA.one (i := 6) (ls := #[true, true, true, true, true, true, true, false, true]) (by kernel_rfl) rfl (by kernel_rfl) (fun w1 => ?_)
 refine TL.slit (qs := #[(0, _), (1, _), (2, _), (3, _), (4, _), (5, _)]) (fun _ f => by simp only [List.map_toArray, List.map_cons, List.map_nil]; rw [f.ev (x := .tmp 10) rfl]; (try rw [f.ev (x := .tmp 11) rfl]); (try rw [f.ev (x := .tmp 12) rfl]); (try rw [f.ev (x := .tmp 13) rfl]); (try rw [f.ev (x := .tmp 14) rfl]); (try rw [f.ev (x := .tmp 15) rfl])) (sl_24_6_0_1_2_3_4_5 ⟨3, 1, 0⟩ ⟨3, 2, 0⟩ ⟨4, 3, 0⟩ ⟨9, 4, 1⟩ ⟨9, 1, 0⟩ ⟨12, 3, 0⟩) rfl ?_
 intro b16
 refine TL.nil ?_
 refine TA.cont ((.cons (by first | exact P0 | exact P1 | exact P2 | exact P3 | exact P4 | exact P5 | exact P6) .nil)) ?_
 refine TA.takeP (i := 7) (ls := #[true, true, true, true, true, true, true, true, true]) rfl rfl rfl rfl rfl (by kernel_rfl) (by kernel_rfl) (by kernel_rfl) (by repeat (first | with_reducible exact PanicOk.body | with_reducible apply PanicOk.next | with_reducible apply PanicOk.block)) (OpV.len Try.underlying24 rfl) rfl (by kernel_rfl) ?_
 refine TA.done (by kernel_rfl) ?_
 refine TE.sub (.cons (t := 1) rfl <| .cons (t := 16) rfl <| .cons (t := 17) rfl <| .cons (t := 18) rfl <| .nil) ?_
 refine TE.next ?_
 refine T.block ?_
 refine T.loop (ι := Nat × Option Addr × Nat) (fun ⟨i, A2, c2⟩ => i ≤ 6 ∧ (A2 = none → c2 = 0)) (fun ⟨i, A2, c2⟩ => (6 - i)) (fun ⟨i, A2, c2⟩ => [(1, .pointer (some ⟨b8, 0, none⟩)), (16, .slice (some ⟨b16, 0, none⟩) 6 6), (17, .int .i64 (6 : Int)), (18, .int .i64 (i : Int))]) (fun ⟨i, A2, c2⟩ => [.blk b8 [.slice A2 (knM.take i).length c2] 26, .row 31 3 A2 (knM.take i).length c2 (ml (knM.take i)), .blk b16 (ml knM) 31]) (0, none, 0) ⟨Nat.zero_le _, fun _ => rfl⟩ (.cons (t := 1) rfl <| .cons (t := 16) rfl <| .cons (t := 17) rfl <| .cons (t := 18) rfl <| .nil) ((Kle.trans (Perm.kle (.cons (by first | exact P0 | exact P1 | exact P2 | exact P3 | exact P4 | exact P5 | exact P6) (.cons (by first | exact P0 | exact P1 | exact P2 | exact P3 | exact P4 | exact P5 | exact P6) .nil)) : Kle w _ [.blk b8 [.slice none 0 0] 26, .blk b16 (ml knM) 31]) (Kle.trans (Kle.nilRow 31 3) (Perm.kle (.cons (by first | exact P0 | exact P1 | exact P2 | exact P3 | exact P4 | exact P5 | exact P6) (.cons (by first | exact P0 | exact P1 | exact P2 | exact P3 | exact P4 | exact P5 | exact P6) (.cons (by first | exact P0 | exact P1 | exact P2 | exact P3 | exact P4 | exact P5 | exact P6) .nil))))))) ?_
 rintro ⟨i, A2, c2⟩ ⟨hR, hA2⟩
 refine T.seq ?_
 refine T.region ?_
 refine TL.val (OpV.lss rfl rfl) rfl ?_
 refine TL.nil ?_
 refine TE.next ?_
 refine T.seq ?_
 refine T.cond rfl ?_ ?_
 ·
  intro ht19
  try simp only [decide_eq_true_eq, decide_eq_false_iff_not, beq_iff_eq, beq_eq_false_iff_ne, bne_iff_ne, bne_eq_false_iff_eq, Bool.not_eq_true', Bool.not_eq_false', ne_eq] at ht19
  obtain ⟨x, hx⟩ := get_of_lt (xs := knM) (n := 6) rfl (show i < 6 by omega)
  obtain ⟨hpe, hpx⟩ := kn_put hx
  refine T.skip ?_
  refine TE.next ?_
  refine T.seq ?_
  refine T.block ?_
  refine T.seq ?_
  refine T.region ?_
  refine TL.val (OpV.indexAddr (j := i) se_24 rfl rfl rfl rfl (by omega)) rfl ?_
  refine TL.val (OpV.loadA ag_31 rfl (Cels.blkAt x.l (by first | exact P0 | exact P1 | exact P2 | exact P3 | exact P4 | exact P5 | exact P6) (ml_at hx) rfl)) rfl ?_
  refine TL.alloc zo_31 rfl ?_
  intro b4
  first
    | refine TL.storeAll rfl rfl szz_31 rfl rfl rfl (by first | exact P0 | exact P1 | exact P2 | exact P3 | exact P4 | exact P5 | exact P6 | exact P7 | exact P8) (by rfl) ?_
    | refine TL.store rfl rfl szz_31 rfl rfl rfl (by first | exact P0 | exact P1 | exact P2 | exact P3 | exact P4 | exact P5 | exact P6 | exact P7 | exact P8) (by first | exact Nat.le_of_ble_eq_true rfl | (simp; done) | (simp; omega)) (by simp only [Mk.l, Cm.l, putL, List.take_succ_cons, List.take_zero, List.drop_succ_cons, List.drop_zero, List.cons_append, List.nil_append, List.length_cons, List.length_nil, Nat.reduceAdd]; rfl) ?_
  refine TL.nil ?_
  refine TE.next ?_
  refine T.seq ?_
  refine T.region ?_
  refine TL.val (OpV.move rfl) rfl ?_
  refine TL.val (OpV.loadA ag_31 rfl (Cels.blkAt x.l (by first | exact P0 | exact P1 | exact P2 | exact P3 | exact P4 | exact P5 | exact P6) rfl rfl)) rfl ?_
  refine TL.callx (g := 8) rfl go_8 rfl (fun wz kz => put_c (xs := knM.take i) x hA2 (Nat.le_trans (List.length_take_le _ _) (by omega)) ((Perm.kle (.cons (by first | exact P0 | exact P1 | exact P2 | exact P3 | exact P4 | exact P5 | exact P6 | exact P7 | exact P8) (.cons (by first | exact P0 | exact P1 | exact P2 | exact P3 | exact P4 | exact P5 | exact P6 | exact P7 | exact P8) .all))) wz kz)) rfl ?_
  rintro ⟨A3, c3⟩ hA3
  rw [hpx, hpe]
  refine TL.val (OpV.neq rfl rfl) rfl ?_
  refine TL.said (t := 25) rfl (show _ = Value.bool false from congrArg Value.bool (by decide)) ?_
  refine TL.nil ?_
  refine TE.sub (.cons (t := 1) rfl <| .cons (t := 16) rfl <| .cons (t := 17) rfl <| .cons (t := 18) rfl <| .cons (t := 25) rfl <| .nil) ?_
  refine TE.next ?_
  refine T.no rfl ?_
  refine T.skip ?_
  refine TE.out ?_
  refine TE.next ?_
  refine T.region ?_
  refine TL.val (OpV.add rfl rfl (by first | exact IntWalk.i64_in _ ⟨by omega, by omega⟩ | rfl)) rfl ?_
  refine TL.val (OpV.move rfl) rfl ?_
  refine TL.nil ?_
  exact TE.meet (i + 1, A3, c3) ⟨⟨by omega, hA3⟩, by simp only; omega⟩ (.cons (t := 1) (by first | rfl | (simp [lk]; done)) <| .cons (t := 16) (by first | rfl | (simp [lk]; done)) <| .cons (t := 17) (by first | rfl | (simp [lk]; done)) <| .cons (t := 18) (by first | rfl | (simp [lk]; done)) <| .nil) (Perm.kle (.cons (by first | exact P0 | exact P1 | exact P2 | exact P3 | exact P4 | exact P5 | exact P6) (.cons (by first | exact P0 | exact P1 | exact P2 | exact P3 | exact P4 | exact P5 | exact P6) (.cons (by first | exact P0 | exact P1 | exact P2 | exact P3 | exact P4 | exact P5 | exact P6) .nil))))
 ·
  intro ht19
  try simp only [decide_eq_true_eq, decide_eq_false_iff_not, beq_iff_eq, beq_eq_false_iff_ne, bne_iff_ne, bne_eq_false_iff_eq, Bool.not_eq_true', Bool.not_eq_false', ne_eq] at ht19
  have hX : knM.take i = knM := List.take_of_length_le (show 6 ≤ i by omega)
  have hK : Kle w [.blk b8 [.slice A2 (knM.take i).length c2] 26, .row 31 3 A2 (knM.take i).length c2 (ml (knM.take i)), .blk b16 (ml knM) 31] [.blk b8 [.slice A2 knM.length c2] 26, .row 31 3 A2 knM.length c2 (ml knM), .blk b16 (ml knM) 31] := by rw [hX]; exact Kle.refl
  refine T.kle hK ?_
  refine T.exit ?_
  refine TE.pass_exit ?_
  refine TE.pass_exit ?_
  refine TE.here ?_
  refine TE.next ?_
  refine T.seq ?_
  refine T.region ?_
  refine TL.val (OpV.build (qs := #[(0, .int .i64 3), (4, .bool true), (1, .int .i64 3), (5, .bool true), (2, .int .i64 4), (6, .bool true), (3, .int .i64 9), (7, .bool true), (8, .int .i64 1)]) (fun _ _ => by simp only [List.map_toArray, List.map_cons, List.map_nil]; rfl) bld_kn1) rfl ?_
  refine TL.alloc zo_41 rfl ?_
  intro b5
  first
    | refine TL.storeAll rfl rfl szz_41 rfl rfl rfl (by first | exact P0 | exact P1 | exact P2 | exact P3 | exact P4 | exact P5 | exact P6 | exact P7 | exact P8) (by rfl) ?_
    | refine TL.store rfl rfl szz_41 rfl rfl rfl (by first | exact P0 | exact P1 | exact P2 | exact P3 | exact P4 | exact P5 | exact P6 | exact P7 | exact P8) (by first | exact Nat.le_of_ble_eq_true rfl | (simp; done) | (simp; omega)) (by simp only [Mk.l, Cm.l, putL, List.take_succ_cons, List.take_zero, List.drop_succ_cons, List.drop_zero, List.cons_append, List.nil_append, List.length_cons, List.length_nil, Nat.reduceAdd]; rfl) ?_
  refine TL.nil ?_
  refine TE.next ?_
  refine T.seq ?_
  refine T.region ?_
  refine TL.val (OpV.build (qs := #[(0, .int .i64 9), (4, .bool true), (2, .int .i64 12), (6, .bool true)]) (fun _ _ => by simp only [List.map_toArray, List.map_cons, List.map_nil]; rfl) bld_kn2) rfl ?_
  refine TL.alloc zo_41 rfl ?_
  intro b6
  first
    | refine TL.storeAll rfl rfl szz_41 rfl rfl rfl (by first | exact P0 | exact P1 | exact P2 | exact P3 | exact P4 | exact P5 | exact P6 | exact P7 | exact P8) (by rfl) ?_
    | refine TL.store rfl rfl szz_41 rfl rfl rfl (by first | exact P0 | exact P1 | exact P2 | exact P3 | exact P4 | exact P5 | exact P6 | exact P7 | exact P8) (by first | exact Nat.le_of_ble_eq_true rfl | (simp; done) | (simp; omega)) (by simp only [Mk.l, Cm.l, putL, List.take_succ_cons, List.take_zero, List.drop_succ_cons, List.drop_zero, List.cons_append, List.nil_append, List.length_cons, List.length_nil, Nat.reduceAdd]; rfl) ?_
  refine TL.nil ?_
  refine TE.next ?_
  refine T.seq ?_
  refine T.seq ?_
  refine T.any ([.blk b6 knTwo.l 41, .blk b5 knOne.l 41]) [] mix rfl rfl ?_
  refine TA.lem (ι := Unit) (fun _ => [(1, .pointer (some ⟨b8, 0, none⟩)), (5, .pointer (some ⟨b5, 0, none⟩)), (6, .pointer (some ⟨b6, 0, none⟩)), (57, .bool false)]) (fun _ => [.blk b6 knTwo.l 41, .blk b5 knOne.l 41, .blk b8 [.slice A2 knM.length c2] 26, .row 31 3 A2 knM.length c2 (ml knM)]) 6 #[true, true, true, true, true, true, true, true, true, true, true, true, true, true, true, true, true, true, true, true, true, true, true, true, true, true, true, true, true, false, false, false, false, false, false] ?_ ?_
  ·
   rintro _
   refine TA.takeP (i := 29) (ls := #[true, true, true, true, true, true, true, true, true, true, true, true, true, true, true, true, true, true, true, true, true, true, true, true, true, true, true, true, true, true, false, false, false, false, false]) rfl rfl rfl rfl rfl (by kernel_rfl) (by kernel_rfl) (by kernel_rfl) (by repeat (first | with_reducible exact PanicOk.body | with_reducible apply PanicOk.next | with_reducible apply PanicOk.block)) (OpV.move rfl) rfl (by kernel_rfl) ?_
   refine TA.takeP (i := 31) (ls := #[true, true, true, true, true, true, true, true, true, true, true, true, true, true, true, true, true, true, true, true, true, true, true, true, true, true, true, true, true, true, false, true, false, false, false]) rfl rfl rfl rfl rfl (by kernel_rfl) (by kernel_rfl) (by kernel_rfl) (by repeat (first | with_reducible exact PanicOk.body | with_reducible apply PanicOk.next | with_reducible apply PanicOk.block)) (OpV.build (qs := #[]) (fun _ _ => by simp) (bld_31)) rfl (by kernel_rfl) ?_
   refine TA.one (i := 30) (ls := #[true, true, true, true, true, true, true, true, true, true, true, true, true, true, true, true, true, true, true, true, true, true, true, true, true, true, true, true, true, true, true, true, false, false, false]) (by kernel_rfl) rfl (by kernel_rfl) (fun w1 => ?_)
   refine TL.open rfl rfl ?_
   refine TL.slit (qs := #[(0, _)]) (fun _ f => by simp only [List.map_toArray, List.map_cons, List.map_nil]; rw [f.ev (x := .const (.int .i64 3)) rfl]) (sl_38_1_0 3) rfl ?_
   intro b59
   refine TL.nil ?_
   refine TA.cont ((.cons (by first | exact P0 | exact P1 | exact P2 | exact P3 | exact P4 | exact P5 | exact P6 | exact P7 | exact P8) (.cons (by first | exact P0 | exact P1 | exact P2 | exact P3 | exact P4 | exact P5 | exact P6 | exact P7 | exact P8) .nil))) ?_
   refine TA.one (i := 32) (ls := #[true, true, true, true, true, true, true, true, true, true, true, true, true, true, true, true, true, true, true, true, true, true, true, true, true, true, true, true, true, true, true, true, true, false, false]) (by kernel_rfl) rfl (by kernel_rfl) (fun w1 => ?_)
   refine TL.open rfl rfl ?_
   refine TL.call (g := 14) rfl go_14 rfl (fun w1 k1 => nexts_c (ks := [3]) 12 Mk.zero 9 w1 (KOk.mo (b := b8) (c := c2) (T := 26) (e := 31) (A := A2) (xs := knM) k1 (by first | exact P0 | exact P1 | exact P2 | exact P3 | exact P4 | exact P5 | exact P6 | exact P7 | exact P8) (by first | exact P0 | exact P1 | exact P2 | exact P3 | exact P4 | exact P5 | exact P6 | exact P7 | exact P8)) (SlR.of_blk (b := b59) (T := 29) (q := (0, 0)) (xs := [3]) iL_length (k1.get (e := .blk b59 (il [3]) 29) (by first | exact P0 | exact P1 | exact P2 | exact P3 | exact P4 | exact P5 | exact P6 | exact P7 | exact P8)).2 rfl) (fun _ _ h => h) (fun _ _ h => h)) rfl ?_
   refine TL.nil ?_
   refine TA.cont ((.cons (by first | exact P0 | exact P1 | exact P2 | exact P3 | exact P4 | exact P5 | exact P6 | exact P7 | exact P8) (.cons (by first | exact P0 | exact P1 | exact P2 | exact P3 | exact P4 | exact P5 | exact P6 | exact P7 | exact P8) .nil))) ?_
   refine TA.takeP (i := 33) (ls := #[true, true, true, true, true, true, true, true, true, true, true, true, true, true, true, true, true, true, true, true, true, true, true, true, true, true, true, true, true, true, true, true, true, true, false]) rfl rfl rfl rfl rfl (by kernel_rfl) (by kernel_rfl) (by kernel_rfl) (by repeat (first | with_reducible exact PanicOk.body | with_reducible apply PanicOk.next | with_reducible apply PanicOk.block)) (OpV.not rfl) rfl (by kernel_rfl) ?_
   refine TA.said (t := 62) rfl (show _ = Value.bool false from congrArg Value.bool (by decide)) ?_
   refine TA.takeP (i := 34) (ls := #[true, true, true, true, true, true, true, true, true, true, true, true, true, true, true, true, true, true, true, true, true, true, true, true, true, true, true, true, true, true, true, true, true, true, true]) rfl rfl rfl rfl rfl (by kernel_rfl) (by kernel_rfl) (by kernel_rfl) (by repeat (first | with_reducible exact PanicOk.body | with_reducible apply PanicOk.next | with_reducible apply PanicOk.block)) ((by first | exact OpV.pick_t rfl rfl | exact OpV.pick_f rfl rfl)) rfl (by kernel_rfl) ?_
   refine TA.done (by kernel_rfl) ?_
   refine TE.next ?_
   refine T.no rfl ?_
   refine T.skip ?_
   refine TE.sub (.cons (t := 1) rfl <| .cons (t := 5) rfl <| .cons (t := 6) rfl <| .nil) ?_
   refine TE.next ?_
   refine T.seq ?_
   refine T.seq ?_
   refine T.region ?_
   refine TL.val (OpV.move rfl) rfl ?_
   refine TL.val (OpV.loadA ag_41 rfl (Cels.blkAt knOne.l (by first | exact P0 | exact P1 | exact P2 | exact P3 | exact P4 | exact P5 | exact P6) rfl rfl)) rfl ?_
   refine TL.call (g := 22) rfl go_22 rfl (fun w1 k1 => ats_c 8 knOne 0 w1 (KOk.mo (b := b8) (c := c2) (T := 26) (e := 31) (A := A2) (xs := knM) k1 (by first | exact P0 | exact P1 | exact P2 | exact P3 | exact P4 | exact P5 | exact P6 | exact P7 | exact P8) (by first | exact P0 | exact P1 | exact P2 | exact P3 | exact P4 | exact P5 | exact P6 | exact P7 | exact P8)) (by decide) (fun _ _ h => h)) rfl ?_
   refine TL.val (OpV.not rfl) rfl ?_
   refine TL.said (t := 67) rfl (show _ = Value.bool false from congrArg Value.bool (by decide)) ?_
   refine TL.val (OpV.move rfl) rfl ?_
   refine TL.open rfl rfl ?_
   refine TL.val (OpV.move rfl) rfl ?_
   refine TL.open rfl rfl ?_
   refine TL.val (OpV.loadA ag_41 rfl (Cels.blkAt knTwo.l (by first | exact P0 | exact P1 | exact P2 | exact P3 | exact P4 | exact P5 | exact P6) rfl rfl)) rfl ?_
   refine TL.open rfl rfl ?_
   refine TL.call (g := 22) rfl go_22 rfl (fun w1 k1 => ats_c 9 knTwo 0 w1 (KOk.mo (b := b8) (c := c2) (T := 26) (e := 31) (A := A2) (xs := knM) k1 (by first | exact P0 | exact P1 | exact P2 | exact P3 | exact P4 | exact P5 | exact P6 | exact P7 | exact P8) (by first | exact P0 | exact P1 | exact P2 | exact P3 | exact P4 | exact P5 | exact P6 | exact P7 | exact P8)) (by decide) (fun _ _ h => h)) rfl ?_
   refine TL.open rfl rfl ?_
   refine TL.val (OpV.not rfl) rfl ?_
   refine TL.said (t := 72) rfl (show _ = Value.bool false from congrArg Value.bool (by decide)) ?_
   refine TL.val ((by first | exact OpV.pick_t rfl rfl | exact OpV.pick_f rfl rfl)) rfl ?_
   refine TL.val (OpV.move rfl) rfl ?_
   refine TL.open rfl rfl ?_
   refine TL.val (OpV.move rfl) rfl ?_
   refine TL.open rfl rfl ?_
   refine TL.val (OpV.build (qs := #[]) (fun _ _ => by simp) (bld_41)) rfl ?_
   refine TL.open rfl rfl ?_
   refine TL.call (g := 22) rfl go_22 rfl (fun w1 k1 => ats_c 2 Cm.zero 9 w1 (KOk.mo (b := b8) (c := c2) (T := 26) (e := 31) (A := A2) (xs := knM) k1 (by first | exact P0 | exact P1 | exact P2 | exact P3 | exact P4 | exact P5 | exact P6 | exact P7 | exact P8) (by first | exact P0 | exact P1 | exact P2 | exact P3 | exact P4 | exact P5 | exact P6 | exact P7 | exact P8)) (by decide) (fun _ _ h => h)) rfl ?_
   refine TL.open rfl rfl ?_
   refine TL.val (OpV.not rfl) rfl ?_
   refine TL.said (t := 78) rfl (show _ = Value.bool false from congrArg Value.bool (by decide)) ?_
   refine TL.val ((by first | exact OpV.pick_t rfl rfl | exact OpV.pick_f rfl rfl)) rfl ?_
   refine TL.val (OpV.move rfl) rfl ?_
   refine TL.open rfl rfl ?_
   refine TL.val (OpV.move rfl) rfl ?_
   refine TL.open rfl rfl ?_
   refine TL.call (g := 9) rfl go_9 rfl (fun w1 k1 => mark_c 11 4 w1) rfl ?_
   refine TL.open rfl rfl ?_
   refine TL.callx (g := 8) rfl go_8 rfl (fun wz kz => put_c (xs := knM) ⟨11, 4, 0⟩ hA2 (by decide) ((Perm.kle (.cons (by first | exact P0 | exact P1 | exact P2 | exact P3 | exact P4 | exact P5 | exact P6 | exact P7 | exact P8) (.cons (by first | exact P0 | exact P1 | exact P2 | exact P3 | exact P4 | exact P5 | exact P6 | exact P7 | exact P8) .all))) wz kz)) rfl ?_
   rintro ⟨A2b, c2b⟩ hA2b
   rw [show putX knM ⟨11, 4, 0⟩ = knM by decide]
   refine TL.open rfl rfl ?_
   refine TL.val (OpV.neq rfl rfl) rfl ?_
   refine TL.said (t := 84) rfl (show _ = Value.bool false from congrArg Value.bool (by decide)) ?_
   refine TL.val ((by first | exact OpV.pick_t rfl rfl | exact OpV.pick_f rfl rfl)) rfl ?_
   refine TL.val (OpV.move rfl) rfl ?_
   refine TL.open rfl rfl ?_
   refine TL.val (OpV.move rfl) rfl ?_
   refine TL.open rfl rfl ?_
   refine TL.val (OpV.build (qs := #[(0, .int .i64 12), (1, .int .i64 1), (2, .int .i64 1)]) (fun _ _ => by simp only [List.map_toArray, List.map_cons, List.map_nil]; rfl) bld_knP) rfl ?_
   refine TL.open rfl rfl ?_
   refine TL.callx (g := 8) rfl go_8 rfl (fun wz kz => put_c (xs := knM) ⟨12, 1, 1⟩ hA2b (by decide) ((Perm.kle (.cons (by first | exact P0 | exact P1 | exact P2 | exact P3 | exact P4 | exact P5 | exact P6 | exact P7 | exact P8) (.cons (by first | exact P0 | exact P1 | exact P2 | exact P3 | exact P4 | exact P5 | exact P6 | exact P7 | exact P8) .all))) wz kz)) rfl ?_
   rintro ⟨A2c, c2c⟩ hA2c
   rw [show putX knM ⟨12, 1, 1⟩ = knM by decide]
   refine TL.open rfl rfl ?_
   refine TL.val (OpV.neq rfl rfl) rfl ?_
   refine TL.said (t := 90) rfl (show _ = Value.bool false from congrArg Value.bool (by decide)) ?_
   refine TL.val ((by first | exact OpV.pick_t rfl rfl | exact OpV.pick_f rfl rfl)) rfl ?_
   refine TL.nil ?_
   refine TE.sub (.cons (t := 1) rfl <| .cons (t := 6) rfl <| .cons (t := 91) rfl <| .nil) ?_
   refine TE.next ?_
   refine T.no rfl ?_
   refine T.skip ?_
   refine TE.next ?_
   refine T.seq ?_
   refine T.any ([.blk b6 knTwo.l 41]) [] mix rfl rfl ?_
   refine TA.takeP (i := 0) (ls := #[true, false, false, false, false, false, false, false, false, false, false, false, false, false, false, false]) rfl rfl rfl rfl rfl (by kernel_rfl) (by kernel_rfl) (by kernel_rfl) (by repeat (first | with_reducible exact PanicOk.body | with_reducible apply PanicOk.next | with_reducible apply PanicOk.block)) (OpV.move rfl) rfl (by kernel_rfl) ?_
   refine TA.one (i := 1) (ls := #[true, true, false, false, false, false, false, false, false, false, false, false, false, false, false, false]) (by kernel_rfl) rfl (by kernel_rfl) (fun w1 => ?_)
   refine TL.callx (g := 12) rfl go_12 rfl (fun wz kz => evicts_c (xs := knM) 9 3 0 hA2c (by decide) ((Perm.kle (.cons (by first | exact P0 | exact P1 | exact P2 | exact P3 | exact P4 | exact P5 | exact P6 | exact P7 | exact P8) (.cons (by first | exact P0 | exact P1 | exact P2 | exact P3 | exact P4 | exact P5 | exact P6 | exact P7 | exact P8) .all))) wz kz)) rfl ?_
   rintro ⟨A5, c5⟩ hA5
   rw [show evX 9 knM = knM3 by decide]
   refine TL.said (t := 93) rfl (show _ = Value.bool true from congrArg Value.bool (by decide)) ?_
   refine TL.nil ?_
   refine TA.cont ((.cons (by first | exact P0 | exact P1 | exact P2 | exact P3 | exact P4 | exact P5 | exact P6 | exact P7 | exact P8) .nil)) ?_
   refine TA.takeP (i := 2) (ls := #[true, true, true, false, false, false, false, false, false, false, false, false, false, false, false, false]) rfl rfl rfl rfl rfl (by kernel_rfl) (by kernel_rfl) (by kernel_rfl) (by repeat (first | with_reducible exact PanicOk.body | with_reducible apply PanicOk.next | with_reducible apply PanicOk.block)) (OpV.move rfl) rfl (by kernel_rfl) ?_
   refine TA.takeP (i := 3) (ls := #[true, true, true, true, false, false, false, false, false, false, false, false, false, false, false, false]) rfl rfl rfl rfl rfl (by kernel_rfl) (by kernel_rfl) (by kernel_rfl) (by repeat (first | with_reducible exact PanicOk.body | with_reducible apply PanicOk.next | with_reducible apply PanicOk.block)) (OpV.move rfl) rfl (by kernel_rfl) ?_
   refine TA.takeP (i := 5) (ls := #[true, true, true, true, false, true, false, false, false, false, false, false, false, false, false, false]) rfl rfl rfl rfl rfl (by kernel_rfl) (by kernel_rfl) (by kernel_rfl) (by repeat (first | with_reducible exact PanicOk.body | with_reducible apply PanicOk.next | with_reducible apply PanicOk.block)) (OpV.build (qs := #[(3, .int .i64 9), (7, .bool true), (8, .int .i64 1)]) (fun _ _ => by simp only [List.map_toArray, List.map_cons, List.map_nil]; rfl) bld_kn3) rfl (by kernel_rfl) ?_
   refine TA.take (i := 6) (ls := #[true, true, true, true, false, true, true, false, false, false, false, false, false, false, false, false]) rfl rfl rfl rfl rfl (by kernel_rfl) (by kernel_rfl) (by kernel_rfl) (by kernel_rfl) (by repeat (first | with_reducible exact PanicOk.body | with_reducible apply PanicOk.next | with_reducible apply PanicOk.block)) ((.cons (by first | exact P0 | exact P1 | exact P2 | exact P3 | exact P4 | exact P5 | exact P6 | exact P7 | exact P8) .nil)) (OpV.loadA ag_41 rfl (Cels.blkAt knTwo.l (by first | exact P0 | exact P1 | exact P2 | exact P3 | exact P4 | exact P5 | exact P6) rfl rfl)) rfl (by kernel_rfl) ?_
   refine TA.two (i := 4) (i' := 7) (ls := #[true, true, true, true, true, true, true, false, false, false, false, false, false, false, false, false]) (ls' := #[true, true, true, true, false, true, true, true, false, false, false, false, false, false, false, false]) (by kernel_rfl) rfl rfl (by kernel_rfl) (by kernel_rfl) (fun w1 => ?_) (fun w1 => ?_)
   ·
    refine TL.open rfl rfl ?_
    refine TL.callx (g := 11) rfl go_11 rfl (fun wz k1 => add_x k1 (commands_c wz (KOk.mo (b := b8) (c := c5) (T := 26) (e := 31) (A := A5) (xs := knM3) k1 (by first | exact P0 | exact P1 | exact P2 | exact P3 | exact P4 | exact P5 | exact P6 | exact P7 | exact P8) (by first | exact P0 | exact P1 | exact P2 | exact P3 | exact P4 | exact P5 | exact P6 | exact P7 | exact P8)) (fun _ _ h => h) (by decide))) rfl ?_
    rintro ⟨A6, c6⟩ hA6
    refine TL.nil ?_
    refine TA.cont ((.cons (by first | exact P0 | exact P1 | exact P2 | exact P3 | exact P4 | exact P5 | exact P6 | exact P7 | exact P8) .nil)) ?_
    refine TA.one (i := 7) (ls := #[true, true, true, true, true, true, true, true, false, false, false, false, false, false, false, false]) (by kernel_rfl) rfl (by kernel_rfl) (fun w1 => ?_)
    refine TL.open rfl rfl ?_
    refine TL.slit (qs := #[(0, _), (1, _)]) (fun _ f => by simp only [List.map_toArray, List.map_cons, List.map_nil]; rw [f.ev (x := .tmp 97) rfl]; (try rw [f.ev (x := .tmp 98) rfl])) (sl_34_2_0_1 knEnd knTwo) rfl ?_
    intro b99
    refine TL.nil ?_
    refine TA.cont ((.cons (by first | exact P0 | exact P1 | exact P2 | exact P3 | exact P4 | exact P5 | exact P6 | exact P7 | exact P8) .nil)) ?_
    refine TA.one (i := 8) (ls := #[true, true, true, true, true, true, true, true, true, false, false, false, false, false, false, false]) (by kernel_rfl) rfl (by kernel_rfl) (fun w1 => ?_)
    refine TL.open rfl rfl ?_
    refine TL.call (g := 23) rfl go_23 rfl (fun w1 k1 => eqs_c w1 (KOk.row_sl (e := 41) (A := A6) (m := (cmdsV knM3).length) (c := c6) (f := Cm.l) (xs := cmdsV knM3) Cm.l_length k1 (by first | exact P0 | exact P1 | exact P2 | exact P3 | exact P4 | exact P5 | exact P6 | exact P7 | exact P8) rfl) (SlR.of_blk (b := b99) (T := 41) (q := (0, 0)) (xs := [knEnd, knTwo]) Cm.l_length (k1.get (e := .blk b99 (cl [knEnd, knTwo]) 41) (by first | exact P0 | exact P1 | exact P2 | exact P3 | exact P4 | exact P5 | exact P6 | exact P7 | exact P8)).2 rfl) (fun _ _ h => h)) rfl ?_
    refine TL.said (t := 100) rfl (show _ = Value.bool true from congrArg Value.bool (by rw [kn_cmds3]; decide)) ?_
    refine TL.nil ?_
    refine TA.cont ((.cons (by first | exact P0 | exact P1 | exact P2 | exact P3 | exact P4 | exact P5 | exact P6 | exact P7 | exact P8) .nil)) ?_
    refine TA.takeP (i := 9) (ls := #[true, true, true, true, true, true, true, true, true, true, false, false, false, false, false, false]) rfl rfl rfl rfl rfl (by kernel_rfl) (by kernel_rfl) (by kernel_rfl) (by repeat (first | with_reducible exact PanicOk.body | with_reducible apply PanicOk.next | with_reducible apply PanicOk.block)) ((by first | exact OpV.pick_t rfl rfl | exact OpV.pick_f rfl rfl)) rfl (by kernel_rfl) ?_
    refine TA.takeP (i := 10) (ls := #[true, true, true, true, true, true, true, true, true, true, true, false, false, false, false, false]) rfl rfl rfl rfl rfl (by kernel_rfl) (by kernel_rfl) (by kernel_rfl) (by repeat (first | with_reducible exact PanicOk.body | with_reducible apply PanicOk.next | with_reducible apply PanicOk.block)) (OpV.move rfl) rfl (by kernel_rfl) ?_
    refine TA.takeP (i := 11) (ls := #[true, true, true, true, true, true, true, true, true, true, true, true, false, false, false, false]) rfl rfl rfl rfl rfl (by kernel_rfl) (by kernel_rfl) (by kernel_rfl) (by repeat (first | with_reducible exact PanicOk.body | with_reducible apply PanicOk.next | with_reducible apply PanicOk.block)) (OpV.move rfl) rfl (by kernel_rfl) ?_
    refine TA.one (i := 12) (ls := #[true, true, true, true, true, true, true, true, true, true, true, true, true, false, false, false]) (by kernel_rfl) rfl (by kernel_rfl) (fun w1 => ?_)
    refine TL.open rfl rfl ?_
    refine TL.call (g := 10) rfl go_10 rfl (fun w1 k1 => len_c w1 (KOk.mo (b := b8) (c := c5) (T := 26) (e := 31) (A := A5) (xs := knM3) k1 (by first | exact P0 | exact P1 | exact P2 | exact P3 | exact P4 | exact P5 | exact P6 | exact P7 | exact P8) (by first | exact P0 | exact P1 | exact P2 | exact P3 | exact P4 | exact P5 | exact P6 | exact P7 | exact P8)) (fun _ _ h => h)) rfl ?_
    refine TL.nil ?_
    refine TA.cont ((.cons (by first | exact P0 | exact P1 | exact P2 | exact P3 | exact P4 | exact P5 | exact P6 | exact P7 | exact P8) .nil)) ?_
    refine TA.takeP (i := 13) (ls := #[true, true, true, true, true, true, true, true, true, true, true, true, true, true, false, false]) rfl rfl rfl rfl rfl (by kernel_rfl) (by kernel_rfl) (by kernel_rfl) (by repeat (first | with_reducible exact PanicOk.body | with_reducible apply PanicOk.next | with_reducible apply PanicOk.block)) (OpV.eql rfl rfl) rfl (by kernel_rfl) ?_
    refine TA.takeP (i := 14) (ls := #[true, true, true, true, true, true, true, true, true, true, true, true, true, true, true, false]) rfl rfl rfl rfl rfl (by kernel_rfl) (by kernel_rfl) (by kernel_rfl) (by repeat (first | with_reducible exact PanicOk.body | with_reducible apply PanicOk.next | with_reducible apply PanicOk.block)) ((by first | exact OpV.pick_t rfl rfl | exact OpV.pick_f rfl rfl)) rfl (by kernel_rfl) ?_
    refine TA.takeP (i := 15) (ls := #[true, true, true, true, true, true, true, true, true, true, true, true, true, true, true, true]) rfl rfl rfl rfl rfl (by kernel_rfl) (by kernel_rfl) (by kernel_rfl) (by repeat (first | with_reducible exact PanicOk.body | with_reducible apply PanicOk.next | with_reducible apply PanicOk.block)) (OpV.assign rfl) rfl (by kernel_rfl) ?_
    refine TA.done (by kernel_rfl) ?_
    refine TE.sub (.cons (t := 0) rfl <| .nil) ?_
    refine TE.next ?_
    refine T.ret ?_
    refine TE.ret1 rfl (ResV.tmp rfl) ?_
    exact fun w1 k1 => ⟨by first | rfl | decide, k1.bel⟩
   ·
    refine TL.open rfl rfl ?_
    refine TL.slit (qs := #[(0, _), (1, _)]) (fun _ f => by simp only [List.map_toArray, List.map_cons, List.map_nil]; rw [f.ev (x := .tmp 97) rfl]; (try rw [f.ev (x := .tmp 98) rfl])) (sl_34_2_0_1 knEnd knTwo) rfl ?_
    intro b99
    refine TL.nil ?_
    refine TA.cont ((.cons (by first | exact P0 | exact P1 | exact P2 | exact P3 | exact P4 | exact P5 | exact P6 | exact P7 | exact P8) .nil)) ?_
    refine TA.one (i := 4) (ls := #[true, true, true, true, true, true, true, true, false, false, false, false, false, false, false, false]) (by kernel_rfl) rfl (by kernel_rfl) (fun w1 => ?_)
    refine TL.open rfl rfl ?_
    refine TL.callx (g := 11) rfl go_11 rfl (fun wz k1 => add_x k1 (commands_c wz (KOk.mo (b := b8) (c := c5) (T := 26) (e := 31) (A := A5) (xs := knM3) k1 (by first | exact P0 | exact P1 | exact P2 | exact P3 | exact P4 | exact P5 | exact P6 | exact P7 | exact P8) (by first | exact P0 | exact P1 | exact P2 | exact P3 | exact P4 | exact P5 | exact P6 | exact P7 | exact P8)) (fun _ _ h => h) (by decide))) rfl ?_
    rintro ⟨A6, c6⟩ hA6
    refine TL.nil ?_
    refine TA.cont ((.cons (by first | exact P0 | exact P1 | exact P2 | exact P3 | exact P4 | exact P5 | exact P6 | exact P7 | exact P8) .nil)) ?_
    refine TA.one (i := 8) (ls := #[true, true, true, true, true, true, true, true, true, false, false, false, false, false, false, false]) (by kernel_rfl) rfl (by kernel_rfl) (fun w1 => ?_)
    refine TL.open rfl rfl ?_
    refine TL.call (g := 23) rfl go_23 rfl (fun w1 k1 => eqs_c w1 (KOk.row_sl (e := 41) (A := A6) (m := (cmdsV knM3).length) (c := c6) (f := Cm.l) (xs := cmdsV knM3) Cm.l_length k1 (by first | exact P0 | exact P1 | exact P2 | exact P3 | exact P4 | exact P5 | exact P6 | exact P7 | exact P8) rfl) (SlR.of_blk (b := b99) (T := 41) (q := (0, 0)) (xs := [knEnd, knTwo]) Cm.l_length (k1.get (e := .blk b99 (cl [knEnd, knTwo]) 41) (by first | exact P0 | exact P1 | exact P2 | exact P3 | exact P4 | exact P5 | exact P6 | exact P7 | exact P8)).2 rfl) (fun _ _ h => h)) rfl ?_
    refine TL.said (t := 100) rfl (show _ = Value.bool true from congrArg Value.bool (by rw [kn_cmds3]; decide)) ?_
    refine TL.nil ?_
    refine TA.cont ((.cons (by first | exact P0 | exact P1 | exact P2 | exact P3 | exact P4 | exact P5 | exact P6 | exact P7 | exact P8) .nil)) ?_
    refine TA.takeP (i := 9) (ls := #[true, true, true, true, true, true, true, true, true, true, false, false, false, false, false, false]) rfl rfl rfl rfl rfl (by kernel_rfl) (by kernel_rfl) (by kernel_rfl) (by repeat (first | with_reducible exact PanicOk.body | with_reducible apply PanicOk.next | with_reducible apply PanicOk.block)) ((by first | exact OpV.pick_t rfl rfl | exact OpV.pick_f rfl rfl)) rfl (by kernel_rfl) ?_
    refine TA.takeP (i := 10) (ls := #[true, true, true, true, true, true, true, true, true, true, true, false, false, false, false, false]) rfl rfl rfl rfl rfl (by kernel_rfl) (by kernel_rfl) (by kernel_rfl) (by repeat (first | with_reducible exact PanicOk.body | with_reducible apply PanicOk.next | with_reducible apply PanicOk.block)) (OpV.move rfl) rfl (by kernel_rfl) ?_
    refine TA.takeP (i := 11) (ls := #[true, true, true, true, true, true, true, true, true, true, true, true, false, false, false, false]) rfl rfl rfl rfl rfl (by kernel_rfl) (by kernel_rfl) (by kernel_rfl) (by repeat (first | with_reducible exact PanicOk.body | with_reducible apply PanicOk.next | with_reducible apply PanicOk.block)) (OpV.move rfl) rfl (by kernel_rfl) ?_
    refine TA.one (i := 12) (ls := #[true, true, true, true, true, true, true, true, true, true, true, true, true, false, false, false]) (by kernel_rfl) rfl (by kernel_rfl) (fun w1 => ?_)
    refine TL.open rfl rfl ?_
    refine TL.call (g := 10) rfl go_10 rfl (fun w1 k1 => len_c w1 (KOk.mo (b := b8) (c := c5) (T := 26) (e := 31) (A := A5) (xs := knM3) k1 (by first | exact P0 | exact P1 | exact P2 | exact P3 | exact P4 | exact P5 | exact P6 | exact P7 | exact P8) (by first | exact P0 | exact P1 | exact P2 | exact P3 | exact P4 | exact P5 | exact P6 | exact P7 | exact P8)) (fun _ _ h => h)) rfl ?_
    refine TL.nil ?_
    refine TA.cont ((.cons (by first | exact P0 | exact P1 | exact P2 | exact P3 | exact P4 | exact P5 | exact P6 | exact P7 | exact P8) .nil)) ?_
    refine TA.takeP (i := 13) (ls := #[true, true, true, true, true, true, true, true, true, true, true, true, true, true, false, false]) rfl rfl rfl rfl rfl (by kernel_rfl) (by kernel_rfl) (by kernel_rfl) (by repeat (first | with_reducible exact PanicOk.body | with_reducible apply PanicOk.next | with_reducible apply PanicOk.block)) (OpV.eql rfl rfl) rfl (by kernel_rfl) ?_
    refine TA.takeP (i := 14) (ls := #[true, true, true, true, true, true, true, true, true, true, true, true, true, true, true, false]) rfl rfl rfl rfl rfl (by kernel_rfl) (by kernel_rfl) (by kernel_rfl) (by repeat (first | with_reducible exact PanicOk.body | with_reducible apply PanicOk.next | with_reducible apply PanicOk.block)) ((by first | exact OpV.pick_t rfl rfl | exact OpV.pick_f rfl rfl)) rfl (by kernel_rfl) ?_
    refine TA.takeP (i := 15) (ls := #[true, true, true, true, true, true, true, true, true, true, true, true, true, true, true, true]) rfl rfl rfl rfl rfl (by kernel_rfl) (by kernel_rfl) (by kernel_rfl) (by repeat (first | with_reducible exact PanicOk.body | with_reducible apply PanicOk.next | with_reducible apply PanicOk.block)) (OpV.assign rfl) rfl (by kernel_rfl) ?_
    refine TA.done (by kernel_rfl) ?_
    refine TE.sub (.cons (t := 0) rfl <| .nil) ?_
    refine TE.next ?_
    refine T.ret ?_
    refine TE.ret1 rfl (ResV.tmp rfl) ?_
    exact fun w1 k1 => ⟨by first | rfl | decide, k1.bel⟩
  intro tail3
  refine TA.lem (ι := Unit) (fun _ => [(1, .pointer (some ⟨b8, 0, none⟩)), (5, .pointer (some ⟨b5, 0, none⟩)), (6, .pointer (some ⟨b6, 0, none⟩)), (50, .bool false)]) (fun _ => [.blk b6 knTwo.l 41, .blk b5 knOne.l 41, .blk b8 [.slice A2 knM.length c2] 26, .row 31 3 A2 knM.length c2 (ml knM)]) 13 #[true, true, true, true, true, true, true, true, true, true, true, true, true, true, true, true, true, true, true, true, true, true, false, false, false, false, false, false, false, false, false, false, false, false, false] ?_ ?_
  ·
   rintro _
   refine TA.takeP (i := 22) (ls := #[true, true, true, true, true, true, true, true, true, true, true, true, true, true, true, true, true, true, true, true, true, true, true, false, false, false, false, false, false, false, false, false, false, false, false]) rfl rfl rfl rfl rfl (by kernel_rfl) (by kernel_rfl) (by kernel_rfl) (by repeat (first | with_reducible exact PanicOk.body | with_reducible apply PanicOk.next | with_reducible apply PanicOk.block)) (OpV.move rfl) rfl (by kernel_rfl) ?_
   refine TA.two (i := 23) (i' := 24) (ls := #[true, true, true, true, true, true, true, true, true, true, true, true, true, true, true, true, true, true, true, true, true, true, true, true, false, false, false, false, false, false, false, false, false, false, false]) (ls' := #[true, true, true, true, true, true, true, true, true, true, true, true, true, true, true, true, true, true, true, true, true, true, true, false, true, false, false, false, false, false, false, false, false, false, false]) (by kernel_rfl) rfl rfl (by kernel_rfl) (by kernel_rfl) (fun w1 => ?_) (fun w1 => ?_)
   ·
    refine TL.open rfl rfl ?_
    refine TL.slit (qs := #[(0, _), (1, _)]) (fun _ f => by simp only [List.map_toArray, List.map_cons, List.map_nil]; rw [f.ev (x := .const (.int .i64 1)) rfl]; (try rw [f.ev (x := .const (.int .i64 3)) rfl])) (sl_38_2_0_1 1 3) rfl ?_
    intro b52
    refine TL.nil ?_
    refine TA.cont ((.cons (by first | exact P0 | exact P1 | exact P2 | exact P3 | exact P4 | exact P5 | exact P6 | exact P7 | exact P8) (.cons (by first | exact P0 | exact P1 | exact P2 | exact P3 | exact P4 | exact P5 | exact P6 | exact P7 | exact P8) .nil))) ?_
    refine TA.one (i := 24) (ls := #[true, true, true, true, true, true, true, true, true, true, true, true, true, true, true, true, true, true, true, true, true, true, true, true, true, false, false, false, false, false, false, false, false, false, false]) (by kernel_rfl) rfl (by kernel_rfl) (fun w1 => ?_)
    refine TL.open rfl rfl ?_
    refine TL.call (g := 9) rfl go_9 rfl (fun w1 k1 => mark_c 4 3 w1) rfl ?_
    refine TL.nil ?_
    refine TA.cont ((.cons (by first | exact P0 | exact P1 | exact P2 | exact P3 | exact P4 | exact P5 | exact P6 | exact P7 | exact P8) (.cons (by first | exact P0 | exact P1 | exact P2 | exact P3 | exact P4 | exact P5 | exact P6 | exact P7 | exact P8) .nil))) ?_
    refine TA.one (i := 25) (ls := #[true, true, true, true, true, true, true, true, true, true, true, true, true, true, true, true, true, true, true, true, true, true, true, true, true, true, false, false, false, false, false, false, false, false, false]) (by kernel_rfl) rfl (by kernel_rfl) (fun w1 => ?_)
    refine TL.open rfl rfl ?_
    refine TL.call (g := 19) rfl go_19 rfl (fun w1 k1 => prevs_c (ks := [1, 3]) 9 ⟨4, 3, 0⟩ 0 w1 (KOk.mo (b := b8) (c := c2) (T := 26) (e := 31) (A := A2) (xs := knM) k1 (by first | exact P0 | exact P1 | exact P2 | exact P3 | exact P4 | exact P5 | exact P6 | exact P7 | exact P8) (by first | exact P0 | exact P1 | exact P2 | exact P3 | exact P4 | exact P5 | exact P6 | exact P7 | exact P8)) (SlR.of_blk (b := b52) (T := 29) (q := (0, 0)) (xs := [1, 3]) iL_length (k1.get (e := .blk b52 (il [1, 3]) 29) (by first | exact P0 | exact P1 | exact P2 | exact P3 | exact P4 | exact P5 | exact P6 | exact P7 | exact P8)).2 rfl) (by decide) (fun _ _ h => h) (fun _ _ h => h)) rfl ?_
    refine TL.nil ?_
    refine TA.cont ((.cons (by first | exact P0 | exact P1 | exact P2 | exact P3 | exact P4 | exact P5 | exact P6 | exact P7 | exact P8) (.cons (by first | exact P0 | exact P1 | exact P2 | exact P3 | exact P4 | exact P5 | exact P6 | exact P7 | exact P8) .nil))) ?_
    refine TA.takeP (i := 26) (ls := #[true, true, true, true, true, true, true, true, true, true, true, true, true, true, true, true, true, true, true, true, true, true, true, true, true, true, true, false, false, false, false, false, false, false, false]) rfl rfl rfl rfl rfl (by kernel_rfl) (by kernel_rfl) (by kernel_rfl) (by repeat (first | with_reducible exact PanicOk.body | with_reducible apply PanicOk.next | with_reducible apply PanicOk.block)) (OpV.not rfl) rfl (by kernel_rfl) ?_
    refine TA.said (t := 55) rfl (show _ = Value.bool false from congrArg Value.bool (by decide)) ?_
    refine TA.takeP (i := 27) (ls := #[true, true, true, true, true, true, true, true, true, true, true, true, true, true, true, true, true, true, true, true, true, true, true, true, true, true, true, true, false, false, false, false, false, false, false]) rfl rfl rfl rfl rfl (by kernel_rfl) (by kernel_rfl) (by kernel_rfl) (by repeat (first | with_reducible exact PanicOk.body | with_reducible apply PanicOk.next | with_reducible apply PanicOk.block)) ((by first | exact OpV.pick_t rfl rfl | exact OpV.pick_f rfl rfl)) rfl (by kernel_rfl) ?_
    refine TA.takeP (i := 28) (ls := #[true, true, true, true, true, true, true, true, true, true, true, true, true, true, true, true, true, true, true, true, true, true, true, true, true, true, true, true, true, false, false, false, false, false, false]) rfl rfl rfl rfl rfl (by kernel_rfl) (by kernel_rfl) (by kernel_rfl) (by repeat (first | with_reducible exact PanicOk.body | with_reducible apply PanicOk.next | with_reducible apply PanicOk.block)) (OpV.move rfl) rfl (by kernel_rfl) ?_
    exact TA.sub (.cons (t := 1) rfl <| .cons (t := 5) rfl <| .cons (t := 6) rfl <| .cons (t := 57) rfl <| .nil) (TA.kle (Perm.kle (.cons (by first | exact P0 | exact P1 | exact P2 | exact P3 | exact P4 | exact P5 | exact P6) (.cons (by first | exact P0 | exact P1 | exact P2 | exact P3 | exact P4 | exact P5 | exact P6) (.cons (by first | exact P0 | exact P1 | exact P2 | exact P3 | exact P4 | exact P5 | exact P6) (.cons (by first | exact P0 | exact P1 | exact P2 | exact P3 | exact P4 | exact P5 | exact P6) .nil))))) (tail3 ()))
   ·
    refine TL.open rfl rfl ?_
    refine TL.call (g := 9) rfl go_9 rfl (fun w1 k1 => mark_c 4 3 w1) rfl ?_
    refine TL.nil ?_
    refine TA.cont ((.cons (by first | exact P0 | exact P1 | exact P2 | exact P3 | exact P4 | exact P5 | exact P6 | exact P7 | exact P8) (.cons (by first | exact P0 | exact P1 | exact P2 | exact P3 | exact P4 | exact P5 | exact P6 | exact P7 | exact P8) .nil))) ?_
    refine TA.one (i := 23) (ls := #[true, true, true, true, true, true, true, true, true, true, true, true, true, true, true, true, true, true, true, true, true, true, true, true, true, false, false, false, false, false, false, false, false, false, false]) (by kernel_rfl) rfl (by kernel_rfl) (fun w1 => ?_)
    refine TL.open rfl rfl ?_
    refine TL.slit (qs := #[(0, _), (1, _)]) (fun _ f => by simp only [List.map_toArray, List.map_cons, List.map_nil]; rw [f.ev (x := .const (.int .i64 1)) rfl]; (try rw [f.ev (x := .const (.int .i64 3)) rfl])) (sl_38_2_0_1 1 3) rfl ?_
    intro b52
    refine TL.nil ?_
    refine TA.cont ((.cons (by first | exact P0 | exact P1 | exact P2 | exact P3 | exact P4 | exact P5 | exact P6 | exact P7 | exact P8) (.cons (by first | exact P0 | exact P1 | exact P2 | exact P3 | exact P4 | exact P5 | exact P6 | exact P7 | exact P8) .nil))) ?_
    refine TA.one (i := 25) (ls := #[true, true, true, true, true, true, true, true, true, true, true, true, true, true, true, true, true, true, true, true, true, true, true, true, true, true, false, false, false, false, false, false, false, false, false]) (by kernel_rfl) rfl (by kernel_rfl) (fun w1 => ?_)
    refine TL.open rfl rfl ?_
    refine TL.call (g := 19) rfl go_19 rfl (fun w1 k1 => prevs_c (ks := [1, 3]) 9 ⟨4, 3, 0⟩ 0 w1 (KOk.mo (b := b8) (c := c2) (T := 26) (e := 31) (A := A2) (xs := knM) k1 (by first | exact P0 | exact P1 | exact P2 | exact P3 | exact P4 | exact P5 | exact P6 | exact P7 | exact P8) (by first | exact P0 | exact P1 | exact P2 | exact P3 | exact P4 | exact P5 | exact P6 | exact P7 | exact P8)) (SlR.of_blk (b := b52) (T := 29) (q := (0, 0)) (xs := [1, 3]) iL_length (k1.get (e := .blk b52 (il [1, 3]) 29) (by first | exact P0 | exact P1 | exact P2 | exact P3 | exact P4 | exact P5 | exact P6 | exact P7 | exact P8)).2 rfl) (by decide) (fun _ _ h => h) (fun _ _ h => h)) rfl ?_
    refine TL.nil ?_
    refine TA.cont ((.cons (by first | exact P0 | exact P1 | exact P2 | exact P3 | exact P4 | exact P5 | exact P6 | exact P7 | exact P8) (.cons (by first | exact P0 | exact P1 | exact P2 | exact P3 | exact P4 | exact P5 | exact P6 | exact P7 | exact P8) .nil))) ?_
    refine TA.takeP (i := 26) (ls := #[true, true, true, true, true, true, true, true, true, true, true, true, true, true, true, true, true, true, true, true, true, true, true, true, true, true, true, false, false, false, false, false, false, false, false]) rfl rfl rfl rfl rfl (by kernel_rfl) (by kernel_rfl) (by kernel_rfl) (by repeat (first | with_reducible exact PanicOk.body | with_reducible apply PanicOk.next | with_reducible apply PanicOk.block)) (OpV.not rfl) rfl (by kernel_rfl) ?_
    refine TA.said (t := 55) rfl (show _ = Value.bool false from congrArg Value.bool (by decide)) ?_
    refine TA.takeP (i := 27) (ls := #[true, true, true, true, true, true, true, true, true, true, true, true, true, true, true, true, true, true, true, true, true, true, true, true, true, true, true, true, false, false, false, false, false, false, false]) rfl rfl rfl rfl rfl (by kernel_rfl) (by kernel_rfl) (by kernel_rfl) (by repeat (first | with_reducible exact PanicOk.body | with_reducible apply PanicOk.next | with_reducible apply PanicOk.block)) ((by first | exact OpV.pick_t rfl rfl | exact OpV.pick_f rfl rfl)) rfl (by kernel_rfl) ?_
    refine TA.takeP (i := 28) (ls := #[true, true, true, true, true, true, true, true, true, true, true, true, true, true, true, true, true, true, true, true, true, true, true, true, true, true, true, true, true, false, false, false, false, false, false]) rfl rfl rfl rfl rfl (by kernel_rfl) (by kernel_rfl) (by kernel_rfl) (by repeat (first | with_reducible exact PanicOk.body | with_reducible apply PanicOk.next | with_reducible apply PanicOk.block)) (OpV.move rfl) rfl (by kernel_rfl) ?_
    exact TA.sub (.cons (t := 1) rfl <| .cons (t := 5) rfl <| .cons (t := 6) rfl <| .cons (t := 57) rfl <| .nil) (TA.kle (Perm.kle (.cons (by first | exact P0 | exact P1 | exact P2 | exact P3 | exact P4 | exact P5 | exact P6) (.cons (by first | exact P0 | exact P1 | exact P2 | exact P3 | exact P4 | exact P5 | exact P6) (.cons (by first | exact P0 | exact P1 | exact P2 | exact P3 | exact P4 | exact P5 | exact P6) (.cons (by first | exact P0 | exact P1 | exact P2 | exact P3 | exact P4 | exact P5 | exact P6) .nil))))) (tail3 ()))
  intro tail2
  refine TA.lem (ι := Unit) (fun _ => [(1, .pointer (some ⟨b8, 0, none⟩)), (5, .pointer (some ⟨b5, 0, none⟩)), (6, .pointer (some ⟨b6, 0, none⟩)), (43, .bool false)]) (fun _ => [.blk b6 knTwo.l 41, .blk b5 knOne.l 41, .blk b8 [.slice A2 knM.length c2] 26, .row 31 3 A2 knM.length c2 (ml knM)]) 20 #[true, true, true, true, true, true, true, true, true, true, true, true, true, true, true, false, false, false, false, false, false, false, false, false, false, false, false, false, false, false, false, false, false, false, false] ?_ ?_
  ·
   rintro _
   refine TA.takeP (i := 15) (ls := #[true, true, true, true, true, true, true, true, true, true, true, true, true, true, true, true, false, false, false, false, false, false, false, false, false, false, false, false, false, false, false, false, false, false, false]) rfl rfl rfl rfl rfl (by kernel_rfl) (by kernel_rfl) (by kernel_rfl) (by repeat (first | with_reducible exact PanicOk.body | with_reducible apply PanicOk.next | with_reducible apply PanicOk.block)) (OpV.move rfl) rfl (by kernel_rfl) ?_
   refine TA.two (i := 16) (i' := 17) (ls := #[true, true, true, true, true, true, true, true, true, true, true, true, true, true, true, true, true, false, false, false, false, false, false, false, false, false, false, false, false, false, false, false, false, false, false]) (ls' := #[true, true, true, true, true, true, true, true, true, true, true, true, true, true, true, true, false, true, false, false, false, false, false, false, false, false, false, false, false, false, false, false, false, false, false]) (by kernel_rfl) rfl rfl (by kernel_rfl) (by kernel_rfl) (fun w1 => ?_) (fun w1 => ?_)
   ·
    refine TL.open rfl rfl ?_
    refine TL.slit (qs := #[(0, _), (1, _)]) (fun _ f => by simp only [List.map_toArray, List.map_cons, List.map_nil]; rw [f.ev (x := .const (.int .i64 3)) rfl]; (try rw [f.ev (x := .const (.int .i64 4)) rfl])) (sl_38_2_0_1 3 4) rfl ?_
    intro b45
    refine TL.nil ?_
    refine TA.cont ((.cons (by first | exact P0 | exact P1 | exact P2 | exact P3 | exact P4 | exact P5 | exact P6 | exact P7 | exact P8) (.cons (by first | exact P0 | exact P1 | exact P2 | exact P3 | exact P4 | exact P5 | exact P6 | exact P7 | exact P8) .nil))) ?_
    refine TA.one (i := 17) (ls := #[true, true, true, true, true, true, true, true, true, true, true, true, true, true, true, true, true, true, false, false, false, false, false, false, false, false, false, false, false, false, false, false, false, false, false]) (by kernel_rfl) rfl (by kernel_rfl) (fun w1 => ?_)
    refine TL.open rfl rfl ?_
    refine TL.call (g := 9) rfl go_9 rfl (fun w1 k1 => mark_c 4 3 w1) rfl ?_
    refine TL.nil ?_
    refine TA.cont ((.cons (by first | exact P0 | exact P1 | exact P2 | exact P3 | exact P4 | exact P5 | exact P6 | exact P7 | exact P8) (.cons (by first | exact P0 | exact P1 | exact P2 | exact P3 | exact P4 | exact P5 | exact P6 | exact P7 | exact P8) .nil))) ?_
    refine TA.one (i := 18) (ls := #[true, true, true, true, true, true, true, true, true, true, true, true, true, true, true, true, true, true, true, false, false, false, false, false, false, false, false, false, false, false, false, false, false, false, false]) (by kernel_rfl) rfl (by kernel_rfl) (fun w1 => ?_)
    refine TL.open rfl rfl ?_
    refine TL.call (g := 14) rfl go_14 rfl (fun w1 k1 => nexts_c (ks := [3, 4]) (-1) ⟨4, 3, 0⟩ 0 w1 (KOk.mo (b := b8) (c := c2) (T := 26) (e := 31) (A := A2) (xs := knM) k1 (by first | exact P0 | exact P1 | exact P2 | exact P3 | exact P4 | exact P5 | exact P6 | exact P7 | exact P8) (by first | exact P0 | exact P1 | exact P2 | exact P3 | exact P4 | exact P5 | exact P6 | exact P7 | exact P8)) (SlR.of_blk (b := b45) (T := 29) (q := (0, 0)) (xs := [3, 4]) iL_length (k1.get (e := .blk b45 (il [3, 4]) 29) (by first | exact P0 | exact P1 | exact P2 | exact P3 | exact P4 | exact P5 | exact P6 | exact P7 | exact P8)).2 rfl) (fun _ _ h => h) (fun _ _ h => h)) rfl ?_
    refine TL.nil ?_
    refine TA.cont ((.cons (by first | exact P0 | exact P1 | exact P2 | exact P3 | exact P4 | exact P5 | exact P6 | exact P7 | exact P8) (.cons (by first | exact P0 | exact P1 | exact P2 | exact P3 | exact P4 | exact P5 | exact P6 | exact P7 | exact P8) .nil))) ?_
    refine TA.takeP (i := 19) (ls := #[true, true, true, true, true, true, true, true, true, true, true, true, true, true, true, true, true, true, true, true, false, false, false, false, false, false, false, false, false, false, false, false, false, false, false]) rfl rfl rfl rfl rfl (by kernel_rfl) (by kernel_rfl) (by kernel_rfl) (by repeat (first | with_reducible exact PanicOk.body | with_reducible apply PanicOk.next | with_reducible apply PanicOk.block)) (OpV.not rfl) rfl (by kernel_rfl) ?_
    refine TA.said (t := 48) rfl (show _ = Value.bool false from congrArg Value.bool (by decide)) ?_
    refine TA.takeP (i := 20) (ls := #[true, true, true, true, true, true, true, true, true, true, true, true, true, true, true, true, true, true, true, true, true, false, false, false, false, false, false, false, false, false, false, false, false, false, false]) rfl rfl rfl rfl rfl (by kernel_rfl) (by kernel_rfl) (by kernel_rfl) (by repeat (first | with_reducible exact PanicOk.body | with_reducible apply PanicOk.next | with_reducible apply PanicOk.block)) ((by first | exact OpV.pick_t rfl rfl | exact OpV.pick_f rfl rfl)) rfl (by kernel_rfl) ?_
    refine TA.takeP (i := 21) (ls := #[true, true, true, true, true, true, true, true, true, true, true, true, true, true, true, true, true, true, true, true, true, true, false, false, false, false, false, false, false, false, false, false, false, false, false]) rfl rfl rfl rfl rfl (by kernel_rfl) (by kernel_rfl) (by kernel_rfl) (by repeat (first | with_reducible exact PanicOk.body | with_reducible apply PanicOk.next | with_reducible apply PanicOk.block)) (OpV.move rfl) rfl (by kernel_rfl) ?_
    exact TA.sub (.cons (t := 1) rfl <| .cons (t := 5) rfl <| .cons (t := 6) rfl <| .cons (t := 50) rfl <| .nil) (TA.kle (Perm.kle (.cons (by first | exact P0 | exact P1 | exact P2 | exact P3 | exact P4 | exact P5 | exact P6) (.cons (by first | exact P0 | exact P1 | exact P2 | exact P3 | exact P4 | exact P5 | exact P6) (.cons (by first | exact P0 | exact P1 | exact P2 | exact P3 | exact P4 | exact P5 | exact P6) (.cons (by first | exact P0 | exact P1 | exact P2 | exact P3 | exact P4 | exact P5 | exact P6) .nil))))) (tail2 ()))
   ·
    refine TL.open rfl rfl ?_
    refine TL.call (g := 9) rfl go_9 rfl (fun w1 k1 => mark_c 4 3 w1) rfl ?_
    refine TL.nil ?_
    refine TA.cont ((.cons (by first | exact P0 | exact P1 | exact P2 | exact P3 | exact P4 | exact P5 | exact P6 | exact P7 | exact P8) (.cons (by first | exact P0 | exact P1 | exact P2 | exact P3 | exact P4 | exact P5 | exact P6 | exact P7 | exact P8) .nil))) ?_
    refine TA.one (i := 16) (ls := #[true, true, true, true, true, true, true, true, true, true, true, true, true, true, true, true, true, true, false, false, false, false, false, false, false, false, false, false, false, false, false, false, false, false, false]) (by kernel_rfl) rfl (by kernel_rfl) (fun w1 => ?_)
    refine TL.open rfl rfl ?_
    refine TL.slit (qs := #[(0, _), (1, _)]) (fun _ f => by simp only [List.map_toArray, List.map_cons, List.map_nil]; rw [f.ev (x := .const (.int .i64 3)) rfl]; (try rw [f.ev (x := .const (.int .i64 4)) rfl])) (sl_38_2_0_1 3 4) rfl ?_
    intro b45
    refine TL.nil ?_
    refine TA.cont ((.cons (by first | exact P0 | exact P1 | exact P2 | exact P3 | exact P4 | exact P5 | exact P6 | exact P7 | exact P8) (.cons (by first | exact P0 | exact P1 | exact P2 | exact P3 | exact P4 | exact P5 | exact P6 | exact P7 | exact P8) .nil))) ?_
    refine TA.one (i := 18) (ls := #[true, true, true, true, true, true, true, true, true, true, true, true, true, true, true, true, true, true, true, false, false, false, false, false, false, false, false, false, false, false, false, false, false, false, false]) (by kernel_rfl) rfl (by kernel_rfl) (fun w1 => ?_)
    refine TL.open rfl rfl ?_
    refine TL.call (g := 14) rfl go_14 rfl (fun w1 k1 => nexts_c (ks := [3, 4]) (-1) ⟨4, 3, 0⟩ 0 w1 (KOk.mo (b := b8) (c := c2) (T := 26) (e := 31) (A := A2) (xs := knM) k1 (by first | exact P0 | exact P1 | exact P2 | exact P3 | exact P4 | exact P5 | exact P6 | exact P7 | exact P8) (by first | exact P0 | exact P1 | exact P2 | exact P3 | exact P4 | exact P5 | exact P6 | exact P7 | exact P8)) (SlR.of_blk (b := b45) (T := 29) (q := (0, 0)) (xs := [3, 4]) iL_length (k1.get (e := .blk b45 (il [3, 4]) 29) (by first | exact P0 | exact P1 | exact P2 | exact P3 | exact P4 | exact P5 | exact P6 | exact P7 | exact P8)).2 rfl) (fun _ _ h => h) (fun _ _ h => h)) rfl ?_
    refine TL.nil ?_
    refine TA.cont ((.cons (by first | exact P0 | exact P1 | exact P2 | exact P3 | exact P4 | exact P5 | exact P6 | exact P7 | exact P8) (.cons (by first | exact P0 | exact P1 | exact P2 | exact P3 | exact P4 | exact P5 | exact P6 | exact P7 | exact P8) .nil))) ?_
    refine TA.takeP (i := 19) (ls := #[true, true, true, true, true, true, true, true, true, true, true, true, true, true, true, true, true, true, true, true, false, false, false, false, false, false, false, false, false, false, false, false, false, false, false]) rfl rfl rfl rfl rfl (by kernel_rfl) (by kernel_rfl) (by kernel_rfl) (by repeat (first | with_reducible exact PanicOk.body | with_reducible apply PanicOk.next | with_reducible apply PanicOk.block)) (OpV.not rfl) rfl (by kernel_rfl) ?_
    refine TA.said (t := 48) rfl (show _ = Value.bool false from congrArg Value.bool (by decide)) ?_
    refine TA.takeP (i := 20) (ls := #[true, true, true, true, true, true, true, true, true, true, true, true, true, true, true, true, true, true, true, true, true, false, false, false, false, false, false, false, false, false, false, false, false, false, false]) rfl rfl rfl rfl rfl (by kernel_rfl) (by kernel_rfl) (by kernel_rfl) (by repeat (first | with_reducible exact PanicOk.body | with_reducible apply PanicOk.next | with_reducible apply PanicOk.block)) ((by first | exact OpV.pick_t rfl rfl | exact OpV.pick_f rfl rfl)) rfl (by kernel_rfl) ?_
    refine TA.takeP (i := 21) (ls := #[true, true, true, true, true, true, true, true, true, true, true, true, true, true, true, true, true, true, true, true, true, true, false, false, false, false, false, false, false, false, false, false, false, false, false]) rfl rfl rfl rfl rfl (by kernel_rfl) (by kernel_rfl) (by kernel_rfl) (by repeat (first | with_reducible exact PanicOk.body | with_reducible apply PanicOk.next | with_reducible apply PanicOk.block)) (OpV.move rfl) rfl (by kernel_rfl) ?_
    exact TA.sub (.cons (t := 1) rfl <| .cons (t := 5) rfl <| .cons (t := 6) rfl <| .cons (t := 50) rfl <| .nil) (TA.kle (Perm.kle (.cons (by first | exact P0 | exact P1 | exact P2 | exact P3 | exact P4 | exact P5 | exact P6) (.cons (by first | exact P0 | exact P1 | exact P2 | exact P3 | exact P4 | exact P5 | exact P6) (.cons (by first | exact P0 | exact P1 | exact P2 | exact P3 | exact P4 | exact P5 | exact P6) (.cons (by first | exact P0 | exact P1 | exact P2 | exact P3 | exact P4 | exact P5 | exact P6) .nil))))) (tail2 ()))
  intro tail1
  refine TA.lem (ι := Unit) (fun _ => [(1, .pointer (some ⟨b8, 0, none⟩)), (5, .pointer (some ⟨b5, 0, none⟩)), (6, .pointer (some ⟨b6, 0, none⟩)), (36, .bool false)]) (fun _ => [.blk b6 knTwo.l 41, .blk b5 knOne.l 41, .blk b8 [.slice A2 knM.length c2] 26, .row 31 3 A2 knM.length c2 (ml knM)]) 27 #[true, true, true, true, true, true, true, true, false, false, false, false, false, false, false, false, false, false, false, false, false, false, false, false, false, false, false, false, false, false, false, false, false, false, false] ?_ ?_
  ·
   rintro _
   refine TA.takeP (i := 8) (ls := #[true, true, true, true, true, true, true, true, true, false, false, false, false, false, false, false, false, false, false, false, false, false, false, false, false, false, false, false, false, false, false, false, false, false, false]) rfl rfl rfl rfl rfl (by kernel_rfl) (by kernel_rfl) (by kernel_rfl) (by repeat (first | with_reducible exact PanicOk.body | with_reducible apply PanicOk.next | with_reducible apply PanicOk.block)) (OpV.move rfl) rfl (by kernel_rfl) ?_
   refine TA.two (i := 9) (i' := 10) (ls := #[true, true, true, true, true, true, true, true, true, true, false, false, false, false, false, false, false, false, false, false, false, false, false, false, false, false, false, false, false, false, false, false, false, false, false]) (ls' := #[true, true, true, true, true, true, true, true, true, false, true, false, false, false, false, false, false, false, false, false, false, false, false, false, false, false, false, false, false, false, false, false, false, false, false]) (by kernel_rfl) rfl rfl (by kernel_rfl) (by kernel_rfl) (fun w1 => ?_) (fun w1 => ?_)
   ·
    refine TL.open rfl rfl ?_
    refine TL.slit (qs := #[(0, _)]) (fun _ f => by simp only [List.map_toArray, List.map_cons, List.map_nil]; rw [f.ev (x := .const (.int .i64 1)) rfl]) (sl_38_1_0 1) rfl ?_
    intro b38
    refine TL.nil ?_
    refine TA.cont ((.cons (by first | exact P0 | exact P1 | exact P2 | exact P3 | exact P4 | exact P5 | exact P6 | exact P7 | exact P8) (.cons (by first | exact P0 | exact P1 | exact P2 | exact P3 | exact P4 | exact P5 | exact P6 | exact P7 | exact P8) .nil))) ?_
    refine TA.one (i := 10) (ls := #[true, true, true, true, true, true, true, true, true, true, true, false, false, false, false, false, false, false, false, false, false, false, false, false, false, false, false, false, false, false, false, false, false, false, false]) (by kernel_rfl) rfl (by kernel_rfl) (fun w1 => ?_)
    refine TL.open rfl rfl ?_
    refine TL.call (g := 9) rfl go_9 rfl (fun w1 k1 => mark_c 9 1 w1) rfl ?_
    refine TL.nil ?_
    refine TA.cont ((.cons (by first | exact P0 | exact P1 | exact P2 | exact P3 | exact P4 | exact P5 | exact P6 | exact P7 | exact P8) (.cons (by first | exact P0 | exact P1 | exact P2 | exact P3 | exact P4 | exact P5 | exact P6 | exact P7 | exact P8) .nil))) ?_
    refine TA.one (i := 11) (ls := #[true, true, true, true, true, true, true, true, true, true, true, true, false, false, false, false, false, false, false, false, false, false, false, false, false, false, false, false, false, false, false, false, false, false, false]) (by kernel_rfl) rfl (by kernel_rfl) (fun w1 => ?_)
    refine TL.open rfl rfl ?_
    refine TL.call (g := 14) rfl go_14 rfl (fun w1 k1 => nexts_c (ks := [1]) 3 ⟨9, 1, 0⟩ 0 w1 (KOk.mo (b := b8) (c := c2) (T := 26) (e := 31) (A := A2) (xs := knM) k1 (by first | exact P0 | exact P1 | exact P2 | exact P3 | exact P4 | exact P5 | exact P6 | exact P7 | exact P8) (by first | exact P0 | exact P1 | exact P2 | exact P3 | exact P4 | exact P5 | exact P6 | exact P7 | exact P8)) (SlR.of_blk (b := b38) (T := 29) (q := (0, 0)) (xs := [1]) iL_length (k1.get (e := .blk b38 (il [1]) 29) (by first | exact P0 | exact P1 | exact P2 | exact P3 | exact P4 | exact P5 | exact P6 | exact P7 | exact P8)).2 rfl) (fun _ _ h => h) (fun _ _ h => h)) rfl ?_
    refine TL.nil ?_
    refine TA.cont ((.cons (by first | exact P0 | exact P1 | exact P2 | exact P3 | exact P4 | exact P5 | exact P6 | exact P7 | exact P8) (.cons (by first | exact P0 | exact P1 | exact P2 | exact P3 | exact P4 | exact P5 | exact P6 | exact P7 | exact P8) .nil))) ?_
    refine TA.takeP (i := 12) (ls := #[true, true, true, true, true, true, true, true, true, true, true, true, true, false, false, false, false, false, false, false, false, false, false, false, false, false, false, false, false, false, false, false, false, false, false]) rfl rfl rfl rfl rfl (by kernel_rfl) (by kernel_rfl) (by kernel_rfl) (by repeat (first | with_reducible exact PanicOk.body | with_reducible apply PanicOk.next | with_reducible apply PanicOk.block)) (OpV.not rfl) rfl (by kernel_rfl) ?_
    refine TA.said (t := 41) rfl (show _ = Value.bool false from congrArg Value.bool (by decide)) ?_
    refine TA.takeP (i := 13) (ls := #[true, true, true, true, true, true, true, true, true, true, true, true, true, true, false, false, false, false, false, false, false, false, false, false, false, false, false, false, false, false, false, false, false, false, false]) rfl rfl rfl rfl rfl (by kernel_rfl) (by kernel_rfl) (by kernel_rfl) (by repeat (first | with_reducible exact PanicOk.body | with_reducible apply PanicOk.next | with_reducible apply PanicOk.block)) ((by first | exact OpV.pick_t rfl rfl | exact OpV.pick_f rfl rfl)) rfl (by kernel_rfl) ?_
    refine TA.takeP (i := 14) (ls := #[true, true, true, true, true, true, true, true, true, true, true, true, true, true, true, false, false, false, false, false, false, false, false, false, false, false, false, false, false, false, false, false, false, false, false]) rfl rfl rfl rfl rfl (by kernel_rfl) (by kernel_rfl) (by kernel_rfl) (by repeat (first | with_reducible exact PanicOk.body | with_reducible apply PanicOk.next | with_reducible apply PanicOk.block)) (OpV.move rfl) rfl (by kernel_rfl) ?_
    exact TA.sub (.cons (t := 1) rfl <| .cons (t := 5) rfl <| .cons (t := 6) rfl <| .cons (t := 43) rfl <| .nil) (TA.kle (Perm.kle (.cons (by first | exact P0 | exact P1 | exact P2 | exact P3 | exact P4 | exact P5 | exact P6) (.cons (by first | exact P0 | exact P1 | exact P2 | exact P3 | exact P4 | exact P5 | exact P6) (.cons (by first | exact P0 | exact P1 | exact P2 | exact P3 | exact P4 | exact P5 | exact P6) (.cons (by first | exact P0 | exact P1 | exact P2 | exact P3 | exact P4 | exact P5 | exact P6) .nil))))) (tail1 ()))
   ·
    refine TL.open rfl rfl ?_
    refine TL.call (g := 9) rfl go_9 rfl (fun w1 k1 => mark_c 9 1 w1) rfl ?_
    refine TL.nil ?_
    refine TA.cont ((.cons (by first | exact P0 | exact P1 | exact P2 | exact P3 | exact P4 | exact P5 | exact P6 | exact P7 | exact P8) (.cons (by first | exact P0 | exact P1 | exact P2 | exact P3 | exact P4 | exact P5 | exact P6 | exact P7 | exact P8) .nil))) ?_
    refine TA.one (i := 9) (ls := #[true, true, true, true, true, true, true, true, true, true, true, false, false, false, false, false, false, false, false, false, false, false, false, false, false, false, false, false, false, false, false, false, false, false, false]) (by kernel_rfl) rfl (by kernel_rfl) (fun w1 => ?_)
    refine TL.open rfl rfl ?_
    refine TL.slit (qs := #[(0, _)]) (fun _ f => by simp only [List.map_toArray, List.map_cons, List.map_nil]; rw [f.ev (x := .const (.int .i64 1)) rfl]) (sl_38_1_0 1) rfl ?_
    intro b38
    refine TL.nil ?_
    refine TA.cont ((.cons (by first | exact P0 | exact P1 | exact P2 | exact P3 | exact P4 | exact P5 | exact P6 | exact P7 | exact P8) (.cons (by first | exact P0 | exact P1 | exact P2 | exact P3 | exact P4 | exact P5 | exact P6 | exact P7 | exact P8) .nil))) ?_
    refine TA.one (i := 11) (ls := #[true, true, true, true, true, true, true, true, true, true, true, true, false, false, false, false, false, false, false, false, false, false, false, false, false, false, false, false, false, false, false, false, false, false, false]) (by kernel_rfl) rfl (by kernel_rfl) (fun w1 => ?_)
    refine TL.open rfl rfl ?_
    refine TL.call (g := 14) rfl go_14 rfl (fun w1 k1 => nexts_c (ks := [1]) 3 ⟨9, 1, 0⟩ 0 w1 (KOk.mo (b := b8) (c := c2) (T := 26) (e := 31) (A := A2) (xs := knM) k1 (by first | exact P0 | exact P1 | exact P2 | exact P3 | exact P4 | exact P5 | exact P6 | exact P7 | exact P8) (by first | exact P0 | exact P1 | exact P2 | exact P3 | exact P4 | exact P5 | exact P6 | exact P7 | exact P8)) (SlR.of_blk (b := b38) (T := 29) (q := (0, 0)) (xs := [1]) iL_length (k1.get (e := .blk b38 (il [1]) 29) (by first | exact P0 | exact P1 | exact P2 | exact P3 | exact P4 | exact P5 | exact P6 | exact P7 | exact P8)).2 rfl) (fun _ _ h => h) (fun _ _ h => h)) rfl ?_
    refine TL.nil ?_
    refine TA.cont ((.cons (by first | exact P0 | exact P1 | exact P2 | exact P3 | exact P4 | exact P5 | exact P6 | exact P7 | exact P8) (.cons (by first | exact P0 | exact P1 | exact P2 | exact P3 | exact P4 | exact P5 | exact P6 | exact P7 | exact P8) .nil))) ?_
    refine TA.takeP (i := 12) (ls := #[true, true, true, true, true, true, true, true, true, true, true, true, true, false, false, false, false, false, false, false, false, false, false, false, false, false, false, false, false, false, false, false, false, false, false]) rfl rfl rfl rfl rfl (by kernel_rfl) (by kernel_rfl) (by kernel_rfl) (by repeat (first | with_reducible exact PanicOk.body | with_reducible apply PanicOk.next | with_reducible apply PanicOk.block)) (OpV.not rfl) rfl (by kernel_rfl) ?_
    refine TA.said (t := 41) rfl (show _ = Value.bool false from congrArg Value.bool (by decide)) ?_
    refine TA.takeP (i := 13) (ls := #[true, true, true, true, true, true, true, true, true, true, true, true, true, true, false, false, false, false, false, false, false, false, false, false, false, false, false, false, false, false, false, false, false, false, false]) rfl rfl rfl rfl rfl (by kernel_rfl) (by kernel_rfl) (by kernel_rfl) (by repeat (first | with_reducible exact PanicOk.body | with_reducible apply PanicOk.next | with_reducible apply PanicOk.block)) ((by first | exact OpV.pick_t rfl rfl | exact OpV.pick_f rfl rfl)) rfl (by kernel_rfl) ?_
    refine TA.takeP (i := 14) (ls := #[true, true, true, true, true, true, true, true, true, true, true, true, true, true, true, false, false, false, false, false, false, false, false, false, false, false, false, false, false, false, false, false, false, false, false]) rfl rfl rfl rfl rfl (by kernel_rfl) (by kernel_rfl) (by kernel_rfl) (by repeat (first | with_reducible exact PanicOk.body | with_reducible apply PanicOk.next | with_reducible apply PanicOk.block)) (OpV.move rfl) rfl (by kernel_rfl) ?_
    exact TA.sub (.cons (t := 1) rfl <| .cons (t := 5) rfl <| .cons (t := 6) rfl <| .cons (t := 43) rfl <| .nil) (TA.kle (Perm.kle (.cons (by first | exact P0 | exact P1 | exact P2 | exact P3 | exact P4 | exact P5 | exact P6) (.cons (by first | exact P0 | exact P1 | exact P2 | exact P3 | exact P4 | exact P5 | exact P6) (.cons (by first | exact P0 | exact P1 | exact P2 | exact P3 | exact P4 | exact P5 | exact P6) (.cons (by first | exact P0 | exact P1 | exact P2 | exact P3 | exact P4 | exact P5 | exact P6) .nil))))) (tail1 ()))
  intro tail0
  refine TA.takeP (i := 0) (ls := #[true, false, false, false, false, false, false, false, false, false, false, false, false, false, false, false, false, false, false, false, false, false, false, false, false, false, false, false, false, false, false, false, false, false, false]) rfl rfl rfl rfl rfl (by kernel_rfl) (by kernel_rfl) (by kernel_rfl) (by repeat (first | with_reducible exact PanicOk.body | with_reducible apply PanicOk.next | with_reducible apply PanicOk.block)) (OpV.move rfl) rfl (by kernel_rfl) ?_
  refine TA.take (i := 2) (ls := #[true, false, true, false, false, false, false, false, false, false, false, false, false, false, false, false, false, false, false, false, false, false, false, false, false, false, false, false, false, false, false, false, false, false, false]) rfl rfl rfl rfl rfl (by kernel_rfl) (by kernel_rfl) (by kernel_rfl) (by kernel_rfl) (by repeat (first | with_reducible exact PanicOk.body | with_reducible apply PanicOk.next | with_reducible apply PanicOk.block)) ((.cons (by first | exact P0 | exact P1 | exact P2 | exact P3 | exact P4 | exact P5 | exact P6 | exact P7 | exact P8) (.cons (by first | exact P0 | exact P1 | exact P2 | exact P3 | exact P4 | exact P5 | exact P6 | exact P7 | exact P8) .nil))) (OpV.loadA ag_41 rfl (Cels.blkAt knOne.l (by first | exact P0 | exact P1 | exact P2 | exact P3 | exact P4 | exact P5 | exact P6) rfl rfl)) rfl (by kernel_rfl) ?_
  refine TA.take (i := 3) (ls := #[true, false, true, true, false, false, false, false, false, false, false, false, false, false, false, false, false, false, false, false, false, false, false, false, false, false, false, false, false, false, false, false, false, false, false]) rfl rfl rfl rfl rfl (by kernel_rfl) (by kernel_rfl) (by kernel_rfl) (by kernel_rfl) (by repeat (first | with_reducible exact PanicOk.body | with_reducible apply PanicOk.next | with_reducible apply PanicOk.block)) ((.cons (by first | exact P0 | exact P1 | exact P2 | exact P3 | exact P4 | exact P5 | exact P6 | exact P7 | exact P8) (.cons (by first | exact P0 | exact P1 | exact P2 | exact P3 | exact P4 | exact P5 | exact P6 | exact P7 | exact P8) .nil))) (OpV.loadA ag_41 rfl (Cels.blkAt knTwo.l (by first | exact P0 | exact P1 | exact P2 | exact P3 | exact P4 | exact P5 | exact P6) rfl rfl)) rfl (by kernel_rfl) ?_
  refine TA.two (i := 1) (i' := 4) (ls := #[true, true, true, true, false, false, false, false, false, false, false, false, false, false, false, false, false, false, false, false, false, false, false, false, false, false, false, false, false, false, false, false, false, false, false]) (ls' := #[true, false, true, true, true, false, false, false, false, false, false, false, false, false, false, false, false, false, false, false, false, false, false, false, false, false, false, false, false, false, false, false, false, false, false]) (by kernel_rfl) rfl rfl (by kernel_rfl) (by kernel_rfl) (fun w1 => ?_) (fun w1 => ?_)
  ·
   refine TL.callx (g := 11) rfl go_11 rfl (fun wz k1 => add_x k1 (commands_c wz (KOk.mo (b := b8) (c := c2) (T := 26) (e := 31) (A := A2) (xs := knM) k1 (by first | exact P0 | exact P1 | exact P2 | exact P3 | exact P4 | exact P5 | exact P6 | exact P7 | exact P8) (by first | exact P0 | exact P1 | exact P2 | exact P3 | exact P4 | exact P5 | exact P6 | exact P7 | exact P8)) (fun _ _ h => h) (by decide))) rfl ?_
   rintro ⟨A4, c4⟩ hA4
   refine TL.nil ?_
   refine TA.cont ((.cons (by first | exact P0 | exact P1 | exact P2 | exact P3 | exact P4 | exact P5 | exact P6 | exact P7 | exact P8) (.cons (by first | exact P0 | exact P1 | exact P2 | exact P3 | exact P4 | exact P5 | exact P6 | exact P7 | exact P8) .nil))) ?_
   refine TA.one (i := 4) (ls := #[true, true, true, true, true, false, false, false, false, false, false, false, false, false, false, false, false, false, false, false, false, false, false, false, false, false, false, false, false, false, false, false, false, false, false]) (by kernel_rfl) rfl (by kernel_rfl) (fun w1 => ?_)
   refine TL.slit (qs := #[(0, _), (1, _)]) (fun _ f => by simp only [List.map_toArray, List.map_cons, List.map_nil]; rw [f.ev (x := .tmp 31) rfl]; (try rw [f.ev (x := .tmp 32) rfl])) (sl_34_2_0_1 knOne knTwo) rfl ?_
   intro b33
   refine TL.nil ?_
   refine TA.cont ((.cons (by first | exact P0 | exact P1 | exact P2 | exact P3 | exact P4 | exact P5 | exact P6 | exact P7 | exact P8) (.cons (by first | exact P0 | exact P1 | exact P2 | exact P3 | exact P4 | exact P5 | exact P6 | exact P7 | exact P8) .nil))) ?_
   refine TA.one (i := 5) (ls := #[true, true, true, true, true, true, false, false, false, false, false, false, false, false, false, false, false, false, false, false, false, false, false, false, false, false, false, false, false, false, false, false, false, false, false]) (by kernel_rfl) rfl (by kernel_rfl) (fun w1 => ?_)
   refine TL.call (g := 23) rfl go_23 rfl (fun w1 k1 => eqs_c w1 (KOk.row_sl (e := 41) (A := A4) (m := (cmdsV knM).length) (c := c4) (f := Cm.l) (xs := cmdsV knM) Cm.l_length k1 (by first | exact P0 | exact P1 | exact P2 | exact P3 | exact P4 | exact P5 | exact P6 | exact P7 | exact P8) rfl) (SlR.of_blk (b := b33) (T := 41) (q := (0, 0)) (xs := [knOne, knTwo]) Cm.l_length (k1.get (e := .blk b33 (cl [knOne, knTwo]) 41) (by first | exact P0 | exact P1 | exact P2 | exact P3 | exact P4 | exact P5 | exact P6 | exact P7 | exact P8)).2 rfl) (fun _ _ h => h)) rfl ?_
   refine TL.nil ?_
   refine TA.cont ((.cons (by first | exact P0 | exact P1 | exact P2 | exact P3 | exact P4 | exact P5 | exact P6 | exact P7 | exact P8) (.cons (by first | exact P0 | exact P1 | exact P2 | exact P3 | exact P4 | exact P5 | exact P6 | exact P7 | exact P8) .nil))) ?_
   refine TA.takeP (i := 6) (ls := #[true, true, true, true, true, true, true, false, false, false, false, false, false, false, false, false, false, false, false, false, false, false, false, false, false, false, false, false, false, false, false, false, false, false, false]) rfl rfl rfl rfl rfl (by kernel_rfl) (by kernel_rfl) (by kernel_rfl) (by repeat (first | with_reducible exact PanicOk.body | with_reducible apply PanicOk.next | with_reducible apply PanicOk.block)) (OpV.not rfl) rfl (by kernel_rfl) ?_
   refine TA.said (t := 35) rfl (show _ = Value.bool false from congrArg Value.bool (by rw [kn_cmds]; decide)) ?_
   refine TA.takeP (i := 7) (ls := #[true, true, true, true, true, true, true, true, false, false, false, false, false, false, false, false, false, false, false, false, false, false, false, false, false, false, false, false, false, false, false, false, false, false, false]) rfl rfl rfl rfl rfl (by kernel_rfl) (by kernel_rfl) (by kernel_rfl) (by repeat (first | with_reducible exact PanicOk.body | with_reducible apply PanicOk.next | with_reducible apply PanicOk.block)) (OpV.move rfl) rfl (by kernel_rfl) ?_
   exact TA.sub (.cons (t := 1) rfl <| .cons (t := 5) rfl <| .cons (t := 6) rfl <| .cons (t := 36) rfl <| .nil) (TA.kle (Perm.kle (.cons (by first | exact P0 | exact P1 | exact P2 | exact P3 | exact P4 | exact P5 | exact P6) (.cons (by first | exact P0 | exact P1 | exact P2 | exact P3 | exact P4 | exact P5 | exact P6) (.cons (by first | exact P0 | exact P1 | exact P2 | exact P3 | exact P4 | exact P5 | exact P6) (.cons (by first | exact P0 | exact P1 | exact P2 | exact P3 | exact P4 | exact P5 | exact P6) .nil))))) (tail0 ()))
  ·
   refine TL.slit (qs := #[(0, _), (1, _)]) (fun _ f => by simp only [List.map_toArray, List.map_cons, List.map_nil]; rw [f.ev (x := .tmp 31) rfl]; (try rw [f.ev (x := .tmp 32) rfl])) (sl_34_2_0_1 knOne knTwo) rfl ?_
   intro b33
   refine TL.nil ?_
   refine TA.cont ((.cons (by first | exact P0 | exact P1 | exact P2 | exact P3 | exact P4 | exact P5 | exact P6 | exact P7 | exact P8) (.cons (by first | exact P0 | exact P1 | exact P2 | exact P3 | exact P4 | exact P5 | exact P6 | exact P7 | exact P8) .nil))) ?_
   refine TA.one (i := 1) (ls := #[true, true, true, true, true, false, false, false, false, false, false, false, false, false, false, false, false, false, false, false, false, false, false, false, false, false, false, false, false, false, false, false, false, false, false]) (by kernel_rfl) rfl (by kernel_rfl) (fun w1 => ?_)
   refine TL.callx (g := 11) rfl go_11 rfl (fun wz k1 => add_x k1 (commands_c wz (KOk.mo (b := b8) (c := c2) (T := 26) (e := 31) (A := A2) (xs := knM) k1 (by first | exact P0 | exact P1 | exact P2 | exact P3 | exact P4 | exact P5 | exact P6 | exact P7 | exact P8) (by first | exact P0 | exact P1 | exact P2 | exact P3 | exact P4 | exact P5 | exact P6 | exact P7 | exact P8)) (fun _ _ h => h) (by decide))) rfl ?_
   rintro ⟨A4, c4⟩ hA4
   refine TL.nil ?_
   refine TA.cont ((.cons (by first | exact P0 | exact P1 | exact P2 | exact P3 | exact P4 | exact P5 | exact P6 | exact P7 | exact P8) (.cons (by first | exact P0 | exact P1 | exact P2 | exact P3 | exact P4 | exact P5 | exact P6 | exact P7 | exact P8) .nil))) ?_
   refine TA.one (i := 5) (ls := #[true, true, true, true, true, true, false, false, false, false, false, false, false, false, false, false, false, false, false, false, false, false, false, false, false, false, false, false, false, false, false, false, false, false, false]) (by kernel_rfl) rfl (by kernel_rfl) (fun w1 => ?_)
   refine TL.call (g := 23) rfl go_23 rfl (fun w1 k1 => eqs_c w1 (KOk.row_sl (e := 41) (A := A4) (m := (cmdsV knM).length) (c := c4) (f := Cm.l) (xs := cmdsV knM) Cm.l_length k1 (by first | exact P0 | exact P1 | exact P2 | exact P3 | exact P4 | exact P5 | exact P6 | exact P7 | exact P8) rfl) (SlR.of_blk (b := b33) (T := 41) (q := (0, 0)) (xs := [knOne, knTwo]) Cm.l_length (k1.get (e := .blk b33 (cl [knOne, knTwo]) 41) (by first | exact P0 | exact P1 | exact P2 | exact P3 | exact P4 | exact P5 | exact P6 | exact P7 | exact P8)).2 rfl) (fun _ _ h => h)) rfl ?_
   refine TL.nil ?_
   refine TA.cont ((.cons (by first | exact P0 | exact P1 | exact P2 | exact P3 | exact P4 | exact P5 | exact P6 | exact P7 | exact P8) (.cons (by first | exact P0 | exact P1 | exact P2 | exact P3 | exact P4 | exact P5 | exact P6 | exact P7 | exact P8) .nil))) ?_
   refine TA.takeP (i := 6) (ls := #[true, true, true, true, true, true, true, false, false, false, false, false, false, false, false, false, false, false, false, false, false, false, false, false, false, false, false, false, false, false, false, false, false, false, false]) rfl rfl rfl rfl rfl (by kernel_rfl) (by kernel_rfl) (by kernel_rfl) (by repeat (first | with_reducible exact PanicOk.body | with_reducible apply PanicOk.next | with_reducible apply PanicOk.block)) (OpV.not rfl) rfl (by kernel_rfl) ?_
   refine TA.said (t := 35) rfl (show _ = Value.bool false from congrArg Value.bool (by rw [kn_cmds]; decide)) ?_
   refine TA.takeP (i := 7) (ls := #[true, true, true, true, true, true, true, true, false, false, false, false, false, false, false, false, false, false, false, false, false, false, false, false, false, false, false, false, false, false, false, false, false, false, false]) rfl rfl rfl rfl rfl (by kernel_rfl) (by kernel_rfl) (by kernel_rfl) (by repeat (first | with_reducible exact PanicOk.body | with_reducible apply PanicOk.next | with_reducible apply PanicOk.block)) (OpV.move rfl) rfl (by kernel_rfl) ?_
   exact TA.sub (.cons (t := 1) rfl <| .cons (t := 5) rfl <| .cons (t := 6) rfl <| .cons (t := 36) rfl <| .nil) (TA.kle (Perm.kle (.cons (by first | exact P0 | exact P1 | exact P2 | exact P3 | exact P4 | exact P5 | exact P6) (.cons (by first | exact P0 | exact P1 | exact P2 | exact P3 | exact P4 | exact P5 | exact P6) (.cons (by first | exact P0 | exact P1 | exact P2 | exact P3 | exact P4 | exact P5 | exact P6) (.cons (by first | exact P0 | exact P1 | exact P2 | exact P3 | exact P4 | exact P5 | exact P6) .nil))))) (tail0 ()))
end Go.Proofs.Ytaoepaonjeilgaa
