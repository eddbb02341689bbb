/-
  The walks of two laws. Condition: the package-level tables hold what they were laid with.
-/
import Derived.Test.YtfbkoflapamicaaDoorPe
namespace Go.Proofs.YtfbkoflapamicaaDoor
open Go.RowKit
set_option linter.unusedSimpArgs false
set_option linter.unusedVariables false
set_option maxRecDepth 100000 in
set_option maxHeartbeats 1000000 in
theorem packedCells_law (c : Cl) (w : World) (L : LaidW w) (hi : InP c.pen) : Calls Tryd.prog 3 #[.agg c.l.toArray] w (Ret (.bool true) w) := by
  refine calls_T (vs := [.agg c.l.toArray]) (L0 := [(0, .agg c.l.toArray)]) Tryd.func3 rfl rfl rfl rfl (KOk.none w) ?_
  refine T.seq ?_
  refine T.region ?_
  refine TL.boxA rfl rfl ?_
  intro b1
  refine TL.val (OpV.assign rfl) rfl ?_
  refine TL.nil ?_
  refine TE.next ?_
  refine T.seq ?_
  refine T.seq ?_
  refine T.region ?_
  refine TL.val (OpV.loadA ag_30 rfl (Cels.blkAt c.l (by first | exact P0 | exact P1 | exact P2 | exact P3 | exact P4) rfl rfl)) rfl ?_
  refine TL.call (g := 9) rfl go_9 rfl (fun w1 k1 => rcvalid_c c w1) rfl ?_
  refine TL.val (OpV.not rfl) rfl ?_
  refine TL.nil ?_
  refine TE.next ?_
  refine T.cond rfl ?_ ?_
  · intro ht5
    have hv : vCl c = false := by simpa using ht5
    refine T.seq ?_
    refine T.region ?_
    refine TL.val (OpV.loadA ag_30 rfl (Cels.blkAt c.l (by first | exact P0 | exact P1 | exact P2 | exact P3 | exact P4) rfl rfl)) rfl ?_
    refine TL.val (OpV.build (qs := #[]) (fun _ _ => by simp) (bld_34)) rfl ?_
    refine TL.call (g := 10) rfl go_10 rfl (fun w1 k1 => wordsl_c c W3.zero 2 w1 (L.below k1.bel) hi) rfl ?_
    refine TL.said (t := 8) rfl (show _ = Value.bool true from congrArg Value.bool ((by rw [wordsLawV, wordsV, wordsE, hv]; rfl))) ?_
    refine TL.val (OpV.move rfl) rfl ?_
    refine TL.open rfl rfl ?_
    refine TL.call (g := 11) rfl go_11 rfl (fun w1 k1 => known05_law w1 (L.below k1.bel)) rfl ?_
    refine TL.val ((by first | exact OpV.pick_t rfl rfl | exact OpV.pick_f rfl rfl)) rfl ?_
    refine TL.val (OpV.assign rfl) rfl ?_
    refine TL.nil ?_
    refine TE.sub (.cons (t := 2) rfl <| .nil) ?_
    refine TE.next ?_
    refine T.ret ?_
    refine TE.pass_ret ?_
    refine TE.ret1 rfl (ResV.tmp rfl) ?_
    exact fun w1 k1 => ⟨rfl, k1.bel⟩
  · intro ht5
    have hv : vCl c = true := by simpa using ht5
    obtain ⟨hb1, hb2, hb3⟩ := words_back hv hi
    refine T.skip ?_
    refine TE.next ?_
    refine T.seq ?_
    refine T.any ([.blk b1 c.l 30]) [] mix rfl rfl ?_
    refine TA.take (i := 0) (ls := #[true, false, false, false, false, false, false, false, false, false, false, false, false, false]) rfl rfl rfl rfl rfl (by kernel_rfl) (by kernel_rfl) (by kernel_rfl) (by kernel_rfl) (by repeat (first | with_reducible exact PanicOk.body | with_reducible apply PanicOk.next | with_reducible apply PanicOk.block)) ((by repeat (first | exact .all | apply Perm.drop))) (OpV.loadA ag_30 rfl (Cels.blkAt c.l (by first | exact P0 | exact P1 | exact P2 | exact P3 | exact P4) rfl rfl)) rfl (by kernel_rfl) ?_
    refine TA.take (i := 1) (ls := #[true, true, false, false, false, false, false, false, false, false, false, false, false, false]) rfl rfl rfl rfl rfl (by kernel_rfl) (by kernel_rfl) (by kernel_rfl) (by kernel_rfl) (by repeat (first | with_reducible exact PanicOk.body | with_reducible apply PanicOk.next | with_reducible apply PanicOk.block)) ((by repeat (first | exact .all | apply Perm.drop))) (OpV.loadA ag_30 rfl (Cels.blkAt c.l (by first | exact P0 | exact P1 | exact P2 | exact P3 | exact P4) rfl rfl)) rfl (by kernel_rfl) ?_
    refine TA.one (i := 2) (ls := #[true, true, true, false, false, false, false, false, false, false, false, false, false, false]) (by kernel_rfl) rfl (by kernel_rfl) (fun w1 => ?_)
    refine TL.call (g := 12) rfl go_12 rfl (fun w1 k1 => rwords_c c w1 hv hi) rfl ?_
    refine TL.nil ?_
    refine TA.cont ((by repeat (first | exact .all | apply Perm.drop))) ?_
    refine TA.one (i := 3) (ls := #[true, true, true, true, false, false, false, false, false, false, false, false, false, false]) (by kernel_rfl) rfl (by kernel_rfl) (fun w1 => ?_)
    refine TL.call (g := 10) rfl go_10 rfl (fun w1 k1 => wordsl_c c c.words 0 w1 (L.below k1.bel) hi) rfl ?_
    refine TL.said (t := 15) rfl (show _ = Value.bool true from congrArg Value.bool ((by rw [wordsLawV, wordsV, wordsE, hv]; simp))) ?_
    refine TL.nil ?_
    refine TA.cont ((by repeat (first | exact .all | apply Perm.drop))) ?_
    refine TA.takeP (i := 4) (ls := #[true, true, true, true, true, false, false, false, false, false, false, false, false, false]) rfl rfl rfl rfl rfl (by kernel_rfl) (by kernel_rfl) (by kernel_rfl) (by repeat (first | with_reducible exact PanicOk.body | with_reducible apply PanicOk.next | with_reducible apply PanicOk.block)) (OpV.move rfl) rfl (by kernel_rfl) ?_
    refine TA.take (i := 5) (ls := #[true, true, true, true, true, true, false, false, false, false, false, false, false, false]) rfl rfl rfl rfl rfl (by kernel_rfl) (by kernel_rfl) (by kernel_rfl) (by kernel_rfl) (by repeat (first | with_reducible exact PanicOk.body | with_reducible apply PanicOk.next | with_reducible apply PanicOk.block)) ((by repeat (first | exact .all | apply Perm.drop))) (OpV.loadA ag_30 rfl (Cels.blkAt c.l (by first | exact P0 | exact P1 | exact P2 | exact P3 | exact P4) rfl rfl)) rfl (by kernel_rfl) ?_
    refine TA.take (i := 7) (ls := #[true, true, true, true, true, true, false, true, false, false, false, false, false, false]) rfl rfl rfl rfl rfl (by kernel_rfl) (by kernel_rfl) (by kernel_rfl) (by kernel_rfl) (by repeat (first | with_reducible exact PanicOk.body | with_reducible apply PanicOk.next | with_reducible apply PanicOk.block)) ((by repeat (first | exact .all | apply Perm.drop))) (OpV.loadA ag_30 rfl (Cels.blkAt c.l (by first | exact P0 | exact P1 | exact P2 | exact P3 | exact P4) rfl rfl)) rfl (by kernel_rfl) ?_
    refine TA.one (i := 6) (ls := #[true, true, true, true, true, true, true, true, false, false, false, false, false, false]) (by kernel_rfl) rfl (by kernel_rfl) (fun w1 => ?_)
    refine TL.open rfl rfl ?_
    refine TL.call (g := 12) rfl go_12 rfl (fun w1 k1 => rwords_c c w1 hv hi) rfl ?_
    refine TL.nil ?_
    refine TA.cont ((by repeat (first | exact .all | apply Perm.drop))) ?_
    refine TA.one (i := 8) (ls := #[true, true, true, true, true, true, true, true, true, false, false, false, false, false]) (by kernel_rfl) rfl (by kernel_rfl) (fun w1 => ?_)
    refine TL.open rfl rfl ?_
    refine TL.call (g := 13) rfl go_13 rfl (fun w1 k1 => celll_c c.words c 0 w1 (L.below k1.bel) hb1) rfl ?_
    refine TL.said (t := 20) rfl (show _ = Value.bool true from congrArg Value.bool ((by rw [cellLawV, cellV, cellE, hb2, hb3]; simp))) ?_
    refine TL.nil ?_
    refine TA.cont ((by repeat (first | exact .all | apply Perm.drop))) ?_
    refine TA.takeP (i := 9) (ls := #[true, true, true, true, true, true, true, true, true, true, false, false, false, false]) rfl rfl rfl rfl rfl (by kernel_rfl) (by kernel_rfl) (by kernel_rfl) (by repeat (first | with_reducible exact PanicOk.body | with_reducible apply PanicOk.next | with_reducible apply PanicOk.block)) ((by first | exact OpV.pick_t rfl rfl | exact OpV.pick_f rfl rfl)) rfl (by kernel_rfl) ?_
    refine TA.takeP (i := 10) (ls := #[true, true, true, true, true, true, true, true, true, true, true, false, false, false]) rfl rfl rfl rfl rfl (by kernel_rfl) (by kernel_rfl) (by kernel_rfl) (by repeat (first | with_reducible exact PanicOk.body | with_reducible apply PanicOk.next | with_reducible apply PanicOk.block)) (OpV.move rfl) rfl (by kernel_rfl) ?_
    refine TA.one (i := 11) (ls := #[true, true, true, true, true, true, true, true, true, true, true, true, false, false]) (by kernel_rfl) rfl (by kernel_rfl) (fun w1 => ?_)
    refine TL.open rfl rfl ?_
    refine TL.call (g := 11) rfl go_11 rfl (fun w1 k1 => known05_law w1 (L.below k1.bel)) rfl ?_
    refine TL.nil ?_
    refine TA.cont ((by repeat (first | exact .all | apply Perm.drop))) ?_
    refine TA.takeP (i := 12) (ls := #[true, true, true, true, true, true, true, true, true, true, true, true, true, false]) rfl rfl rfl rfl rfl (by kernel_rfl) (by kernel_rfl) (by kernel_rfl) (by repeat (first | with_reducible exact PanicOk.body | with_reducible apply PanicOk.next | with_reducible apply PanicOk.block)) ((by first | exact OpV.pick_t rfl rfl | exact OpV.pick_f rfl rfl)) rfl (by kernel_rfl) ?_
    refine TA.takeP (i := 13) (ls := #[true, true, true, true, true, true, true, true, true, true, true, true, true, true]) rfl rfl rfl rfl rfl (by kernel_rfl) (by kernel_rfl) (by kernel_rfl) (by repeat (first | with_reducible exact PanicOk.body | with_reducible apply PanicOk.next | with_reducible apply PanicOk.block)) (OpV.assign rfl) rfl (by kernel_rfl) ?_
    refine TA.done (by kernel_rfl) ?_
    refine TE.sub (.cons (t := 2) rfl <| .nil) ?_
    refine TE.next ?_
    refine T.ret ?_
    refine TE.ret1 rfl (ResV.tmp rfl) ?_
    exact fun w1 k1 => ⟨rfl, k1.bel⟩
set_option maxRecDepth 100000 in
set_option maxHeartbeats 1000000 in
theorem packedWords_law (x : W3) (w : World) (L : LaidW w) (hx : InW x) : Calls Tryd.prog 4 #[.agg x.l.toArray] w (Ret (.bool true) w) := by
  refine calls_T (vs := [.agg x.l.toArray]) (L0 := [(0, .agg x.l.toArray)]) Tryd.func4 rfl rfl rfl rfl (KOk.none w) ?_
  refine T.seq ?_
  refine T.region ?_
  refine TL.boxA rfl rfl ?_
  intro b1
  refine TL.val (OpV.assign rfl) rfl ?_
  refine TL.nil ?_
  refine TE.next ?_
  refine T.seq ?_
  refine T.region ?_
  refine TL.val (OpV.loadA ag_34 rfl (Cels.blkAt x.l (by first | exact P0 | exact P1 | exact P2 | exact P3 | exact P4) rfl rfl)) rfl ?_
  refine TL.call (g := 14) rfl go_14 rfl (fun w1 k1 => rcell_c x w1 hx) rfl ?_
  refine TL.val (OpV.move rfl) rfl ?_
  refine TL.val (OpV.extract rfl rfl) rfl ?_
  refine TL.val (OpV.extract rfl rfl) rfl ?_
  refine TL.alloc zo_30 rfl ?_
  intro b3
  first
    | refine TL.storeAll rfl rfl szz_30 rfl rfl rfl (by first | exact P0 | exact P1 | exact P2 | exact P3 | exact P4) (by rfl) ?_
    | refine TL.store rfl rfl szz_30 rfl rfl rfl (by first | exact P0 | exact P1 | exact P2 | exact P3 | exact P4) (by first | exact Nat.le_of_ble_eq_true rfl | (simp; done) | (simp; omega)) (by simp only [putL, List.take_succ_cons, List.take_zero, List.drop_succ_cons, List.drop_zero, List.cons_append, List.nil_append, List.length_cons, List.length_nil, Nat.reduceAdd]; rfl) ?_
  refine TL.val (OpV.assign rfl) rfl ?_
  refine TL.nil ?_
  refine TE.sub (.cons (t := 1) rfl <| .cons (t := 3) rfl <| .cons (t := 4) rfl <| .nil) ?_
  refine TE.next ?_
  refine T.seq ?_
  refine T.seq ?_
  refine T.region ?_
  refine TL.val (OpV.move rfl) rfl ?_
  refine TL.val (OpV.not rfl) rfl ?_
  refine TL.nil ?_
  refine TE.next ?_
  refine T.cond rfl ?_ ?_
  · intro ht11
    have hv : okW x = false := by simpa using ht11
    refine T.seq ?_
    refine T.region ?_
    refine TL.val (OpV.loadA ag_34 rfl (Cels.blkAt x.l (by first | exact P0 | exact P1 | exact P2 | exact P3 | exact P4) rfl rfl)) rfl ?_
    refine TL.val (OpV.build (qs := #[]) (fun _ _ => by simp) (bld_30)) rfl ?_
    refine TL.call (g := 13) rfl go_13 rfl (fun w1 k1 => celll_c x Cl.zero 12 w1 (L.below k1.bel) hx) rfl ?_
    refine TL.said (t := 14) rfl (show _ = Value.bool true from congrArg Value.bool ((by rw [cellLawV, cellV, cellE, hv]; rfl))) ?_
    refine TL.val (OpV.move rfl) rfl ?_
    refine TL.open rfl rfl ?_
    refine TL.call (g := 11) rfl go_11 rfl (fun w1 k1 => known05_law w1 (L.below k1.bel)) rfl ?_
    refine TL.val ((by first | exact OpV.pick_t rfl rfl | exact OpV.pick_f rfl rfl)) rfl ?_
    refine TL.val (OpV.assign rfl) rfl ?_
    refine TL.nil ?_
    refine TE.sub (.cons (t := 2) rfl <| .nil) ?_
    refine TE.next ?_
    refine T.ret ?_
    refine TE.pass_ret ?_
    refine TE.ret1 rfl (ResV.tmp rfl) ?_
    exact fun w1 k1 => ⟨rfl, k1.bel⟩
  · intro ht11
    have hv : okW x = true := by simpa using ht11
    obtain ⟨hb1, hb2⟩ := cell_back hx hv
    have hvc := (okW_parts hv).2.2.2
    have hre : rcellV x = cellOf x := by rw [rcellV, if_pos]; rw [earlyW, (okW_parts hv).1, decide_eq_true (okW_parts hv).2.1]; rfl
    refine T.skip ?_
    refine TE.next ?_
    refine T.seq ?_
    refine T.region ?_
    refine TL.val (OpV.loadA ag_34 rfl (Cels.blkAt x.l (by first | exact P0 | exact P1 | exact P2 | exact P3 | exact P4) rfl rfl)) rfl ?_
    refine TL.val (OpV.loadA ag_30 rfl (Cels.blkAt (rcellV x).l (by first | exact P0 | exact P1 | exact P2 | exact P3 | exact P4) rfl rfl)) rfl ?_
    refine TL.said (t := 19) rfl (show _ = Value.agg (cellOf x).l.toArray by rw [hre]) ?_
    refine TL.call (g := 13) rfl go_13 rfl (fun w1 k1 => celll_c x (cellOf x) 0 w1 (L.below k1.bel) hx) rfl ?_
    refine TL.said (t := 20) rfl (show _ = Value.bool true from congrArg Value.bool ((by rw [cellLawV, cellV, cellE, hv]; simp))) ?_
    refine TL.val (OpV.move rfl) rfl ?_
    refine TL.open rfl rfl ?_
    refine TL.val (OpV.loadA ag_30 rfl (Cels.blkAt (rcellV x).l (by first | exact P0 | exact P1 | exact P2 | exact P3 | exact P4) rfl rfl)) rfl ?_
    refine TL.said (t := 22) rfl (show _ = Value.agg (cellOf x).l.toArray by rw [hre]) ?_
    refine TL.open rfl rfl ?_
    refine TL.val (OpV.loadA ag_34 rfl (Cels.blkAt x.l (by first | exact P0 | exact P1 | exact P2 | exact P3 | exact P4) rfl rfl)) rfl ?_
    refine TL.open rfl rfl ?_
    refine TL.call (g := 10) rfl go_10 rfl (fun w1 k1 => wordsl_c (cellOf x) x 0 w1 (L.below k1.bel) hb2) rfl ?_
    refine TL.said (t := 24) rfl (show _ = Value.bool true from congrArg Value.bool ((by rw [wordsLawV, wordsV, wordsE, hvc]; simp [hb1]))) ?_
    refine TL.val ((by first | exact OpV.pick_t rfl rfl | exact OpV.pick_f rfl rfl)) rfl ?_
    refine TL.val (OpV.move rfl) rfl ?_
    refine TL.open rfl rfl ?_
    refine TL.call (g := 11) rfl go_11 rfl (fun w1 k1 => known05_law w1 (L.below k1.bel)) rfl ?_
    refine TL.val ((by first | exact OpV.pick_t rfl rfl | exact OpV.pick_f rfl rfl)) rfl ?_
    refine TL.val (OpV.assign rfl) rfl ?_
    refine TL.nil ?_
    refine TE.sub (.cons (t := 2) rfl <| .nil) ?_
    refine TE.next ?_
    refine T.ret ?_
    refine TE.ret1 rfl (ResV.tmp rfl) ?_
    exact fun w1 k1 => ⟨rfl, k1.bel⟩
end Go.Proofs.YtfbkoflapamicaaDoor
