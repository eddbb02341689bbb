/-
  The laws' known inputs. Condition: the package-level tables hold what they were laid with.
-/
import Derived.Test.YtfbkoflapamicaaDoorPd
namespace Go.Proofs.YtfbkoflapamicaaDoor
open Go.RowKit
set_option linter.unusedSimpArgs false
set_option linter.unusedVariables false
theorem sl_42_3_0_1_2 (x0 x1 x2 : Cl) (w : World) : (Instr.buildSlice 42 3 #[(0, .agg x0.l.toArray), (1, .agg x1.l.toArray), (2, .agg x2.l.toArray)]).run Tryd.prog w = .ok (.slice (some ⟨w.heap.size, 0, none⟩) 3 3) (w.alloc (.cells (fl [x0, x1, x2]).toArray 30)) := by kernel_rfl
theorem sl_42_5_0_1_2_3_4 (x0 x1 x2 x3 x4 : Cl) (w : World) : (Instr.buildSlice 42 5 #[(0, .agg x0.l.toArray), (1, .agg x1.l.toArray), (2, .agg x2.l.toArray), (3, .agg x3.l.toArray), (4, .agg x4.l.toArray)]).run Tryd.prog w = .ok (.slice (some ⟨w.heap.size, 0, none⟩) 5 5) (w.alloc (.cells (fl [x0, x1, x2, x3, x4]).toArray 30)) := by kernel_rfl
theorem sl_43_2_0_1 (x0 x1 : Rn) (w : World) : (Instr.buildSlice 43 2 #[(0, .agg x0.l.toArray), (1, .agg x1.l.toArray)]).run Tryd.prog w = .ok (.slice (some ⟨w.heap.size, 0, none⟩) 2 2) (w.alloc (.cells (rl [x0, x1]).toArray 67)) := by kernel_rfl
theorem sl_43_3_0_1_2 (x0 x1 x2 : Rn) (w : World) : (Instr.buildSlice 43 3 #[(0, .agg x0.l.toArray), (1, .agg x1.l.toArray), (2, .agg x2.l.toArray)]).run Tryd.prog w = .ok (.slice (some ⟨w.heap.size, 0, none⟩) 3 3) (w.alloc (.cells (rl [x0, x1, x2]).toArray 67)) := by kernel_rfl
theorem sl_43_4_0_1_2_3 (x0 x1 x2 x3 : Rn) (w : World) : (Instr.buildSlice 43 4 #[(0, .agg x0.l.toArray), (1, .agg x1.l.toArray), (2, .agg x2.l.toArray), (3, .agg x3.l.toArray)]).run Tryd.prog w = .ok (.slice (some ⟨w.heap.size, 0, none⟩) 4 4) (w.alloc (.cells (rl [x0, x1, x2, x3]).toArray 67)) := by kernel_rfl
theorem bld_34_0_1 (a0 a1 : Int) (w : World) : (Instr.build 34 #[(0, .int .u64 a0), (1, .int .u64 a1)]).run Tryd.prog w = .ok (.agg (W3.mk a0 a1 0).l.toArray) w := by kernel_rfl
set_option maxRecDepth 100000 in
set_option maxHeartbeats 2000000 in
theorem known05_law (w : World) (L : LaidW w) : Calls Tryd.prog 11 #[] w (Ret (.bool true) w) := by
  refine calls_T (vs := []) (L0 := []) Tryd.func11 rfl rfl rfl rfl (KOk.none w) ?_
  refine T.seq ?_
  refine T.region ?_
  refine TL.val (OpV.assign rfl) rfl ?_
  refine TL.nil ?_
  refine TE.next ?_
  refine T.seq ?_
  refine T.region ?_
  refine TL.val (OpV.build (qs := #[(0, _), (2, _)]) (fun _ f => by simp only [List.map_toArray, List.map_cons, List.map_nil]; rw [f.ev (x := .const (.int .i32 97)) rfl, f.ev (x := .const (.int .i64 1)) rfl]) (bld_30_0_2 (97) (1) )) rfl ?_
  refine TL.val (OpV.build (qs := #[(2, _)]) (fun _ f => by simp only [List.map_toArray, List.map_cons, List.map_nil]; rw [f.ev (x := .const (.int .i64 1)) rfl]) (bld_30_2 (1) )) rfl ?_
  refine TL.val (OpV.build (qs := #[(0, _), (2, _)]) (fun _ f => by simp only [List.map_toArray, List.map_cons, List.map_nil]; rw [f.ev (x := .const (.int .i32 19968)) rfl, f.ev (x := .const (.int .i64 2)) rfl]) (bld_30_0_2 (19968) (2) )) rfl ?_
  refine TL.val (OpV.build (qs := #[]) (fun _ _ => by simp) (bld_30 )) rfl ?_
  refine TL.alloc zo_30 rfl ?_
  intro b1
  refine TL.alloc zo_30 rfl ?_
  intro b2
  refine TL.alloc zo_30 rfl ?_
  intro b3
  refine TL.alloc zo_30 rfl ?_
  intro b4
  first
    | refine TL.storeAll rfl rfl szz_30 rfl rfl rfl (by first | exact P0 | exact P1 | exact P2 | exact P3 | exact P4 | exact P5 | exact P6 | exact P7 | exact P8 | exact P9) (by rfl) ?_
    | refine TL.store rfl rfl szz_30 rfl rfl rfl (by first | exact P0 | exact P1 | exact P2 | exact P3 | exact P4 | exact P5 | exact P6 | exact P7 | exact P8 | exact P9) (by first | exact Nat.le_of_ble_eq_true rfl | (simp; done) | (simp; omega)) (by simp only [putL, List.take_succ_cons, List.take_zero, List.drop_succ_cons, List.drop_zero, List.cons_append, List.nil_append, List.length_cons, List.length_nil, Nat.reduceAdd]; rfl) ?_
  first
    | refine TL.storeAll rfl rfl szz_30 rfl rfl rfl (by first | exact P0 | exact P1 | exact P2 | exact P3 | exact P4 | exact P5 | exact P6 | exact P7 | exact P8 | exact P9) (by rfl) ?_
    | refine TL.store rfl rfl szz_30 rfl rfl rfl (by first | exact P0 | exact P1 | exact P2 | exact P3 | exact P4 | exact P5 | exact P6 | exact P7 | exact P8 | exact P9) (by first | exact Nat.le_of_ble_eq_true rfl | (simp; done) | (simp; omega)) (by simp only [putL, List.take_succ_cons, List.take_zero, List.drop_succ_cons, List.drop_zero, List.cons_append, List.nil_append, List.length_cons, List.length_nil, Nat.reduceAdd]; rfl) ?_
  first
    | refine TL.storeAll rfl rfl szz_30 rfl rfl rfl (by first | exact P0 | exact P1 | exact P2 | exact P3 | exact P4 | exact P5 | exact P6 | exact P7 | exact P8 | exact P9) (by rfl) ?_
    | refine TL.store rfl rfl szz_30 rfl rfl rfl (by first | exact P0 | exact P1 | exact P2 | exact P3 | exact P4 | exact P5 | exact P6 | exact P7 | exact P8 | exact P9) (by first | exact Nat.le_of_ble_eq_true rfl | (simp; done) | (simp; omega)) (by simp only [putL, List.take_succ_cons, List.take_zero, List.drop_succ_cons, List.drop_zero, List.cons_append, List.nil_append, List.length_cons, List.length_nil, Nat.reduceAdd]; rfl) ?_
  first
    | refine TL.storeAll rfl rfl szz_30 rfl rfl rfl (by first | exact P0 | exact P1 | exact P2 | exact P3 | exact P4 | exact P5 | exact P6 | exact P7 | exact P8 | exact P9) (by rfl) ?_
    | refine TL.store rfl rfl szz_30 rfl rfl rfl (by first | exact P0 | exact P1 | exact P2 | exact P3 | exact P4 | exact P5 | exact P6 | exact P7 | exact P8 | exact P9) (by first | exact Nat.le_of_ble_eq_true rfl | (simp; done) | (simp; omega)) (by simp only [putL, List.take_succ_cons, List.take_zero, List.drop_succ_cons, List.drop_zero, List.cons_append, List.nil_append, List.length_cons, List.length_nil, Nat.reduceAdd]; rfl) ?_
  refine TL.nil ?_
  refine TE.next ?_
  refine T.seq ?_
  refine T.region ?_
  refine TL.val (OpV.loadA ag_30 rfl (Cels.blkAt (Cl.mk (97) 0 0 0 (1) Pen.zero).l (by first | exact P0 | exact P1 | exact P2 | exact P3 | exact P4 | exact P5 | exact P6 | exact P7 | exact P8 | exact P9) rfl rfl)) rfl ?_
  refine TL.alloc zo_30 rfl ?_
  intro b5
  first
    | refine TL.storeAll rfl rfl szz_30 rfl rfl rfl (by first | exact P0 | exact P1 | exact P2 | exact P3 | exact P4 | exact P5 | exact P6 | exact P7 | exact P8 | exact P9) (by rfl) ?_
    | refine TL.store rfl rfl szz_30 rfl rfl rfl (by first | exact P0 | exact P1 | exact P2 | exact P3 | exact P4 | exact P5 | exact P6 | exact P7 | exact P8 | exact P9) (by first | exact Nat.le_of_ble_eq_true rfl | (simp; done) | (simp; omega)) (by simp only [putL, List.take_succ_cons, List.take_zero, List.drop_succ_cons, List.drop_zero, List.cons_append, List.nil_append, List.length_cons, List.length_nil, Nat.reduceAdd]; rfl) ?_
  refine TL.nil ?_
  refine TE.next ?_
  refine T.seq ?_
  refine T.region ?_
  refine TL.val (OpV.fieldAddr rfl fo_30_1) rfl ?_
  refine TL.val (OpV.indexAddrA (j := 0) ae_22 rfl rfl (by first | rfl | omega) (by omega)) rfl ?_
  refine TL.store (o := 1) (cs' := (Cl.mk (97) 769 0 0 (1) Pen.zero).l) rfl rfl szz_21 rfl rfl rfl (by first | exact P0 | exact P1 | exact P2 | exact P3 | exact P4 | exact P5 | exact P6 | exact P7 | exact P8) (Nat.le_of_ble_eq_true rfl) (by rfl) ?_
  refine TL.nil ?_
  refine TE.sub (.cons (t := 1) rfl <| .cons (t := 2) rfl <| .cons (t := 3) rfl <| .cons (t := 4) rfl <| .cons (t := 5) rfl <| .nil) ?_
  refine TE.next ?_
  refine T.seq ?_
  refine T.region ?_
  refine TL.val (OpV.build (qs := #[(0, _), (1, _)]) (fun _ f => by simp only [List.map_toArray, List.map_cons, List.map_nil]; rw [f.ev (x := .const (.int .u64 0)) rfl, f.ev (x := .const (.int .u64 2097249)) rfl]) (bld_34_0_1 (0) (2097249) )) rfl ?_
  refine TL.val (OpV.build (qs := #[(0, _), (1, _)]) (fun _ f => by simp only [List.map_toArray, List.map_cons, List.map_nil]; rw [f.ev (x := .const (.int .u64 0)) rfl, f.ev (x := .const (.int .u64 2097152)) rfl]) (bld_34_0_1 (0) (2097152) )) rfl ?_
  refine TL.val (OpV.build (qs := #[(0, _), (1, _)]) (fun _ f => by simp only [List.map_toArray, List.map_cons, List.map_nil]; rw [f.ev (x := .const (.int .u64 0)) rfl, f.ev (x := .const (.int .u64 4214272)) rfl]) (bld_34_0_1 (0) (4214272) )) rfl ?_
  refine TL.alloc zo_34 rfl ?_
  intro b6
  refine TL.alloc zo_34 rfl ?_
  intro b7
  refine TL.alloc zo_34 rfl ?_
  intro b8
  first
    | refine TL.storeAll rfl rfl szz_34 rfl rfl rfl (by first | exact P0 | exact P1 | exact P2 | exact P3 | exact P4 | exact P5 | exact P6 | exact P7 | exact P8 | exact P9) (by rfl) ?_
    | refine TL.store rfl rfl szz_34 rfl rfl rfl (by first | exact P0 | exact P1 | exact P2 | exact P3 | exact P4 | exact P5 | exact P6 | exact P7 | exact P8 | exact P9) (by first | exact Nat.le_of_ble_eq_true rfl | (simp; done) | (simp; omega)) (by simp only [putL, List.take_succ_cons, List.take_zero, List.drop_succ_cons, List.drop_zero, List.cons_append, List.nil_append, List.length_cons, List.length_nil, Nat.reduceAdd]; rfl) ?_
  first
    | refine TL.storeAll rfl rfl szz_34 rfl rfl rfl (by first | exact P0 | exact P1 | exact P2 | exact P3 | exact P4 | exact P5 | exact P6 | exact P7 | exact P8 | exact P9) (by rfl) ?_
    | refine TL.store rfl rfl szz_34 rfl rfl rfl (by first | exact P0 | exact P1 | exact P2 | exact P3 | exact P4 | exact P5 | exact P6 | exact P7 | exact P8 | exact P9) (by first | exact Nat.le_of_ble_eq_true rfl | (simp; done) | (simp; omega)) (by simp only [putL, List.take_succ_cons, List.take_zero, List.drop_succ_cons, List.drop_zero, List.cons_append, List.nil_append, List.length_cons, List.length_nil, Nat.reduceAdd]; rfl) ?_
  first
    | refine TL.storeAll rfl rfl szz_34 rfl rfl rfl (by first | exact P0 | exact P1 | exact P2 | exact P3 | exact P4 | exact P5 | exact P6 | exact P7 | exact P8 | exact P9) (by rfl) ?_
    | refine TL.store rfl rfl szz_34 rfl rfl rfl (by first | exact P0 | exact P1 | exact P2 | exact P3 | exact P4 | exact P5 | exact P6 | exact P7 | exact P8 | exact P9) (by first | exact Nat.le_of_ble_eq_true rfl | (simp; done) | (simp; omega)) (by simp only [putL, List.take_succ_cons, List.take_zero, List.drop_succ_cons, List.drop_zero, List.cons_append, List.nil_append, List.length_cons, List.length_nil, Nat.reduceAdd]; rfl) ?_
  refine TL.nil ?_
  refine TE.next ?_
  refine T.seq ?_
  refine T.seq ?_
  refine T.region ?_
  refine TL.val (OpV.loadA ag_30 rfl (Cels.blkAt (Cl.mk (97) 0 0 0 (1) Pen.zero).l (by first | exact P0 | exact P1 | exact P2 | exact P3 | exact P4 | exact P5 | exact P6 | exact P7 | exact P8 | exact P9) rfl rfl)) rfl ?_
  refine TL.val (OpV.loadA ag_34 rfl (Cels.blkAt (W3.mk (0) (2097249) 0).l (by first | exact P0 | exact P1 | exact P2 | exact P3 | exact P4 | exact P5 | exact P6 | exact P7 | exact P8 | exact P9) rfl rfl)) rfl ?_
  refine TL.call (g := 10) rfl go_10 rfl (fun w1 k1 => wordsl_c (Cl.mk (97) 0 0 0 (1) Pen.zero) (W3.mk (0) (2097249) 0) (0) w1 (L.below k1.bel) (inPB_ok (by kernel_rfl))) rfl ?_
  refine TL.said (t := 24) rfl (show _ = Value.bool true from congrArg Value.bool ((by kernel_rfl))) ?_
  refine TL.val (OpV.not rfl) rfl ?_
  refine TL.val (OpV.move rfl) rfl ?_
  refine TL.open rfl rfl ?_
  refine TL.val (OpV.loadA ag_30 rfl (Cels.blkAt (Cl.mk 0 0 0 0 (1) Pen.zero).l (by first | exact P0 | exact P1 | exact P2 | exact P3 | exact P4 | exact P5 | exact P6 | exact P7 | exact P8 | exact P9) rfl rfl)) rfl ?_
  refine TL.open rfl rfl ?_
  refine TL.val (OpV.loadA ag_34 rfl (Cels.blkAt (W3.mk (0) (2097152) 0).l (by first | exact P0 | exact P1 | exact P2 | exact P3 | exact P4 | exact P5 | exact P6 | exact P7 | exact P8 | exact P9) rfl rfl)) rfl ?_
  refine TL.open rfl rfl ?_
  refine TL.call (g := 10) rfl go_10 rfl (fun w1 k1 => wordsl_c (Cl.mk 0 0 0 0 (1) Pen.zero) (W3.mk (0) (2097152) 0) (0) w1 (L.below k1.bel) (inPB_ok (by kernel_rfl))) rfl ?_
  refine TL.said (t := 29) rfl (show _ = Value.bool true from congrArg Value.bool ((by kernel_rfl))) ?_
  refine TL.open rfl rfl ?_
  refine TL.val (OpV.not rfl) rfl ?_
  refine TL.val ((by first | exact OpV.pick_t rfl rfl | exact OpV.pick_f rfl rfl)) rfl ?_
  refine TL.val (OpV.move rfl) rfl ?_
  refine TL.open rfl rfl ?_
  refine TL.val (OpV.loadA ag_30 rfl (Cels.blkAt (Cl.mk (19968) 0 0 0 (2) Pen.zero).l (by first | exact P0 | exact P1 | exact P2 | exact P3 | exact P4 | exact P5 | exact P6 | exact P7 | exact P8 | exact P9) rfl rfl)) rfl ?_
  refine TL.open rfl rfl ?_
  refine TL.val (OpV.loadA ag_34 rfl (Cels.blkAt (W3.mk (0) (4214272) 0).l (by first | exact P0 | exact P1 | exact P2 | exact P3 | exact P4 | exact P5 | exact P6 | exact P7 | exact P8 | exact P9) rfl rfl)) rfl ?_
  refine TL.open rfl rfl ?_
  refine TL.call (g := 10) rfl go_10 rfl (fun w1 k1 => wordsl_c (Cl.mk (19968) 0 0 0 (2) Pen.zero) (W3.mk (0) (4214272) 0) (0) w1 (L.below k1.bel) (inPB_ok (by kernel_rfl))) rfl ?_
  refine TL.said (t := 35) rfl (show _ = Value.bool true from congrArg Value.bool ((by kernel_rfl))) ?_
  refine TL.open rfl rfl ?_
  refine TL.val (OpV.not rfl) rfl ?_
  refine TL.val ((by first | exact OpV.pick_t rfl rfl | exact OpV.pick_f rfl rfl)) rfl ?_
  refine TL.val (OpV.move rfl) rfl ?_
  refine TL.open rfl rfl ?_
  refine TL.val (OpV.loadA ag_30 rfl (Cels.blkAt Cl.zero.l (by first | exact P0 | exact P1 | exact P2 | exact P3 | exact P4 | exact P5 | exact P6 | exact P7 | exact P8 | exact P9) rfl rfl)) rfl ?_
  refine TL.open rfl rfl ?_
  refine TL.val (OpV.build (qs := #[]) (fun _ _ => by simp) (bld_34 )) rfl ?_
  refine TL.open rfl rfl ?_
  refine TL.call (g := 10) rfl go_10 rfl (fun w1 k1 => wordsl_c Cl.zero W3.zero (0) w1 (L.below k1.bel) (inPB_ok (by kernel_rfl))) rfl ?_
  refine TL.said (t := 41) rfl (show _ = Value.bool true from congrArg Value.bool ((by kernel_rfl))) ?_
  refine TL.open rfl rfl ?_
  refine TL.val (OpV.not rfl) rfl ?_
  refine TL.val ((by first | exact OpV.pick_t rfl rfl | exact OpV.pick_f rfl rfl)) rfl ?_
  refine TL.val (OpV.move rfl) rfl ?_
  refine TL.open rfl rfl ?_
  refine TL.val (OpV.loadA ag_30 rfl (Cels.blkAt (Cl.mk (97) 769 0 0 (1) Pen.zero).l (by first | exact P0 | exact P1 | exact P2 | exact P3 | exact P4 | exact P5 | exact P6 | exact P7 | exact P8 | exact P9) rfl rfl)) rfl ?_
  refine TL.open rfl rfl ?_
  refine TL.val (OpV.build (qs := #[(0, _), (1, _), (2, _)]) (fun _ f => by simp only [List.map_toArray, List.map_cons, List.map_nil]; rw [f.ev (x := .const (.int .u64 0)) rfl, f.ev (x := .const (.int .u64 2097249)) rfl, f.ev (x := .const (.int .u64 769)) rfl]) (bld_34_0_1_2 (0) (2097249) (769) )) rfl ?_
  refine TL.open rfl rfl ?_
  refine TL.call (g := 10) rfl go_10 rfl (fun w1 k1 => wordsl_c (Cl.mk (97) 769 0 0 (1) Pen.zero) (W3.mk (0) (2097249) (769)) (0) w1 (L.below k1.bel) (inPB_ok (by kernel_rfl))) rfl ?_
  refine TL.said (t := 47) rfl (show _ = Value.bool true from congrArg Value.bool ((by kernel_rfl))) ?_
  refine TL.open rfl rfl ?_
  refine TL.val (OpV.not rfl) rfl ?_
  refine TL.val ((by first | exact OpV.pick_t rfl rfl | exact OpV.pick_f rfl rfl)) rfl ?_
  refine TL.nil ?_
  refine TE.sub (.cons (t := 1) rfl <| .cons (t := 2) rfl <| .cons (t := 3) rfl <| .cons (t := 4) rfl <| .cons (t := 6) rfl <| .cons (t := 7) rfl <| .cons (t := 8) rfl <| .cons (t := 49) rfl <| .nil) ?_
  refine TE.next ?_
  refine T.no rfl ?_
  refine T.skip ?_
  refine TE.next ?_
  refine T.seq ?_
  refine T.region ?_
  refine TL.val (OpV.build (qs := #[]) (fun _ _ => by simp) (bld_30 )) rfl ?_
  refine TL.alloc zo_30 rfl ?_
  intro b9
  first
    | refine TL.storeAll rfl rfl szz_30 rfl rfl rfl (by first | exact P0 | exact P1 | exact P2 | exact P3 | exact P4 | exact P5 | exact P6 | exact P7 | exact P8 | exact P9) (by rfl) ?_
    | refine TL.store rfl rfl szz_30 rfl rfl rfl (by first | exact P0 | exact P1 | exact P2 | exact P3 | exact P4 | exact P5 | exact P6 | exact P7 | exact P8 | exact P9) (by first | exact Nat.le_of_ble_eq_true rfl | (simp; done) | (simp; omega)) (by simp only [putL, List.take_succ_cons, List.take_zero, List.drop_succ_cons, List.drop_zero, List.cons_append, List.nil_append, List.length_cons, List.length_nil, Nat.reduceAdd]; rfl) ?_
  refine TL.val (OpV.assign rfl) rfl ?_
  refine TL.nil ?_
  refine TE.next ?_
  refine T.seq ?_
  refine T.seq ?_
  refine T.region ?_
  refine TL.val (OpV.loadA ag_34 rfl (Cels.blkAt (W3.mk (0) (2097249) 0).l (by first | exact P0 | exact P1 | exact P2 | exact P3 | exact P4 | exact P5 | exact P6 | exact P7 | exact P8 | exact P9) rfl rfl)) rfl ?_
  refine TL.val (OpV.loadA ag_30 rfl (Cels.blkAt (Cl.mk (97) 0 0 0 (1) Pen.zero).l (by first | exact P0 | exact P1 | exact P2 | exact P3 | exact P4 | exact P5 | exact P6 | exact P7 | exact P8 | exact P9) rfl rfl)) rfl ?_
  refine TL.call (g := 13) rfl go_13 rfl (fun w1 k1 => celll_c (W3.mk (0) (2097249) 0) (Cl.mk (97) 0 0 0 (1) Pen.zero) (0) w1 (L.below k1.bel) (inWB_ok (by kernel_rfl))) rfl ?_
  refine TL.said (t := 53) rfl (show _ = Value.bool true from congrArg Value.bool ((by kernel_rfl))) ?_
  refine TL.val (OpV.not rfl) rfl ?_
  refine TL.val (OpV.move rfl) rfl ?_
  refine TL.open rfl rfl ?_
  refine TL.val (OpV.build (qs := #[(0, _), (1, _)]) (fun _ f => by simp only [List.map_toArray, List.map_cons, List.map_nil]; rw [f.ev (x := .const (.int .u64 0)) rfl, f.ev (x := .const (.int .u64 97)) rfl]) (bld_34_0_1 (0) (97) )) rfl ?_
  refine TL.open rfl rfl ?_
  refine TL.val (OpV.loadA ag_30 rfl (Cels.blkAt Cl.zero.l (by first | exact P0 | exact P1 | exact P2 | exact P3 | exact P4 | exact P5 | exact P6 | exact P7 | exact P8 | exact P9) rfl rfl)) rfl ?_
  refine TL.open rfl rfl ?_
  refine TL.val (OpV.move rfl) rfl ?_
  refine TL.open rfl rfl ?_
  refine TL.call (g := 13) rfl go_13 rfl (fun w1 k1 => celll_c (W3.mk (0) (97) 0) Cl.zero (12) w1 (L.below k1.bel) (inWB_ok (by kernel_rfl))) rfl ?_
  refine TL.said (t := 59) rfl (show _ = Value.bool true from congrArg Value.bool ((by kernel_rfl))) ?_
  refine TL.open rfl rfl ?_
  refine TL.val (OpV.not rfl) rfl ?_
  refine TL.val ((by first | exact OpV.pick_t rfl rfl | exact OpV.pick_f rfl rfl)) rfl ?_
  refine TL.val (OpV.move rfl) rfl ?_
  refine TL.open rfl rfl ?_
  refine TL.val (OpV.build (qs := #[(0, _), (1, _)]) (fun _ f => by simp only [List.map_toArray, List.map_cons, List.map_nil]; rw [f.ev (x := .const (.int .u64 1)) rfl, f.ev (x := .const (.int .u64 2097152)) rfl]) (bld_34_0_1 (1) (2097152) )) rfl ?_
  refine TL.open rfl rfl ?_
  refine TL.val (OpV.loadA ag_30 rfl (Cels.blkAt Cl.zero.l (by first | exact P0 | exact P1 | exact P2 | exact P3 | exact P4 | exact P5 | exact P6 | exact P7 | exact P8 | exact P9) rfl rfl)) rfl ?_
  refine TL.open rfl rfl ?_
  refine TL.val (OpV.move rfl) rfl ?_
  refine TL.open rfl rfl ?_
  refine TL.call (g := 13) rfl go_13 rfl (fun w1 k1 => celll_c (W3.mk (1) (2097152) 0) Cl.zero (12) w1 (L.below k1.bel) (inWB_ok (by kernel_rfl))) rfl ?_
  refine TL.said (t := 66) rfl (show _ = Value.bool true from congrArg Value.bool ((by kernel_rfl))) ?_
  refine TL.open rfl rfl ?_
  refine TL.val (OpV.not rfl) rfl ?_
  refine TL.val ((by first | exact OpV.pick_t rfl rfl | exact OpV.pick_f rfl rfl)) rfl ?_
  refine TL.val (OpV.move rfl) rfl ?_
  refine TL.open rfl rfl ?_
  refine TL.val (OpV.build (qs := #[(0, _), (1, _)]) (fun _ f => by simp only [List.map_toArray, List.map_cons, List.map_nil]; rw [f.ev (x := .const (.int .u64 0)) rfl, f.ev (x := .const (.int .u64 8388608)) rfl]) (bld_34_0_1 (0) (8388608) )) rfl ?_
  refine TL.open rfl rfl ?_
  refine TL.val (OpV.loadA ag_30 rfl (Cels.blkAt Cl.zero.l (by first | exact P0 | exact P1 | exact P2 | exact P3 | exact P4 | exact P5 | exact P6 | exact P7 | exact P8 | exact P9) rfl rfl)) rfl ?_
  refine TL.open rfl rfl ?_
  refine TL.val (OpV.move rfl) rfl ?_
  refine TL.open rfl rfl ?_
  refine TL.call (g := 13) rfl go_13 rfl (fun w1 k1 => celll_c (W3.mk (0) (8388608) 0) Cl.zero (12) w1 (L.below k1.bel) (inWB_ok (by kernel_rfl))) rfl ?_
  refine TL.said (t := 73) rfl (show _ = Value.bool true from congrArg Value.bool ((by kernel_rfl))) ?_
  refine TL.open rfl rfl ?_
  refine TL.val (OpV.not rfl) rfl ?_
  refine TL.val ((by first | exact OpV.pick_t rfl rfl | exact OpV.pick_f rfl rfl)) rfl ?_
  refine TL.val (OpV.move rfl) rfl ?_
  refine TL.open rfl rfl ?_
  refine TL.val (OpV.build (qs := #[(0, _), (1, _), (2, _)]) (fun _ f => by simp only [List.map_toArray, List.map_cons, List.map_nil]; rw [f.ev (x := .const (.int .u64 0)) rfl, f.ev (x := .const (.int .u64 2097152)) rfl, f.ev (x := .const (.int .u64 769)) rfl]) (bld_34_0_1_2 (0) (2097152) (769) )) rfl ?_
  refine TL.open rfl rfl ?_
  refine TL.val (OpV.loadA ag_30 rfl (Cels.blkAt Cl.zero.l (by first | exact P0 | exact P1 | exact P2 | exact P3 | exact P4 | exact P5 | exact P6 | exact P7 | exact P8 | exact P9) rfl rfl)) rfl ?_
  refine TL.open rfl rfl ?_
  refine TL.val (OpV.move rfl) rfl ?_
  refine TL.open rfl rfl ?_
  refine TL.call (g := 13) rfl go_13 rfl (fun w1 k1 => celll_c (W3.mk (0) (2097152) (769)) Cl.zero (12) w1 (L.below k1.bel) (inWB_ok (by kernel_rfl))) rfl ?_
  refine TL.said (t := 80) rfl (show _ = Value.bool true from congrArg Value.bool ((by kernel_rfl))) ?_
  refine TL.open rfl rfl ?_
  refine TL.val (OpV.not rfl) rfl ?_
  refine TL.val ((by first | exact OpV.pick_t rfl rfl | exact OpV.pick_f rfl rfl)) rfl ?_
  refine TL.val (OpV.move rfl) rfl ?_
  refine TL.open rfl rfl ?_
  refine TL.val (OpV.build (qs := #[(0, _), (2, _)]) (fun _ f => by simp only [List.map_toArray, List.map_cons, List.map_nil]; rw [f.ev (x := .const (.int .i32 97)) rfl, f.ev (x := .const (.int .i64 2)) rfl]) (bld_30_0_2 (97) (2) )) rfl ?_
  refine TL.open rfl rfl ?_
  refine TL.val (OpV.build (qs := #[]) (fun _ _ => by simp) (bld_34 )) rfl ?_
  refine TL.open rfl rfl ?_
  refine TL.call (g := 10) rfl go_10 rfl (fun w1 k1 => wordsl_c (Cl.mk (97) 0 0 0 (2) Pen.zero) W3.zero (2) w1 (L.below k1.bel) (inPB_ok (by kernel_rfl))) rfl ?_
  refine TL.said (t := 86) rfl (show _ = Value.bool true from congrArg Value.bool ((by kernel_rfl))) ?_
  refine TL.open rfl rfl ?_
  refine TL.val (OpV.not rfl) rfl ?_
  refine TL.val ((by first | exact OpV.pick_t rfl rfl | exact OpV.pick_f rfl rfl)) rfl ?_
  refine TL.nil ?_
  refine TE.sub (.cons (t := 1) rfl <| .cons (t := 2) rfl <| .cons (t := 3) rfl <| .cons (t := 4) rfl <| .cons (t := 6) rfl <| .cons (t := 7) rfl <| .cons (t := 8) rfl <| .cons (t := 10) rfl <| .cons (t := 88) rfl <| .nil) ?_
  refine TE.next ?_
  refine T.no rfl ?_
  refine T.skip ?_
  refine TE.next ?_
  refine T.seq ?_
  refine T.kle (K' := [.blk b9 Cl.zero.l 30, .blk b8 (W3.mk (0) (4214272) 0).l 34, .blk b7 (W3.mk (0) (2097152) 0).l 34, .blk b6 (W3.mk (0) (2097249) 0).l 34, .blk b5 (Cl.mk (97) 769 0 0 (1) Pen.zero).l 30, .blk b4 Cl.zero.l 30, .blk b3 (Cl.mk (19968) 0 0 0 (2) Pen.zero).l 30, .blk b2 (Cl.mk 0 0 0 0 (1) Pen.zero).l 30, .blk b1 (Cl.mk (97) 0 0 0 (1) Pen.zero).l 30]) (Perm.kle (by repeat (first | exact .all | apply Perm.drop))) ?_
  refine T.any ([.blk b9 Cl.zero.l 30, .blk b8 (W3.mk (0) (4214272) 0).l 34, .blk b7 (W3.mk (0) (2097152) 0).l 34, .blk b6 (W3.mk (0) (2097249) 0).l 34, .blk b5 (Cl.mk (97) 769 0 0 (1) Pen.zero).l 30, .blk b4 Cl.zero.l 30, .blk b3 (Cl.mk (19968) 0 0 0 (2) Pen.zero).l 30, .blk b2 (Cl.mk 0 0 0 0 (1) Pen.zero).l 30, .blk b1 (Cl.mk (97) 0 0 0 (1) Pen.zero).l 30]) [] mix rfl rfl ?_
  refine TA.take (i := 0) (ls := #[true, false, false, false, false, false, false]) rfl rfl rfl rfl rfl (by kernel_rfl) (by kernel_rfl) (by kernel_rfl) (by kernel_rfl) (by repeat (first | with_reducible exact PanicOk.body | with_reducible apply PanicOk.next | with_reducible apply PanicOk.block)) ((by repeat (first | exact .all | apply Perm.drop))) (OpV.loadA ag_34 rfl (Cels.blkAt (W3.mk (0) (2097249) 0).l (by first | exact P0 | exact P1 | exact P2 | exact P3 | exact P4 | exact P5 | exact P6 | exact P7 | exact P8 | exact P9) rfl rfl)) rfl (by kernel_rfl) ?_
  refine TA.take (i := 2) (ls := #[true, false, true, false, false, false, false]) rfl rfl rfl rfl rfl (by kernel_rfl) (by kernel_rfl) (by kernel_rfl) (by kernel_rfl) (by repeat (first | with_reducible exact PanicOk.body | with_reducible apply PanicOk.next | with_reducible apply PanicOk.block)) ((by repeat (first | exact .all | apply Perm.drop))) (OpV.loadA ag_34 rfl (Cels.blkAt (W3.mk (0) (2097152) 0).l (by first | exact P0 | exact P1 | exact P2 | exact P3 | exact P4 | exact P5 | exact P6 | exact P7 | exact P8 | exact P9) rfl rfl)) rfl (by kernel_rfl) ?_
  refine TA.one (i := 1) (ls := #[true, true, true, false, false, false, false]) (by kernel_rfl) rfl (by kernel_rfl) (fun w1 => ?_)
  refine TL.call (g := 31) rfl go_31 rfl (fun w1 k1 => runl_c (2) (W3.mk (0) (2097249) 0) w1) rfl ?_
  refine TL.nil ?_
  refine TA.cont ((by repeat (first | exact .all | apply Perm.drop))) ?_
  refine TA.one (i := 3) (ls := #[true, true, true, true, false, false, false]) (by kernel_rfl) rfl (by kernel_rfl) (fun w1 => ?_)
  refine TL.call (g := 31) rfl go_31 rfl (fun w1 k1 => runl_c (1) (W3.mk (0) (2097152) 0) w1) rfl ?_
  refine TL.nil ?_
  refine TA.cont ((by repeat (first | exact .all | apply Perm.drop))) ?_
  refine TA.one (i := 4) (ls := #[true, true, true, true, true, false, false]) (by kernel_rfl) rfl (by kernel_rfl) (fun w1 => ?_)
  refine TL.slit (qs := #[(0, _), (1, _)]) (fun _ f => by simp only [List.map_toArray, List.map_cons, List.map_nil]; rw [f.ev (x := .tmp 90) rfl]; (try rw [f.ev (x := .tmp 92) rfl])) (sl_43_2_0_1 (Rn.mk (2) (W3.mk (0) (2097249) 0)) (Rn.mk (1) (W3.mk (0) (2097152) 0))) rfl ?_
  intro b93
  refine TL.nil ?_
  refine TA.cont ((by repeat (first | exact .all | apply Perm.drop))) ?_
  refine TA.one (i := 5) (ls := #[true, true, true, true, true, true, false]) (by kernel_rfl) rfl (by kernel_rfl) (fun w1 => ?_)
  refine TL.call (g := 30) rfl go_30 rfl (fun w1 k1 => runsl_c _ _ _ w1) rfl ?_
  refine TL.nil ?_
  refine TA.cont ((by repeat (first | exact .all | apply Perm.drop))) ?_
  refine TA.takeP (i := 6) (ls := #[true, true, true, true, true, true, true]) rfl rfl rfl rfl rfl (by kernel_rfl) (by kernel_rfl) (by kernel_rfl) (by repeat (first | with_reducible exact PanicOk.body | with_reducible apply PanicOk.next | with_reducible apply PanicOk.block)) (OpV.assign rfl) rfl (by kernel_rfl) ?_
  refine TA.done (by kernel_rfl) ?_
  refine TE.sub (.cons (t := 1) rfl <| .cons (t := 2) rfl <| .cons (t := 3) rfl <| .cons (t := 4) rfl <| .cons (t := 6) rfl <| .cons (t := 7) rfl <| .cons (t := 8) rfl <| .cons (t := 10) rfl <| .cons (t := 11) rfl <| .nil) ?_
  refine TE.next ?_
  refine T.seq ?_
  refine T.seq ?_
  refine T.any ([.blk b9 Cl.zero.l 30, .blk b8 (W3.mk (0) (4214272) 0).l 34, .blk b7 (W3.mk (0) (2097152) 0).l 34, .blk b6 (W3.mk (0) (2097249) 0).l 34, .blk b5 (Cl.mk (97) 769 0 0 (1) Pen.zero).l 30, .blk b4 Cl.zero.l 30, .blk b3 (Cl.mk (19968) 0 0 0 (2) Pen.zero).l 30, .blk b2 (Cl.mk 0 0 0 0 (1) Pen.zero).l 30, .blk b1 (Cl.mk (97) 0 0 0 (1) Pen.zero).l 30]) [] mix rfl rfl ?_
  refine TA.lem (ι := Nat × Nat) (fun ⟨b100, b109⟩ => [(1, .pointer (some ⟨b1, 0, none⟩)), (2, .pointer (some ⟨b2, 0, none⟩)), (3, .pointer (some ⟨b3, 0, none⟩)), (4, .pointer (some ⟨b4, 0, none⟩)), (6, .pointer (some ⟨b6, 0, none⟩)), (7, .pointer (some ⟨b7, 0, none⟩)), (8, .pointer (some ⟨b8, 0, none⟩)), (10, .int .i64 12), (11, .slice (some ⟨b93, 0, none⟩) 2 2), (100, .slice (some ⟨b100, 0, none⟩) 5 5), (109, .slice (some ⟨b109, 0, none⟩) 4 4)]) (fun ⟨b100, b109⟩ => .blk b109 (rl [(Rn.mk (2) (W3.mk (0) (2097249) 0)), (Rn.mk (1) (W3.mk (0) (2097152) 0)), (Rn.mk (1) (W3.mk (0) (4214272) 0)), (Rn.mk (1) W3.zero)]) 67 :: .blk b100 (fl [(Cl.mk (97) 0 0 0 (1) Pen.zero), (Cl.mk (97) 0 0 0 (1) Pen.zero), (Cl.mk 0 0 0 0 (1) Pen.zero), (Cl.mk (19968) 0 0 0 (2) Pen.zero), Cl.zero]) 30 :: .blk b93 (rl [(Rn.mk (2) (W3.mk (0) (2097249) 0)), (Rn.mk (1) (W3.mk (0) (2097152) 0))]) 67 :: [.blk b9 Cl.zero.l 30, .blk b8 (W3.mk (0) (4214272) 0).l 34, .blk b7 (W3.mk (0) (2097152) 0).l 34, .blk b6 (W3.mk (0) (2097249) 0).l 34, .blk b5 (Cl.mk (97) 769 0 0 (1) Pen.zero).l 30, .blk b4 Cl.zero.l 30, .blk b3 (Cl.mk (19968) 0 0 0 (2) Pen.zero).l 30, .blk b2 (Cl.mk 0 0 0 0 (1) Pen.zero).l 30, .blk b1 (Cl.mk (97) 0 0 0 (1) Pen.zero).l 30]) 40 #[true, true, true, true, true, true, true, true, true, true, true, true, true, true, true, false, false, false, false, false, false, false, false, false, false, false, false, false, false, false, false, false, false, false, false, false, false, false, false, false, false, false, false, false, false, false, false, false, false, false, false, false, false, false, false] ?_ ?_
  · rintro ⟨b100, b109⟩
    refine TA.one (i := 15) (ls := #[true, true, true, true, true, true, true, true, true, true, true, true, true, true, true, true, false, false, false, false, false, false, false, false, false, false, false, false, false, false, false, false, false, false, false, false, false, false, false, false, false, false, false, false, false, false, false, false, false, false, false, false, false, false, false]) (by kernel_rfl) rfl (by kernel_rfl) (fun w1 => ?_)
    refine TL.call (g := 16) rfl go_16 rfl (fun w1 k1 => packsl_c (σ := fun b => w1.heap[b]?) (τ := fun b => w1.heap[b]?) w1 (0) (L.below k1.bel) (CsR.of_blkw (ls := [(Cl.mk (97) 0 0 0 (1) Pen.zero), (Cl.mk (97) 0 0 0 (1) Pen.zero), (Cl.mk 0 0 0 0 (1) Pen.zero), (Cl.mk (19968) 0 0 0 (2) Pen.zero), Cl.zero]) (k1.has (e := .blk b100 (fl [(Cl.mk (97) 0 0 0 (1) Pen.zero), (Cl.mk (97) 0 0 0 (1) Pen.zero), (Cl.mk 0 0 0 0 (1) Pen.zero), (Cl.mk (19968) 0 0 0 (2) Pen.zero), Cl.zero]) 30) (by repeat first | exact List.Mem.head _ | apply List.Mem.tail)).2 rfl) (inCB_ok (by kernel_rfl)) (RsR.of_blk (ls := [(Rn.mk (2) (W3.mk (0) (2097249) 0)), (Rn.mk (1) (W3.mk (0) (2097152) 0)), (Rn.mk (1) (W3.mk (0) (4214272) 0)), (Rn.mk (1) W3.zero)]) (k1.has (e := .blk b109 (rl [(Rn.mk (2) (W3.mk (0) (2097249) 0)), (Rn.mk (1) (W3.mk (0) (2097152) 0)), (Rn.mk (1) (W3.mk (0) (4214272) 0)), (Rn.mk (1) W3.zero)]) 67) (by repeat first | exact List.Mem.head _ | apply List.Mem.tail)).2 rfl) (fun b o hb => hb) (fun b o hb => hb)) rfl ?_
    refine TL.said (t := 110) rfl (show _ = Value.bool true from congrArg Value.bool ((by kernel_rfl))) ?_
    refine TL.nil ?_
    refine TA.cont ((by repeat (first | exact .all | apply Perm.drop))) ?_
    refine TA.takeP (i := 16) (ls := #[true, true, true, true, true, true, true, true, true, true, true, true, true, true, true, true, true, false, false, false, false, false, false, false, false, false, false, false, false, false, false, false, false, false, false, false, false, false, false, false, false, false, false, false, false, false, false, false, false, false, false, false, false, false, false]) rfl rfl rfl rfl rfl (by kernel_rfl) (by kernel_rfl) (by kernel_rfl) (by repeat (first | with_reducible exact PanicOk.body | with_reducible apply PanicOk.next | with_reducible apply PanicOk.block)) (OpV.not rfl) rfl (by kernel_rfl) ?_
    refine TA.takeP (i := 17) (ls := #[true, true, true, true, true, true, true, true, true, true, true, true, true, true, true, true, true, true, false, false, false, false, false, false, false, false, false, false, false, false, false, false, false, false, false, false, false, false, false, false, false, false, false, false, false, false, false, false, false, false, false, false, false, false, false]) rfl rfl rfl rfl rfl (by kernel_rfl) (by kernel_rfl) (by kernel_rfl) (by repeat (first | with_reducible exact PanicOk.body | with_reducible apply PanicOk.next | with_reducible apply PanicOk.block)) (OpV.move rfl) rfl (by kernel_rfl) ?_
    refine TA.one (i := 18) (ls := #[true, true, true, true, true, true, true, true, true, true, true, true, true, true, true, true, true, true, true, false, false, false, false, false, false, false, false, false, false, false, false, false, false, false, false, false, false, false, false, false, false, false, false, false, false, false, false, false, false, false, false, false, false, false, false]) (by kernel_rfl) rfl (by kernel_rfl) (fun w1 => ?_)
    refine TL.open rfl rfl ?_
    refine TL.call (g := 16) rfl go_16 rfl (fun w1 k1 => packsl_c (σ := fun b => w1.heap[b]?) (τ := fun b => w1.heap[b]?) w1 (0) (L.below k1.bel) (CsR_nil _) (inCB_ok (by kernel_rfl)) (RsR_nil _) (fun b o hb => hb) (fun b o hb => hb)) rfl ?_
    refine TL.said (t := 113) rfl (show _ = Value.bool true from congrArg Value.bool ((by kernel_rfl))) ?_
    refine TL.nil ?_
    refine TA.cont ((by repeat (first | exact .all | apply Perm.drop))) ?_
    refine TA.takeP (i := 19) (ls := #[true, true, true, true, true, true, true, true, true, true, true, true, true, true, true, true, true, true, true, true, false, false, false, false, false, false, false, false, false, false, false, false, false, false, false, false, false, false, false, false, false, false, false, false, false, false, false, false, false, false, false, false, false, false, false]) rfl rfl rfl rfl rfl (by kernel_rfl) (by kernel_rfl) (by kernel_rfl) (by repeat (first | with_reducible exact PanicOk.body | with_reducible apply PanicOk.next | with_reducible apply PanicOk.block)) (OpV.not rfl) rfl (by kernel_rfl) ?_
    refine TA.takeP (i := 20) (ls := #[true, true, true, true, true, true, true, true, true, true, true, true, true, true, true, true, true, true, true, true, true, false, false, false, false, false, false, false, false, false, false, false, false, false, false, false, false, false, false, false, false, false, false, false, false, false, false, false, false, false, false, false, false, false, false]) rfl rfl rfl rfl rfl (by kernel_rfl) (by kernel_rfl) (by kernel_rfl) (by repeat (first | with_reducible exact PanicOk.body | with_reducible apply PanicOk.next | with_reducible apply PanicOk.block)) ((by first | exact OpV.pick_t rfl rfl | exact OpV.pick_f rfl rfl)) rfl (by kernel_rfl) ?_
    refine TA.takeP (i := 21) (ls := #[true, true, true, true, true, true, true, true, true, true, true, true, true, true, true, true, true, true, true, true, true, true, false, false, false, false, false, false, false, false, false, false, false, false, false, false, false, false, false, false, false, false, false, false, false, false, false, false, false, false, false, false, false, false, false]) rfl rfl rfl rfl rfl (by kernel_rfl) (by kernel_rfl) (by kernel_rfl) (by repeat (first | with_reducible exact PanicOk.body | with_reducible apply PanicOk.next | with_reducible apply PanicOk.block)) (OpV.move rfl) rfl (by kernel_rfl) ?_
    refine TA.takeP (i := 22) (ls := #[true, true, true, true, true, true, true, true, true, true, true, true, true, true, true, true, true, true, true, true, true, true, true, false, false, false, false, false, false, false, false, false, false, false, false, false, false, false, false, false, false, false, false, false, false, false, false, false, false, false, false, false, false, false, false]) rfl rfl rfl rfl rfl (by kernel_rfl) (by kernel_rfl) (by kernel_rfl) (by repeat (first | with_reducible exact PanicOk.body | with_reducible apply PanicOk.next | with_reducible apply PanicOk.block)) (OpV.move rfl) rfl (by kernel_rfl) ?_
    refine TA.one (i := 23) (ls := #[true, true, true, true, true, true, true, true, true, true, true, true, true, true, true, true, true, true, true, true, true, true, true, true, false, false, false, false, false, false, false, false, false, false, false, false, false, false, false, false, false, false, false, false, false, false, false, false, false, false, false, false, false, false, false]) (by kernel_rfl) rfl (by kernel_rfl) (fun w1 => ?_)
    refine TL.open rfl rfl ?_
    refine TL.call (g := 21) rfl go_21 rfl (fun w1 k1 => count_c (σ := fun b => w1.heap[b]?) w1 (L.below k1.bel) (RsR.of_blk (ls := [(Rn.mk (2) (W3.mk (0) (2097249) 0)), (Rn.mk (1) (W3.mk (0) (2097152) 0))]) (k1.has (e := .blk b93 (rl [(Rn.mk (2) (W3.mk (0) (2097249) 0)), (Rn.mk (1) (W3.mk (0) (2097152) 0))]) 67) (by repeat first | exact List.Mem.head _ | apply List.Mem.tail)).2 rfl) (inRB_ok (by kernel_rfl)) (fun b o hb => hb)) rfl ?_
    refine TL.nil ?_
    refine TA.cont ((by repeat (first | exact .all | apply Perm.drop))) ?_
    refine TA.takeP (i := 24) (ls := #[true, true, true, true, true, true, true, true, true, true, true, true, true, true, true, true, true, true, true, true, true, true, true, true, true, false, false, false, false, false, false, false, false, false, false, false, false, false, false, false, false, false, false, false, false, false, false, false, false, false, false, false, false, false, false]) rfl rfl rfl rfl rfl (by kernel_rfl) (by kernel_rfl) (by kernel_rfl) (by repeat (first | with_reducible exact PanicOk.body | with_reducible apply PanicOk.next | with_reducible apply PanicOk.block)) (OpV.neq rfl rfl) rfl (by kernel_rfl) ?_
    refine TA.said (t := 119) rfl (show _ = Value.bool false from congrArg Value.bool ((by kernel_rfl))) ?_
    refine TA.takeP (i := 25) (ls := #[true, true, true, true, true, true, true, true, true, true, true, true, true, true, true, true, true, true, true, true, true, true, true, true, true, true, false, false, false, false, false, false, false, false, false, false, false, false, false, false, false, false, false, false, false, false, false, false, false, false, false, false, false, false, false]) rfl rfl rfl rfl rfl (by kernel_rfl) (by kernel_rfl) (by kernel_rfl) (by repeat (first | with_reducible exact PanicOk.body | with_reducible apply PanicOk.next | with_reducible apply PanicOk.block)) ((by first | exact OpV.pick_t rfl rfl | exact OpV.pick_f rfl rfl)) rfl (by kernel_rfl) ?_
    refine TA.takeP (i := 26) (ls := #[true, true, true, true, true, true, true, true, true, true, true, true, true, true, true, true, true, true, true, true, true, true, true, true, true, true, true, false, false, false, false, false, false, false, false, false, false, false, false, false, false, false, false, false, false, false, false, false, false, false, false, false, false, false, false]) rfl rfl rfl rfl rfl (by kernel_rfl) (by kernel_rfl) (by kernel_rfl) (by repeat (first | with_reducible exact PanicOk.body | with_reducible apply PanicOk.next | with_reducible apply PanicOk.block)) (OpV.move rfl) rfl (by kernel_rfl) ?_
    refine TA.takeP (i := 27) (ls := #[true, true, true, true, true, true, true, true, true, true, true, true, true, true, true, true, true, true, true, true, true, true, true, true, true, true, true, true, false, false, false, false, false, false, false, false, false, false, false, false, false, false, false, false, false, false, false, false, false, false, false, false, false, false, false]) rfl rfl rfl rfl rfl (by kernel_rfl) (by kernel_rfl) (by kernel_rfl) (by repeat (first | with_reducible exact PanicOk.body | with_reducible apply PanicOk.next | with_reducible apply PanicOk.block)) (OpV.move rfl) rfl (by kernel_rfl) ?_
    refine TA.take (i := 28) (ls := #[true, true, true, true, true, true, true, true, true, true, true, true, true, true, true, true, true, true, true, true, true, true, true, true, true, true, true, true, true, false, false, false, false, false, false, false, false, false, false, false, false, false, false, false, false, false, false, false, false, false, false, false, false, false, false]) rfl rfl rfl rfl rfl (by kernel_rfl) (by kernel_rfl) (by kernel_rfl) (by kernel_rfl) (by repeat (first | with_reducible exact PanicOk.body | with_reducible apply PanicOk.next | with_reducible apply PanicOk.block)) ((by repeat (first | exact .all | apply Perm.drop))) (OpV.loadA ag_30 rfl (Cels.blkAt (Cl.mk (97) 0 0 0 (1) Pen.zero).l (by first | exact P0 | exact P1 | exact P2 | exact P3 | exact P4 | exact P5 | exact P6 | exact P7 | exact P8 | exact P9) rfl rfl)) rfl (by kernel_rfl) ?_
    refine TA.take (i := 29) (ls := #[true, true, true, true, true, true, true, true, true, true, true, true, true, true, true, true, true, true, true, true, true, true, true, true, true, true, true, true, true, true, false, false, false, false, false, false, false, false, false, false, false, false, false, false, false, false, false, false, false, false, false, false, false, false, false]) rfl rfl rfl rfl rfl (by kernel_rfl) (by kernel_rfl) (by kernel_rfl) (by kernel_rfl) (by repeat (first | with_reducible exact PanicOk.body | with_reducible apply PanicOk.next | with_reducible apply PanicOk.block)) ((by repeat (first | exact .all | apply Perm.drop))) (OpV.loadA ag_30 rfl (Cels.blkAt (Cl.mk (97) 0 0 0 (1) Pen.zero).l (by first | exact P0 | exact P1 | exact P2 | exact P3 | exact P4 | exact P5 | exact P6 | exact P7 | exact P8 | exact P9) rfl rfl)) rfl (by kernel_rfl) ?_
    refine TA.take (i := 30) (ls := #[true, true, true, true, true, true, true, true, true, true, true, true, true, true, true, true, true, true, true, true, true, true, true, true, true, true, true, true, true, true, true, false, false, false, false, false, false, false, false, false, false, false, false, false, false, false, false, false, false, false, false, false, false, false, false]) rfl rfl rfl rfl rfl (by kernel_rfl) (by kernel_rfl) (by kernel_rfl) (by kernel_rfl) (by repeat (first | with_reducible exact PanicOk.body | with_reducible apply PanicOk.next | with_reducible apply PanicOk.block)) ((by repeat (first | exact .all | apply Perm.drop))) (OpV.loadA ag_30 rfl (Cels.blkAt (Cl.mk 0 0 0 0 (1) Pen.zero).l (by first | exact P0 | exact P1 | exact P2 | exact P3 | exact P4 | exact P5 | exact P6 | exact P7 | exact P8 | exact P9) rfl rfl)) rfl (by kernel_rfl) ?_
    refine TA.one (i := 31) (ls := #[true, true, true, true, true, true, true, true, true, true, true, true, true, true, true, true, true, true, true, true, true, true, true, true, true, true, true, true, true, true, true, true, false, false, false, false, false, false, false, false, false, false, false, false, false, false, false, false, false, false, false, false, false, false, false]) (by kernel_rfl) rfl (by kernel_rfl) (fun w1 => ?_)
    refine TL.open rfl rfl ?_
    refine TL.slit (qs := #[(0, _), (1, _), (2, _)]) (fun _ f => by simp only [List.map_toArray, List.map_cons, List.map_nil]; rw [f.ev (x := .tmp 123) rfl]; (try rw [f.ev (x := .tmp 124) rfl]); (try rw [f.ev (x := .tmp 125) rfl])) (sl_42_3_0_1_2 (Cl.mk (97) 0 0 0 (1) Pen.zero) (Cl.mk (97) 0 0 0 (1) Pen.zero) (Cl.mk 0 0 0 0 (1) Pen.zero)) rfl ?_
    intro b126
    refine TL.nil ?_
    refine TA.cont ((by repeat (first | exact .all | apply Perm.drop))) ?_
    refine TA.one (i := 32) (ls := #[true, true, true, true, true, true, true, true, true, true, true, true, true, true, true, true, true, true, true, true, true, true, true, true, true, true, true, true, true, true, true, true, true, false, false, false, false, false, false, false, false, false, false, false, false, false, false, false, false, false, false, false, false, false, false]) (by kernel_rfl) rfl (by kernel_rfl) (fun w1 => ?_)
    refine TL.open rfl rfl ?_
    refine TL.call (g := 22) rfl go_22 rfl (fun w1 k1 => unpacksl_c (σ := fun b => w1.heap[b]?) (τ := fun b => w1.heap[b]?) w1 (0) (L.below k1.bel) (RsR.of_blk (ls := [(Rn.mk (2) (W3.mk (0) (2097249) 0)), (Rn.mk (1) (W3.mk (0) (2097152) 0))]) (k1.has (e := .blk b93 (rl [(Rn.mk (2) (W3.mk (0) (2097249) 0)), (Rn.mk (1) (W3.mk (0) (2097152) 0))]) 67) (by repeat first | exact List.Mem.head _ | apply List.Mem.tail)).2 rfl) (inRB_ok (by kernel_rfl)) (CsR.of_blkw (ls := [(Cl.mk (97) 0 0 0 (1) Pen.zero), (Cl.mk (97) 0 0 0 (1) Pen.zero), (Cl.mk 0 0 0 0 (1) Pen.zero)]) (k1.has (e := .blk b126 (fl [(Cl.mk (97) 0 0 0 (1) Pen.zero), (Cl.mk (97) 0 0 0 (1) Pen.zero), (Cl.mk 0 0 0 0 (1) Pen.zero)]) 30) (by repeat first | exact List.Mem.head _ | apply List.Mem.tail)).2 rfl) (fun b o hb => hb) (fun b o hb => hb)) rfl ?_
    refine TL.said (t := 127) rfl (show _ = Value.bool true from congrArg Value.bool ((by kernel_rfl))) ?_
    refine TL.nil ?_
    refine TA.cont ((by repeat (first | exact .all | apply Perm.drop))) ?_
    refine TA.takeP (i := 33) (ls := #[true, true, true, true, true, true, true, true, true, true, true, true, true, true, true, true, true, true, true, true, true, true, true, true, true, true, true, true, true, true, true, true, true, true, false, false, false, false, false, false, false, false, false, false, false, false, false, false, false, false, false, false, false, false, false]) rfl rfl rfl rfl rfl (by kernel_rfl) (by kernel_rfl) (by kernel_rfl) (by repeat (first | with_reducible exact PanicOk.body | with_reducible apply PanicOk.next | with_reducible apply PanicOk.block)) (OpV.not rfl) rfl (by kernel_rfl) ?_
    refine TA.takeP (i := 34) (ls := #[true, true, true, true, true, true, true, true, true, true, true, true, true, true, true, true, true, true, true, true, true, true, true, true, true, true, true, true, true, true, true, true, true, true, true, false, false, false, false, false, false, false, false, false, false, false, false, false, false, false, false, false, false, false, false]) rfl rfl rfl rfl rfl (by kernel_rfl) (by kernel_rfl) (by kernel_rfl) (by repeat (first | with_reducible exact PanicOk.body | with_reducible apply PanicOk.next | with_reducible apply PanicOk.block)) ((by first | exact OpV.pick_t rfl rfl | exact OpV.pick_f rfl rfl)) rfl (by kernel_rfl) ?_
    refine TA.takeP (i := 35) (ls := #[true, true, true, true, true, true, true, true, true, true, true, true, true, true, true, true, true, true, true, true, true, true, true, true, true, true, true, true, true, true, true, true, true, true, true, true, false, false, false, false, false, false, false, false, false, false, false, false, false, false, false, false, false, false, false]) rfl rfl rfl rfl rfl (by kernel_rfl) (by kernel_rfl) (by kernel_rfl) (by repeat (first | with_reducible exact PanicOk.body | with_reducible apply PanicOk.next | with_reducible apply PanicOk.block)) (OpV.move rfl) rfl (by kernel_rfl) ?_
    refine TA.take (i := 36) (ls := #[true, true, true, true, true, true, true, true, true, true, true, true, true, true, true, true, true, true, true, true, true, true, true, true, true, true, true, true, true, true, true, true, true, true, true, true, true, false, false, false, false, false, false, false, false, false, false, false, false, false, false, false, false, false, false]) rfl rfl rfl rfl rfl (by kernel_rfl) (by kernel_rfl) (by kernel_rfl) (by kernel_rfl) (by repeat (first | with_reducible exact PanicOk.body | with_reducible apply PanicOk.next | with_reducible apply PanicOk.block)) ((by repeat (first | exact .all | apply Perm.drop))) (OpV.loadA ag_34 rfl (Cels.blkAt (W3.mk (0) (2097249) 0).l (by first | exact P0 | exact P1 | exact P2 | exact P3 | exact P4 | exact P5 | exact P6 | exact P7 | exact P8 | exact P9) rfl rfl)) rfl (by kernel_rfl) ?_
    refine TA.take (i := 38) (ls := #[true, true, true, true, true, true, true, true, true, true, true, true, true, true, true, true, true, true, true, true, true, true, true, true, true, true, true, true, true, true, true, true, true, true, true, true, true, false, true, false, false, false, false, false, false, false, false, false, false, false, false, false, false, false, false]) rfl rfl rfl rfl rfl (by kernel_rfl) (by kernel_rfl) (by kernel_rfl) (by kernel_rfl) (by repeat (first | with_reducible exact PanicOk.body | with_reducible apply PanicOk.next | with_reducible apply PanicOk.block)) ((by repeat (first | exact .all | apply Perm.drop))) (OpV.loadA ag_34 rfl (Cels.blkAt (W3.mk (0) (2097249) 0).l (by first | exact P0 | exact P1 | exact P2 | exact P3 | exact P4 | exact P5 | exact P6 | exact P7 | exact P8 | exact P9) rfl rfl)) rfl (by kernel_rfl) ?_
    refine TA.takeP (i := 42) (ls := #[true, true, true, true, true, true, true, true, true, true, true, true, true, true, true, true, true, true, true, true, true, true, true, true, true, true, true, true, true, true, true, true, true, true, true, true, true, false, true, false, false, false, true, false, false, false, false, false, false, false, false, false, false, false, false]) rfl rfl rfl rfl rfl (by kernel_rfl) (by kernel_rfl) (by kernel_rfl) (by repeat (first | with_reducible exact PanicOk.body | with_reducible apply PanicOk.next | with_reducible apply PanicOk.block)) (OpV.move rfl) rfl (by kernel_rfl) ?_
    refine TA.one (i := 37) (ls := #[true, true, true, true, true, true, true, true, true, true, true, true, true, true, true, true, true, true, true, true, true, true, true, true, true, true, true, true, true, true, true, true, true, true, true, true, true, true, true, false, false, false, true, false, false, false, false, false, false, false, false, false, false, false, false]) (by kernel_rfl) rfl (by kernel_rfl) (fun w1 => ?_)
    refine TL.open rfl rfl ?_
    refine TL.call (g := 31) rfl go_31 rfl (fun w1 k1 => runl_c (1) (W3.mk (0) (2097249) 0) w1) rfl ?_
    refine TL.nil ?_
    refine TA.cont ((by repeat (first | exact .all | apply Perm.drop))) ?_
    refine TA.one (i := 39) (ls := #[true, true, true, true, true, true, true, true, true, true, true, true, true, true, true, true, true, true, true, true, true, true, true, true, true, true, true, true, true, true, true, true, true, true, true, true, true, true, true, true, false, false, true, false, false, false, false, false, false, false, false, false, false, false, false]) (by kernel_rfl) rfl (by kernel_rfl) (fun w1 => ?_)
    refine TL.open rfl rfl ?_
    refine TL.call (g := 31) rfl go_31 rfl (fun w1 k1 => runl_c (1) (W3.mk (0) (2097249) 0) w1) rfl ?_
    refine TL.nil ?_
    refine TA.cont ((by repeat (first | exact .all | apply Perm.drop))) ?_
    refine TA.one (i := 40) (ls := #[true, true, true, true, true, true, true, true, true, true, true, true, true, true, true, true, true, true, true, true, true, true, true, true, true, true, true, true, true, true, true, true, true, true, true, true, true, true, true, true, true, false, true, false, false, false, false, false, false, false, false, false, false, false, false]) (by kernel_rfl) rfl (by kernel_rfl) (fun w1 => ?_)
    refine TL.open rfl rfl ?_
    refine TL.slit (qs := #[(0, _), (1, _)]) (fun _ f => by simp only [List.map_toArray, List.map_cons, List.map_nil]; rw [f.ev (x := .tmp 132) rfl]; (try rw [f.ev (x := .tmp 134) rfl])) (sl_43_2_0_1 (Rn.mk (1) (W3.mk (0) (2097249) 0)) (Rn.mk (1) (W3.mk (0) (2097249) 0))) rfl ?_
    intro b135
    refine TL.nil ?_
    refine TA.cont ((by repeat (first | exact .all | apply Perm.drop))) ?_
    refine TA.one (i := 41) (ls := #[true, true, true, true, true, true, true, true, true, true, true, true, true, true, true, true, true, true, true, true, true, true, true, true, true, true, true, true, true, true, true, true, true, true, true, true, true, true, true, true, true, true, true, false, false, false, false, false, false, false, false, false, false, false, false]) (by kernel_rfl) rfl (by kernel_rfl) (fun w1 => ?_)
    refine TL.open rfl rfl ?_
    refine TL.call (g := 30) rfl go_30 rfl (fun w1 k1 => runsl_c _ _ _ w1) rfl ?_
    refine TL.nil ?_
    refine TA.cont ((by repeat (first | exact .all | apply Perm.drop))) ?_
    refine TA.one (i := 43) (ls := #[true, true, true, true, true, true, true, true, true, true, true, true, true, true, true, true, true, true, true, true, true, true, true, true, true, true, true, true, true, true, true, true, true, true, true, true, true, true, true, true, true, true, true, true, false, false, false, false, false, false, false, false, false, false, false]) (by kernel_rfl) rfl (by kernel_rfl) (fun w1 => ?_)
    refine TL.open rfl rfl ?_
    refine TL.call (g := 22) rfl go_22 rfl (fun w1 k1 => unpacksl_c (σ := fun b => w1.heap[b]?) (τ := fun b => w1.heap[b]?) w1 (12) (L.below k1.bel) (RsR.of_blk (ls := [(Rn.mk (1) (W3.mk (0) (2097249) 0)), (Rn.mk (1) (W3.mk (0) (2097249) 0))]) (k1.has (e := .blk b135 (rl [(Rn.mk (1) (W3.mk (0) (2097249) 0)), (Rn.mk (1) (W3.mk (0) (2097249) 0))]) 67) (by repeat first | exact List.Mem.head _ | apply List.Mem.tail)).2 rfl) (inRB_ok (by kernel_rfl)) (CsR_nil _) (fun b o hb => hb) (fun b o hb => hb)) rfl ?_
    refine TL.said (t := 138) rfl (show _ = Value.bool true from congrArg Value.bool ((by kernel_rfl))) ?_
    refine TL.nil ?_
    refine TA.cont ((by repeat (first | exact .all | apply Perm.drop))) ?_
    refine TA.takeP (i := 44) (ls := #[true, true, true, true, true, true, true, true, true, true, true, true, true, true, true, true, true, true, true, true, true, true, true, true, true, true, true, true, true, true, true, true, true, true, true, true, true, true, true, true, true, true, true, true, true, false, false, false, false, false, false, false, false, false, false]) rfl rfl rfl rfl rfl (by kernel_rfl) (by kernel_rfl) (by kernel_rfl) (by repeat (first | with_reducible exact PanicOk.body | with_reducible apply PanicOk.next | with_reducible apply PanicOk.block)) (OpV.not rfl) rfl (by kernel_rfl) ?_
    refine TA.takeP (i := 45) (ls := #[true, true, true, true, true, true, true, true, true, true, true, true, true, true, true, true, true, true, true, true, true, true, true, true, true, true, true, true, true, true, true, true, true, true, true, true, true, true, true, true, true, true, true, true, true, true, false, false, false, false, false, false, false, false, false]) rfl rfl rfl rfl rfl (by kernel_rfl) (by kernel_rfl) (by kernel_rfl) (by repeat (first | with_reducible exact PanicOk.body | with_reducible apply PanicOk.next | with_reducible apply PanicOk.block)) ((by first | exact OpV.pick_t rfl rfl | exact OpV.pick_f rfl rfl)) rfl (by kernel_rfl) ?_
    refine TA.takeP (i := 46) (ls := #[true, true, true, true, true, true, true, true, true, true, true, true, true, true, true, true, true, true, true, true, true, true, true, true, true, true, true, true, true, true, true, true, true, true, true, true, true, true, true, true, true, true, true, true, true, true, true, false, false, false, false, false, false, false, false]) rfl rfl rfl rfl rfl (by kernel_rfl) (by kernel_rfl) (by kernel_rfl) (by repeat (first | with_reducible exact PanicOk.body | with_reducible apply PanicOk.next | with_reducible apply PanicOk.block)) (OpV.move rfl) rfl (by kernel_rfl) ?_
    refine TA.take (i := 47) (ls := #[true, true, true, true, true, true, true, true, true, true, true, true, true, true, true, true, true, true, true, true, true, true, true, true, true, true, true, true, true, true, true, true, true, true, true, true, true, true, true, true, true, true, true, true, true, true, true, true, false, false, false, false, false, false, false]) rfl rfl rfl rfl rfl (by kernel_rfl) (by kernel_rfl) (by kernel_rfl) (by kernel_rfl) (by repeat (first | with_reducible exact PanicOk.body | with_reducible apply PanicOk.next | with_reducible apply PanicOk.block)) ((by repeat (first | exact .all | apply Perm.drop))) (OpV.loadA ag_34 rfl (Cels.blkAt (W3.mk (0) (2097249) 0).l (by first | exact P0 | exact P1 | exact P2 | exact P3 | exact P4 | exact P5 | exact P6 | exact P7 | exact P8 | exact P9) rfl rfl)) rfl (by kernel_rfl) ?_
    refine TA.takeP (i := 51) (ls := #[true, true, true, true, true, true, true, true, true, true, true, true, true, true, true, true, true, true, true, true, true, true, true, true, true, true, true, true, true, true, true, true, true, true, true, true, true, true, true, true, true, true, true, true, true, true, true, true, false, false, false, true, false, false, false]) rfl rfl rfl rfl rfl (by kernel_rfl) (by kernel_rfl) (by kernel_rfl) (by repeat (first | with_reducible exact PanicOk.body | with_reducible apply PanicOk.next | with_reducible apply PanicOk.block)) (OpV.move rfl) rfl (by kernel_rfl) ?_
    refine TA.one (i := 48) (ls := #[true, true, true, true, true, true, true, true, true, true, true, true, true, true, true, true, true, true, true, true, true, true, true, true, true, true, true, true, true, true, true, true, true, true, true, true, true, true, true, true, true, true, true, true, true, true, true, true, true, false, false, true, false, false, false]) (by kernel_rfl) rfl (by kernel_rfl) (fun w1 => ?_)
    refine TL.open rfl rfl ?_
    refine TL.call (g := 31) rfl go_31 rfl (fun w1 k1 => runl_c (0) (W3.mk (0) (2097249) 0) w1) rfl ?_
    refine TL.nil ?_
    refine TA.cont ((by repeat (first | exact .all | apply Perm.drop))) ?_
    refine TA.one (i := 49) (ls := #[true, true, true, true, true, true, true, true, true, true, true, true, true, true, true, true, true, true, true, true, true, true, true, true, true, true, true, true, true, true, true, true, true, true, true, true, true, true, true, true, true, true, true, true, true, true, true, true, true, true, false, true, false, false, false]) (by kernel_rfl) rfl (by kernel_rfl) (fun w1 => ?_)
    refine TL.open rfl rfl ?_
    refine TL.slit (qs := #[(0, _)]) (fun _ f => by simp only [List.map_toArray, List.map_cons, List.map_nil]; rw [f.ev (x := .tmp 143) rfl]) (sl_43_1_0 (Rn.mk (0) (W3.mk (0) (2097249) 0))) rfl ?_
    intro b144
    refine TL.nil ?_
    refine TA.cont ((by repeat (first | exact .all | apply Perm.drop))) ?_
    refine TA.one (i := 50) (ls := #[true, true, true, true, true, true, true, true, true, true, true, true, true, true, true, true, true, true, true, true, true, true, true, true, true, true, true, true, true, true, true, true, true, true, true, true, true, true, true, true, true, true, true, true, true, true, true, true, true, true, true, true, false, false, false]) (by kernel_rfl) rfl (by kernel_rfl) (fun w1 => ?_)
    refine TL.open rfl rfl ?_
    refine TL.call (g := 30) rfl go_30 rfl (fun w1 k1 => runsl_c _ _ _ w1) rfl ?_
    refine TL.nil ?_
    refine TA.cont ((by repeat (first | exact .all | apply Perm.drop))) ?_
    refine TA.one (i := 52) (ls := #[true, true, true, true, true, true, true, true, true, true, true, true, true, true, true, true, true, true, true, true, true, true, true, true, true, true, true, true, true, true, true, true, true, true, true, true, true, true, true, true, true, true, true, true, true, true, true, true, true, true, true, true, true, false, false]) (by kernel_rfl) rfl (by kernel_rfl) (fun w1 => ?_)
    refine TL.open rfl rfl ?_
    refine TL.call (g := 22) rfl go_22 rfl (fun w1 k1 => unpacksl_c (σ := fun b => w1.heap[b]?) (τ := fun b => w1.heap[b]?) w1 (12) (L.below k1.bel) (RsR.of_blk (ls := [(Rn.mk (0) (W3.mk (0) (2097249) 0))]) (k1.has (e := .blk b144 (rl [(Rn.mk (0) (W3.mk (0) (2097249) 0))]) 67) (by repeat first | exact List.Mem.head _ | apply List.Mem.tail)).2 rfl) (inRB_ok (by kernel_rfl)) (CsR_nil _) (fun b o hb => hb) (fun b o hb => hb)) rfl ?_
    refine TL.said (t := 147) rfl (show _ = Value.bool true from congrArg Value.bool ((by kernel_rfl))) ?_
    refine TL.nil ?_
    refine TA.cont ((by repeat (first | exact .all | apply Perm.drop))) ?_
    refine TA.takeP (i := 53) (ls := #[true, true, true, true, true, true, true, true, true, true, true, true, true, true, true, true, true, true, true, true, true, true, true, true, true, true, true, true, true, true, true, true, true, true, true, true, true, true, true, true, true, true, true, true, true, true, true, true, true, true, true, true, true, true, false]) rfl rfl rfl rfl rfl (by kernel_rfl) (by kernel_rfl) (by kernel_rfl) (by repeat (first | with_reducible exact PanicOk.body | with_reducible apply PanicOk.next | with_reducible apply PanicOk.block)) (OpV.not rfl) rfl (by kernel_rfl) ?_
    refine TA.takeP (i := 54) (ls := #[true, true, true, true, true, true, true, true, true, true, true, true, true, true, true, true, true, true, true, true, true, true, true, true, true, true, true, true, true, true, true, true, true, true, true, true, true, true, true, true, true, true, true, true, true, true, true, true, true, true, true, true, true, true, true]) rfl rfl rfl rfl rfl (by kernel_rfl) (by kernel_rfl) (by kernel_rfl) (by repeat (first | with_reducible exact PanicOk.body | with_reducible apply PanicOk.next | with_reducible apply PanicOk.block)) ((by first | exact OpV.pick_t rfl rfl | exact OpV.pick_f rfl rfl)) rfl (by kernel_rfl) ?_
    refine TA.done (by kernel_rfl) ?_
    refine TE.sub (.cons (t := 6) rfl <| .cons (t := 7) rfl <| .cons (t := 149) rfl <| .nil) ?_
    refine TE.next ?_
    refine T.no rfl ?_
    refine T.skip ?_
    refine TE.next ?_
    refine T.seq ?_
    refine T.kle (K' := [.blk b9 Cl.zero.l 30, .blk b8 (W3.mk (0) (4214272) 0).l 34, .blk b7 (W3.mk (0) (2097152) 0).l 34, .blk b6 (W3.mk (0) (2097249) 0).l 34, .blk b5 (Cl.mk (97) 769 0 0 (1) Pen.zero).l 30, .blk b4 Cl.zero.l 30, .blk b3 (Cl.mk (19968) 0 0 0 (2) Pen.zero).l 30, .blk b2 (Cl.mk 0 0 0 0 (1) Pen.zero).l 30, .blk b1 (Cl.mk (97) 0 0 0 (1) Pen.zero).l 30]) (Perm.kle (by repeat (first | exact .all | apply Perm.drop))) ?_
    refine T.any ([.blk b9 Cl.zero.l 30, .blk b8 (W3.mk (0) (4214272) 0).l 34, .blk b7 (W3.mk (0) (2097152) 0).l 34, .blk b6 (W3.mk (0) (2097249) 0).l 34, .blk b5 (Cl.mk (97) 769 0 0 (1) Pen.zero).l 30, .blk b4 Cl.zero.l 30, .blk b3 (Cl.mk (19968) 0 0 0 (2) Pen.zero).l 30, .blk b2 (Cl.mk 0 0 0 0 (1) Pen.zero).l 30, .blk b1 (Cl.mk (97) 0 0 0 (1) Pen.zero).l 30]) [] mix rfl rfl ?_
    refine TA.take (i := 0) (ls := #[true, false, false, false, false, false, false, false, false, false, false, false, false, false, false, false, false, false, false, false, false, false, false, false, false, false, false, false, false, false, false, false, false, false, false, false, false, false, false, false]) rfl rfl rfl rfl rfl (by kernel_rfl) (by kernel_rfl) (by kernel_rfl) (by kernel_rfl) (by repeat (first | with_reducible exact PanicOk.body | with_reducible apply PanicOk.next | with_reducible apply PanicOk.block)) ((by repeat (first | exact .all | apply Perm.drop))) (OpV.loadA ag_34 rfl (Cels.blkAt (W3.mk (0) (2097249) 0).l (by first | exact P0 | exact P1 | exact P2 | exact P3 | exact P4 | exact P5 | exact P6 | exact P7 | exact P8 | exact P9) rfl rfl)) rfl (by kernel_rfl) ?_
    refine TA.take (i := 2) (ls := #[true, false, true, false, false, false, false, false, false, false, false, false, false, false, false, false, false, false, false, false, false, false, false, false, false, false, false, false, false, false, false, false, false, false, false, false, false, false, false, false]) rfl rfl rfl rfl rfl (by kernel_rfl) (by kernel_rfl) (by kernel_rfl) (by kernel_rfl) (by repeat (first | with_reducible exact PanicOk.body | with_reducible apply PanicOk.next | with_reducible apply PanicOk.block)) ((by repeat (first | exact .all | apply Perm.drop))) (OpV.loadA ag_34 rfl (Cels.blkAt (W3.mk (0) (2097152) 0).l (by first | exact P0 | exact P1 | exact P2 | exact P3 | exact P4 | exact P5 | exact P6 | exact P7 | exact P8 | exact P9) rfl rfl)) rfl (by kernel_rfl) ?_
    refine TA.take (i := 6) (ls := #[true, false, true, false, false, false, true, false, false, false, false, false, false, false, false, false, false, false, false, false, false, false, false, false, false, false, false, false, false, false, false, false, false, false, false, false, false, false, false, false]) rfl rfl rfl rfl rfl (by kernel_rfl) (by kernel_rfl) (by kernel_rfl) (by kernel_rfl) (by repeat (first | with_reducible exact PanicOk.body | with_reducible apply PanicOk.next | with_reducible apply PanicOk.block)) ((by repeat (first | exact .all | apply Perm.drop))) (OpV.loadA ag_34 rfl (Cels.blkAt (W3.mk (0) (2097152) 0).l (by first | exact P0 | exact P1 | exact P2 | exact P3 | exact P4 | exact P5 | exact P6 | exact P7 | exact P8 | exact P9) rfl rfl)) rfl (by kernel_rfl) ?_
    refine TA.take (i := 8) (ls := #[true, false, true, false, false, false, true, false, true, false, false, false, false, false, false, false, false, false, false, false, false, false, false, false, false, false, false, false, false, false, false, false, false, false, false, false, false, false, false, false]) rfl rfl rfl rfl rfl (by kernel_rfl) (by kernel_rfl) (by kernel_rfl) (by kernel_rfl) (by repeat (first | with_reducible exact PanicOk.body | with_reducible apply PanicOk.next | with_reducible apply PanicOk.block)) ((by repeat (first | exact .all | apply Perm.drop))) (OpV.loadA ag_34 rfl (Cels.blkAt (W3.mk (0) (2097249) 0).l (by first | exact P0 | exact P1 | exact P2 | exact P3 | exact P4 | exact P5 | exact P6 | exact P7 | exact P8 | exact P9) rfl rfl)) rfl (by kernel_rfl) ?_
    refine TA.take (i := 12) (ls := #[true, false, true, false, false, false, true, false, true, false, false, false, true, false, false, false, false, false, false, false, false, false, false, false, false, false, false, false, false, false, false, false, false, false, false, false, false, false, false, false]) rfl rfl rfl rfl rfl (by kernel_rfl) (by kernel_rfl) (by kernel_rfl) (by kernel_rfl) (by repeat (first | with_reducible exact PanicOk.body | with_reducible apply PanicOk.next | with_reducible apply PanicOk.block)) ((by repeat (first | exact .all | apply Perm.drop))) (OpV.loadA ag_34 rfl (Cels.blkAt (W3.mk (0) (2097249) 0).l (by first | exact P0 | exact P1 | exact P2 | exact P3 | exact P4 | exact P5 | exact P6 | exact P7 | exact P8 | exact P9) rfl rfl)) rfl (by kernel_rfl) ?_
    refine TA.take (i := 14) (ls := #[true, false, true, false, false, false, true, false, true, false, false, false, true, false, true, false, false, false, false, false, false, false, false, false, false, false, false, false, false, false, false, false, false, false, false, false, false, false, false, false]) rfl rfl rfl rfl rfl (by kernel_rfl) (by kernel_rfl) (by kernel_rfl) (by kernel_rfl) (by repeat (first | with_reducible exact PanicOk.body | with_reducible apply PanicOk.next | with_reducible apply PanicOk.block)) ((by repeat (first | exact .all | apply Perm.drop))) (OpV.loadA ag_34 rfl (Cels.blkAt (W3.mk (0) (2097152) 0).l (by first | exact P0 | exact P1 | exact P2 | exact P3 | exact P4 | exact P5 | exact P6 | exact P7 | exact P8 | exact P9) rfl rfl)) rfl (by kernel_rfl) ?_
    refine TA.take (i := 16) (ls := #[true, false, true, false, false, false, true, false, true, false, false, false, true, false, true, false, true, false, false, false, false, false, false, false, false, false, false, false, false, false, false, false, false, false, false, false, false, false, false, false]) rfl rfl rfl rfl rfl (by kernel_rfl) (by kernel_rfl) (by kernel_rfl) (by kernel_rfl) (by repeat (first | with_reducible exact PanicOk.body | with_reducible apply PanicOk.next | with_reducible apply PanicOk.block)) ((by repeat (first | exact .all | apply Perm.drop))) (OpV.loadA ag_34 rfl (Cels.blkAt (W3.mk (0) (2097249) 0).l (by first | exact P0 | exact P1 | exact P2 | exact P3 | exact P4 | exact P5 | exact P6 | exact P7 | exact P8 | exact P9) rfl rfl)) rfl (by kernel_rfl) ?_
    refine TA.one (i := 1) (ls := #[true, true, true, false, false, false, true, false, true, false, false, false, true, false, true, false, true, false, false, false, false, false, false, false, false, false, false, false, false, false, false, false, false, false, false, false, false, false, false, false]) (by kernel_rfl) rfl (by kernel_rfl) (fun w1 => ?_)
    refine TL.call (g := 31) rfl go_31 rfl (fun w1 k1 => runl_c (1) (W3.mk (0) (2097249) 0) w1) rfl ?_
    refine TL.nil ?_
    refine TA.cont ((by repeat (first | exact .all | apply Perm.drop))) ?_
    refine TA.one (i := 3) (ls := #[true, true, true, true, false, false, true, false, true, false, false, false, true, false, true, false, true, false, false, false, false, false, false, false, false, false, false, false, false, false, false, false, false, false, false, false, false, false, false, false]) (by kernel_rfl) rfl (by kernel_rfl) (fun w1 => ?_)
    refine TL.call (g := 31) rfl go_31 rfl (fun w1 k1 => runl_c (1) (W3.mk (0) (2097152) 0) w1) rfl ?_
    refine TL.nil ?_
    refine TA.cont ((by repeat (first | exact .all | apply Perm.drop))) ?_
    refine TA.one (i := 4) (ls := #[true, true, true, true, true, false, true, false, true, false, false, false, true, false, true, false, true, false, false, false, false, false, false, false, false, false, false, false, false, false, false, false, false, false, false, false, false, false, false, false]) (by kernel_rfl) rfl (by kernel_rfl) (fun w1 => ?_)
    refine TL.slit (qs := #[(0, _), (1, _)]) (fun _ f => by simp only [List.map_toArray, List.map_cons, List.map_nil]; rw [f.ev (x := .tmp 151) rfl]; (try rw [f.ev (x := .tmp 153) rfl])) (sl_43_2_0_1 (Rn.mk (1) (W3.mk (0) (2097249) 0)) (Rn.mk (1) (W3.mk (0) (2097152) 0))) rfl ?_
    intro b154
    refine TL.nil ?_
    refine TA.cont ((by repeat (first | exact .all | apply Perm.drop))) ?_
    refine TA.one (i := 5) (ls := #[true, true, true, true, true, true, true, false, true, false, false, false, true, false, true, false, true, false, false, false, false, false, false, false, false, false, false, false, false, false, false, false, false, false, false, false, false, false, false, false]) (by kernel_rfl) rfl (by kernel_rfl) (fun w1 => ?_)
    refine TL.call (g := 30) rfl go_30 rfl (fun w1 k1 => runsl_c _ _ _ w1) rfl ?_
    refine TL.nil ?_
    refine TA.cont ((by repeat (first | exact .all | apply Perm.drop))) ?_
    refine TA.one (i := 7) (ls := #[true, true, true, true, true, true, true, true, true, false, false, false, true, false, true, false, true, false, false, false, false, false, false, false, false, false, false, false, false, false, false, false, false, false, false, false, false, false, false, false]) (by kernel_rfl) rfl (by kernel_rfl) (fun w1 => ?_)
    refine TL.call (g := 31) rfl go_31 rfl (fun w1 k1 => runl_c (2) (W3.mk (0) (2097152) 0) w1) rfl ?_
    refine TL.nil ?_
    refine TA.cont ((by repeat (first | exact .all | apply Perm.drop))) ?_
    refine TA.one (i := 9) (ls := #[true, true, true, true, true, true, true, true, true, true, false, false, true, false, true, false, true, false, false, false, false, false, false, false, false, false, false, false, false, false, false, false, false, false, false, false, false, false, false, false]) (by kernel_rfl) rfl (by kernel_rfl) (fun w1 => ?_)
    refine TL.call (g := 31) rfl go_31 rfl (fun w1 k1 => runl_c (1) (W3.mk (0) (2097249) 0) w1) rfl ?_
    refine TL.nil ?_
    refine TA.cont ((by repeat (first | exact .all | apply Perm.drop))) ?_
    refine TA.one (i := 10) (ls := #[true, true, true, true, true, true, true, true, true, true, true, false, true, false, true, false, true, false, false, false, false, false, false, false, false, false, false, false, false, false, false, false, false, false, false, false, false, false, false, false]) (by kernel_rfl) rfl (by kernel_rfl) (fun w1 => ?_)
    refine TL.slit (qs := #[(0, _), (1, _)]) (fun _ f => by simp only [List.map_toArray, List.map_cons, List.map_nil]; rw [f.ev (x := .tmp 157) rfl]; (try rw [f.ev (x := .tmp 159) rfl])) (sl_43_2_0_1 (Rn.mk (2) (W3.mk (0) (2097152) 0)) (Rn.mk (1) (W3.mk (0) (2097249) 0))) rfl ?_
    intro b160
    refine TL.nil ?_
    refine TA.cont ((by repeat (first | exact .all | apply Perm.drop))) ?_
    refine TA.one (i := 11) (ls := #[true, true, true, true, true, true, true, true, true, true, true, true, true, false, true, false, true, false, false, false, false, false, false, false, false, false, false, false, false, false, false, false, false, false, false, false, false, false, false, false]) (by kernel_rfl) rfl (by kernel_rfl) (fun w1 => ?_)
    refine TL.call (g := 30) rfl go_30 rfl (fun w1 k1 => runsl_c _ _ _ w1) rfl ?_
    refine TL.nil ?_
    refine TA.cont ((by repeat (first | exact .all | apply Perm.drop))) ?_
    refine TA.one (i := 13) (ls := #[true, true, true, true, true, true, true, true, true, true, true, true, true, true, true, false, true, false, false, false, false, false, false, false, false, false, false, false, false, false, false, false, false, false, false, false, false, false, false, false]) (by kernel_rfl) rfl (by kernel_rfl) (fun w1 => ?_)
    refine TL.call (g := 31) rfl go_31 rfl (fun w1 k1 => runl_c (1) (W3.mk (0) (2097249) 0) w1) rfl ?_
    refine TL.nil ?_
    refine TA.cont ((by repeat (first | exact .all | apply Perm.drop))) ?_
    refine TA.one (i := 15) (ls := #[true, true, true, true, true, true, true, true, true, true, true, true, true, true, true, true, true, false, false, false, false, false, false, false, false, false, false, false, false, false, false, false, false, false, false, false, false, false, false, false]) (by kernel_rfl) rfl (by kernel_rfl) (fun w1 => ?_)
    refine TL.call (g := 31) rfl go_31 rfl (fun w1 k1 => runl_c (3) (W3.mk (0) (2097152) 0) w1) rfl ?_
    refine TL.nil ?_
    refine TA.cont ((by repeat (first | exact .all | apply Perm.drop))) ?_
    refine TA.one (i := 17) (ls := #[true, true, true, true, true, true, true, true, true, true, true, true, true, true, true, true, true, true, false, false, false, false, false, false, false, false, false, false, false, false, false, false, false, false, false, false, false, false, false, false]) (by kernel_rfl) rfl (by kernel_rfl) (fun w1 => ?_)
    refine TL.call (g := 31) rfl go_31 rfl (fun w1 k1 => runl_c (1) (W3.mk (0) (2097249) 0) w1) rfl ?_
    refine TL.nil ?_
    refine TA.cont ((by repeat (first | exact .all | apply Perm.drop))) ?_
    refine TA.one (i := 18) (ls := #[true, true, true, true, true, true, true, true, true, true, true, true, true, true, true, true, true, true, true, false, false, false, false, false, false, false, false, false, false, false, false, false, false, false, false, false, false, false, false, false]) (by kernel_rfl) rfl (by kernel_rfl) (fun w1 => ?_)
    refine TL.slit (qs := #[(0, _), (1, _), (2, _)]) (fun _ f => by simp only [List.map_toArray, List.map_cons, List.map_nil]; rw [f.ev (x := .tmp 163) rfl]; (try rw [f.ev (x := .tmp 165) rfl]); (try rw [f.ev (x := .tmp 167) rfl])) (sl_43_3_0_1_2 (Rn.mk (1) (W3.mk (0) (2097249) 0)) (Rn.mk (3) (W3.mk (0) (2097152) 0)) (Rn.mk (1) (W3.mk (0) (2097249) 0))) rfl ?_
    intro b168
    refine TL.nil ?_
    refine TA.cont ((by repeat (first | exact .all | apply Perm.drop))) ?_
    refine TA.one (i := 19) (ls := #[true, true, true, true, true, true, true, true, true, true, true, true, true, true, true, true, true, true, true, true, false, false, false, false, false, false, false, false, false, false, false, false, false, false, false, false, false, false, false, false]) (by kernel_rfl) rfl (by kernel_rfl) (fun w1 => ?_)
    refine TL.call (g := 23) rfl go_23 rfl (fun w1 k1 => joinsl_c (σ := fun b => w1.heap[b]?) (τ := fun b => w1.heap[b]?) (υ := fun b => w1.heap[b]?) w1 (0) (L.below k1.bel) (RsR.of_blk (ls := [(Rn.mk (1) (W3.mk (0) (2097249) 0)), (Rn.mk (1) (W3.mk (0) (2097152) 0))]) (k1.has (e := .blk b154 (rl [(Rn.mk (1) (W3.mk (0) (2097249) 0)), (Rn.mk (1) (W3.mk (0) (2097152) 0))]) 67) (by repeat first | exact List.Mem.head _ | apply List.Mem.tail)).2 rfl) (inRB_ok (by kernel_rfl)) (RsR.of_blk (ls := [(Rn.mk (2) (W3.mk (0) (2097152) 0)), (Rn.mk (1) (W3.mk (0) (2097249) 0))]) (k1.has (e := .blk b160 (rl [(Rn.mk (2) (W3.mk (0) (2097152) 0)), (Rn.mk (1) (W3.mk (0) (2097249) 0))]) 67) (by repeat first | exact List.Mem.head _ | apply List.Mem.tail)).2 rfl) (inRB_ok (by kernel_rfl)) (RsR.of_blk (ls := [(Rn.mk (1) (W3.mk (0) (2097249) 0)), (Rn.mk (3) (W3.mk (0) (2097152) 0)), (Rn.mk (1) (W3.mk (0) (2097249) 0))]) (k1.has (e := .blk b168 (rl [(Rn.mk (1) (W3.mk (0) (2097249) 0)), (Rn.mk (3) (W3.mk (0) (2097152) 0)), (Rn.mk (1) (W3.mk (0) (2097249) 0))]) 67) (by repeat first | exact List.Mem.head _ | apply List.Mem.tail)).2 rfl) (fun b o hb => hb) (fun b o hb => hb) (fun b o hb => hb)) rfl ?_
    refine TL.said (t := 169) rfl (show _ = Value.bool true from congrArg Value.bool ((by kernel_rfl))) ?_
    refine TL.nil ?_
    refine TA.cont ((by repeat (first | exact .all | apply Perm.drop))) ?_
    refine TA.takeP (i := 20) (ls := #[true, true, true, true, true, true, true, true, true, true, true, true, true, true, true, true, true, true, true, true, true, false, false, false, false, false, false, false, false, false, false, false, false, false, false, false, false, false, false, false]) rfl rfl rfl rfl rfl (by kernel_rfl) (by kernel_rfl) (by kernel_rfl) (by repeat (first | with_reducible exact PanicOk.body | with_reducible apply PanicOk.next | with_reducible apply PanicOk.block)) (OpV.move rfl) rfl (by kernel_rfl) ?_
    refine TA.take (i := 21) (ls := #[true, true, true, true, true, true, true, true, true, true, true, true, true, true, true, true, true, true, true, true, true, true, false, false, false, false, false, false, false, false, false, false, false, false, false, false, false, false, false, false]) rfl rfl rfl rfl rfl (by kernel_rfl) (by kernel_rfl) (by kernel_rfl) (by kernel_rfl) (by repeat (first | with_reducible exact PanicOk.body | with_reducible apply PanicOk.next | with_reducible apply PanicOk.block)) ((by repeat (first | exact .all | apply Perm.drop))) (OpV.loadA ag_34 rfl (Cels.blkAt (W3.mk (0) (2097249) 0).l (by first | exact P0 | exact P1 | exact P2 | exact P3 | exact P4 | exact P5 | exact P6 | exact P7 | exact P8 | exact P9) rfl rfl)) rfl (by kernel_rfl) ?_
    refine TA.one (i := 22) (ls := #[true, true, true, true, true, true, true, true, true, true, true, true, true, true, true, true, true, true, true, true, true, true, true, false, false, false, false, false, false, false, false, false, false, false, false, false, false, false, false, false]) (by kernel_rfl) rfl (by kernel_rfl) (fun w1 => ?_)
    refine TL.open rfl rfl ?_
    refine TL.call (g := 31) rfl go_31 rfl (fun w1 k1 => runl_c (100001) (W3.mk (0) (2097249) 0) w1) rfl ?_
    refine TL.nil ?_
    refine TA.cont ((by repeat (first | exact .all | apply Perm.drop))) ?_
    refine TA.one (i := 23) (ls := #[true, true, true, true, true, true, true, true, true, true, true, true, true, true, true, true, true, true, true, true, true, true, true, true, false, false, false, false, false, false, false, false, false, false, false, false, false, false, false, false]) (by kernel_rfl) rfl (by kernel_rfl) (fun w1 => ?_)
    refine TL.open rfl rfl ?_
    refine TL.slit (qs := #[(0, _)]) (fun _ f => by simp only [List.map_toArray, List.map_cons, List.map_nil]; rw [f.ev (x := .tmp 172) rfl]) (sl_43_1_0 (Rn.mk (100001) (W3.mk (0) (2097249) 0))) rfl ?_
    intro b173
    refine TL.nil ?_
    refine TA.cont ((by repeat (first | exact .all | apply Perm.drop))) ?_
    refine TA.one (i := 24) (ls := #[true, true, true, true, true, true, true, true, true, true, true, true, true, true, true, true, true, true, true, true, true, true, true, true, true, false, false, false, false, false, false, false, false, false, false, false, false, false, false, false]) (by kernel_rfl) rfl (by kernel_rfl) (fun w1 => ?_)
    refine TL.open rfl rfl ?_
    refine TL.call (g := 30) rfl go_30 rfl (fun w1 k1 => runsl_c _ _ _ w1) rfl ?_
    refine TL.nil ?_
    refine TA.cont ((by repeat (first | exact .all | apply Perm.drop))) ?_
    refine TA.one (i := 25) (ls := #[true, true, true, true, true, true, true, true, true, true, true, true, true, true, true, true, true, true, true, true, true, true, true, true, true, true, false, false, false, false, false, false, false, false, false, false, false, false, false, false]) (by kernel_rfl) rfl (by kernel_rfl) (fun w1 => ?_)
    refine TL.open rfl rfl ?_
    refine TL.call (g := 20) rfl go_20 rfl (fun w1 k1 => valid5_c (σ := fun b => w1.heap[b]?) w1 (L.below k1.bel) (RsR.of_blk (ls := [(Rn.mk (100001) (W3.mk (0) (2097249) 0))]) (k1.has (e := .blk b173 (rl [(Rn.mk (100001) (W3.mk (0) (2097249) 0))]) 67) (by repeat first | exact List.Mem.head _ | apply List.Mem.tail)).2 rfl) (inRB_ok (by kernel_rfl)) (fun b o hb => hb)) rfl ?_
    refine TL.said (t := 175) rfl (show _ = Value.bool false from congrArg Value.bool ((by kernel_rfl))) ?_
    refine TL.nil ?_
    refine TA.cont ((by repeat (first | exact .all | apply Perm.drop))) ?_
    refine TA.takeP (i := 26) (ls := #[true, true, true, true, true, true, true, true, true, true, true, true, true, true, true, true, true, true, true, true, true, true, true, true, true, true, true, false, false, false, false, false, false, false, false, false, false, false, false, false]) rfl rfl rfl rfl rfl (by kernel_rfl) (by kernel_rfl) (by kernel_rfl) (by repeat (first | with_reducible exact PanicOk.body | with_reducible apply PanicOk.next | with_reducible apply PanicOk.block)) (OpV.not rfl) rfl (by kernel_rfl) ?_
    refine TA.takeP (i := 27) (ls := #[true, true, true, true, true, true, true, true, true, true, true, true, true, true, true, true, true, true, true, true, true, true, true, true, true, true, true, true, false, false, false, false, false, false, false, false, false, false, false, false]) rfl rfl rfl rfl rfl (by kernel_rfl) (by kernel_rfl) (by kernel_rfl) (by repeat (first | with_reducible exact PanicOk.body | with_reducible apply PanicOk.next | with_reducible apply PanicOk.block)) ((by first | exact OpV.pick_t rfl rfl | exact OpV.pick_f rfl rfl)) rfl (by kernel_rfl) ?_
    refine TA.takeP (i := 28) (ls := #[true, true, true, true, true, true, true, true, true, true, true, true, true, true, true, true, true, true, true, true, true, true, true, true, true, true, true, true, true, false, false, false, false, false, false, false, false, false, false, false]) rfl rfl rfl rfl rfl (by kernel_rfl) (by kernel_rfl) (by kernel_rfl) (by repeat (first | with_reducible exact PanicOk.body | with_reducible apply PanicOk.next | with_reducible apply PanicOk.block)) (OpV.move rfl) rfl (by kernel_rfl) ?_
    refine TA.take (i := 29) (ls := #[true, true, true, true, true, true, true, true, true, true, true, true, true, true, true, true, true, true, true, true, true, true, true, true, true, true, true, true, true, true, false, false, false, false, false, false, false, false, false, false]) rfl rfl rfl rfl rfl (by kernel_rfl) (by kernel_rfl) (by kernel_rfl) (by kernel_rfl) (by repeat (first | with_reducible exact PanicOk.body | with_reducible apply PanicOk.next | with_reducible apply PanicOk.block)) ((by repeat (first | exact .all | apply Perm.drop))) (OpV.loadA ag_34 rfl (Cels.blkAt (W3.mk (0) (2097249) 0).l (by first | exact P0 | exact P1 | exact P2 | exact P3 | exact P4 | exact P5 | exact P6 | exact P7 | exact P8 | exact P9) rfl rfl)) rfl (by kernel_rfl) ?_
    refine TA.take (i := 33) (ls := #[true, true, true, true, true, true, true, true, true, true, true, true, true, true, true, true, true, true, true, true, true, true, true, true, true, true, true, true, true, true, false, false, false, true, false, false, false, false, false, false]) rfl rfl rfl rfl rfl (by kernel_rfl) (by kernel_rfl) (by kernel_rfl) (by kernel_rfl) (by repeat (first | with_reducible exact PanicOk.body | with_reducible apply PanicOk.next | with_reducible apply PanicOk.block)) ((by repeat (first | exact .all | apply Perm.drop))) (OpV.loadA ag_34 rfl (Cels.blkAt (W3.mk (0) (2097152) 0).l (by first | exact P0 | exact P1 | exact P2 | exact P3 | exact P4 | exact P5 | exact P6 | exact P7 | exact P8 | exact P9) rfl rfl)) rfl (by kernel_rfl) ?_
    refine TA.one (i := 30) (ls := #[true, true, true, true, true, true, true, true, true, true, true, true, true, true, true, true, true, true, true, true, true, true, true, true, true, true, true, true, true, true, true, false, false, true, false, false, false, false, false, false]) (by kernel_rfl) rfl (by kernel_rfl) (fun w1 => ?_)
    refine TL.open rfl rfl ?_
    refine TL.call (g := 31) rfl go_31 rfl (fun w1 k1 => runl_c (100000) (W3.mk (0) (2097249) 0) w1) rfl ?_
    refine TL.nil ?_
    refine TA.cont ((by repeat (first | exact .all | apply Perm.drop))) ?_
    refine TA.one (i := 31) (ls := #[true, true, true, true, true, true, true, true, true, true, true, true, true, true, true, true, true, true, true, true, true, true, true, true, true, true, true, true, true, true, true, true, false, true, false, false, false, false, false, false]) (by kernel_rfl) rfl (by kernel_rfl) (fun w1 => ?_)
    refine TL.open rfl rfl ?_
    refine TL.slit (qs := #[(0, _)]) (fun _ f => by simp only [List.map_toArray, List.map_cons, List.map_nil]; rw [f.ev (x := .tmp 180) rfl]) (sl_43_1_0 (Rn.mk (100000) (W3.mk (0) (2097249) 0))) rfl ?_
    intro b181
    refine TL.nil ?_
    refine TA.cont ((by repeat (first | exact .all | apply Perm.drop))) ?_
    refine TA.one (i := 32) (ls := #[true, true, true, true, true, true, true, true, true, true, true, true, true, true, true, true, true, true, true, true, true, true, true, true, true, true, true, true, true, true, true, true, true, true, false, false, false, false, false, false]) (by kernel_rfl) rfl (by kernel_rfl) (fun w1 => ?_)
    refine TL.open rfl rfl ?_
    refine TL.call (g := 30) rfl go_30 rfl (fun w1 k1 => runsl_c _ _ _ w1) rfl ?_
    refine TL.nil ?_
    refine TA.cont ((by repeat (first | exact .all | apply Perm.drop))) ?_
    refine TA.one (i := 34) (ls := #[true, true, true, true, true, true, true, true, true, true, true, true, true, true, true, true, true, true, true, true, true, true, true, true, true, true, true, true, true, true, true, true, true, true, true, false, false, false, false, false]) (by kernel_rfl) rfl (by kernel_rfl) (fun w1 => ?_)
    refine TL.open rfl rfl ?_
    refine TL.call (g := 31) rfl go_31 rfl (fun w1 k1 => runl_c (1) (W3.mk (0) (2097152) 0) w1) rfl ?_
    refine TL.nil ?_
    refine TA.cont ((by repeat (first | exact .all | apply Perm.drop))) ?_
    refine TA.one (i := 35) (ls := #[true, true, true, true, true, true, true, true, true, true, true, true, true, true, true, true, true, true, true, true, true, true, true, true, true, true, true, true, true, true, true, true, true, true, true, true, false, false, false, false]) (by kernel_rfl) rfl (by kernel_rfl) (fun w1 => ?_)
    refine TL.open rfl rfl ?_
    refine TL.slit (qs := #[(0, _)]) (fun _ f => by simp only [List.map_toArray, List.map_cons, List.map_nil]; rw [f.ev (x := .tmp 184) rfl]) (sl_43_1_0 (Rn.mk (1) (W3.mk (0) (2097152) 0))) rfl ?_
    intro b185
    refine TL.nil ?_
    refine TA.cont ((by repeat (first | exact .all | apply Perm.drop))) ?_
    refine TA.one (i := 36) (ls := #[true, true, true, true, true, true, true, true, true, true, true, true, true, true, true, true, true, true, true, true, true, true, true, true, true, true, true, true, true, true, true, true, true, true, true, true, true, false, false, false]) (by kernel_rfl) rfl (by kernel_rfl) (fun w1 => ?_)
    refine TL.open rfl rfl ?_
    refine TL.call (g := 30) rfl go_30 rfl (fun w1 k1 => runsl_c _ _ _ w1) rfl ?_
    refine TL.nil ?_
    refine TA.cont ((by repeat (first | exact .all | apply Perm.drop))) ?_
    refine TA.one (i := 37) (ls := #[true, true, true, true, true, true, true, true, true, true, true, true, true, true, true, true, true, true, true, true, true, true, true, true, true, true, true, true, true, true, true, true, true, true, true, true, true, true, false, false]) (by kernel_rfl) rfl (by kernel_rfl) (fun w1 => ?_)
    refine TL.open rfl rfl ?_
    refine TL.call (g := 23) rfl go_23 rfl (fun w1 k1 => joinsl_c (σ := fun b => w1.heap[b]?) (τ := fun b => w1.heap[b]?) (υ := fun b => w1.heap[b]?) w1 (5) (L.below k1.bel) (RsR.of_blk (ls := [(Rn.mk (100000) (W3.mk (0) (2097249) 0))]) (k1.has (e := .blk b181 (rl [(Rn.mk (100000) (W3.mk (0) (2097249) 0))]) 67) (by repeat first | exact List.Mem.head _ | apply List.Mem.tail)).2 rfl) (inRB_ok (by kernel_rfl)) (RsR.of_blk (ls := [(Rn.mk (1) (W3.mk (0) (2097152) 0))]) (k1.has (e := .blk b185 (rl [(Rn.mk (1) (W3.mk (0) (2097152) 0))]) 67) (by repeat first | exact List.Mem.head _ | apply List.Mem.tail)).2 rfl) (inRB_ok (by kernel_rfl)) (RsR_nil _) (fun b o hb => hb) (fun b o hb => hb) (fun b o hb => hb)) rfl ?_
    refine TL.said (t := 187) rfl (show _ = Value.bool true from congrArg Value.bool ((by kernel_rfl))) ?_
    refine TL.nil ?_
    refine TA.cont ((by repeat (first | exact .all | apply Perm.drop))) ?_
    refine TA.takeP (i := 38) (ls := #[true, true, true, true, true, true, true, true, true, true, true, true, true, true, true, true, true, true, true, true, true, true, true, true, true, true, true, true, true, true, true, true, true, true, true, true, true, true, true, false]) rfl rfl rfl rfl rfl (by kernel_rfl) (by kernel_rfl) (by kernel_rfl) (by repeat (first | with_reducible exact PanicOk.body | with_reducible apply PanicOk.next | with_reducible apply PanicOk.block)) ((by first | exact OpV.pick_t rfl rfl | exact OpV.pick_f rfl rfl)) rfl (by kernel_rfl) ?_
    refine TA.takeP (i := 39) (ls := #[true, true, true, true, true, true, true, true, true, true, true, true, true, true, true, true, true, true, true, true, true, true, true, true, true, true, true, true, true, true, true, true, true, true, true, true, true, true, true, true]) rfl rfl rfl rfl rfl (by kernel_rfl) (by kernel_rfl) (by kernel_rfl) (by repeat (first | with_reducible exact PanicOk.body | with_reducible apply PanicOk.next | with_reducible apply PanicOk.block)) (OpV.assign rfl) rfl (by kernel_rfl) ?_
    refine TA.done (by kernel_rfl) ?_
    refine TE.sub (.cons (t := 0) rfl <| .nil) ?_
    refine TE.next ?_
    refine T.ret ?_
    refine TE.ret1 rfl (ResV.tmp rfl) ?_
    exact fun w1 k1 => ⟨rfl, k1.bel⟩
  intro tail
  refine TA.take (i := 0) (ls := #[true, false, false, false, false, false, false, false, false, false, false, false, false, false, false, false, false, false, false, false, false, false, false, false, false, false, false, false, false, false, false, false, false, false, false, false, false, false, false, false, false, false, false, false, false, false, false, false, false, false, false, false, false, false, false]) rfl rfl rfl rfl rfl (by kernel_rfl) (by kernel_rfl) (by kernel_rfl) (by kernel_rfl) (by repeat (first | with_reducible exact PanicOk.body | with_reducible apply PanicOk.next | with_reducible apply PanicOk.block)) ((by repeat (first | exact .all | apply Perm.drop))) (OpV.loadA ag_30 rfl (Cels.blkAt (Cl.mk (97) 0 0 0 (1) Pen.zero).l (by first | exact P0 | exact P1 | exact P2 | exact P3 | exact P4 | exact P5 | exact P6 | exact P7 | exact P8 | exact P9) rfl rfl)) rfl (by kernel_rfl) ?_
  refine TA.take (i := 1) (ls := #[true, true, false, false, false, false, false, false, false, false, false, false, false, false, false, false, false, false, false, false, false, false, false, false, false, false, false, false, false, false, false, false, false, false, false, false, false, false, false, false, false, false, false, false, false, false, false, false, false, false, false, false, false, false, false]) rfl rfl rfl rfl rfl (by kernel_rfl) (by kernel_rfl) (by kernel_rfl) (by kernel_rfl) (by repeat (first | with_reducible exact PanicOk.body | with_reducible apply PanicOk.next | with_reducible apply PanicOk.block)) ((by repeat (first | exact .all | apply Perm.drop))) (OpV.loadA ag_30 rfl (Cels.blkAt (Cl.mk (97) 0 0 0 (1) Pen.zero).l (by first | exact P0 | exact P1 | exact P2 | exact P3 | exact P4 | exact P5 | exact P6 | exact P7 | exact P8 | exact P9) rfl rfl)) rfl (by kernel_rfl) ?_
  refine TA.take (i := 2) (ls := #[true, true, true, false, false, false, false, false, false, false, false, false, false, false, false, false, false, false, false, false, false, false, false, false, false, false, false, false, false, false, false, false, false, false, false, false, false, false, false, false, false, false, false, false, false, false, false, false, false, false, false, false, false, false, false]) rfl rfl rfl rfl rfl (by kernel_rfl) (by kernel_rfl) (by kernel_rfl) (by kernel_rfl) (by repeat (first | with_reducible exact PanicOk.body | with_reducible apply PanicOk.next | with_reducible apply PanicOk.block)) ((by repeat (first | exact .all | apply Perm.drop))) (OpV.loadA ag_30 rfl (Cels.blkAt (Cl.mk 0 0 0 0 (1) Pen.zero).l (by first | exact P0 | exact P1 | exact P2 | exact P3 | exact P4 | exact P5 | exact P6 | exact P7 | exact P8 | exact P9) rfl rfl)) rfl (by kernel_rfl) ?_
  refine TA.take (i := 3) (ls := #[true, true, true, true, false, false, false, false, false, false, false, false, false, false, false, false, false, false, false, false, false, false, false, false, false, false, false, false, false, false, false, false, false, false, false, false, false, false, false, false, false, false, false, false, false, false, false, false, false, false, false, false, false, false, false]) rfl rfl rfl rfl rfl (by kernel_rfl) (by kernel_rfl) (by kernel_rfl) (by kernel_rfl) (by repeat (first | with_reducible exact PanicOk.body | with_reducible apply PanicOk.next | with_reducible apply PanicOk.block)) ((by repeat (first | exact .all | apply Perm.drop))) (OpV.loadA ag_30 rfl (Cels.blkAt (Cl.mk (19968) 0 0 0 (2) Pen.zero).l (by first | exact P0 | exact P1 | exact P2 | exact P3 | exact P4 | exact P5 | exact P6 | exact P7 | exact P8 | exact P9) rfl rfl)) rfl (by kernel_rfl) ?_
  refine TA.take (i := 4) (ls := #[true, true, true, true, true, false, false, false, false, false, false, false, false, false, false, false, false, false, false, false, false, false, false, false, false, false, false, false, false, false, false, false, false, false, false, false, false, false, false, false, false, false, false, false, false, false, false, false, false, false, false, false, false, false, false]) rfl rfl rfl rfl rfl (by kernel_rfl) (by kernel_rfl) (by kernel_rfl) (by kernel_rfl) (by repeat (first | with_reducible exact PanicOk.body | with_reducible apply PanicOk.next | with_reducible apply PanicOk.block)) ((by repeat (first | exact .all | apply Perm.drop))) (OpV.loadA ag_30 rfl (Cels.blkAt Cl.zero.l (by first | exact P0 | exact P1 | exact P2 | exact P3 | exact P4 | exact P5 | exact P6 | exact P7 | exact P8 | exact P9) rfl rfl)) rfl (by kernel_rfl) ?_
  refine TA.take (i := 6) (ls := #[true, true, true, true, true, false, true, false, false, false, false, false, false, false, false, false, false, false, false, false, false, false, false, false, false, false, false, false, false, false, false, false, false, false, false, false, false, false, false, false, false, false, false, false, false, false, false, false, false, false, false, false, false, false, false]) rfl rfl rfl rfl rfl (by kernel_rfl) (by kernel_rfl) (by kernel_rfl) (by kernel_rfl) (by repeat (first | with_reducible exact PanicOk.body | with_reducible apply PanicOk.next | with_reducible apply PanicOk.block)) ((by repeat (first | exact .all | apply Perm.drop))) (OpV.loadA ag_34 rfl (Cels.blkAt (W3.mk (0) (2097249) 0).l (by first | exact P0 | exact P1 | exact P2 | exact P3 | exact P4 | exact P5 | exact P6 | exact P7 | exact P8 | exact P9) rfl rfl)) rfl (by kernel_rfl) ?_
  refine TA.take (i := 8) (ls := #[true, true, true, true, true, false, true, false, true, false, false, false, false, false, false, false, false, false, false, false, false, false, false, false, false, false, false, false, false, false, false, false, false, false, false, false, false, false, false, false, false, false, false, false, false, false, false, false, false, false, false, false, false, false, false]) rfl rfl rfl rfl rfl (by kernel_rfl) (by kernel_rfl) (by kernel_rfl) (by kernel_rfl) (by repeat (first | with_reducible exact PanicOk.body | with_reducible apply PanicOk.next | with_reducible apply PanicOk.block)) ((by repeat (first | exact .all | apply Perm.drop))) (OpV.loadA ag_34 rfl (Cels.blkAt (W3.mk (0) (2097152) 0).l (by first | exact P0 | exact P1 | exact P2 | exact P3 | exact P4 | exact P5 | exact P6 | exact P7 | exact P8 | exact P9) rfl rfl)) rfl (by kernel_rfl) ?_
  refine TA.take (i := 10) (ls := #[true, true, true, true, true, false, true, false, true, false, true, false, false, false, false, false, false, false, false, false, false, false, false, false, false, false, false, false, false, false, false, false, false, false, false, false, false, false, false, false, false, false, false, false, false, false, false, false, false, false, false, false, false, false, false]) rfl rfl rfl rfl rfl (by kernel_rfl) (by kernel_rfl) (by kernel_rfl) (by kernel_rfl) (by repeat (first | with_reducible exact PanicOk.body | with_reducible apply PanicOk.next | with_reducible apply PanicOk.block)) ((by repeat (first | exact .all | apply Perm.drop))) (OpV.loadA ag_34 rfl (Cels.blkAt (W3.mk (0) (4214272) 0).l (by first | exact P0 | exact P1 | exact P2 | exact P3 | exact P4 | exact P5 | exact P6 | exact P7 | exact P8 | exact P9) rfl rfl)) rfl (by kernel_rfl) ?_
  refine TA.takeP (i := 12) (ls := #[true, true, true, true, true, false, true, false, true, false, true, false, true, false, false, false, false, false, false, false, false, false, false, false, false, false, false, false, false, false, false, false, false, false, false, false, false, false, false, false, false, false, false, false, false, false, false, false, false, false, false, false, false, false, false]) rfl rfl rfl rfl rfl (by kernel_rfl) (by kernel_rfl) (by kernel_rfl) (by repeat (first | with_reducible exact PanicOk.body | with_reducible apply PanicOk.next | with_reducible apply PanicOk.block)) (OpV.build (qs := #[]) (fun _ _ => by simp) (bld_34 )) rfl (by kernel_rfl) ?_
  refine TA.two (i := 5) (i' := 7) (ls := #[true, true, true, true, true, true, true, false, true, false, true, false, true, false, false, false, false, false, false, false, false, false, false, false, false, false, false, false, false, false, false, false, false, false, false, false, false, false, false, false, false, false, false, false, false, false, false, false, false, false, false, false, false, false, false]) (ls' := #[true, true, true, true, true, false, true, true, true, false, true, false, true, false, false, false, false, false, false, false, false, false, false, false, false, false, false, false, false, false, false, false, false, false, false, false, false, false, false, false, false, false, false, false, false, false, false, false, false, false, false, false, false, false, false]) (by kernel_rfl) rfl rfl (by kernel_rfl) (by kernel_rfl) (fun w1 => ?_) (fun w1 => ?_)
  · skip
    refine TL.slit (qs := #[(0, _), (1, _), (2, _), (3, _), (4, _)]) (fun _ f => by simp only [List.map_toArray, List.map_cons, List.map_nil]; rw [f.ev (x := .tmp 95) rfl]; (try rw [f.ev (x := .tmp 96) rfl]); (try rw [f.ev (x := .tmp 97) rfl]); (try rw [f.ev (x := .tmp 98) rfl]); (try rw [f.ev (x := .tmp 99) rfl])) (sl_42_5_0_1_2_3_4 (Cl.mk (97) 0 0 0 (1) Pen.zero) (Cl.mk (97) 0 0 0 (1) Pen.zero) (Cl.mk 0 0 0 0 (1) Pen.zero) (Cl.mk (19968) 0 0 0 (2) Pen.zero) Cl.zero) rfl ?_
    intro b100
    refine TL.nil ?_
    refine TA.cont ((by repeat (first | exact .all | apply Perm.drop))) ?_
    refine TA.one (i := 7) (ls := #[true, true, true, true, true, true, true, true, true, false, true, false, true, false, false, false, false, false, false, false, false, false, false, false, false, false, false, false, false, false, false, false, false, false, false, false, false, false, false, false, false, false, false, false, false, false, false, false, false, false, false, false, false, false, false]) (by kernel_rfl) rfl (by kernel_rfl) (fun w1 => ?_)
    refine TL.call (g := 31) rfl go_31 rfl (fun w1 k1 => runl_c (2) (W3.mk (0) (2097249) 0) w1) rfl ?_
    refine TL.nil ?_
    refine TA.cont ((by repeat (first | exact .all | apply Perm.drop))) ?_
    refine TA.one (i := 9) (ls := #[true, true, true, true, true, true, true, true, true, true, true, false, true, false, false, false, false, false, false, false, false, false, false, false, false, false, false, false, false, false, false, false, false, false, false, false, false, false, false, false, false, false, false, false, false, false, false, false, false, false, false, false, false, false, false]) (by kernel_rfl) rfl (by kernel_rfl) (fun w1 => ?_)
    refine TL.call (g := 31) rfl go_31 rfl (fun w1 k1 => runl_c (1) (W3.mk (0) (2097152) 0) w1) rfl ?_
    refine TL.nil ?_
    refine TA.cont ((by repeat (first | exact .all | apply Perm.drop))) ?_
    refine TA.one (i := 11) (ls := #[true, true, true, true, true, true, true, true, true, true, true, true, true, false, false, false, false, false, false, false, false, false, false, false, false, false, false, false, false, false, false, false, false, false, false, false, false, false, false, false, false, false, false, false, false, false, false, false, false, false, false, false, false, false, false]) (by kernel_rfl) rfl (by kernel_rfl) (fun w1 => ?_)
    refine TL.call (g := 31) rfl go_31 rfl (fun w1 k1 => runl_c (1) (W3.mk (0) (4214272) 0) w1) rfl ?_
    refine TL.nil ?_
    refine TA.cont ((by repeat (first | exact .all | apply Perm.drop))) ?_
    refine TA.one (i := 13) (ls := #[true, true, true, true, true, true, true, true, true, true, true, true, true, true, false, false, false, false, false, false, false, false, false, false, false, false, false, false, false, false, false, false, false, false, false, false, false, false, false, false, false, false, false, false, false, false, false, false, false, false, false, false, false, false, false]) (by kernel_rfl) rfl (by kernel_rfl) (fun w1 => ?_)
    refine TL.call (g := 31) rfl go_31 rfl (fun w1 k1 => runl_c (1) W3.zero w1) rfl ?_
    refine TL.nil ?_
    refine TA.cont ((by repeat (first | exact .all | apply Perm.drop))) ?_
    refine TA.one (i := 14) (ls := #[true, true, true, true, true, true, true, true, true, true, true, true, true, true, true, false, false, false, false, false, false, false, false, false, false, false, false, false, false, false, false, false, false, false, false, false, false, false, false, false, false, false, false, false, false, false, false, false, false, false, false, false, false, false, false]) (by kernel_rfl) rfl (by kernel_rfl) (fun w1 => ?_)
    refine TL.slit (qs := #[(0, _), (1, _), (2, _), (3, _)]) (fun _ f => by simp only [List.map_toArray, List.map_cons, List.map_nil]; rw [f.ev (x := .tmp 102) rfl]; (try rw [f.ev (x := .tmp 104) rfl]); (try rw [f.ev (x := .tmp 106) rfl]); (try rw [f.ev (x := .tmp 108) rfl])) (sl_43_4_0_1_2_3 (Rn.mk (2) (W3.mk (0) (2097249) 0)) (Rn.mk (1) (W3.mk (0) (2097152) 0)) (Rn.mk (1) (W3.mk (0) (4214272) 0)) (Rn.mk (1) W3.zero)) rfl ?_
    intro b109
    refine TL.nil ?_
    refine TA.cont ((by repeat (first | exact .all | apply Perm.drop))) ?_
    exact TA.sub (.cons (t := 1) rfl <| .cons (t := 2) rfl <| .cons (t := 3) rfl <| .cons (t := 4) rfl <| .cons (t := 6) rfl <| .cons (t := 7) rfl <| .cons (t := 8) rfl <| .cons (t := 10) rfl <| .cons (t := 11) rfl <| .cons (t := 100) rfl <| .cons (t := 109) rfl <| .nil) (TA.kle (Perm.kle (by first | exact .all | exact .cons P1 .all)) (tail (b100, b109)))
  · skip
    refine TL.call (g := 31) rfl go_31 rfl (fun w1 k1 => runl_c (2) (W3.mk (0) (2097249) 0) w1) rfl ?_
    refine TL.nil ?_
    refine TA.cont ((by repeat (first | exact .all | apply Perm.drop))) ?_
    refine TA.two (i := 5) (i' := 9) (ls := #[true, true, true, true, true, true, true, true, true, false, true, false, true, false, false, false, false, false, false, false, false, false, false, false, false, false, false, false, false, false, false, false, false, false, false, false, false, false, false, false, false, false, false, false, false, false, false, false, false, false, false, false, false, false, false]) (ls' := #[true, true, true, true, true, false, true, true, true, true, true, false, true, false, false, false, false, false, false, false, false, false, false, false, false, false, false, false, false, false, false, false, false, false, false, false, false, false, false, false, false, false, false, false, false, false, false, false, false, false, false, false, false, false, false]) (by kernel_rfl) rfl rfl (by kernel_rfl) (by kernel_rfl) (fun w1 => ?_) (fun w1 => ?_)
    · skip
      refine TL.slit (qs := #[(0, _), (1, _), (2, _), (3, _), (4, _)]) (fun _ f => by simp only [List.map_toArray, List.map_cons, List.map_nil]; rw [f.ev (x := .tmp 95) rfl]; (try rw [f.ev (x := .tmp 96) rfl]); (try rw [f.ev (x := .tmp 97) rfl]); (try rw [f.ev (x := .tmp 98) rfl]); (try rw [f.ev (x := .tmp 99) rfl])) (sl_42_5_0_1_2_3_4 (Cl.mk (97) 0 0 0 (1) Pen.zero) (Cl.mk (97) 0 0 0 (1) Pen.zero) (Cl.mk 0 0 0 0 (1) Pen.zero) (Cl.mk (19968) 0 0 0 (2) Pen.zero) Cl.zero) rfl ?_
      intro b100
      refine TL.nil ?_
      refine TA.cont ((by repeat (first | exact .all | apply Perm.drop))) ?_
      refine TA.one (i := 9) (ls := #[true, true, true, true, true, true, true, true, true, true, true, false, true, false, false, false, false, false, false, false, false, false, false, false, false, false, false, false, false, false, false, false, false, false, false, false, false, false, false, false, false, false, false, false, false, false, false, false, false, false, false, false, false, false, false]) (by kernel_rfl) rfl (by kernel_rfl) (fun w1 => ?_)
      refine TL.call (g := 31) rfl go_31 rfl (fun w1 k1 => runl_c (1) (W3.mk (0) (2097152) 0) w1) rfl ?_
      refine TL.nil ?_
      refine TA.cont ((by repeat (first | exact .all | apply Perm.drop))) ?_
      refine TA.one (i := 11) (ls := #[true, true, true, true, true, true, true, true, true, true, true, true, true, false, false, false, false, false, false, false, false, false, false, false, false, false, false, false, false, false, false, false, false, false, false, false, false, false, false, false, false, false, false, false, false, false, false, false, false, false, false, false, false, false, false]) (by kernel_rfl) rfl (by kernel_rfl) (fun w1 => ?_)
      refine TL.call (g := 31) rfl go_31 rfl (fun w1 k1 => runl_c (1) (W3.mk (0) (4214272) 0) w1) rfl ?_
      refine TL.nil ?_
      refine TA.cont ((by repeat (first | exact .all | apply Perm.drop))) ?_
      refine TA.one (i := 13) (ls := #[true, true, true, true, true, true, true, true, true, true, true, true, true, true, false, false, false, false, false, false, false, false, false, false, false, false, false, false, false, false, false, false, false, false, false, false, false, false, false, false, false, false, false, false, false, false, false, false, false, false, false, false, false, false, false]) (by kernel_rfl) rfl (by kernel_rfl) (fun w1 => ?_)
      refine TL.call (g := 31) rfl go_31 rfl (fun w1 k1 => runl_c (1) W3.zero w1) rfl ?_
      refine TL.nil ?_
      refine TA.cont ((by repeat (first | exact .all | apply Perm.drop))) ?_
      refine TA.one (i := 14) (ls := #[true, true, true, true, true, true, true, true, true, true, true, true, true, true, true, false, false, false, false, false, false, false, false, false, false, false, false, false, false, false, false, false, false, false, false, false, false, false, false, false, false, false, false, false, false, false, false, false, false, false, false, false, false, false, false]) (by kernel_rfl) rfl (by kernel_rfl) (fun w1 => ?_)
      refine TL.slit (qs := #[(0, _), (1, _), (2, _), (3, _)]) (fun _ f => by simp only [List.map_toArray, List.map_cons, List.map_nil]; rw [f.ev (x := .tmp 102) rfl]; (try rw [f.ev (x := .tmp 104) rfl]); (try rw [f.ev (x := .tmp 106) rfl]); (try rw [f.ev (x := .tmp 108) rfl])) (sl_43_4_0_1_2_3 (Rn.mk (2) (W3.mk (0) (2097249) 0)) (Rn.mk (1) (W3.mk (0) (2097152) 0)) (Rn.mk (1) (W3.mk (0) (4214272) 0)) (Rn.mk (1) W3.zero)) rfl ?_
      intro b109
      refine TL.nil ?_
      refine TA.cont ((by repeat (first | exact .all | apply Perm.drop))) ?_
      exact TA.sub (.cons (t := 1) rfl <| .cons (t := 2) rfl <| .cons (t := 3) rfl <| .cons (t := 4) rfl <| .cons (t := 6) rfl <| .cons (t := 7) rfl <| .cons (t := 8) rfl <| .cons (t := 10) rfl <| .cons (t := 11) rfl <| .cons (t := 100) rfl <| .cons (t := 109) rfl <| .nil) (TA.kle (Perm.kle (by first | exact .all | exact .cons P1 .all)) (tail (b100, b109)))
    · skip
      refine TL.call (g := 31) rfl go_31 rfl (fun w1 k1 => runl_c (1) (W3.mk (0) (2097152) 0) w1) rfl ?_
      refine TL.nil ?_
      refine TA.cont ((by repeat (first | exact .all | apply Perm.drop))) ?_
      refine TA.two (i := 5) (i' := 11) (ls := #[true, true, true, true, true, true, true, true, true, true, true, false, true, false, false, false, false, false, false, false, false, false, false, false, false, false, false, false, false, false, false, false, false, false, false, false, false, false, false, false, false, false, false, false, false, false, false, false, false, false, false, false, false, false, false]) (ls' := #[true, true, true, true, true, false, true, true, true, true, true, true, true, false, false, false, false, false, false, false, false, false, false, false, false, false, false, false, false, false, false, false, false, false, false, false, false, false, false, false, false, false, false, false, false, false, false, false, false, false, false, false, false, false, false]) (by kernel_rfl) rfl rfl (by kernel_rfl) (by kernel_rfl) (fun w1 => ?_) (fun w1 => ?_)
      · skip
        refine TL.slit (qs := #[(0, _), (1, _), (2, _), (3, _), (4, _)]) (fun _ f => by simp only [List.map_toArray, List.map_cons, List.map_nil]; rw [f.ev (x := .tmp 95) rfl]; (try rw [f.ev (x := .tmp 96) rfl]); (try rw [f.ev (x := .tmp 97) rfl]); (try rw [f.ev (x := .tmp 98) rfl]); (try rw [f.ev (x := .tmp 99) rfl])) (sl_42_5_0_1_2_3_4 (Cl.mk (97) 0 0 0 (1) Pen.zero) (Cl.mk (97) 0 0 0 (1) Pen.zero) (Cl.mk 0 0 0 0 (1) Pen.zero) (Cl.mk (19968) 0 0 0 (2) Pen.zero) Cl.zero) rfl ?_
        intro b100
        refine TL.nil ?_
        refine TA.cont ((by repeat (first | exact .all | apply Perm.drop))) ?_
        refine TA.one (i := 11) (ls := #[true, true, true, true, true, true, true, true, true, true, true, true, true, false, false, false, false, false, false, false, false, false, false, false, false, false, false, false, false, false, false, false, false, false, false, false, false, false, false, false, false, false, false, false, false, false, false, false, false, false, false, false, false, false, false]) (by kernel_rfl) rfl (by kernel_rfl) (fun w1 => ?_)
        refine TL.call (g := 31) rfl go_31 rfl (fun w1 k1 => runl_c (1) (W3.mk (0) (4214272) 0) w1) rfl ?_
        refine TL.nil ?_
        refine TA.cont ((by repeat (first | exact .all | apply Perm.drop))) ?_
        refine TA.one (i := 13) (ls := #[true, true, true, true, true, true, true, true, true, true, true, true, true, true, false, false, false, false, false, false, false, false, false, false, false, false, false, false, false, false, false, false, false, false, false, false, false, false, false, false, false, false, false, false, false, false, false, false, false, false, false, false, false, false, false]) (by kernel_rfl) rfl (by kernel_rfl) (fun w1 => ?_)
        refine TL.call (g := 31) rfl go_31 rfl (fun w1 k1 => runl_c (1) W3.zero w1) rfl ?_
        refine TL.nil ?_
        refine TA.cont ((by repeat (first | exact .all | apply Perm.drop))) ?_
        refine TA.one (i := 14) (ls := #[true, true, true, true, true, true, true, true, true, true, true, true, true, true, true, false, false, false, false, false, false, false, false, false, false, false, false, false, false, false, false, false, false, false, false, false, false, false, false, false, false, false, false, false, false, false, false, false, false, false, false, false, false, false, false]) (by kernel_rfl) rfl (by kernel_rfl) (fun w1 => ?_)
        refine TL.slit (qs := #[(0, _), (1, _), (2, _), (3, _)]) (fun _ f => by simp only [List.map_toArray, List.map_cons, List.map_nil]; rw [f.ev (x := .tmp 102) rfl]; (try rw [f.ev (x := .tmp 104) rfl]); (try rw [f.ev (x := .tmp 106) rfl]); (try rw [f.ev (x := .tmp 108) rfl])) (sl_43_4_0_1_2_3 (Rn.mk (2) (W3.mk (0) (2097249) 0)) (Rn.mk (1) (W3.mk (0) (2097152) 0)) (Rn.mk (1) (W3.mk (0) (4214272) 0)) (Rn.mk (1) W3.zero)) rfl ?_
        intro b109
        refine TL.nil ?_
        refine TA.cont ((by repeat (first | exact .all | apply Perm.drop))) ?_
        exact TA.sub (.cons (t := 1) rfl <| .cons (t := 2) rfl <| .cons (t := 3) rfl <| .cons (t := 4) rfl <| .cons (t := 6) rfl <| .cons (t := 7) rfl <| .cons (t := 8) rfl <| .cons (t := 10) rfl <| .cons (t := 11) rfl <| .cons (t := 100) rfl <| .cons (t := 109) rfl <| .nil) (TA.kle (Perm.kle (by first | exact .all | exact .cons P1 .all)) (tail (b100, b109)))
      · skip
        refine TL.call (g := 31) rfl go_31 rfl (fun w1 k1 => runl_c (1) (W3.mk (0) (4214272) 0) w1) rfl ?_
        refine TL.nil ?_
        refine TA.cont ((by repeat (first | exact .all | apply Perm.drop))) ?_
        refine TA.two (i := 5) (i' := 13) (ls := #[true, true, true, true, true, true, true, true, true, true, true, true, true, false, false, false, false, false, false, false, false, false, false, false, false, false, false, false, false, false, false, false, false, false, false, false, false, false, false, false, false, false, false, false, false, false, false, false, false, false, false, false, false, false, false]) (ls' := #[true, true, true, true, true, false, true, true, true, true, true, true, true, true, false, false, false, false, false, false, false, false, false, false, false, false, false, false, false, false, false, false, false, false, false, false, false, false, false, false, false, false, false, false, false, false, false, false, false, false, false, false, false, false, false]) (by kernel_rfl) rfl rfl (by kernel_rfl) (by kernel_rfl) (fun w1 => ?_) (fun w1 => ?_)
        · skip
          refine TL.slit (qs := #[(0, _), (1, _), (2, _), (3, _), (4, _)]) (fun _ f => by simp only [List.map_toArray, List.map_cons, List.map_nil]; rw [f.ev (x := .tmp 95) rfl]; (try rw [f.ev (x := .tmp 96) rfl]); (try rw [f.ev (x := .tmp 97) rfl]); (try rw [f.ev (x := .tmp 98) rfl]); (try rw [f.ev (x := .tmp 99) rfl])) (sl_42_5_0_1_2_3_4 (Cl.mk (97) 0 0 0 (1) Pen.zero) (Cl.mk (97) 0 0 0 (1) Pen.zero) (Cl.mk 0 0 0 0 (1) Pen.zero) (Cl.mk (19968) 0 0 0 (2) Pen.zero) Cl.zero) rfl ?_
          intro b100
          refine TL.nil ?_
          refine TA.cont ((by repeat (first | exact .all | apply Perm.drop))) ?_
          refine TA.one (i := 13) (ls := #[true, true, true, true, true, true, true, true, true, true, true, true, true, true, false, false, false, false, false, false, false, false, false, false, false, false, false, false, false, false, false, false, false, false, false, false, false, false, false, false, false, false, false, false, false, false, false, false, false, false, false, false, false, false, false]) (by kernel_rfl) rfl (by kernel_rfl) (fun w1 => ?_)
          refine TL.call (g := 31) rfl go_31 rfl (fun w1 k1 => runl_c (1) W3.zero w1) rfl ?_
          refine TL.nil ?_
          refine TA.cont ((by repeat (first | exact .all | apply Perm.drop))) ?_
          refine TA.one (i := 14) (ls := #[true, true, true, true, true, true, true, true, true, true, true, true, true, true, true, false, false, false, false, false, false, false, false, false, false, false, false, false, false, false, false, false, false, false, false, false, false, false, false, false, false, false, false, false, false, false, false, false, false, false, false, false, false, false, false]) (by kernel_rfl) rfl (by kernel_rfl) (fun w1 => ?_)
          refine TL.slit (qs := #[(0, _), (1, _), (2, _), (3, _)]) (fun _ f => by simp only [List.map_toArray, List.map_cons, List.map_nil]; rw [f.ev (x := .tmp 102) rfl]; (try rw [f.ev (x := .tmp 104) rfl]); (try rw [f.ev (x := .tmp 106) rfl]); (try rw [f.ev (x := .tmp 108) rfl])) (sl_43_4_0_1_2_3 (Rn.mk (2) (W3.mk (0) (2097249) 0)) (Rn.mk (1) (W3.mk (0) (2097152) 0)) (Rn.mk (1) (W3.mk (0) (4214272) 0)) (Rn.mk (1) W3.zero)) rfl ?_
          intro b109
          refine TL.nil ?_
          refine TA.cont ((by repeat (first | exact .all | apply Perm.drop))) ?_
          exact TA.sub (.cons (t := 1) rfl <| .cons (t := 2) rfl <| .cons (t := 3) rfl <| .cons (t := 4) rfl <| .cons (t := 6) rfl <| .cons (t := 7) rfl <| .cons (t := 8) rfl <| .cons (t := 10) rfl <| .cons (t := 11) rfl <| .cons (t := 100) rfl <| .cons (t := 109) rfl <| .nil) (TA.kle (Perm.kle (by first | exact .all | exact .cons P1 .all)) (tail (b100, b109)))
        · skip
          refine TL.call (g := 31) rfl go_31 rfl (fun w1 k1 => runl_c (1) W3.zero w1) rfl ?_
          refine TL.nil ?_
          refine TA.cont ((by repeat (first | exact .all | apply Perm.drop))) ?_
          refine TA.two (i := 5) (i' := 14) (ls := #[true, true, true, true, true, true, true, true, true, true, true, true, true, true, false, false, false, false, false, false, false, false, false, false, false, false, false, false, false, false, false, false, false, false, false, false, false, false, false, false, false, false, false, false, false, false, false, false, false, false, false, false, false, false, false]) (ls' := #[true, true, true, true, true, false, true, true, true, true, true, true, true, true, true, false, false, false, false, false, false, false, false, false, false, false, false, false, false, false, false, false, false, false, false, false, false, false, false, false, false, false, false, false, false, false, false, false, false, false, false, false, false, false, false]) (by kernel_rfl) rfl rfl (by kernel_rfl) (by kernel_rfl) (fun w1 => ?_) (fun w1 => ?_)
          · skip
            refine TL.slit (qs := #[(0, _), (1, _), (2, _), (3, _), (4, _)]) (fun _ f => by simp only [List.map_toArray, List.map_cons, List.map_nil]; rw [f.ev (x := .tmp 95) rfl]; (try rw [f.ev (x := .tmp 96) rfl]); (try rw [f.ev (x := .tmp 97) rfl]); (try rw [f.ev (x := .tmp 98) rfl]); (try rw [f.ev (x := .tmp 99) rfl])) (sl_42_5_0_1_2_3_4 (Cl.mk (97) 0 0 0 (1) Pen.zero) (Cl.mk (97) 0 0 0 (1) Pen.zero) (Cl.mk 0 0 0 0 (1) Pen.zero) (Cl.mk (19968) 0 0 0 (2) Pen.zero) Cl.zero) rfl ?_
            intro b100
            refine TL.nil ?_
            refine TA.cont ((by repeat (first | exact .all | apply Perm.drop))) ?_
            refine TA.one (i := 14) (ls := #[true, true, true, true, true, true, true, true, true, true, true, true, true, true, true, false, false, false, false, false, false, false, false, false, false, false, false, false, false, false, false, false, false, false, false, false, false, false, false, false, false, false, false, false, false, false, false, false, false, false, false, false, false, false, false]) (by kernel_rfl) rfl (by kernel_rfl) (fun w1 => ?_)
            refine TL.slit (qs := #[(0, _), (1, _), (2, _), (3, _)]) (fun _ f => by simp only [List.map_toArray, List.map_cons, List.map_nil]; rw [f.ev (x := .tmp 102) rfl]; (try rw [f.ev (x := .tmp 104) rfl]); (try rw [f.ev (x := .tmp 106) rfl]); (try rw [f.ev (x := .tmp 108) rfl])) (sl_43_4_0_1_2_3 (Rn.mk (2) (W3.mk (0) (2097249) 0)) (Rn.mk (1) (W3.mk (0) (2097152) 0)) (Rn.mk (1) (W3.mk (0) (4214272) 0)) (Rn.mk (1) W3.zero)) rfl ?_
            intro b109
            refine TL.nil ?_
            refine TA.cont ((by repeat (first | exact .all | apply Perm.drop))) ?_
            exact TA.sub (.cons (t := 1) rfl <| .cons (t := 2) rfl <| .cons (t := 3) rfl <| .cons (t := 4) rfl <| .cons (t := 6) rfl <| .cons (t := 7) rfl <| .cons (t := 8) rfl <| .cons (t := 10) rfl <| .cons (t := 11) rfl <| .cons (t := 100) rfl <| .cons (t := 109) rfl <| .nil) (TA.kle (Perm.kle (by first | exact .all | exact .cons P1 .all)) (tail (b100, b109)))
          · skip
            refine TL.slit (qs := #[(0, _), (1, _), (2, _), (3, _)]) (fun _ f => by simp only [List.map_toArray, List.map_cons, List.map_nil]; rw [f.ev (x := .tmp 102) rfl]; (try rw [f.ev (x := .tmp 104) rfl]); (try rw [f.ev (x := .tmp 106) rfl]); (try rw [f.ev (x := .tmp 108) rfl])) (sl_43_4_0_1_2_3 (Rn.mk (2) (W3.mk (0) (2097249) 0)) (Rn.mk (1) (W3.mk (0) (2097152) 0)) (Rn.mk (1) (W3.mk (0) (4214272) 0)) (Rn.mk (1) W3.zero)) rfl ?_
            intro b109
            refine TL.nil ?_
            refine TA.cont ((by repeat (first | exact .all | apply Perm.drop))) ?_
            refine TA.one (i := 5) (ls := #[true, true, true, true, true, true, true, true, true, true, true, true, true, true, true, false, false, false, false, false, false, false, false, false, false, false, false, false, false, false, false, false, false, false, false, false, false, false, false, false, false, false, false, false, false, false, false, false, false, false, false, false, false, false, false]) (by kernel_rfl) rfl (by kernel_rfl) (fun w1 => ?_)
            refine TL.slit (qs := #[(0, _), (1, _), (2, _), (3, _), (4, _)]) (fun _ f => by simp only [List.map_toArray, List.map_cons, List.map_nil]; rw [f.ev (x := .tmp 95) rfl]; (try rw [f.ev (x := .tmp 96) rfl]); (try rw [f.ev (x := .tmp 97) rfl]); (try rw [f.ev (x := .tmp 98) rfl]); (try rw [f.ev (x := .tmp 99) rfl])) (sl_42_5_0_1_2_3_4 (Cl.mk (97) 0 0 0 (1) Pen.zero) (Cl.mk (97) 0 0 0 (1) Pen.zero) (Cl.mk 0 0 0 0 (1) Pen.zero) (Cl.mk (19968) 0 0 0 (2) Pen.zero) Cl.zero) rfl ?_
            intro b100
            refine TL.nil ?_
            refine TA.cont ((by repeat (first | exact .all | apply Perm.drop))) ?_
            exact TA.sub (.cons (t := 1) rfl <| .cons (t := 2) rfl <| .cons (t := 3) rfl <| .cons (t := 4) rfl <| .cons (t := 6) rfl <| .cons (t := 7) rfl <| .cons (t := 8) rfl <| .cons (t := 10) rfl <| .cons (t := 11) rfl <| .cons (t := 100) rfl <| .cons (t := 109) rfl <| .nil) (TA.kle (Perm.kle (by first | exact .all | exact .cons P1 .all)) (tail (b100, b109)))
end Go.Proofs.YtfbkoflapamicaaDoor
