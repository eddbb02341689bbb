/-
  The walks of commands. No condition.
-/
import Derived.Test.YtaoepaonjeilgaaMc
namespace Go.Proofs.Ytaoepaonjeilgaa
open Go.RowKit
set_option linter.unusedSimpArgs false
set_option linter.unusedVariables false
theorem fo_41_7 : fOff Try.prog 41 7 = some 7 := by kernel_rfl
theorem fo_41_8 : fOff Try.prog 41 8 = some 8 := by kernel_rfl
theorem go_25 : isGo Try.prog 25 = true := by kernel_rfl
theorem inf_3 : (Try.prog.info? 3).map (fun i => (i.zero, i.size, i.bytes)) = some (some (.int .i64 0), 1, 8) := by kernel_rfl
theorem inf_41 : (Try.prog.info? 41).map (fun i => (i.zero, i.size, i.bytes)) = some (some (.agg #[.int .i64 0, .int .i64 0, .int .i64 0, .int .i64 0, .bool false, .bool false, .bool false, .bool false, .int .i64 0]), 9, 48) := by kernel_rfl
theorem szz_3 : sz Try.prog 3 = some 1 := by kernel_rfl
theorem szz_4 : sz Try.prog 4 = some 1 := by kernel_rfl
theorem bld_41 (w : World) : (Instr.build 41 #[]).run Try.prog w = .ok (.agg Cm.zero.l.toArray) w := by kernel_rfl
theorem sl_34_1_0 (x : Cm) (w : World) : (Instr.buildSlice 34 1 #[(0, .agg x.l.toArray)]).run Try.prog w = .ok (.slice (some ⟨w.heap.size, 0, none⟩) 1 1) (w.alloc (.cells x.l.toArray 41)) := by kernel_rfl
theorem sl_39_1_0 (x : Int) (w : World) : (Instr.buildSlice 39 1 #[(0, .int .i64 x)]).run Try.prog w = .ok (.slice (some ⟨w.heap.size, 0, none⟩) 1 1) (w.alloc (.cells (iL x).toArray 3)) := by kernel_rfl
set_option maxRecDepth 100000 in
set_option maxHeartbeats 1000000 in
theorem cmds_c {σ : Nat → Option Obj} {bm : Nat} {xs : List Mk} (w : World) (hm : MoR σ bm xs) (hs : ∀ b o, σ b = some o → w.heap[b]? = some o) (hn : xs.length ≤ 1000) : Calls Try.prog 25 #[.pointer (some ⟨bm, 0, none⟩)] w (fun e w' => ∃ i : Option Addr × Nat × Option Addr × Nat, e = .returned (.tuple #[.slice i.1 (cmdsV xs).length i.2.1, .slice i.2.2.1 (linesV xs).length i.2.2.2]) ∧ ((i.1 = none → i.2.1 = 0) ∧ (i.2.2.1 = none → i.2.2.2 = 0)) ∧ KOk w [.row 41 9 i.1 (cmdsV xs).length i.2.1 (cl (cmdsV xs)), .row 3 1 i.2.2.1 (linesV xs).length i.2.2.2 (il (linesV xs))] w') := by
 obtain ⟨A, c, hm1, h⟩ := hm
 have hn63 := h.2.1
 have hc63 := h.2.2.1
 refine calls_T (vs := [.pointer (some ⟨bm, 0, none⟩)]) (L0 := [(0, .pointer (some ⟨bm, 0, none⟩))]) Try.func25 rfl rfl rfl rfl (KOk.fr1 hs) ?_
 refine T.seq ?_
 refine T.region ?_
 refine TL.val (OpV.assign rfl) rfl ?_
 refine TL.val (OpV.assign rfl) rfl ?_
 refine TL.nil ?_
 refine TE.next ?_
 refine T.seq ?_
 refine T.region ?_
 refine TL.val (OpV.assign rfl) rfl ?_
 refine TL.nil ?_
 refine TE.next ?_
 refine T.seq ?_
 refine T.region ?_
 refine TL.val (OpV.assign rfl) rfl ?_
 refine TL.nil ?_
 refine TE.next ?_
 refine T.seq ?_
 refine T.region ?_
 refine TL.val (OpV.assign rfl) rfl ?_
 refine TL.nil ?_
 refine TE.next ?_
 refine T.seq ?_
 refine T.seq ?_
 refine T.region ?_
 refine TL.val (OpV.move rfl) rfl ?_
 refine TL.val (OpV.nil rfl) rfl ?_
 refine TL.val (OpV.fieldAddr rfl fo_26_0) rfl ?_
 refine TL.val (OpV.load pl_24 rfl (by first | exact Cel.blk P0 rfl | exact Cel.blk P1 rfl | exact Cel.blk P2 rfl | exact Cel.blk P3 rfl | exact Cel.blk P4 rfl | exact Cel.blk P5 rfl | exact Cel.frA (hm1) | exact Cel.frA (hatx _ _ rfl))) rfl ?_
 refine TL.val (OpV.len Try.underlying24 rfl) rfl ?_
 refine TL.val (OpV.move rfl) rfl ?_
 refine TL.nil ?_
 refine TE.next ?_
 refine T.block ?_
 refine T.loop (ι := Nat × Option Addr × Nat × Option Addr × Nat) (fun ⟨i, A4, c4, A5, c5⟩ => i ≤ xs.length ∧ (A4 = none → c4 = 0) ∧ (A5 = none → c5 = 0)) (fun ⟨i, A4, c4, A5, c5⟩ => (xs.length - i)) (fun ⟨i, A4, c4, A5, c5⟩ => [(4, .slice A4 (grF (xs.take i)).out.length c4), (5, .slice A5 (grF (xs.take i)).li.length c5), (6, .int .i64 (grF (xs.take i)).last), (13, .slice A xs.length c), (14, .int .i64 (xs.length : Int)), (15, .int .i64 (i : Int))]) (fun ⟨i, A4, c4, A5, c5⟩ => [.row 41 9 A4 (grF (xs.take i)).out.length c4 (cl (grF (xs.take i)).out), .row 3 1 A5 (grF (xs.take i)).li.length c5 (il (grF (xs.take i)).li), .fr σ]) (0, none, 0, none, 0) ⟨Nat.zero_le _, fun _ => rfl, fun _ => rfl⟩ (.cons (t := 4) rfl <| .cons (t := 5) rfl <| .cons (t := 6) rfl <| .cons (t := 13) rfl <| .cons (t := 14) rfl <| .cons (t := 15) rfl <| .nil) ((Kle.trans (Kle.nilRow 3 1) (Kle.nilRow 41 9))) ?_
 rintro ⟨i, A4, c4, A5, c5⟩ ⟨hR, hq1, hq2⟩
 refine T.seq ?_
 refine T.region ?_
 refine TL.val (OpV.lss rfl rfl) rfl ?_
 refine TL.nil ?_
 refine TE.next ?_
 refine T.seq ?_
 refine T.cond rfl ?_ ?_
 ·
  intro ht16
  try simp only [decide_eq_true_eq, decide_eq_false_iff_not, beq_iff_eq, beq_eq_false_iff_ne, bne_iff_ne, bne_eq_false_iff_eq, Bool.not_eq_true', Bool.not_eq_false', ne_eq] at ht16
  have hi : i < xs.length := by omega
  obtain ⟨x, hx⟩ := get_of_lt rfl hi
  obtain ⟨b, o, hA, hat⟩ := h.pos (by omega)
  have hatx := hat i x hx
  have hgl := gr_len (xs.take i)
  rw [List.length_take] at hgl
  have hgs : grF (xs.take (i + 1)) = grS (grF (xs.take i)) x := by rw [take_snoc hx, grF_snoc]
  refine T.skip ?_
  refine TE.next ?_
  refine T.seq ?_
  refine T.block ?_
  refine T.seq ?_
  refine T.region ?_
  refine TL.val (OpV.indexAddr (j := i) se_24 rfl hA rfl rfl (by omega)) rfl ?_
  refine TL.val (OpV.loadA ag_31 rfl (by first | exact Cels.blk P0 rfl | exact Cels.blk P1 rfl | exact Cels.blk P2 rfl | exact Cels.blk P3 rfl | exact Cels.blk P4 rfl | exact Cels.blk P5 rfl | exact Cels.frA (hm1) rfl | exact Cels.frA hatx rfl)) rfl ?_
  refine TL.alloc zo_31 rfl ?_
  intro b8
  first
    | refine TL.storeAll rfl rfl szz_31 rfl rfl rfl (by first | exact P0 | exact P1 | exact P2 | exact P3 | exact P4 | exact P5) (by rfl) ?_
    | refine TL.store rfl rfl szz_31 rfl rfl rfl (by first | exact P0 | exact P1 | exact P2 | exact P3 | exact P4 | exact P5) (by first | exact Nat.le_of_ble_eq_true rfl | (simp; done) | (simp; omega)) (by simp only [Mk.l, putL, List.take_succ_cons, List.take_zero, List.drop_succ_cons, List.drop_zero, List.cons_append, List.nil_append, List.length_cons, List.length_nil, Nat.reduceAdd]; rfl) ?_
  refine TL.nil ?_
  refine TE.next ?_
  refine T.seq ?_
  refine T.cutx (ι := Option Addr × Nat × Option Addr × Nat) (fun ⟨A4b, c4b, A5b, c5b⟩ => (A4b = none → c4b = 0) ∧ (A5b = none → c5b = 0)) (fun ⟨A4b, c4b, A5b, c5b⟩ => [(4, .slice A4b ((grO (grF (xs.take i)).out (grF (xs.take i)).last x).length + 1) c4b), (5, .slice A5b (grL (grF (xs.take i)).out (grF (xs.take i)).last x (grF (xs.take i)).li).length c5b), (8, .pointer (some ⟨b8, 0, none⟩)), (13, .slice A xs.length c), (14, .int .i64 (xs.length : Int)), (15, .int .i64 (i : Int))]) (fun ⟨A4b, c4b, A5b, c5b⟩ => [.row 41 9 A4b ((grO (grF (xs.take i)).out (grF (xs.take i)).last x).length + 1) c4b (cl ((grO (grF (xs.take i)).out (grF (xs.take i)).last x) ++ [(grZ (grF (xs.take i)).out (grF (xs.take i)).last x)])), .row 3 1 A5b (grL (grF (xs.take i)).out (grF (xs.take i)).last x (grF (xs.take i)).li).length c5b (il (grL (grF (xs.take i)).out (grF (xs.take i)).last x (grF (xs.take i)).li)), .blk b8 x.l 31, .fr σ]) ?_ ?_
  rotate_left
  ·
   refine T.seq ?_
   refine T.region ?_
   refine TL.val (OpV.move rfl) rfl ?_
   refine TL.val (OpV.len Try.underlying34 rfl) rfl ?_
   refine TL.val (OpV.eql rfl rfl) rfl ?_
   refine TL.val (OpV.move rfl) rfl ?_
   refine TL.part (t := 22) rfl ?_ ?_
   ·
    intro hg22
    try simp only [decide_eq_true_eq, decide_eq_false_iff_not, beq_iff_eq, beq_eq_false_iff_ne, bne_iff_ne, bne_eq_false_iff_eq, Bool.not_eq_true', Bool.not_eq_false', ne_eq] at hg22
    have hb : (newB (grF (xs.take i)).out (grF (xs.take i)).last x) = true := by rw [newB, beq_iff_eq.2 hg22]; rfl
    have e1 : (grO (grF (xs.take i)).out (grF (xs.take i)).last x) = (grF (xs.take i)).out := by rw [grO, hb]; rfl
    have e2 : (grZ (grF (xs.take i)).out (grF (xs.take i)).last x) = Cm.zero := by rw [grZ, hb]; rfl
    have e3 : (grL (grF (xs.take i)).out (grF (xs.take i)).last x (grF (xs.take i)).li) = (grF (xs.take i)).li ++ [x.ln] := by rw [grL, hb]; rfl
    refine TL.shut rfl rfl ?_
    refine TL.shut rfl rfl ?_
    refine TL.shut rfl rfl ?_
    refine TL.shut rfl rfl ?_
    refine TL.val ((by first | exact OpV.pick_t rfl rfl | exact OpV.pick_f rfl rfl)) rfl ?_
    refine TL.nil ?_
    refine TE.sub (.cons (t := 4) rfl <| .cons (t := 5) rfl <| .cons (t := 8) rfl <| .cons (t := 13) rfl <| .cons (t := 14) rfl <| .cons (t := 15) rfl <| .cons (t := 27) rfl <| .nil) ?_
    refine TE.next ?_
    refine T.yes rfl ?_
    refine T.any ([.blk b8 x.l 31]) [] mix rfl rfl ?_
    refine TA.takeP (i := 0) (ls := #[true, false, false, false, false, false, false, false, false, false, false]) rfl rfl rfl rfl rfl (by kernel_rfl) (by kernel_rfl) (by kernel_rfl) (by repeat (first | with_reducible exact PanicOk.body | with_reducible apply PanicOk.next | with_reducible apply PanicOk.block)) (OpV.move rfl) rfl (by kernel_rfl) ?_
    refine TA.takeP (i := 1) (ls := #[true, true, false, false, false, false, false, false, false, false, false]) rfl rfl rfl rfl rfl (by kernel_rfl) (by kernel_rfl) (by kernel_rfl) (by repeat (first | with_reducible exact PanicOk.body | with_reducible apply PanicOk.next | with_reducible apply PanicOk.block)) (OpV.build (qs := #[]) (fun _ _ => by simp) (bld_41)) rfl (by kernel_rfl) ?_
    refine TA.takeP (i := 4) (ls := #[true, true, false, false, true, false, false, false, false, false, false]) rfl rfl rfl rfl rfl (by kernel_rfl) (by kernel_rfl) (by kernel_rfl) (by repeat (first | with_reducible exact PanicOk.body | with_reducible apply PanicOk.next | with_reducible apply PanicOk.block)) (OpV.move rfl) rfl (by kernel_rfl) ?_
    refine TA.takeP (i := 5) (ls := #[true, true, false, false, true, true, false, false, false, false, false]) rfl rfl rfl rfl rfl (by kernel_rfl) (by kernel_rfl) (by kernel_rfl) (by repeat (first | with_reducible exact PanicOk.body | with_reducible apply PanicOk.next | with_reducible apply PanicOk.block)) (OpV.fieldAddr rfl fo_31_0) rfl (by kernel_rfl) ?_
    refine TA.take (i := 6) (ls := #[true, true, false, false, true, true, true, false, false, false, false]) rfl rfl rfl rfl rfl (by kernel_rfl) (by kernel_rfl) (by kernel_rfl) (by kernel_rfl) (by repeat (first | with_reducible exact PanicOk.body | with_reducible apply PanicOk.next | with_reducible apply PanicOk.block)) ((.cons (by first | exact P0 | exact P1 | exact P2 | exact P3 | exact P4 | exact P5 | exact P6) .nil)) (OpV.load pl_3 rfl (by first | exact Cel.blk P0 rfl | exact Cel.blk P1 rfl | exact Cel.blk P2 rfl | exact Cel.blk P3 rfl | exact Cel.blk P4 rfl | exact Cel.blk P5 rfl | exact Cel.frA (hm1) | exact Cel.frA (hatx _ _ rfl))) rfl (by kernel_rfl) ?_
    refine TA.two (i := 2) (i' := 7) (ls := #[true, true, true, false, true, true, true, false, false, false, false]) (ls' := #[true, true, false, false, true, true, true, true, false, false, false]) (by kernel_rfl) rfl rfl (by kernel_rfl) (by kernel_rfl) (fun w1 => ?_) (fun w1 => ?_)
    ·
     refine TL.slit (qs := #[(0, _)]) (fun _ f => by simp only [List.map_toArray, List.map_cons, List.map_nil]; rw [f.ev (x := .tmp 29) rfl]) (sl_34_1_0 Cm.zero) rfl ?_
     intro b30
     refine TL.nil ?_
     refine TA.cont ((.cons (by first | exact P0 | exact P1 | exact P2 | exact P3 | exact P4 | exact P5 | exact P6) .nil)) ?_
     refine TA.two (i := 3) (i' := 7) (ls := #[true, true, true, true, true, true, true, false, false, false, false]) (ls' := #[true, true, true, false, true, true, true, true, false, false, false]) (by kernel_rfl) rfl rfl (by kernel_rfl) (by kernel_rfl) (fun w1 => ?_) (fun w1 => ?_)
     ·
      obtain ⟨ti31, hi31, hz31, hs31, hb31⟩ := info_parts inf_41
      refine TL.append rfl rfl Try.underlying34 hi31 hz31 hs31 hb31 rfl (by omega) (by first | exact P0 | exact P1 | exact P2 | exact P3 | exact P4 | exact P5) (by first | exact Src.nil | exact Src.blk P0 rfl | exact Src.blk P1 rfl | exact Src.blk P2 rfl | exact Src.blk P3 rfl | exact Src.blk P4 rfl | exact Src.blk P5 rfl | exact Src.row P0 | exact Src.row P1 | exact Src.row P2 | exact Src.row P3 | exact Src.row P4 | exact Src.row P5) (fun h => by cases h) rfl (by omega) (by omega) rfl ?_
      clear hi31 hz31 hs31 hb31 ti31
      intro A31 c31 hn31
      refine TL.nil ?_
      refine TA.cont ((.cons (by first | exact P0 | exact P1 | exact P2 | exact P3 | exact P4 | exact P5 | exact P6) .nil)) ?_
      refine TA.one (i := 7) (ls := #[true, true, true, true, true, true, true, true, false, false, false]) (by kernel_rfl) rfl (by kernel_rfl) (fun w1 => ?_)
      refine TL.slit (qs := #[(0, _)]) (fun _ f => by simp only [List.map_toArray, List.map_cons, List.map_nil]; rw [f.ev (x := .tmp 34) rfl]) (sl_39_1_0 x.ln) rfl ?_
      intro b35
      refine TL.nil ?_
      refine TA.cont ((.cons (by first | exact P0 | exact P1 | exact P2 | exact P3 | exact P4 | exact P5 | exact P6) .nil)) ?_
      refine TA.one (i := 8) (ls := #[true, true, true, true, true, true, true, true, true, false, false]) (by kernel_rfl) rfl (by kernel_rfl) (fun w1 => ?_)
      obtain ⟨ti36, hi36, hz36, hs36, hb36⟩ := info_parts inf_3
      refine TL.append rfl rfl Try.underlying39 hi36 hz36 hs36 hb36 rfl (by omega) (by first | exact P0 | exact P1 | exact P2 | exact P3 | exact P4 | exact P5) (by first | exact Src.nil | exact Src.blk P0 rfl | exact Src.blk P1 rfl | exact Src.blk P2 rfl | exact Src.blk P3 rfl | exact Src.blk P4 rfl | exact Src.blk P5 rfl | exact Src.row P0 | exact Src.row P1 | exact Src.row P2 | exact Src.row P3 | exact Src.row P4 | exact Src.row P5) (fun h => by cases h) rfl (by omega) (by omega) rfl ?_
      clear hi36 hz36 hs36 hb36 ti36
      intro A36 c36 hn36
      refine TL.nil ?_
      refine TA.cont ((.cons (by first | exact P0 | exact P1 | exact P2 | exact P3 | exact P4 | exact P5 | exact P6) .nil)) ?_
      refine TA.takeP (i := 9) (ls := #[true, true, true, true, true, true, true, true, true, true, false]) rfl rfl rfl rfl rfl (by kernel_rfl) (by kernel_rfl) (by kernel_rfl) (by repeat (first | with_reducible exact PanicOk.body | with_reducible apply PanicOk.next | with_reducible apply PanicOk.block)) (OpV.assign rfl) rfl (by kernel_rfl) ?_
      refine TA.takeP (i := 10) (ls := #[true, true, true, true, true, true, true, true, true, true, true]) rfl rfl rfl rfl rfl (by kernel_rfl) (by kernel_rfl) (by kernel_rfl) (by repeat (first | with_reducible exact PanicOk.body | with_reducible apply PanicOk.next | with_reducible apply PanicOk.block)) (OpV.assign rfl) rfl (by kernel_rfl) ?_
      refine TA.done (by kernel_rfl) ?_
      exact TE.meet ⟨A31, c31, A36, c36⟩ ⟨hn31, hn36⟩ (.cons (t := 4) (by rw [e1]; rfl) <| .cons (t := 5) (by rw [e3, List.length_append]; rfl) <| .cons (t := 8) rfl <| .cons (t := 13) rfl <| .cons (t := 14) rfl <| .cons (t := 15) rfl <| .nil) ((by rw [e1, e2, e3, cl_snoc, il_snoc, List.length_append]; exact Perm.kle (.cons (by first | exact P0 | exact P1 | exact P2 | exact P3 | exact P4 | exact P5 | exact P6) (.cons (by first | exact P0 | exact P1 | exact P2 | exact P3 | exact P4 | exact P5 | exact P6) (.cons (by first | exact P0 | exact P1 | exact P2 | exact P3 | exact P4 | exact P5 | exact P6) (.cons (by first | exact P0 | exact P1 | exact P2 | exact P3 | exact P4 | exact P5 | exact P6) .nil))))))
     ·
      refine TL.slit (qs := #[(0, _)]) (fun _ f => by simp only [List.map_toArray, List.map_cons, List.map_nil]; rw [f.ev (x := .tmp 34) rfl]) (sl_39_1_0 x.ln) rfl ?_
      intro b35
      refine TL.nil ?_
      refine TA.cont ((.cons (by first | exact P0 | exact P1 | exact P2 | exact P3 | exact P4 | exact P5 | exact P6) .nil)) ?_
      refine TA.one (i := 3) (ls := #[true, true, true, true, true, true, true, true, false, false, false]) (by kernel_rfl) rfl (by kernel_rfl) (fun w1 => ?_)
      obtain ⟨ti31, hi31, hz31, hs31, hb31⟩ := info_parts inf_41
      refine TL.append rfl rfl Try.underlying34 hi31 hz31 hs31 hb31 rfl (by omega) (by first | exact P0 | exact P1 | exact P2 | exact P3 | exact P4 | exact P5) (by first | exact Src.nil | exact Src.blk P0 rfl | exact Src.blk P1 rfl | exact Src.blk P2 rfl | exact Src.blk P3 rfl | exact Src.blk P4 rfl | exact Src.blk P5 rfl | exact Src.row P0 | exact Src.row P1 | exact Src.row P2 | exact Src.row P3 | exact Src.row P4 | exact Src.row P5) (fun h => by cases h) rfl (by omega) (by omega) rfl ?_
      clear hi31 hz31 hs31 hb31 ti31
      intro A31 c31 hn31
      refine TL.nil ?_
      refine TA.cont ((.cons (by first | exact P0 | exact P1 | exact P2 | exact P3 | exact P4 | exact P5 | exact P6) .nil)) ?_
      refine TA.one (i := 8) (ls := #[true, true, true, true, true, true, true, true, true, false, false]) (by kernel_rfl) rfl (by kernel_rfl) (fun w1 => ?_)
      obtain ⟨ti36, hi36, hz36, hs36, hb36⟩ := info_parts inf_3
      refine TL.append rfl rfl Try.underlying39 hi36 hz36 hs36 hb36 rfl (by omega) (by first | exact P0 | exact P1 | exact P2 | exact P3 | exact P4 | exact P5) (by first | exact Src.nil | exact Src.blk P0 rfl | exact Src.blk P1 rfl | exact Src.blk P2 rfl | exact Src.blk P3 rfl | exact Src.blk P4 rfl | exact Src.blk P5 rfl | exact Src.row P0 | exact Src.row P1 | exact Src.row P2 | exact Src.row P3 | exact Src.row P4 | exact Src.row P5) (fun h => by cases h) rfl (by omega) (by omega) rfl ?_
      clear hi36 hz36 hs36 hb36 ti36
      intro A36 c36 hn36
      refine TL.nil ?_
      refine TA.cont ((.cons (by first | exact P0 | exact P1 | exact P2 | exact P3 | exact P4 | exact P5 | exact P6) .nil)) ?_
      refine TA.takeP (i := 9) (ls := #[true, true, true, true, true, true, true, true, true, true, false]) rfl rfl rfl rfl rfl (by kernel_rfl) (by kernel_rfl) (by kernel_rfl) (by repeat (first | with_reducible exact PanicOk.body | with_reducible apply PanicOk.next | with_reducible apply PanicOk.block)) (OpV.assign rfl) rfl (by kernel_rfl) ?_
      refine TA.takeP (i := 10) (ls := #[true, true, true, true, true, true, true, true, true, true, true]) rfl rfl rfl rfl rfl (by kernel_rfl) (by kernel_rfl) (by kernel_rfl) (by repeat (first | with_reducible exact PanicOk.body | with_reducible apply PanicOk.next | with_reducible apply PanicOk.block)) (OpV.assign rfl) rfl (by kernel_rfl) ?_
      refine TA.done (by kernel_rfl) ?_
      exact TE.meet ⟨A31, c31, A36, c36⟩ ⟨hn31, hn36⟩ (.cons (t := 4) (by rw [e1]; rfl) <| .cons (t := 5) (by rw [e3, List.length_append]; rfl) <| .cons (t := 8) rfl <| .cons (t := 13) rfl <| .cons (t := 14) rfl <| .cons (t := 15) rfl <| .nil) ((by rw [e1, e2, e3, cl_snoc, il_snoc, List.length_append]; exact Perm.kle (.cons (by first | exact P0 | exact P1 | exact P2 | exact P3 | exact P4 | exact P5 | exact P6) (.cons (by first | exact P0 | exact P1 | exact P2 | exact P3 | exact P4 | exact P5 | exact P6) (.cons (by first | exact P0 | exact P1 | exact P2 | exact P3 | exact P4 | exact P5 | exact P6) (.cons (by first | exact P0 | exact P1 | exact P2 | exact P3 | exact P4 | exact P5 | exact P6) .nil))))))
    ·
     refine TL.slit (qs := #[(0, _)]) (fun _ f => by simp only [List.map_toArray, List.map_cons, List.map_nil]; rw [f.ev (x := .tmp 34) rfl]) (sl_39_1_0 x.ln) rfl ?_
     intro b35
     refine TL.nil ?_
     refine TA.cont ((.cons (by first | exact P0 | exact P1 | exact P2 | exact P3 | exact P4 | exact P5 | exact P6) .nil)) ?_
     refine TA.one (i := 2) (ls := #[true, true, true, false, true, true, true, true, false, false, false]) (by kernel_rfl) rfl (by kernel_rfl) (fun w1 => ?_)
     refine TL.slit (qs := #[(0, _)]) (fun _ f => by simp only [List.map_toArray, List.map_cons, List.map_nil]; rw [f.ev (x := .tmp 29) rfl]) (sl_34_1_0 Cm.zero) rfl ?_
     intro b30
     refine TL.nil ?_
     refine TA.cont ((.cons (by first | exact P0 | exact P1 | exact P2 | exact P3 | exact P4 | exact P5 | exact P6) .nil)) ?_
     refine TA.one (i := 3) (ls := #[true, true, true, true, true, true, true, true, false, false, false]) (by kernel_rfl) rfl (by kernel_rfl) (fun w1 => ?_)
     obtain ⟨ti31, hi31, hz31, hs31, hb31⟩ := info_parts inf_41
     refine TL.append rfl rfl Try.underlying34 hi31 hz31 hs31 hb31 rfl (by omega) (by first | exact P0 | exact P1 | exact P2 | exact P3 | exact P4 | exact P5) (by first | exact Src.nil | exact Src.blk P0 rfl | exact Src.blk P1 rfl | exact Src.blk P2 rfl | exact Src.blk P3 rfl | exact Src.blk P4 rfl | exact Src.blk P5 rfl | exact Src.row P0 | exact Src.row P1 | exact Src.row P2 | exact Src.row P3 | exact Src.row P4 | exact Src.row P5) (fun h => by cases h) rfl (by omega) (by omega) rfl ?_
     clear hi31 hz31 hs31 hb31 ti31
     intro A31 c31 hn31
     refine TL.nil ?_
     refine TA.cont ((.cons (by first | exact P0 | exact P1 | exact P2 | exact P3 | exact P4 | exact P5 | exact P6) .nil)) ?_
     refine TA.one (i := 8) (ls := #[true, true, true, true, true, true, true, true, true, false, false]) (by kernel_rfl) rfl (by kernel_rfl) (fun w1 => ?_)
     obtain ⟨ti36, hi36, hz36, hs36, hb36⟩ := info_parts inf_3
     refine TL.append rfl rfl Try.underlying39 hi36 hz36 hs36 hb36 rfl (by omega) (by first | exact P0 | exact P1 | exact P2 | exact P3 | exact P4 | exact P5) (by first | exact Src.nil | exact Src.blk P0 rfl | exact Src.blk P1 rfl | exact Src.blk P2 rfl | exact Src.blk P3 rfl | exact Src.blk P4 rfl | exact Src.blk P5 rfl | exact Src.row P0 | exact Src.row P1 | exact Src.row P2 | exact Src.row P3 | exact Src.row P4 | exact Src.row P5) (fun h => by cases h) rfl (by omega) (by omega) rfl ?_
     clear hi36 hz36 hs36 hb36 ti36
     intro A36 c36 hn36
     refine TL.nil ?_
     refine TA.cont ((.cons (by first | exact P0 | exact P1 | exact P2 | exact P3 | exact P4 | exact P5 | exact P6) .nil)) ?_
     refine TA.takeP (i := 9) (ls := #[true, true, true, true, true, true, true, true, true, true, false]) rfl rfl rfl rfl rfl (by kernel_rfl) (by kernel_rfl) (by kernel_rfl) (by repeat (first | with_reducible exact PanicOk.body | with_reducible apply PanicOk.next | with_reducible apply PanicOk.block)) (OpV.assign rfl) rfl (by kernel_rfl) ?_
     refine TA.takeP (i := 10) (ls := #[true, true, true, true, true, true, true, true, true, true, true]) rfl rfl rfl rfl rfl (by kernel_rfl) (by kernel_rfl) (by kernel_rfl) (by repeat (first | with_reducible exact PanicOk.body | with_reducible apply PanicOk.next | with_reducible apply PanicOk.block)) (OpV.assign rfl) rfl (by kernel_rfl) ?_
     refine TA.done (by kernel_rfl) ?_
     exact TE.meet ⟨A31, c31, A36, c36⟩ ⟨hn31, hn36⟩ (.cons (t := 4) (by rw [e1]; rfl) <| .cons (t := 5) (by rw [e3, List.length_append]; rfl) <| .cons (t := 8) rfl <| .cons (t := 13) rfl <| .cons (t := 14) rfl <| .cons (t := 15) rfl <| .nil) ((by rw [e1, e2, e3, cl_snoc, il_snoc, List.length_append]; exact Perm.kle (.cons (by first | exact P0 | exact P1 | exact P2 | exact P3 | exact P4 | exact P5 | exact P6) (.cons (by first | exact P0 | exact P1 | exact P2 | exact P3 | exact P4 | exact P5 | exact P6) (.cons (by first | exact P0 | exact P1 | exact P2 | exact P3 | exact P4 | exact P5 | exact P6) (.cons (by first | exact P0 | exact P1 | exact P2 | exact P3 | exact P4 | exact P5 | exact P6) .nil))))))
   ·
    intro hg22
    try simp only [decide_eq_true_eq, decide_eq_false_iff_not, beq_iff_eq, beq_eq_false_iff_ne, bne_iff_ne, bne_eq_false_iff_eq, Bool.not_eq_true', Bool.not_eq_false', ne_eq] at hg22
    refine TL.open rfl rfl ?_
    refine TL.val (OpV.fieldAddr rfl fo_31_1) rfl ?_
    refine TL.open rfl rfl ?_
    refine TL.val (OpV.load pl_29 rfl (by first | exact Cel.blk P0 rfl | exact Cel.blk P1 rfl | exact Cel.blk P2 rfl | exact Cel.blk P3 rfl | exact Cel.blk P4 rfl | exact Cel.blk P5 rfl | exact Cel.frA (hm1) | exact Cel.frA (hatx _ _ rfl))) rfl ?_
    refine TL.open rfl rfl ?_
    refine TL.val (OpV.move rfl) rfl ?_
    refine TL.open rfl rfl ?_
    refine TL.val (OpV.leq rfl rfl) rfl ?_
    refine TL.val ((by first | exact OpV.pick_t rfl rfl | exact OpV.pick_f rfl rfl)) rfl ?_
    refine TL.nil ?_
    refine TE.sub (.cons (t := 4) rfl <| .cons (t := 5) rfl <| .cons (t := 8) rfl <| .cons (t := 13) rfl <| .cons (t := 14) rfl <| .cons (t := 15) rfl <| .cons (t := 27) rfl <| .nil) ?_
    refine TE.next ?_
    refine T.cond rfl ?_ ?_
    ·
     intro ht27
     try simp only [decide_eq_true_eq, decide_eq_false_iff_not, beq_iff_eq, beq_eq_false_iff_ne, bne_iff_ne, bne_eq_false_iff_eq, Bool.not_eq_true', Bool.not_eq_false', ne_eq] at ht27
     have hb : (newB (grF (xs.take i)).out (grF (xs.take i)).last x) = true := by rw [newB, decide_eq_true ht27, Bool.or_true]
     have e1 : (grO (grF (xs.take i)).out (grF (xs.take i)).last x) = (grF (xs.take i)).out := by rw [grO, hb]; rfl
     have e2 : (grZ (grF (xs.take i)).out (grF (xs.take i)).last x) = Cm.zero := by rw [grZ, hb]; rfl
     have e3 : (grL (grF (xs.take i)).out (grF (xs.take i)).last x (grF (xs.take i)).li) = (grF (xs.take i)).li ++ [x.ln] := by rw [grL, hb]; rfl
     refine T.any ([.blk b8 x.l 31]) [] mix rfl rfl ?_
     refine TA.takeP (i := 0) (ls := #[true, false, false, false, false, false, false, false, false, false, false]) rfl rfl rfl rfl rfl (by kernel_rfl) (by kernel_rfl) (by kernel_rfl) (by repeat (first | with_reducible exact PanicOk.body | with_reducible apply PanicOk.next | with_reducible apply PanicOk.block)) (OpV.move rfl) rfl (by kernel_rfl) ?_
     refine TA.takeP (i := 1) (ls := #[true, true, false, false, false, false, false, false, false, false, false]) rfl rfl rfl rfl rfl (by kernel_rfl) (by kernel_rfl) (by kernel_rfl) (by repeat (first | with_reducible exact PanicOk.body | with_reducible apply PanicOk.next | with_reducible apply PanicOk.block)) (OpV.build (qs := #[]) (fun _ _ => by simp) (bld_41)) rfl (by kernel_rfl) ?_
     refine TA.takeP (i := 4) (ls := #[true, true, false, false, true, false, false, false, false, false, false]) rfl rfl rfl rfl rfl (by kernel_rfl) (by kernel_rfl) (by kernel_rfl) (by repeat (first | with_reducible exact PanicOk.body | with_reducible apply PanicOk.next | with_reducible apply PanicOk.block)) (OpV.move rfl) rfl (by kernel_rfl) ?_
     refine TA.takeP (i := 5) (ls := #[true, true, false, false, true, true, false, false, false, false, false]) rfl rfl rfl rfl rfl (by kernel_rfl) (by kernel_rfl) (by kernel_rfl) (by repeat (first | with_reducible exact PanicOk.body | with_reducible apply PanicOk.next | with_reducible apply PanicOk.block)) (OpV.fieldAddr rfl fo_31_0) rfl (by kernel_rfl) ?_
     refine TA.take (i := 6) (ls := #[true, true, false, false, true, true, true, false, false, false, false]) rfl rfl rfl rfl rfl (by kernel_rfl) (by kernel_rfl) (by kernel_rfl) (by kernel_rfl) (by repeat (first | with_reducible exact PanicOk.body | with_reducible apply PanicOk.next | with_reducible apply PanicOk.block)) ((.cons (by first | exact P0 | exact P1 | exact P2 | exact P3 | exact P4 | exact P5 | exact P6) .nil)) (OpV.load pl_3 rfl (by first | exact Cel.blk P0 rfl | exact Cel.blk P1 rfl | exact Cel.blk P2 rfl | exact Cel.blk P3 rfl | exact Cel.blk P4 rfl | exact Cel.blk P5 rfl | exact Cel.frA (hm1) | exact Cel.frA (hatx _ _ rfl))) rfl (by kernel_rfl) ?_
     refine TA.two (i := 2) (i' := 7) (ls := #[true, true, true, false, true, true, true, false, false, false, false]) (ls' := #[true, true, false, false, true, true, true, true, false, false, false]) (by kernel_rfl) rfl rfl (by kernel_rfl) (by kernel_rfl) (fun w1 => ?_) (fun w1 => ?_)
     ·
      refine TL.slit (qs := #[(0, _)]) (fun _ f => by simp only [List.map_toArray, List.map_cons, List.map_nil]; rw [f.ev (x := .tmp 29) rfl]) (sl_34_1_0 Cm.zero) rfl ?_
      intro b30
      refine TL.nil ?_
      refine TA.cont ((.cons (by first | exact P0 | exact P1 | exact P2 | exact P3 | exact P4 | exact P5 | exact P6) .nil)) ?_
      refine TA.two (i := 3) (i' := 7) (ls := #[true, true, true, true, true, true, true, false, false, false, false]) (ls' := #[true, true, true, false, true, true, true, true, false, false, false]) (by kernel_rfl) rfl rfl (by kernel_rfl) (by kernel_rfl) (fun w1 => ?_) (fun w1 => ?_)
      ·
       obtain ⟨ti31, hi31, hz31, hs31, hb31⟩ := info_parts inf_41
       refine TL.append rfl rfl Try.underlying34 hi31 hz31 hs31 hb31 rfl (by omega) (by first | exact P0 | exact P1 | exact P2 | exact P3 | exact P4 | exact P5) (by first | exact Src.nil | exact Src.blk P0 rfl | exact Src.blk P1 rfl | exact Src.blk P2 rfl | exact Src.blk P3 rfl | exact Src.blk P4 rfl | exact Src.blk P5 rfl | exact Src.row P0 | exact Src.row P1 | exact Src.row P2 | exact Src.row P3 | exact Src.row P4 | exact Src.row P5) (fun h => by cases h) rfl (by omega) (by omega) rfl ?_
       clear hi31 hz31 hs31 hb31 ti31
       intro A31 c31 hn31
       refine TL.nil ?_
       refine TA.cont ((.cons (by first | exact P0 | exact P1 | exact P2 | exact P3 | exact P4 | exact P5 | exact P6) .nil)) ?_
       refine TA.one (i := 7) (ls := #[true, true, true, true, true, true, true, true, false, false, false]) (by kernel_rfl) rfl (by kernel_rfl) (fun w1 => ?_)
       refine TL.slit (qs := #[(0, _)]) (fun _ f => by simp only [List.map_toArray, List.map_cons, List.map_nil]; rw [f.ev (x := .tmp 34) rfl]) (sl_39_1_0 x.ln) rfl ?_
       intro b35
       refine TL.nil ?_
       refine TA.cont ((.cons (by first | exact P0 | exact P1 | exact P2 | exact P3 | exact P4 | exact P5 | exact P6) .nil)) ?_
       refine TA.one (i := 8) (ls := #[true, true, true, true, true, true, true, true, true, false, false]) (by kernel_rfl) rfl (by kernel_rfl) (fun w1 => ?_)
       obtain ⟨ti36, hi36, hz36, hs36, hb36⟩ := info_parts inf_3
       refine TL.append rfl rfl Try.underlying39 hi36 hz36 hs36 hb36 rfl (by omega) (by first | exact P0 | exact P1 | exact P2 | exact P3 | exact P4 | exact P5) (by first | exact Src.nil | exact Src.blk P0 rfl | exact Src.blk P1 rfl | exact Src.blk P2 rfl | exact Src.blk P3 rfl | exact Src.blk P4 rfl | exact Src.blk P5 rfl | exact Src.row P0 | exact Src.row P1 | exact Src.row P2 | exact Src.row P3 | exact Src.row P4 | exact Src.row P5) (fun h => by cases h) rfl (by omega) (by omega) rfl ?_
       clear hi36 hz36 hs36 hb36 ti36
       intro A36 c36 hn36
       refine TL.nil ?_
       refine TA.cont ((.cons (by first | exact P0 | exact P1 | exact P2 | exact P3 | exact P4 | exact P5 | exact P6) .nil)) ?_
       refine TA.takeP (i := 9) (ls := #[true, true, true, true, true, true, true, true, true, true, false]) rfl rfl rfl rfl rfl (by kernel_rfl) (by kernel_rfl) (by kernel_rfl) (by repeat (first | with_reducible exact PanicOk.body | with_reducible apply PanicOk.next | with_reducible apply PanicOk.block)) (OpV.assign rfl) rfl (by kernel_rfl) ?_
       refine TA.takeP (i := 10) (ls := #[true, true, true, true, true, true, true, true, true, true, true]) rfl rfl rfl rfl rfl (by kernel_rfl) (by kernel_rfl) (by kernel_rfl) (by repeat (first | with_reducible exact PanicOk.body | with_reducible apply PanicOk.next | with_reducible apply PanicOk.block)) (OpV.assign rfl) rfl (by kernel_rfl) ?_
       refine TA.done (by kernel_rfl) ?_
       exact TE.meet ⟨A31, c31, A36, c36⟩ ⟨hn31, hn36⟩ (.cons (t := 4) (by rw [e1]; rfl) <| .cons (t := 5) (by rw [e3, List.length_append]; rfl) <| .cons (t := 8) rfl <| .cons (t := 13) rfl <| .cons (t := 14) rfl <| .cons (t := 15) rfl <| .nil) ((by rw [e1, e2, e3, cl_snoc, il_snoc, List.length_append]; exact Perm.kle (.cons (by first | exact P0 | exact P1 | exact P2 | exact P3 | exact P4 | exact P5 | exact P6) (.cons (by first | exact P0 | exact P1 | exact P2 | exact P3 | exact P4 | exact P5 | exact P6) (.cons (by first | exact P0 | exact P1 | exact P2 | exact P3 | exact P4 | exact P5 | exact P6) (.cons (by first | exact P0 | exact P1 | exact P2 | exact P3 | exact P4 | exact P5 | exact P6) .nil))))))
      ·
       refine TL.slit (qs := #[(0, _)]) (fun _ f => by simp only [List.map_toArray, List.map_cons, List.map_nil]; rw [f.ev (x := .tmp 34) rfl]) (sl_39_1_0 x.ln) rfl ?_
       intro b35
       refine TL.nil ?_
       refine TA.cont ((.cons (by first | exact P0 | exact P1 | exact P2 | exact P3 | exact P4 | exact P5 | exact P6) .nil)) ?_
       refine TA.one (i := 3) (ls := #[true, true, true, true, true, true, true, true, false, false, false]) (by kernel_rfl) rfl (by kernel_rfl) (fun w1 => ?_)
       obtain ⟨ti31, hi31, hz31, hs31, hb31⟩ := info_parts inf_41
       refine TL.append rfl rfl Try.underlying34 hi31 hz31 hs31 hb31 rfl (by omega) (by first | exact P0 | exact P1 | exact P2 | exact P3 | exact P4 | exact P5) (by first | exact Src.nil | exact Src.blk P0 rfl | exact Src.blk P1 rfl | exact Src.blk P2 rfl | exact Src.blk P3 rfl | exact Src.blk P4 rfl | exact Src.blk P5 rfl | exact Src.row P0 | exact Src.row P1 | exact Src.row P2 | exact Src.row P3 | exact Src.row P4 | exact Src.row P5) (fun h => by cases h) rfl (by omega) (by omega) rfl ?_
       clear hi31 hz31 hs31 hb31 ti31
       intro A31 c31 hn31
       refine TL.nil ?_
       refine TA.cont ((.cons (by first | exact P0 | exact P1 | exact P2 | exact P3 | exact P4 | exact P5 | exact P6) .nil)) ?_
       refine TA.one (i := 8) (ls := #[true, true, true, true, true, true, true, true, true, false, false]) (by kernel_rfl) rfl (by kernel_rfl) (fun w1 => ?_)
       obtain ⟨ti36, hi36, hz36, hs36, hb36⟩ := info_parts inf_3
       refine TL.append rfl rfl Try.underlying39 hi36 hz36 hs36 hb36 rfl (by omega) (by first | exact P0 | exact P1 | exact P2 | exact P3 | exact P4 | exact P5) (by first | exact Src.nil | exact Src.blk P0 rfl | exact Src.blk P1 rfl | exact Src.blk P2 rfl | exact Src.blk P3 rfl | exact Src.blk P4 rfl | exact Src.blk P5 rfl | exact Src.row P0 | exact Src.row P1 | exact Src.row P2 | exact Src.row P3 | exact Src.row P4 | exact Src.row P5) (fun h => by cases h) rfl (by omega) (by omega) rfl ?_
       clear hi36 hz36 hs36 hb36 ti36
       intro A36 c36 hn36
       refine TL.nil ?_
       refine TA.cont ((.cons (by first | exact P0 | exact P1 | exact P2 | exact P3 | exact P4 | exact P5 | exact P6) .nil)) ?_
       refine TA.takeP (i := 9) (ls := #[true, true, true, true, true, true, true, true, true, true, false]) rfl rfl rfl rfl rfl (by kernel_rfl) (by kernel_rfl) (by kernel_rfl) (by repeat (first | with_reducible exact PanicOk.body | with_reducible apply PanicOk.next | with_reducible apply PanicOk.block)) (OpV.assign rfl) rfl (by kernel_rfl) ?_
       refine TA.takeP (i := 10) (ls := #[true, true, true, true, true, true, true, true, true, true, true]) rfl rfl rfl rfl rfl (by kernel_rfl) (by kernel_rfl) (by kernel_rfl) (by repeat (first | with_reducible exact PanicOk.body | with_reducible apply PanicOk.next | with_reducible apply PanicOk.block)) (OpV.assign rfl) rfl (by kernel_rfl) ?_
       refine TA.done (by kernel_rfl) ?_
       exact TE.meet ⟨A31, c31, A36, c36⟩ ⟨hn31, hn36⟩ (.cons (t := 4) (by rw [e1]; rfl) <| .cons (t := 5) (by rw [e3, List.length_append]; rfl) <| .cons (t := 8) rfl <| .cons (t := 13) rfl <| .cons (t := 14) rfl <| .cons (t := 15) rfl <| .nil) ((by rw [e1, e2, e3, cl_snoc, il_snoc, List.length_append]; exact Perm.kle (.cons (by first | exact P0 | exact P1 | exact P2 | exact P3 | exact P4 | exact P5 | exact P6) (.cons (by first | exact P0 | exact P1 | exact P2 | exact P3 | exact P4 | exact P5 | exact P6) (.cons (by first | exact P0 | exact P1 | exact P2 | exact P3 | exact P4 | exact P5 | exact P6) (.cons (by first | exact P0 | exact P1 | exact P2 | exact P3 | exact P4 | exact P5 | exact P6) .nil))))))
     ·
      refine TL.slit (qs := #[(0, _)]) (fun _ f => by simp only [List.map_toArray, List.map_cons, List.map_nil]; rw [f.ev (x := .tmp 34) rfl]) (sl_39_1_0 x.ln) rfl ?_
      intro b35
      refine TL.nil ?_
      refine TA.cont ((.cons (by first | exact P0 | exact P1 | exact P2 | exact P3 | exact P4 | exact P5 | exact P6) .nil)) ?_
      refine TA.one (i := 2) (ls := #[true, true, true, false, true, true, true, true, false, false, false]) (by kernel_rfl) rfl (by kernel_rfl) (fun w1 => ?_)
      refine TL.slit (qs := #[(0, _)]) (fun _ f => by simp only [List.map_toArray, List.map_cons, List.map_nil]; rw [f.ev (x := .tmp 29) rfl]) (sl_34_1_0 Cm.zero) rfl ?_
      intro b30
      refine TL.nil ?_
      refine TA.cont ((.cons (by first | exact P0 | exact P1 | exact P2 | exact P3 | exact P4 | exact P5 | exact P6) .nil)) ?_
      refine TA.one (i := 3) (ls := #[true, true, true, true, true, true, true, true, false, false, false]) (by kernel_rfl) rfl (by kernel_rfl) (fun w1 => ?_)
      obtain ⟨ti31, hi31, hz31, hs31, hb31⟩ := info_parts inf_41
      refine TL.append rfl rfl Try.underlying34 hi31 hz31 hs31 hb31 rfl (by omega) (by first | exact P0 | exact P1 | exact P2 | exact P3 | exact P4 | exact P5) (by first | exact Src.nil | exact Src.blk P0 rfl | exact Src.blk P1 rfl | exact Src.blk P2 rfl | exact Src.blk P3 rfl | exact Src.blk P4 rfl | exact Src.blk P5 rfl | exact Src.row P0 | exact Src.row P1 | exact Src.row P2 | exact Src.row P3 | exact Src.row P4 | exact Src.row P5) (fun h => by cases h) rfl (by omega) (by omega) rfl ?_
      clear hi31 hz31 hs31 hb31 ti31
      intro A31 c31 hn31
      refine TL.nil ?_
      refine TA.cont ((.cons (by first | exact P0 | exact P1 | exact P2 | exact P3 | exact P4 | exact P5 | exact P6) .nil)) ?_
      refine TA.one (i := 8) (ls := #[true, true, true, true, true, true, true, true, true, false, false]) (by kernel_rfl) rfl (by kernel_rfl) (fun w1 => ?_)
      obtain ⟨ti36, hi36, hz36, hs36, hb36⟩ := info_parts inf_3
      refine TL.append rfl rfl Try.underlying39 hi36 hz36 hs36 hb36 rfl (by omega) (by first | exact P0 | exact P1 | exact P2 | exact P3 | exact P4 | exact P5) (by first | exact Src.nil | exact Src.blk P0 rfl | exact Src.blk P1 rfl | exact Src.blk P2 rfl | exact Src.blk P3 rfl | exact Src.blk P4 rfl | exact Src.blk P5 rfl | exact Src.row P0 | exact Src.row P1 | exact Src.row P2 | exact Src.row P3 | exact Src.row P4 | exact Src.row P5) (fun h => by cases h) rfl (by omega) (by omega) rfl ?_
      clear hi36 hz36 hs36 hb36 ti36
      intro A36 c36 hn36
      refine TL.nil ?_
      refine TA.cont ((.cons (by first | exact P0 | exact P1 | exact P2 | exact P3 | exact P4 | exact P5 | exact P6) .nil)) ?_
      refine TA.takeP (i := 9) (ls := #[true, true, true, true, true, true, true, true, true, true, false]) rfl rfl rfl rfl rfl (by kernel_rfl) (by kernel_rfl) (by kernel_rfl) (by repeat (first | with_reducible exact PanicOk.body | with_reducible apply PanicOk.next | with_reducible apply PanicOk.block)) (OpV.assign rfl) rfl (by kernel_rfl) ?_
      refine TA.takeP (i := 10) (ls := #[true, true, true, true, true, true, true, true, true, true, true]) rfl rfl rfl rfl rfl (by kernel_rfl) (by kernel_rfl) (by kernel_rfl) (by repeat (first | with_reducible exact PanicOk.body | with_reducible apply PanicOk.next | with_reducible apply PanicOk.block)) (OpV.assign rfl) rfl (by kernel_rfl) ?_
      refine TA.done (by kernel_rfl) ?_
      exact TE.meet ⟨A31, c31, A36, c36⟩ ⟨hn31, hn36⟩ (.cons (t := 4) (by rw [e1]; rfl) <| .cons (t := 5) (by rw [e3, List.length_append]; rfl) <| .cons (t := 8) rfl <| .cons (t := 13) rfl <| .cons (t := 14) rfl <| .cons (t := 15) rfl <| .nil) ((by rw [e1, e2, e3, cl_snoc, il_snoc, List.length_append]; exact Perm.kle (.cons (by first | exact P0 | exact P1 | exact P2 | exact P3 | exact P4 | exact P5 | exact P6) (.cons (by first | exact P0 | exact P1 | exact P2 | exact P3 | exact P4 | exact P5 | exact P6) (.cons (by first | exact P0 | exact P1 | exact P2 | exact P3 | exact P4 | exact P5 | exact P6) (.cons (by first | exact P0 | exact P1 | exact P2 | exact P3 | exact P4 | exact P5 | exact P6) .nil))))))
    ·
     intro ht27
     try simp only [decide_eq_true_eq, decide_eq_false_iff_not, beq_iff_eq, beq_eq_false_iff_ne, bne_iff_ne, bne_eq_false_iff_eq, Bool.not_eq_true', Bool.not_eq_false', ne_eq] at ht27
     have hb : (newB (grF (xs.take i)).out (grF (xs.take i)).last x) = false := by rw [newB, beq_eq_false_iff_ne.2 hg22, decide_eq_false ht27]; rfl
     have h0 : 0 < (grF (xs.take i)).out.length := by by_cases h0 : 0 < (grF (xs.take i)).out.length; exact h0; rw [newB, show ((grF (xs.take i)).out.length : Int) = 0 by omega] at hb; cases hb
     have e1 : (grO (grF (xs.take i)).out (grF (xs.take i)).last x) ++ [(grZ (grF (xs.take i)).out (grF (xs.take i)).last x)] = (grF (xs.take i)).out := by rw [grO, grZ, hb]; exact dropLast_get h0
     have e4 : (grO (grF (xs.take i)).out (grF (xs.take i)).last x).length + 1 = (grF (xs.take i)).out.length := by have h9 := congrArg List.length e1; simpa using h9
     have e3 : (grL (grF (xs.take i)).out (grF (xs.take i)).last x (grF (xs.take i)).li) = (grF (xs.take i)).li := by rw [grL, hb]; rfl
     refine T.skip ?_
     exact TE.meet ⟨A4, c4, A5, c5⟩ ⟨hq1, hq2⟩ (.cons (t := 4) (by rw [e4]; rfl) <| .cons (t := 5) (by rw [e3]; rfl) <| .cons (t := 8) rfl <| .cons (t := 13) rfl <| .cons (t := 14) rfl <| .cons (t := 15) rfl <| .nil) ((by rw [e1, e3, e4]; exact Perm.kle (.cons (by first | exact P0 | exact P1 | exact P2 | exact P3 | exact P4 | exact P5 | exact P6) (.cons (by first | exact P0 | exact P1 | exact P2 | exact P3 | exact P4 | exact P5 | exact P6) (.cons (by first | exact P0 | exact P1 | exact P2 | exact P3 | exact P4 | exact P5 | exact P6) (.cons (by first | exact P0 | exact P1 | exact P2 | exact P3 | exact P4 | exact P5 | exact P6) .nil))))))
  rintro ⟨A4b, c4b, A5b, c5b⟩ ⟨hq3, hq4⟩
  refine TE.next ?_
  refine T.seq ?_
  refine T.ex (fun wz kz => rowMid (e := 41) (A := A4b) (O := (grO (grF (xs.take i)).out (grF (xs.take i)).last x)) (Z := (grZ (grF (xs.take i)).out (grF (xs.take i)).last x)) (c := c4b) kz (by first | exact P0 | exact P1 | exact P2 | exact P3 | exact P4 | exact P5 | exact P6)) ?_
  rintro ⟨bq, post⟩ ⟨p1, p2, p3, p4⟩
  simp only at p1 p2
  have hOl : (grO (grF (xs.take i)).out (grF (xs.take i)).last x).length ≤ 1000 := by by_cases hb : (newB (grF (xs.take i)).out (grF (xs.take i)).last x) = true; rw [grO, hb, if_pos rfl]; omega; rw [grO, if_neg hb, List.length_dropLast]; omega
  refine T.region ?_
  refine TL.val (OpV.move rfl) rfl ?_
  refine TL.val (OpV.move rfl) rfl ?_
  refine TL.val (OpV.len Try.underlying34 rfl) rfl ?_
  refine TL.val (OpV.sub rfl rfl (by first | exact IntWalk.i64_in _ ⟨by omega, by omega⟩ | rfl)) rfl ?_
  refine TL.val (OpV.indexAddr (j := (grO (grF (xs.take i)).out (grF (xs.take i)).last x).length) se_34 rfl p1 rfl (by omega) (by omega)) rfl ?_
  refine TL.val (OpV.assign rfl) rfl ?_
  refine TL.said (t := 9) rfl (show _ = Value.pointer (some ⟨bq, (grO (grF (xs.take i)).out (grF (xs.take i)).last x).length * 9, none⟩) by rw [Nat.zero_add]) ?_
  refine TL.nil ?_
  refine TE.next ?_
  refine T.seq ?_
  refine T.seq ?_
  refine T.region ?_
  refine TL.val (OpV.fieldAddr rfl fo_31_1) rfl ?_
  refine TL.val (OpV.load pl_29 rfl (by first | exact Cel.blk P0 rfl | exact Cel.blk P1 rfl | exact Cel.blk P2 rfl | exact Cel.blk P3 rfl | exact Cel.blk P4 rfl | exact Cel.blk P5 rfl | exact Cel.frA (hm1) | exact Cel.frA (hatx _ _ rfl))) rfl ?_
  refine TL.nil ?_
  refine TE.next ?_
  refine T.block ?_
  refine T.seq ?_
  refine T.region ?_
  refine TL.val (OpV.eql rfl rfl) rfl ?_
  refine TL.val (OpV.assign rfl) rfl ?_
  refine TL.nil ?_
  refine TE.sub (.cons (t := 4) rfl <| .cons (t := 5) rfl <| .cons (t := 8) rfl <| .cons (t := 9) rfl <| .cons (t := 13) rfl <| .cons (t := 14) rfl <| .cons (t := 15) rfl <| .cons (t := 43) rfl <| .cons (t := 44) rfl <| .nil) ?_
  refine TE.next ?_
  refine T.cond rfl ?_ ?_
  ·
   intro ht44
   try simp only [decide_eq_true_eq, decide_eq_false_iff_not, beq_iff_eq, beq_eq_false_iff_ne, bne_iff_ne, bne_eq_false_iff_eq, Bool.not_eq_true', Bool.not_eq_false', ne_eq] at ht44
   refine T.region ?_
   refine TL.val (OpV.move rfl) rfl ?_
   refine TL.val (OpV.move rfl) rfl ?_
   refine TL.val (OpV.fieldAddr rfl fo_31_0) rfl ?_
   refine TL.val (OpV.load pl_3 rfl (by first | exact Cel.blk P0 rfl | exact Cel.blk P1 rfl | exact Cel.blk P2 rfl | exact Cel.blk P3 rfl | exact Cel.blk P4 rfl | exact Cel.blk P5 rfl | exact Cel.frA (hm1) | exact Cel.frA (hatx _ _ rfl))) rfl ?_
   refine TL.val (OpV.nil rfl) rfl ?_
   refine TL.val (OpV.fieldAddr rfl fo_41_0) rfl ?_
   refine TL.store (o := (grO (grF (xs.take i)).out (grF (xs.take i)).last x).length * 9 + 0) (cs' := cl (grO (grF (xs.take i)).out (grF (xs.take i)).last x) ++ (({ (grZ (grF (xs.take i)).out (grF (xs.take i)).last x) with p := x.ln } : Cm).l ++ post)) rfl rfl szz_3 rfl rfl rfl (by first | exact P0 | exact P1 | exact P2 | exact P3 | exact P4 | exact P5 | exact P6) (mid_len (Nat.le_of_ble_eq_true rfl)) (mid_store (Z := (grZ (grF (xs.take i)).out (grF (xs.take i)).last x)) (Z' := { (grZ (grF (xs.take i)).out (grF (xs.take i)).last x) with p := x.ln }) rfl (Nat.le_of_ble_eq_true rfl)) ?_
   refine TL.val (OpV.nil rfl) rfl ?_
   refine TL.val (OpV.fieldAddr rfl fo_41_4) rfl ?_
   refine TL.store (o := (grO (grF (xs.take i)).out (grF (xs.take i)).last x).length * 9 + 4) (cs' := cl (grO (grF (xs.take i)).out (grF (xs.take i)).last x) ++ (({ (grZ (grF (xs.take i)).out (grF (xs.take i)).last x) with p := x.ln, hp := true } : Cm).l ++ post)) rfl rfl szz_4 rfl rfl rfl (by first | exact P0 | exact P1 | exact P2 | exact P3 | exact P4 | exact P5 | exact P6) (mid_len (Nat.le_of_ble_eq_true rfl)) (mid_store (Z := { (grZ (grF (xs.take i)).out (grF (xs.take i)).last x) with p := x.ln }) (Z' := { (grZ (grF (xs.take i)).out (grF (xs.take i)).last x) with p := x.ln, hp := true }) rfl (Nat.le_of_ble_eq_true rfl)) ?_
   refine TL.nil ?_
   refine TE.out ?_
   refine TE.sub (.cons (t := 4) rfl <| .cons (t := 5) rfl <| .cons (t := 8) rfl <| .cons (t := 13) rfl <| .cons (t := 14) rfl <| .cons (t := 15) rfl <| .nil) ?_
   refine TE.next ?_
   refine T.region ?_
   refine TL.val (OpV.fieldAddr rfl fo_31_1) rfl ?_
   refine TL.val (OpV.load pl_29 rfl (by first | exact Cel.blk P0 rfl | exact Cel.blk P1 rfl | exact Cel.blk P2 rfl | exact Cel.blk P3 rfl | exact Cel.blk P4 rfl | exact Cel.blk P5 rfl | exact Cel.frA (hm1) | exact Cel.frA (hatx _ _ rfl))) rfl ?_
   refine TL.val (OpV.assign rfl) rfl ?_
   refine TL.nil ?_
   refine TE.out ?_
   refine TE.next ?_
   refine T.region ?_
   refine TL.val (OpV.add rfl rfl (by first | exact IntWalk.i64_in _ ⟨by omega, by omega⟩ | rfl)) rfl ?_
   refine TL.val (OpV.move rfl) rfl ?_
   refine TL.nil ?_
   have hZ : setC x (grZ (grF (xs.take i)).out (grF (xs.take i)).last x) = { (grZ (grF (xs.take i)).out (grF (xs.take i)).last x) with p := x.ln, hp := true } := by rw [setC, if_pos ht44]
   have hgo : (grF (xs.take (i + 1))).out = (grO (grF (xs.take i)).out (grF (xs.take i)).last x) ++ [{ (grZ (grF (xs.take i)).out (grF (xs.take i)).last x) with p := x.ln, hp := true }] := by rw [hgs, ← hZ]; rfl
   have hgi : (grF (xs.take (i + 1))).li = (grL (grF (xs.take i)).out (grF (xs.take i)).last x (grF (xs.take i)).li) := by rw [hgs]; rfl
   have hgk : (grF (xs.take (i + 1))).last = x.kd := by rw [hgs]; rfl
   have hgol : (grF (xs.take (i + 1))).out.length = (grO (grF (xs.take i)).out (grF (xs.take i)).last x).length + 1 := by rw [hgo]; simp
   exact TE.meet (i + 1, some ⟨bq, 0, none⟩, c4b, A5b, c5b) ⟨⟨by omega, fun h9 => (by cases h9), hq4⟩, by simp only; omega⟩ (.cons (t := 4) (by simp only [hgol]; rw [← p1]; rfl) <| .cons (t := 5) (by simp only [hgi]; rfl) <| .cons (t := 6) (by simp only [hgk]; rfl) <| .cons (t := 13) (by first | rfl | (simp [lk]; done)) <| .cons (t := 14) (by first | rfl | (simp [lk]; done)) <| .cons (t := 15) (by first | rfl | (simp [lk]; done)) <| .nil) ((by simp only [hgol, hgi]; rw [hgo]; exact Kle.trans (Kle.pick (e := .blk bq (cl (grO (grF (xs.take i)).out (grF (xs.take i)).last x) ++ (({ (grZ (grF (xs.take i)).out (grF (xs.take i)).last x) with p := x.ln, hp := true } : Cm).l ++ post)) 41) (by first | exact P0 | exact P1 | exact P2 | exact P3 | exact P4 | exact P5 | exact P6)) (Kle.trans (Kle.midRow p2 p3 p4) (Perm.kle (.cons (by first | exact P0 | exact P1 | exact P2 | exact P3 | exact P4 | exact P5 | exact P6) (.cons (by first | exact P0 | exact P1 | exact P2 | exact P3 | exact P4 | exact P5 | exact P6) (.cons (by first | exact P0 | exact P1 | exact P2 | exact P3 | exact P4 | exact P5 | exact P6) .nil)))))))
  ·
   intro ht44
   try simp only [decide_eq_true_eq, decide_eq_false_iff_not, beq_iff_eq, beq_eq_false_iff_ne, bne_iff_ne, bne_eq_false_iff_eq, Bool.not_eq_true', Bool.not_eq_false', ne_eq] at ht44
   refine T.seq ?_
   refine T.region ?_
   refine TL.val (OpV.eql rfl rfl) rfl ?_
   refine TL.val (OpV.assign rfl) rfl ?_
   refine TL.nil ?_
   refine TE.next ?_
   refine T.cond rfl ?_ ?_
   ·
    intro ht54
    try simp only [decide_eq_true_eq, decide_eq_false_iff_not, beq_iff_eq, beq_eq_false_iff_ne, bne_iff_ne, bne_eq_false_iff_eq, Bool.not_eq_true', Bool.not_eq_false', ne_eq] at ht54
    refine T.region ?_
    refine TL.val (OpV.move rfl) rfl ?_
    refine TL.val (OpV.move rfl) rfl ?_
    refine TL.val (OpV.fieldAddr rfl fo_31_0) rfl ?_
    refine TL.val (OpV.load pl_3 rfl (by first | exact Cel.blk P0 rfl | exact Cel.blk P1 rfl | exact Cel.blk P2 rfl | exact Cel.blk P3 rfl | exact Cel.blk P4 rfl | exact Cel.blk P5 rfl | exact Cel.frA (hm1) | exact Cel.frA (hatx _ _ rfl))) rfl ?_
    refine TL.val (OpV.nil rfl) rfl ?_
    refine TL.val (OpV.fieldAddr rfl fo_41_1) rfl ?_
    refine TL.store (o := (grO (grF (xs.take i)).out (grF (xs.take i)).last x).length * 9 + 1) (cs' := cl (grO (grF (xs.take i)).out (grF (xs.take i)).last x) ++ (({ (grZ (grF (xs.take i)).out (grF (xs.take i)).last x) with c := x.ln } : Cm).l ++ post)) rfl rfl szz_3 rfl rfl rfl (by first | exact P0 | exact P1 | exact P2 | exact P3 | exact P4 | exact P5 | exact P6) (mid_len (Nat.le_of_ble_eq_true rfl)) (mid_store (Z := (grZ (grF (xs.take i)).out (grF (xs.take i)).last x)) (Z' := { (grZ (grF (xs.take i)).out (grF (xs.take i)).last x) with c := x.ln }) rfl (Nat.le_of_ble_eq_true rfl)) ?_
    refine TL.val (OpV.nil rfl) rfl ?_
    refine TL.val (OpV.fieldAddr rfl fo_41_5) rfl ?_
    refine TL.store (o := (grO (grF (xs.take i)).out (grF (xs.take i)).last x).length * 9 + 5) (cs' := cl (grO (grF (xs.take i)).out (grF (xs.take i)).last x) ++ (({ (grZ (grF (xs.take i)).out (grF (xs.take i)).last x) with c := x.ln, hc := true } : Cm).l ++ post)) rfl rfl szz_4 rfl rfl rfl (by first | exact P0 | exact P1 | exact P2 | exact P3 | exact P4 | exact P5 | exact P6) (mid_len (Nat.le_of_ble_eq_true rfl)) (mid_store (Z := { (grZ (grF (xs.take i)).out (grF (xs.take i)).last x) with c := x.ln }) (Z' := { (grZ (grF (xs.take i)).out (grF (xs.take i)).last x) with c := x.ln, hc := true }) rfl (Nat.le_of_ble_eq_true rfl)) ?_
    refine TL.nil ?_
    refine TE.out ?_
    refine TE.sub (.cons (t := 4) rfl <| .cons (t := 5) rfl <| .cons (t := 8) rfl <| .cons (t := 13) rfl <| .cons (t := 14) rfl <| .cons (t := 15) rfl <| .nil) ?_
    refine TE.next ?_
    refine T.region ?_
    refine TL.val (OpV.fieldAddr rfl fo_31_1) rfl ?_
    refine TL.val (OpV.load pl_29 rfl (by first | exact Cel.blk P0 rfl | exact Cel.blk P1 rfl | exact Cel.blk P2 rfl | exact Cel.blk P3 rfl | exact Cel.blk P4 rfl | exact Cel.blk P5 rfl | exact Cel.frA (hm1) | exact Cel.frA (hatx _ _ rfl))) rfl ?_
    refine TL.val (OpV.assign rfl) rfl ?_
    refine TL.nil ?_
    refine TE.out ?_
    refine TE.next ?_
    refine T.region ?_
    refine TL.val (OpV.add rfl rfl (by first | exact IntWalk.i64_in _ ⟨by omega, by omega⟩ | rfl)) rfl ?_
    refine TL.val (OpV.move rfl) rfl ?_
    refine TL.nil ?_
    have hZ : setC x (grZ (grF (xs.take i)).out (grF (xs.take i)).last x) = { (grZ (grF (xs.take i)).out (grF (xs.take i)).last x) with c := x.ln, hc := true } := by rw [setC, if_neg ht44, if_pos ht54]
    have hgo : (grF (xs.take (i + 1))).out = (grO (grF (xs.take i)).out (grF (xs.take i)).last x) ++ [{ (grZ (grF (xs.take i)).out (grF (xs.take i)).last x) with c := x.ln, hc := true }] := by rw [hgs, ← hZ]; rfl
    have hgi : (grF (xs.take (i + 1))).li = (grL (grF (xs.take i)).out (grF (xs.take i)).last x (grF (xs.take i)).li) := by rw [hgs]; rfl
    have hgk : (grF (xs.take (i + 1))).last = x.kd := by rw [hgs]; rfl
    have hgol : (grF (xs.take (i + 1))).out.length = (grO (grF (xs.take i)).out (grF (xs.take i)).last x).length + 1 := by rw [hgo]; simp
    exact TE.meet (i + 1, some ⟨bq, 0, none⟩, c4b, A5b, c5b) ⟨⟨by omega, fun h9 => (by cases h9), hq4⟩, by simp only; omega⟩ (.cons (t := 4) (by simp only [hgol]; rw [← p1]; rfl) <| .cons (t := 5) (by simp only [hgi]; rfl) <| .cons (t := 6) (by simp only [hgk]; rfl) <| .cons (t := 13) (by first | rfl | (simp [lk]; done)) <| .cons (t := 14) (by first | rfl | (simp [lk]; done)) <| .cons (t := 15) (by first | rfl | (simp [lk]; done)) <| .nil) ((by simp only [hgol, hgi]; rw [hgo]; exact Kle.trans (Kle.pick (e := .blk bq (cl (grO (grF (xs.take i)).out (grF (xs.take i)).last x) ++ (({ (grZ (grF (xs.take i)).out (grF (xs.take i)).last x) with c := x.ln, hc := true } : Cm).l ++ post)) 41) (by first | exact P0 | exact P1 | exact P2 | exact P3 | exact P4 | exact P5 | exact P6)) (Kle.trans (Kle.midRow p2 p3 p4) (Perm.kle (.cons (by first | exact P0 | exact P1 | exact P2 | exact P3 | exact P4 | exact P5 | exact P6) (.cons (by first | exact P0 | exact P1 | exact P2 | exact P3 | exact P4 | exact P5 | exact P6) (.cons (by first | exact P0 | exact P1 | exact P2 | exact P3 | exact P4 | exact P5 | exact P6) .nil)))))))
   ·
    intro ht54
    try simp only [decide_eq_true_eq, decide_eq_false_iff_not, beq_iff_eq, beq_eq_false_iff_ne, bne_iff_ne, bne_eq_false_iff_eq, Bool.not_eq_true', Bool.not_eq_false', ne_eq] at ht54
    refine T.seq ?_
    refine T.region ?_
    refine TL.val (OpV.eql rfl rfl) rfl ?_
    refine TL.val (OpV.assign rfl) rfl ?_
    refine TL.nil ?_
    refine TE.next ?_
    refine T.cond rfl ?_ ?_
    ·
     intro ht64
     try simp only [decide_eq_true_eq, decide_eq_false_iff_not, beq_iff_eq, beq_eq_false_iff_ne, bne_iff_ne, bne_eq_false_iff_eq, Bool.not_eq_true', Bool.not_eq_false', ne_eq] at ht64
     refine T.region ?_
     refine TL.val (OpV.move rfl) rfl ?_
     refine TL.val (OpV.move rfl) rfl ?_
     refine TL.val (OpV.fieldAddr rfl fo_31_0) rfl ?_
     refine TL.val (OpV.load pl_3 rfl (by first | exact Cel.blk P0 rfl | exact Cel.blk P1 rfl | exact Cel.blk P2 rfl | exact Cel.blk P3 rfl | exact Cel.blk P4 rfl | exact Cel.blk P5 rfl | exact Cel.frA (hm1) | exact Cel.frA (hatx _ _ rfl))) rfl ?_
     refine TL.val (OpV.nil rfl) rfl ?_
     refine TL.val (OpV.fieldAddr rfl fo_41_2) rfl ?_
     refine TL.store (o := (grO (grF (xs.take i)).out (grF (xs.take i)).last x).length * 9 + 2) (cs' := cl (grO (grF (xs.take i)).out (grF (xs.take i)).last x) ++ (({ (grZ (grF (xs.take i)).out (grF (xs.take i)).last x) with o := x.ln } : Cm).l ++ post)) rfl rfl szz_3 rfl rfl rfl (by first | exact P0 | exact P1 | exact P2 | exact P3 | exact P4 | exact P5 | exact P6) (mid_len (Nat.le_of_ble_eq_true rfl)) (mid_store (Z := (grZ (grF (xs.take i)).out (grF (xs.take i)).last x)) (Z' := { (grZ (grF (xs.take i)).out (grF (xs.take i)).last x) with o := x.ln }) rfl (Nat.le_of_ble_eq_true rfl)) ?_
     refine TL.val (OpV.nil rfl) rfl ?_
     refine TL.val (OpV.fieldAddr rfl fo_41_6) rfl ?_
     refine TL.store (o := (grO (grF (xs.take i)).out (grF (xs.take i)).last x).length * 9 + 6) (cs' := cl (grO (grF (xs.take i)).out (grF (xs.take i)).last x) ++ (({ (grZ (grF (xs.take i)).out (grF (xs.take i)).last x) with o := x.ln, ho := true } : Cm).l ++ post)) rfl rfl szz_4 rfl rfl rfl (by first | exact P0 | exact P1 | exact P2 | exact P3 | exact P4 | exact P5 | exact P6) (mid_len (Nat.le_of_ble_eq_true rfl)) (mid_store (Z := { (grZ (grF (xs.take i)).out (grF (xs.take i)).last x) with o := x.ln }) (Z' := { (grZ (grF (xs.take i)).out (grF (xs.take i)).last x) with o := x.ln, ho := true }) rfl (Nat.le_of_ble_eq_true rfl)) ?_
     refine TL.nil ?_
     refine TE.out ?_
     refine TE.sub (.cons (t := 4) rfl <| .cons (t := 5) rfl <| .cons (t := 8) rfl <| .cons (t := 13) rfl <| .cons (t := 14) rfl <| .cons (t := 15) rfl <| .nil) ?_
     refine TE.next ?_
     refine T.region ?_
     refine TL.val (OpV.fieldAddr rfl fo_31_1) rfl ?_
     refine TL.val (OpV.load pl_29 rfl (by first | exact Cel.blk P0 rfl | exact Cel.blk P1 rfl | exact Cel.blk P2 rfl | exact Cel.blk P3 rfl | exact Cel.blk P4 rfl | exact Cel.blk P5 rfl | exact Cel.frA (hm1) | exact Cel.frA (hatx _ _ rfl))) rfl ?_
     refine TL.val (OpV.assign rfl) rfl ?_
     refine TL.nil ?_
     refine TE.out ?_
     refine TE.next ?_
     refine T.region ?_
     refine TL.val (OpV.add rfl rfl (by first | exact IntWalk.i64_in _ ⟨by omega, by omega⟩ | rfl)) rfl ?_
     refine TL.val (OpV.move rfl) rfl ?_
     refine TL.nil ?_
     have hZ : setC x (grZ (grF (xs.take i)).out (grF (xs.take i)).last x) = { (grZ (grF (xs.take i)).out (grF (xs.take i)).last x) with o := x.ln, ho := true } := by rw [setC, if_neg ht44, if_neg ht54, if_pos ht64]
     have hgo : (grF (xs.take (i + 1))).out = (grO (grF (xs.take i)).out (grF (xs.take i)).last x) ++ [{ (grZ (grF (xs.take i)).out (grF (xs.take i)).last x) with o := x.ln, ho := true }] := by rw [hgs, ← hZ]; rfl
     have hgi : (grF (xs.take (i + 1))).li = (grL (grF (xs.take i)).out (grF (xs.take i)).last x (grF (xs.take i)).li) := by rw [hgs]; rfl
     have hgk : (grF (xs.take (i + 1))).last = x.kd := by rw [hgs]; rfl
     have hgol : (grF (xs.take (i + 1))).out.length = (grO (grF (xs.take i)).out (grF (xs.take i)).last x).length + 1 := by rw [hgo]; simp
     exact TE.meet (i + 1, some ⟨bq, 0, none⟩, c4b, A5b, c5b) ⟨⟨by omega, fun h9 => (by cases h9), hq4⟩, by simp only; omega⟩ (.cons (t := 4) (by simp only [hgol]; rw [← p1]; rfl) <| .cons (t := 5) (by simp only [hgi]; rfl) <| .cons (t := 6) (by simp only [hgk]; rfl) <| .cons (t := 13) (by first | rfl | (simp [lk]; done)) <| .cons (t := 14) (by first | rfl | (simp [lk]; done)) <| .cons (t := 15) (by first | rfl | (simp [lk]; done)) <| .nil) ((by simp only [hgol, hgi]; rw [hgo]; exact Kle.trans (Kle.pick (e := .blk bq (cl (grO (grF (xs.take i)).out (grF (xs.take i)).last x) ++ (({ (grZ (grF (xs.take i)).out (grF (xs.take i)).last x) with o := x.ln, ho := true } : Cm).l ++ post)) 41) (by first | exact P0 | exact P1 | exact P2 | exact P3 | exact P4 | exact P5 | exact P6)) (Kle.trans (Kle.midRow p2 p3 p4) (Perm.kle (.cons (by first | exact P0 | exact P1 | exact P2 | exact P3 | exact P4 | exact P5 | exact P6) (.cons (by first | exact P0 | exact P1 | exact P2 | exact P3 | exact P4 | exact P5 | exact P6) (.cons (by first | exact P0 | exact P1 | exact P2 | exact P3 | exact P4 | exact P5 | exact P6) .nil)))))))
    ·
     intro ht64
     try simp only [decide_eq_true_eq, decide_eq_false_iff_not, beq_iff_eq, beq_eq_false_iff_ne, bne_iff_ne, bne_eq_false_iff_eq, Bool.not_eq_true', Bool.not_eq_false', ne_eq] at ht64
     refine T.seq ?_
     refine T.region ?_
     refine TL.val (OpV.eql rfl rfl) rfl ?_
     refine TL.val (OpV.assign rfl) rfl ?_
     refine TL.nil ?_
     refine TE.sub (.cons (t := 4) rfl <| .cons (t := 5) rfl <| .cons (t := 8) rfl <| .cons (t := 9) rfl <| .cons (t := 13) rfl <| .cons (t := 14) rfl <| .cons (t := 15) rfl <| .cons (t := 74) rfl <| .nil) ?_
     refine TE.next ?_
     refine T.cond rfl ?_ ?_
     ·
      intro ht74
      try simp only [decide_eq_true_eq, decide_eq_false_iff_not, beq_iff_eq, beq_eq_false_iff_ne, bne_iff_ne, bne_eq_false_iff_eq, Bool.not_eq_true', Bool.not_eq_false', ne_eq] at ht74
      refine T.any ([.blk b8 x.l 31]) [] mix rfl rfl ?_
      refine TA.takeP (i := 0) (ls := #[true, false, false, false, false, false, false, false, false, false, false, false, false, false, false, false]) rfl rfl rfl rfl rfl (by kernel_rfl) (by kernel_rfl) (by kernel_rfl) (by repeat (first | with_reducible exact PanicOk.body | with_reducible apply PanicOk.next | with_reducible apply PanicOk.block)) (OpV.move rfl) rfl (by kernel_rfl) ?_
      refine TA.takeP (i := 1) (ls := #[true, true, false, false, false, false, false, false, false, false, false, false, false, false, false, false]) rfl rfl rfl rfl rfl (by kernel_rfl) (by kernel_rfl) (by kernel_rfl) (by repeat (first | with_reducible exact PanicOk.body | with_reducible apply PanicOk.next | with_reducible apply PanicOk.block)) (OpV.move rfl) rfl (by kernel_rfl) ?_
      refine TA.takeP (i := 2) (ls := #[true, true, true, false, false, false, false, false, false, false, false, false, false, false, false, false]) rfl rfl rfl rfl rfl (by kernel_rfl) (by kernel_rfl) (by kernel_rfl) (by repeat (first | with_reducible exact PanicOk.body | with_reducible apply PanicOk.next | with_reducible apply PanicOk.block)) (OpV.move rfl) rfl (by kernel_rfl) ?_
      refine TA.takeP (i := 3) (ls := #[true, true, true, true, false, false, false, false, false, false, false, false, false, false, false, false]) rfl rfl rfl rfl rfl (by kernel_rfl) (by kernel_rfl) (by kernel_rfl) (by repeat (first | with_reducible exact PanicOk.body | with_reducible apply PanicOk.next | with_reducible apply PanicOk.block)) (OpV.fieldAddr rfl fo_31_0) rfl (by kernel_rfl) ?_
      refine TA.take (i := 4) (ls := #[true, true, true, true, true, false, false, false, false, false, false, false, false, false, false, false]) rfl rfl rfl rfl rfl (by kernel_rfl) (by kernel_rfl) (by kernel_rfl) (by kernel_rfl) (by repeat (first | with_reducible exact PanicOk.body | with_reducible apply PanicOk.next | with_reducible apply PanicOk.block)) ((.cons (by first | exact P0 | exact P1 | exact P2 | exact P3 | exact P4 | exact P5 | exact P6) .nil)) (OpV.load pl_3 rfl (by first | exact Cel.blk P0 rfl | exact Cel.blk P1 rfl | exact Cel.blk P2 rfl | exact Cel.blk P3 rfl | exact Cel.blk P4 rfl | exact Cel.blk P5 rfl | exact Cel.frA (hm1) | exact Cel.frA (hatx _ _ rfl))) rfl (by kernel_rfl) ?_
      refine TA.takeP (i := 5) (ls := #[true, true, true, true, true, true, false, false, false, false, false, false, false, false, false, false]) rfl rfl rfl rfl rfl (by kernel_rfl) (by kernel_rfl) (by kernel_rfl) (by repeat (first | with_reducible exact PanicOk.body | with_reducible apply PanicOk.next | with_reducible apply PanicOk.block)) (OpV.fieldAddr rfl fo_31_2) rfl (by kernel_rfl) ?_
      refine TA.take (i := 6) (ls := #[true, true, true, true, true, true, true, false, false, false, false, false, false, false, false, false]) rfl rfl rfl rfl rfl (by kernel_rfl) (by kernel_rfl) (by kernel_rfl) (by kernel_rfl) (by repeat (first | with_reducible exact PanicOk.body | with_reducible apply PanicOk.next | with_reducible apply PanicOk.block)) ((.cons (by first | exact P0 | exact P1 | exact P2 | exact P3 | exact P4 | exact P5 | exact P6) .nil)) (OpV.load pl_3 rfl (by first | exact Cel.blk P0 rfl | exact Cel.blk P1 rfl | exact Cel.blk P2 rfl | exact Cel.blk P3 rfl | exact Cel.blk P4 rfl | exact Cel.blk P5 rfl | exact Cel.frA (hm1) | exact Cel.frA (hatx _ _ rfl))) rfl (by kernel_rfl) ?_
      refine TA.takeP (i := 7) (ls := #[true, true, true, true, true, true, true, true, false, false, false, false, false, false, false, false]) rfl rfl rfl rfl rfl (by kernel_rfl) (by kernel_rfl) (by kernel_rfl) (by repeat (first | with_reducible exact PanicOk.body | with_reducible apply PanicOk.next | with_reducible apply PanicOk.block)) (OpV.nil rfl) rfl (by kernel_rfl) ?_
      refine TA.takeP (i := 8) (ls := #[true, true, true, true, true, true, true, true, true, false, false, false, false, false, false, false]) rfl rfl rfl rfl rfl (by kernel_rfl) (by kernel_rfl) (by kernel_rfl) (by repeat (first | with_reducible exact PanicOk.body | with_reducible apply PanicOk.next | with_reducible apply PanicOk.block)) (OpV.fieldAddr rfl fo_41_3) rfl (by kernel_rfl) ?_
      refine TA.one (i := 9) (ls := #[true, true, true, true, true, true, true, true, true, true, false, false, false, false, false, false]) (by kernel_rfl) rfl (by kernel_rfl) (fun w1 => ?_)
      refine TL.store (o := (grO (grF (xs.take i)).out (grF (xs.take i)).last x).length * 9 + 3) (cs' := cl (grO (grF (xs.take i)).out (grF (xs.take i)).last x) ++ (({ (grZ (grF (xs.take i)).out (grF (xs.take i)).last x) with e := x.ln } : Cm).l ++ post)) rfl rfl szz_3 rfl rfl rfl (by first | exact P0 | exact P1 | exact P2 | exact P3 | exact P4 | exact P5 | exact P6) (mid_len (Nat.le_of_ble_eq_true rfl)) (mid_store (Z := (grZ (grF (xs.take i)).out (grF (xs.take i)).last x)) (Z' := { (grZ (grF (xs.take i)).out (grF (xs.take i)).last x) with e := x.ln }) rfl (Nat.le_of_ble_eq_true rfl)) ?_
      refine TL.nil ?_
      refine TA.cont ((.cons (by first | exact P0 | exact P1 | exact P2 | exact P3 | exact P4 | exact P5 | exact P6) .nil)) ?_
      refine TA.takeP (i := 10) (ls := #[true, true, true, true, true, true, true, true, true, true, true, false, false, false, false, false]) rfl rfl rfl rfl rfl (by kernel_rfl) (by kernel_rfl) (by kernel_rfl) (by repeat (first | with_reducible exact PanicOk.body | with_reducible apply PanicOk.next | with_reducible apply PanicOk.block)) (OpV.nil rfl) rfl (by kernel_rfl) ?_
      refine TA.takeP (i := 11) (ls := #[true, true, true, true, true, true, true, true, true, true, true, true, false, false, false, false]) rfl rfl rfl rfl rfl (by kernel_rfl) (by kernel_rfl) (by kernel_rfl) (by repeat (first | with_reducible exact PanicOk.body | with_reducible apply PanicOk.next | with_reducible apply PanicOk.block)) (OpV.fieldAddr rfl fo_41_7) rfl (by kernel_rfl) ?_
      refine TA.one (i := 12) (ls := #[true, true, true, true, true, true, true, true, true, true, true, true, true, false, false, false]) (by kernel_rfl) rfl (by kernel_rfl) (fun w1 => ?_)
      refine TL.store (o := (grO (grF (xs.take i)).out (grF (xs.take i)).last x).length * 9 + 7) (cs' := cl (grO (grF (xs.take i)).out (grF (xs.take i)).last x) ++ (({ (grZ (grF (xs.take i)).out (grF (xs.take i)).last x) with e := x.ln, he := true } : Cm).l ++ post)) rfl rfl szz_4 rfl rfl rfl (by first | exact P0 | exact P1 | exact P2 | exact P3 | exact P4 | exact P5 | exact P6) (mid_len (Nat.le_of_ble_eq_true rfl)) (mid_store (Z := { (grZ (grF (xs.take i)).out (grF (xs.take i)).last x) with e := x.ln }) (Z' := { (grZ (grF (xs.take i)).out (grF (xs.take i)).last x) with e := x.ln, he := true }) rfl (Nat.le_of_ble_eq_true rfl)) ?_
      refine TL.nil ?_
      refine TA.cont ((.cons (by first | exact P0 | exact P1 | exact P2 | exact P3 | exact P4 | exact P5 | exact P6) .nil)) ?_
      refine TA.takeP (i := 13) (ls := #[true, true, true, true, true, true, true, true, true, true, true, true, true, true, false, false]) rfl rfl rfl rfl rfl (by kernel_rfl) (by kernel_rfl) (by kernel_rfl) (by repeat (first | with_reducible exact PanicOk.body | with_reducible apply PanicOk.next | with_reducible apply PanicOk.block)) (OpV.nil rfl) rfl (by kernel_rfl) ?_
      refine TA.takeP (i := 14) (ls := #[true, true, true, true, true, true, true, true, true, true, true, true, true, true, true, false]) rfl rfl rfl rfl rfl (by kernel_rfl) (by kernel_rfl) (by kernel_rfl) (by repeat (first | with_reducible exact PanicOk.body | with_reducible apply PanicOk.next | with_reducible apply PanicOk.block)) (OpV.fieldAddr rfl fo_41_8) rfl (by kernel_rfl) ?_
      refine TA.one (i := 15) (ls := #[true, true, true, true, true, true, true, true, true, true, true, true, true, true, true, true]) (by kernel_rfl) rfl (by kernel_rfl) (fun w1 => ?_)
      refine TL.store (o := (grO (grF (xs.take i)).out (grF (xs.take i)).last x).length * 9 + 8) (cs' := cl (grO (grF (xs.take i)).out (grF (xs.take i)).last x) ++ (({ (grZ (grF (xs.take i)).out (grF (xs.take i)).last x) with e := x.ln, he := true, st := x.st } : Cm).l ++ post)) rfl rfl szz_3 rfl rfl rfl (by first | exact P0 | exact P1 | exact P2 | exact P3 | exact P4 | exact P5 | exact P6) (mid_len (Nat.le_of_ble_eq_true rfl)) (mid_store (Z := { (grZ (grF (xs.take i)).out (grF (xs.take i)).last x) with e := x.ln, he := true }) (Z' := { (grZ (grF (xs.take i)).out (grF (xs.take i)).last x) with e := x.ln, he := true, st := x.st }) rfl (Nat.le_of_ble_eq_true rfl)) ?_
      refine TL.nil ?_
      refine TA.cont ((.cons (by first | exact P0 | exact P1 | exact P2 | exact P3 | exact P4 | exact P5 | exact P6) .nil)) ?_
      refine TA.done (by kernel_rfl) ?_
      refine TE.out ?_
      refine TE.sub (.cons (t := 4) rfl <| .cons (t := 5) rfl <| .cons (t := 8) rfl <| .cons (t := 13) rfl <| .cons (t := 14) rfl <| .cons (t := 15) rfl <| .nil) ?_
      refine TE.next ?_
      refine T.region ?_
      refine TL.val (OpV.fieldAddr rfl fo_31_1) rfl ?_
      refine TL.val (OpV.load pl_29 rfl (by first | exact Cel.blk P0 rfl | exact Cel.blk P1 rfl | exact Cel.blk P2 rfl | exact Cel.blk P3 rfl | exact Cel.blk P4 rfl | exact Cel.blk P5 rfl | exact Cel.frA (hm1) | exact Cel.frA (hatx _ _ rfl))) rfl ?_
      refine TL.val (OpV.assign rfl) rfl ?_
      refine TL.nil ?_
      refine TE.out ?_
      refine TE.next ?_
      refine T.region ?_
      refine TL.val (OpV.add rfl rfl (by first | exact IntWalk.i64_in _ ⟨by omega, by omega⟩ | rfl)) rfl ?_
      refine TL.val (OpV.move rfl) rfl ?_
      refine TL.nil ?_
      have hZ : setC x (grZ (grF (xs.take i)).out (grF (xs.take i)).last x) = { (grZ (grF (xs.take i)).out (grF (xs.take i)).last x) with e := x.ln, he := true, st := x.st } := by rw [setC, if_neg ht44, if_neg ht54, if_neg ht64, if_pos ht74]
      have hgo : (grF (xs.take (i + 1))).out = (grO (grF (xs.take i)).out (grF (xs.take i)).last x) ++ [{ (grZ (grF (xs.take i)).out (grF (xs.take i)).last x) with e := x.ln, he := true, st := x.st }] := by rw [hgs, ← hZ]; rfl
      have hgi : (grF (xs.take (i + 1))).li = (grL (grF (xs.take i)).out (grF (xs.take i)).last x (grF (xs.take i)).li) := by rw [hgs]; rfl
      have hgk : (grF (xs.take (i + 1))).last = x.kd := by rw [hgs]; rfl
      have hgol : (grF (xs.take (i + 1))).out.length = (grO (grF (xs.take i)).out (grF (xs.take i)).last x).length + 1 := by rw [hgo]; simp
      exact TE.meet (i + 1, some ⟨bq, 0, none⟩, c4b, A5b, c5b) ⟨⟨by omega, fun h9 => (by cases h9), hq4⟩, by simp only; omega⟩ (.cons (t := 4) (by simp only [hgol]; rw [← p1]; rfl) <| .cons (t := 5) (by simp only [hgi]; rfl) <| .cons (t := 6) (by simp only [hgk]; rfl) <| .cons (t := 13) (by first | rfl | (simp [lk]; done)) <| .cons (t := 14) (by first | rfl | (simp [lk]; done)) <| .cons (t := 15) (by first | rfl | (simp [lk]; done)) <| .nil) ((by simp only [hgol, hgi]; rw [hgo]; exact Kle.trans (Kle.pick (e := .blk bq (cl (grO (grF (xs.take i)).out (grF (xs.take i)).last x) ++ (({ (grZ (grF (xs.take i)).out (grF (xs.take i)).last x) with e := x.ln, he := true, st := x.st } : Cm).l ++ post)) 41) (by first | exact P0 | exact P1 | exact P2 | exact P3 | exact P4 | exact P5 | exact P6)) (Kle.trans (Kle.midRow p2 p3 p4) (Perm.kle (.cons (by first | exact P0 | exact P1 | exact P2 | exact P3 | exact P4 | exact P5 | exact P6) (.cons (by first | exact P0 | exact P1 | exact P2 | exact P3 | exact P4 | exact P5 | exact P6) (.cons (by first | exact P0 | exact P1 | exact P2 | exact P3 | exact P4 | exact P5 | exact P6) .nil)))))))
     ·
      intro ht74
      try simp only [decide_eq_true_eq, decide_eq_false_iff_not, beq_iff_eq, beq_eq_false_iff_ne, bne_iff_ne, bne_eq_false_iff_eq, Bool.not_eq_true', Bool.not_eq_false', ne_eq] at ht74
      refine T.skip ?_
      refine TE.out ?_
      refine TE.next ?_
      refine T.region ?_
      refine TL.val (OpV.fieldAddr rfl fo_31_1) rfl ?_
      refine TL.val (OpV.load pl_29 rfl (by first | exact Cel.blk P0 rfl | exact Cel.blk P1 rfl | exact Cel.blk P2 rfl | exact Cel.blk P3 rfl | exact Cel.blk P4 rfl | exact Cel.blk P5 rfl | exact Cel.frA (hm1) | exact Cel.frA (hatx _ _ rfl))) rfl ?_
      refine TL.val (OpV.assign rfl) rfl ?_
      refine TL.nil ?_
      refine TE.out ?_
      refine TE.next ?_
      refine T.region ?_
      refine TL.val (OpV.add rfl rfl (by first | exact IntWalk.i64_in _ ⟨by omega, by omega⟩ | rfl)) rfl ?_
      refine TL.val (OpV.move rfl) rfl ?_
      refine TL.nil ?_
      have hZ : setC x (grZ (grF (xs.take i)).out (grF (xs.take i)).last x) = (grZ (grF (xs.take i)).out (grF (xs.take i)).last x) := by rw [setC, if_neg ht44, if_neg ht54, if_neg ht64, if_neg ht74]
      have hgo : (grF (xs.take (i + 1))).out = (grO (grF (xs.take i)).out (grF (xs.take i)).last x) ++ [(grZ (grF (xs.take i)).out (grF (xs.take i)).last x)] := by rw [hgs, ← hZ]; rfl
      have hgi : (grF (xs.take (i + 1))).li = (grL (grF (xs.take i)).out (grF (xs.take i)).last x (grF (xs.take i)).li) := by rw [hgs]; rfl
      have hgk : (grF (xs.take (i + 1))).last = x.kd := by rw [hgs]; rfl
      have hgol : (grF (xs.take (i + 1))).out.length = (grO (grF (xs.take i)).out (grF (xs.take i)).last x).length + 1 := by rw [hgo]; simp
      exact TE.meet (i + 1, some ⟨bq, 0, none⟩, c4b, A5b, c5b) ⟨⟨by omega, fun h9 => (by cases h9), hq4⟩, by simp only; omega⟩ (.cons (t := 4) (by simp only [hgol]; rw [← p1]; rfl) <| .cons (t := 5) (by simp only [hgi]; rfl) <| .cons (t := 6) (by simp only [hgk]; rfl) <| .cons (t := 13) (by first | rfl | (simp [lk]; done)) <| .cons (t := 14) (by first | rfl | (simp [lk]; done)) <| .cons (t := 15) (by first | rfl | (simp [lk]; done)) <| .nil) ((by simp only [hgol, hgi]; rw [hgo]; exact Kle.trans (Kle.pick (e := .blk bq (cl (grO (grF (xs.take i)).out (grF (xs.take i)).last x) ++ (((grZ (grF (xs.take i)).out (grF (xs.take i)).last x) : Cm).l ++ post)) 41) (by first | exact P0 | exact P1 | exact P2 | exact P3 | exact P4 | exact P5 | exact P6)) (Kle.trans (Kle.midRow p2 p3 p4) (Perm.kle (.cons (by first | exact P0 | exact P1 | exact P2 | exact P3 | exact P4 | exact P5 | exact P6) (.cons (by first | exact P0 | exact P1 | exact P2 | exact P3 | exact P4 | exact P5 | exact P6) (.cons (by first | exact P0 | exact P1 | exact P2 | exact P3 | exact P4 | exact P5 | exact P6) .nil)))))))
 ·
  intro ht16
  try simp only [decide_eq_true_eq, decide_eq_false_iff_not, beq_iff_eq, beq_eq_false_iff_ne, bne_iff_ne, bne_eq_false_iff_eq, Bool.not_eq_true', Bool.not_eq_false', ne_eq] at ht16
  have hX : xs.take i = xs := List.take_of_length_le (by omega)
  refine T.exit ?_
  refine TE.pass_exit ?_
  refine TE.pass_exit ?_
  refine TE.here ?_
  refine TE.next ?_
  refine T.seq ?_
  refine T.region ?_
  refine TL.val (OpV.move rfl) rfl ?_
  refine TL.val (OpV.move rfl) rfl ?_
  refine TL.val (OpV.assign rfl) rfl ?_
  refine TL.val (OpV.assign rfl) rfl ?_
  refine TL.nil ?_
  refine TE.sub (.cons (t := 2) rfl <| .cons (t := 3) rfl <| .nil) ?_
  refine TE.next ?_
  refine T.ret ?_
  refine TE.retN rfl (.cons (ResV.tmp rfl) <| .cons (ResV.tmp rfl) <| .nil) ?_
  exact fun w1 k1 => ⟨(A4, c4, A5, c5), by rw [cmdsV, linesV, hX], ⟨hq1, hq2⟩, by rw [cmdsV, linesV]; simp only [hX] at k1; exact Perm.kle (.cons (by first | exact P0 | exact P1 | exact P2 | exact P3 | exact P4 | exact P5 | exact P6) (.cons (by first | exact P0 | exact P1 | exact P2 | exact P3 | exact P4 | exact P5 | exact P6) .nil)) w1 k1⟩
set_option maxRecDepth 100000 in
set_option maxHeartbeats 400000 in
theorem commands_c {σ : Nat → Option Obj} {bm : Nat} {xs : List Mk} (w : World) (hm : MoR σ bm xs) (hs : ∀ b o, σ b = some o → w.heap[b]? = some o) (hn : xs.length ≤ 1000) : Calls Try.prog 11 #[.pointer (some ⟨bm, 0, none⟩)] w (fun e w' => ∃ i : Option Addr × Nat, e = .returned (.slice i.1 (cmdsV xs).length i.2) ∧ (i.1 = none → i.2 = 0) ∧ KOk w [.row 41 9 i.1 (cmdsV xs).length i.2 (cl (cmdsV xs))] w') := by
 refine calls_T (vs := [.pointer (some ⟨bm, 0, none⟩)]) (L0 := [(0, .pointer (some ⟨bm, 0, none⟩))]) Try.func11 rfl rfl rfl rfl (KOk.fr1 hs) ?_
 refine T.seq ?_
 refine T.region ?_
 refine TL.val (OpV.assign rfl) rfl ?_
 refine TL.nil ?_
 refine TE.next ?_
 refine T.seq ?_
 refine T.seq ?_
 refine T.region ?_
 refine TL.val (OpV.move rfl) rfl ?_
 refine TL.val (OpV.peql Try.underlying23 rfl rfl) rfl ?_
 refine TL.said (t := 6) rfl (show _ = Value.bool false from congrArg Value.bool (rfl)) ?_
 refine TL.nil ?_
 refine TE.next ?_
 refine T.no rfl ?_
 refine T.skip ?_
 refine TE.next ?_
 refine T.seq ?_
 refine T.region ?_
 refine TL.val (OpV.move rfl) rfl ?_
 refine TL.callx (g := 25) rfl go_25 rfl (fun wz k1 => add_x k1 (cmds_c wz hm (k1.get (e := .fr σ) (by first | exact P0 | exact P1 | exact P2 | exact P3 | exact P4 | exact P5)) hn)) rfl ?_
 rintro ⟨A4, c4, A5, c5⟩ ⟨h4, h5⟩
 refine TL.val (OpV.move rfl) rfl ?_
 refine TL.val (OpV.extract rfl rfl) rfl ?_
 refine TL.val (OpV.extract rfl rfl) rfl ?_
 refine TL.val (OpV.assign rfl) rfl ?_
 refine TL.val (OpV.assign rfl) rfl ?_
 refine TL.nil ?_
 refine TE.sub (.cons (t := 3) rfl <| .nil) ?_
 refine TE.next ?_
 refine T.seq ?_
 refine T.region ?_
 refine TL.val (OpV.move rfl) rfl ?_
 refine TL.val (OpV.assign rfl) rfl ?_
 refine TL.nil ?_
 refine TE.next ?_
 refine T.ret ?_
 refine TE.ret1 rfl (ResV.tmp rfl) ?_
 exact fun w1 k1 => ⟨(A4, c4), rfl, h4, Perm.kle (.cons (by first | exact P0 | exact P1 | exact P2 | exact P3 | exact P4 | exact P5 | exact P6) .nil) w1 k1⟩
set_option maxRecDepth 100000 in
set_option maxHeartbeats 400000 in
theorem commands_nil (w : World) : Calls Try.prog 11 #[.pointer none] w (Ret (.slice none 0 0) w) := by
 refine calls_T (vs := [.pointer none]) (L0 := [(0, .pointer none)]) Try.func11 rfl rfl rfl rfl (KOk.none w) ?_
 refine T.seq ?_
 refine T.region ?_
 refine TL.val (OpV.assign rfl) rfl ?_
 refine TL.nil ?_
 refine TE.next ?_
 refine T.seq ?_
 refine T.seq ?_
 refine T.region ?_
 refine TL.val (OpV.move rfl) rfl ?_
 refine TL.val (OpV.peql Try.underlying23 rfl rfl) rfl ?_
 refine TL.said (t := 6) rfl (show _ = Value.bool true from congrArg Value.bool (rfl)) ?_
 refine TL.nil ?_
 refine TE.next ?_
 refine T.yes rfl ?_
 refine T.seq ?_
 refine T.region ?_
 refine TL.val (OpV.assign rfl) rfl ?_
 refine TL.nil ?_
 refine TE.next ?_
 refine T.ret ?_
 refine TE.pass_ret ?_
 refine TE.ret1 rfl (ResV.tmp rfl) ?_
 exact fun w1 k1 => ⟨rfl, k1.bel⟩
end Go.Proofs.Ytaoepaonjeilgaa
