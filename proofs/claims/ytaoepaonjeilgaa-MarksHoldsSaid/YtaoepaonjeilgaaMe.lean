/-
  The walk of the law's own commands. No condition.
-/
import Derived.Test.YtaoepaonjeilgaaMd
namespace Go.Proofs.Ytaoepaonjeilgaa
open Go.RowKit
set_option linter.unusedSimpArgs false
set_option linter.unusedVariables false
theorem szz_41 : sz Try.prog 41 = some 9 := by kernel_rfl
theorem zo_41 : zOf Try.prog 41 = some [.int .i64 0, .int .i64 0, .int .i64 0, .int .i64 0, .bool false, .bool false, .bool false, .bool false, .int .i64 0] := by kernel_rfl
set_option maxRecDepth 100000 in
set_option maxHeartbeats 1000000 in
theorem grouped_c {σ : Nat → Option Obj} {A : Option Addr} {c : Nat} {xs : List Mk} (w : World) (h : MsR σ A xs.length c xs) (hs : ∀ b o, σ b = some o → w.heap[b]? = some o) (hn : xs.length ≤ 1000) (hk : ∀ x ∈ xs, 1 ≤ x.kd ∧ x.kd ≤ 4) : Calls Try.prog 30 #[.slice A xs.length c] w (fun e w' => ∃ i : Option Addr × Nat, e = .returned (.slice i.1 (cmdsV xs).length i.2) ∧ (i.1 = none → i.2 = 0) ∧ KOk w [.row 41 9 i.1 (cmdsV xs).length i.2 (cl (cmdsV xs))] w') := by
 have hn63 := h.2.1
 have hc63 := h.2.2.1
 refine calls_T (vs := [.slice A xs.length c]) (L0 := [(0, .slice A xs.length c)]) Try.func30 rfl rfl rfl rfl (KOk.fr1 hs) ?_
 refine T.seq ?_
 refine T.region ?_
 refine TL.val (OpV.assign rfl) rfl ?_
 refine TL.nil ?_
 refine TE.next ?_
 refine T.seq ?_
 refine T.region ?_
 refine TL.val (OpV.assign rfl) rfl ?_
 refine TL.nil ?_
 refine TE.next ?_
 refine T.seq ?_
 refine T.seq ?_
 refine T.region ?_
 refine TL.val (OpV.assign rfl) rfl ?_
 refine TL.nil ?_
 refine TE.next ?_
 refine T.block ?_
 refine T.loop (ι := Nat × Option Addr × Nat) (fun ⟨i, A3, c3⟩ => i ≤ xs.length ∧ (A3 = none → c3 = 0)) (fun ⟨i, A3, c3⟩ => (xs.length - i)) (fun ⟨i, A3, c3⟩ => [(0, .slice A xs.length c), (3, .slice A3 (grF (xs.take i)).out.length c3), (4, .int .i64 (i : Int))]) (fun ⟨i, A3, c3⟩ => [.row 41 9 A3 (grF (xs.take i)).out.length c3 (cl (grF (xs.take i)).out), .fr σ]) (0, none, 0) ⟨Nat.zero_le _, fun _ => rfl⟩ (.cons (t := 0) rfl <| .cons (t := 3) rfl <| .cons (t := 4) rfl <| .nil) ((Kle.nilRow 41 9)) ?_
 rintro ⟨i, A3, c3⟩ ⟨hR, hq1⟩
 refine T.seq ?_
 refine T.seq ?_
 refine T.region ?_
 refine TL.val (OpV.move rfl) rfl ?_
 refine TL.val (OpV.move rfl) rfl ?_
 refine TL.val (OpV.len Try.underlying24 rfl) rfl ?_
 refine TL.val (OpV.lss rfl rfl) rfl ?_
 refine TL.nil ?_
 refine TE.next ?_
 refine T.cond rfl ?_ ?_
 ·
  intro ht9
  try simp only [decide_eq_true_eq, decide_eq_false_iff_not, beq_iff_eq, beq_eq_false_iff_ne, bne_iff_ne, bne_eq_false_iff_eq, Bool.not_eq_true', Bool.not_eq_false', ne_eq] at ht9
  have hi : i < xs.length := by omega
  obtain ⟨x, hx⟩ := get_of_lt rfl hi
  obtain ⟨b, o, hA, hat⟩ := h.pos (by omega)
  have hatx := hat i x hx
  have hkx := hk x (List.mem_of_getElem? hx)
  have hgl := gr_len (xs.take i)
  rw [List.length_take] at hgl
  have hgs : grF (xs.take (i + 1)) = grS (grF (xs.take i)) x := by rw [take_snoc hx, grF_snoc]
  have hnb := new_ref hx
  refine T.skip ?_
  refine TE.next ?_
  refine T.seq ?_
  refine T.block ?_
  refine T.seq ?_
  refine T.cutx (ι := Option Addr × Nat) (fun ⟨A3b, c3b⟩ => A3b = none → c3b = 0) (fun ⟨A3b, c3b⟩ => [(0, .slice A xs.length c), (3, .slice A3b ((grO (grF (xs.take i)).out (grF (xs.take i)).last x).length + 1) c3b), (4, .int .i64 (i : Int))]) (fun ⟨A3b, c3b⟩ => [.row 41 9 A3b ((grO (grF (xs.take i)).out (grF (xs.take i)).last x).length + 1) c3b (cl ((grO (grF (xs.take i)).out (grF (xs.take i)).last x) ++ [(grZ (grF (xs.take i)).out (grF (xs.take i)).last x)])), .fr σ]) ?_ ?_
  rotate_left
  ·
   refine T.seq ?_
   refine T.quiet mix (by kernel_rfl) ?_
   refine TQ.val (OpV.move rfl) rfl ?_
   refine TQ.val (OpV.eql rfl rfl) rfl ?_
   refine TQ.val (OpV.move rfl) rfl ?_
   refine TQ.part (t := 14) rfl ?_ ?_
   ·
    intro hg14
    try simp only [decide_eq_true_eq, decide_eq_false_iff_not, beq_iff_eq, beq_eq_false_iff_ne, bne_iff_ne, bne_eq_false_iff_eq, Bool.not_eq_true', Bool.not_eq_false', ne_eq] at hg14
    have hb : (newB (grF (xs.take i)).out (grF (xs.take i)).last x) = true := by rw [hnb, beq_iff_eq.2 hg14]; rfl
    have e1 : (grO (grF (xs.take i)).out (grF (xs.take i)).last x) = (grF (xs.take i)).out := by rw [grO, hb]; rfl
    have e2 : (grZ (grF (xs.take i)).out (grF (xs.take i)).last x) = Cm.zero := by rw [grZ, hb]; rfl
    refine TQ.shut rfl rfl ?_
    refine TQ.shut rfl rfl ?_
    refine TQ.shut rfl rfl ?_
    refine TQ.shut rfl rfl ?_
    refine TQ.shut rfl rfl ?_
    refine TQ.shut rfl rfl ?_
    refine TQ.shut rfl rfl ?_
    refine TQ.shut rfl rfl ?_
    refine TQ.shut rfl rfl ?_
    refine TQ.shut rfl rfl ?_
    refine TQ.shut rfl rfl ?_
    refine TQ.shut rfl rfl ?_
    refine TQ.val ((by first | exact OpV.pick_t rfl rfl | exact OpV.pick_f rfl rfl)) rfl ?_
    refine TQ.nil ?_
    refine TE.sub (.cons (t := 0) rfl <| .cons (t := 3) rfl <| .cons (t := 4) rfl <| .cons (t := 27) rfl <| .nil) ?_
    refine TE.next ?_
    refine T.yes rfl ?_
    refine T.region ?_
    refine TL.val (OpV.move rfl) rfl ?_
    refine TL.val (OpV.build (qs := #[]) (fun _ _ => by simp) (bld_41)) rfl ?_
    refine TL.slit (qs := #[(0, _)]) (fun _ f => by simp only [List.map_toArray, List.map_cons, List.map_nil]; rw [f.ev (x := .tmp 29) rfl]) (sl_34_1_0 Cm.zero) rfl ?_
    intro b30
    obtain ⟨ti31, hi31, hz31, hs31, hb31⟩ := info_parts inf_41
    refine TL.append rfl rfl Try.underlying34 hi31 hz31 hs31 hb31 rfl (by omega) (by first | exact P0 | exact P1 | exact P2 | exact P3 | exact P4 | exact P5) (by first | exact Src.nil | exact Src.blk P0 rfl | exact Src.blk P1 rfl | exact Src.blk P2 rfl | exact Src.blk P3 rfl | exact Src.blk P4 rfl | exact Src.blk P5 rfl | exact Src.row P0 | exact Src.row P1 | exact Src.row P2 | exact Src.row P3 | exact Src.row P4 | exact Src.row P5) (fun h => by cases h) rfl (by omega) (by omega) rfl ?_
    clear hi31 hz31 hs31 hb31 ti31
    intro A31 c31 hn31
    refine TL.val (OpV.assign rfl) rfl ?_
    refine TL.nil ?_
    exact TE.meet ⟨A31, c31⟩ hn31 (.cons (t := 0) rfl <| .cons (t := 3) (by rw [e1]; rfl) <| .cons (t := 4) rfl <| .nil) ((by rw [e1, e2, cl_snoc]; exact Perm.kle (.cons (by first | exact P0 | exact P1 | exact P2 | exact P3 | exact P4 | exact P5 | exact P6) (.cons (by first | exact P0 | exact P1 | exact P2 | exact P3 | exact P4 | exact P5 | exact P6) .nil))))
   ·
    intro hg14
    try simp only [decide_eq_true_eq, decide_eq_false_iff_not, beq_iff_eq, beq_eq_false_iff_ne, bne_iff_ne, bne_eq_false_iff_eq, Bool.not_eq_true', Bool.not_eq_false', ne_eq] at hg14
    obtain ⟨y, hy⟩ := get_of_lt rfl (show i - 1 < xs.length by omega)
    have haty := hat (i - 1) y hy
    rw [hy, beq_eq_false_iff_ne.2 hg14] at hnb
    refine TQ.open rfl rfl ?_
    refine TQ.val (OpV.move rfl) rfl ?_
    refine TQ.open rfl rfl ?_
    refine TQ.val (OpV.move rfl) rfl ?_
    refine TQ.open rfl rfl ?_
    refine TQ.val (OpV.sub rfl rfl (by first | exact IntWalk.i64_in _ ⟨by omega, by omega⟩ | rfl)) rfl ?_
    refine TQ.open rfl rfl ?_
    refine TQ.val (OpV.indexAddr (j := (i - 1)) se_24 rfl hA rfl (by omega) (by omega)) rfl ?_
    refine TQ.open rfl rfl ?_
    refine TQ.val (OpV.fieldAddr rfl fo_31_1) rfl ?_
    refine TQ.open rfl rfl ?_
    refine TQ.val (OpV.load pl_29 rfl (by first | exact Cel.blk P0 rfl | exact Cel.blk P1 rfl | exact Cel.blk P2 rfl | exact Cel.blk P3 rfl | exact Cel.blk P4 rfl | exact Cel.blk P5 rfl | exact Cel.frA (hatx _ _ rfl) | exact Cel.frA (haty _ _ rfl))) rfl ?_
    refine TQ.open rfl rfl ?_
    refine TQ.val (OpV.move rfl) rfl ?_
    refine TQ.open rfl rfl ?_
    refine TQ.val (OpV.move rfl) rfl ?_
    refine TQ.open rfl rfl ?_
    refine TQ.val (OpV.indexAddr (j := i) se_24 rfl hA rfl (by omega) (by omega)) rfl ?_
    refine TQ.open rfl rfl ?_
    refine TQ.val (OpV.fieldAddr rfl fo_31_1) rfl ?_
    refine TQ.open rfl rfl ?_
    refine TQ.val (OpV.load pl_29 rfl (by first | exact Cel.blk P0 rfl | exact Cel.blk P1 rfl | exact Cel.blk P2 rfl | exact Cel.blk P3 rfl | exact Cel.blk P4 rfl | exact Cel.blk P5 rfl | exact Cel.frA (hatx _ _ rfl) | exact Cel.frA (haty _ _ rfl))) rfl ?_
    refine TQ.open rfl rfl ?_
    refine TQ.val (OpV.geq rfl rfl) rfl ?_
    refine TQ.val ((by first | exact OpV.pick_t rfl rfl | exact OpV.pick_f rfl rfl)) rfl ?_
    refine TQ.nil ?_
    refine TE.sub (.cons (t := 0) rfl <| .cons (t := 3) rfl <| .cons (t := 4) rfl <| .cons (t := 27) rfl <| .nil) ?_
    refine TE.next ?_
    refine T.cond rfl ?_ ?_
    ·
     intro ht27
     try simp only [decide_eq_true_eq, decide_eq_false_iff_not, beq_iff_eq, beq_eq_false_iff_ne, bne_iff_ne, bne_eq_false_iff_eq, Bool.not_eq_true', Bool.not_eq_false', ne_eq] at ht27
     have hb : (newB (grF (xs.take i)).out (grF (xs.take i)).last x) = true := by rw [hnb]; exact decide_eq_true ht27
     have e1 : (grO (grF (xs.take i)).out (grF (xs.take i)).last x) = (grF (xs.take i)).out := by rw [grO, hb]; rfl
     have e2 : (grZ (grF (xs.take i)).out (grF (xs.take i)).last x) = Cm.zero := by rw [grZ, hb]; rfl
     refine T.region ?_
     refine TL.val (OpV.move rfl) rfl ?_
     refine TL.val (OpV.build (qs := #[]) (fun _ _ => by simp) (bld_41)) rfl ?_
     refine TL.slit (qs := #[(0, _)]) (fun _ f => by simp only [List.map_toArray, List.map_cons, List.map_nil]; rw [f.ev (x := .tmp 29) rfl]) (sl_34_1_0 Cm.zero) rfl ?_
     intro b30
     obtain ⟨ti31, hi31, hz31, hs31, hb31⟩ := info_parts inf_41
     refine TL.append rfl rfl Try.underlying34 hi31 hz31 hs31 hb31 rfl (by omega) (by first | exact P0 | exact P1 | exact P2 | exact P3 | exact P4 | exact P5) (by first | exact Src.nil | exact Src.blk P0 rfl | exact Src.blk P1 rfl | exact Src.blk P2 rfl | exact Src.blk P3 rfl | exact Src.blk P4 rfl | exact Src.blk P5 rfl | exact Src.row P0 | exact Src.row P1 | exact Src.row P2 | exact Src.row P3 | exact Src.row P4 | exact Src.row P5) (fun h => by cases h) rfl (by omega) (by omega) rfl ?_
     clear hi31 hz31 hs31 hb31 ti31
     intro A31 c31 hn31
     refine TL.val (OpV.assign rfl) rfl ?_
     refine TL.nil ?_
     exact TE.meet ⟨A31, c31⟩ hn31 (.cons (t := 0) rfl <| .cons (t := 3) (by rw [e1]; rfl) <| .cons (t := 4) rfl <| .nil) ((by rw [e1, e2, cl_snoc]; exact Perm.kle (.cons (by first | exact P0 | exact P1 | exact P2 | exact P3 | exact P4 | exact P5 | exact P6) (.cons (by first | exact P0 | exact P1 | exact P2 | exact P3 | exact P4 | exact P5 | exact P6) .nil))))
    ·
     intro ht27
     try simp only [decide_eq_true_eq, decide_eq_false_iff_not, beq_iff_eq, beq_eq_false_iff_ne, bne_iff_ne, bne_eq_false_iff_eq, Bool.not_eq_true', Bool.not_eq_false', ne_eq] at ht27
     have hb : (newB (grF (xs.take i)).out (grF (xs.take i)).last x) = false := by rw [hnb]; exact decide_eq_false ht27
     have h0 : 0 < (grF (xs.take i)).out.length := by by_cases h0 : 0 < (grF (xs.take i)).out.length; exact h0; rw [newB, show ((grF (xs.take i)).out.length : Int) = 0 by omega] at hb; cases hb
     have e1 : (grO (grF (xs.take i)).out (grF (xs.take i)).last x) ++ [(grZ (grF (xs.take i)).out (grF (xs.take i)).last x)] = (grF (xs.take i)).out := by rw [grO, grZ, hb]; exact dropLast_get h0
     have e4 : (grO (grF (xs.take i)).out (grF (xs.take i)).last x).length + 1 = (grF (xs.take i)).out.length := by have h9 := congrArg List.length e1; simpa using h9
     refine T.skip ?_
     exact TE.meet ⟨A3, c3⟩ hq1 (.cons (t := 0) rfl <| .cons (t := 3) (by rw [e4]; rfl) <| .cons (t := 4) rfl <| .nil) ((by rw [e1, e4]; exact Perm.kle (.cons (by first | exact P0 | exact P1 | exact P2 | exact P3 | exact P4 | exact P5 | exact P6) (.cons (by first | exact P0 | exact P1 | exact P2 | exact P3 | exact P4 | exact P5 | exact P6) .nil))))
  rintro ⟨A3b, c3b⟩ hq3
  refine TE.next ?_
  refine T.seq ?_
  refine T.ex (fun wz kz => rowMid (e := 41) (A := A3b) (O := (grO (grF (xs.take i)).out (grF (xs.take i)).last x)) (Z := (grZ (grF (xs.take i)).out (grF (xs.take i)).last x)) (c := c3b) kz (by first | exact P0 | exact P1 | exact P2 | exact P3 | exact P4 | exact P5 | exact P6)) ?_
  rintro ⟨bq, post⟩ ⟨p1, p2, p3, p4⟩
  simp only at p1 p2
  subst p1
  have hOl : (grO (grF (xs.take i)).out (grF (xs.take i)).last x).length ≤ 1000 := by by_cases hb : (newB (grF (xs.take i)).out (grF (xs.take i)).last x) = true; rw [grO, hb, if_pos rfl]; omega; rw [grO, if_neg hb, List.length_dropLast]; omega
  refine T.region ?_
  refine TL.val (OpV.move rfl) rfl ?_
  refine TL.val (OpV.move rfl) rfl ?_
  refine TL.val (OpV.len Try.underlying34 rfl) rfl ?_
  refine TL.val (OpV.sub rfl rfl (by first | exact IntWalk.i64_in _ ⟨by omega, by omega⟩ | rfl)) rfl ?_
  refine TL.val (OpV.indexAddr (j := (grO (grF (xs.take i)).out (grF (xs.take i)).last x).length) se_34 rfl rfl rfl (by omega) (by omega)) rfl ?_
  refine TL.val (OpV.loadA ag_41 rfl (Cels.blkAt (grZ (grF (xs.take i)).out (grF (xs.take i)).last x).l (by first | exact P0 | exact P1 | exact P2 | exact P3 | exact P4 | exact P5 | exact P6) mid_take rfl)) rfl ?_
  refine TL.alloc zo_41 rfl ?_
  intro b5
  first
    | refine TL.storeAll rfl rfl szz_41 rfl rfl rfl (by first | exact P0 | exact P1 | exact P2 | exact P3 | exact P4 | exact P5) (by rfl) ?_
    | refine TL.store rfl rfl szz_41 rfl rfl rfl (by first | exact P0 | exact P1 | exact P2 | exact P3 | exact P4 | exact P5) (by first | exact Nat.le_of_ble_eq_true rfl | (simp; done) | (simp; omega)) (by simp only [Cm.l, putL, List.take_succ_cons, List.take_zero, List.drop_succ_cons, List.drop_zero, List.cons_append, List.nil_append, List.length_cons, List.length_nil, Nat.reduceAdd]; rfl) ?_
  refine TL.nil ?_
  refine TE.next ?_
  refine T.seq ?_
  refine T.cut [(0, .slice A xs.length c), (3, .slice (some ⟨bq, 0, none⟩) ((grO (grF (xs.take i)).out (grF (xs.take i)).last x).length + 1) c3b), (4, .int .i64 (i : Int)), (5, .pointer (some ⟨b5, 0, none⟩))] ([.blk b5 (setC x (grZ (grF (xs.take i)).out (grF (xs.take i)).last x)).l 41, .blk bq (cl (grO (grF (xs.take i)).out (grF (xs.take i)).last x) ++ ((grZ (grF (xs.take i)).out (grF (xs.take i)).last x).l ++ post)) 41, .fr σ]) ?_ ?_
  ·
   refine T.seq ?_
   refine T.region ?_
   refine TL.val (OpV.move rfl) rfl ?_
   refine TL.val (OpV.move rfl) rfl ?_
   refine TL.val (OpV.indexAddr (j := i) se_24 rfl hA rfl (by omega) (by omega)) rfl ?_
   refine TL.val (OpV.fieldAddr rfl fo_31_1) rfl ?_
   refine TL.val (OpV.load pl_29 rfl (by first | exact Cel.blk P0 rfl | exact Cel.blk P1 rfl | exact Cel.blk P2 rfl | exact Cel.blk P3 rfl | exact Cel.blk P4 rfl | exact Cel.blk P5 rfl | exact Cel.frA (hatx _ _ rfl) | exact Cel.frA (haty _ _ rfl))) rfl ?_
   refine TL.nil ?_
   refine TE.sub (.cons (t := 0) rfl <| .cons (t := 3) rfl <| .cons (t := 4) rfl <| .cons (t := 5) rfl <| .cons (t := 42) rfl <| .nil) ?_
   refine TE.next ?_
   refine T.block ?_
   refine T.seq ?_
   refine T.region ?_
   refine TL.val (OpV.eql rfl rfl) rfl ?_
   refine TL.val (OpV.assign rfl) rfl ?_
   refine TL.nil ?_
   refine TE.next ?_
   refine T.cond rfl ?_ ?_
   ·
    intro ht56
    try simp only [decide_eq_true_eq, decide_eq_false_iff_not, beq_iff_eq, beq_eq_false_iff_ne, bne_iff_ne, bne_eq_false_iff_eq, Bool.not_eq_true', Bool.not_eq_false', ne_eq] at ht56
    refine T.region ?_
    refine TL.val (OpV.move rfl) rfl ?_
    refine TL.val (OpV.move rfl) rfl ?_
    refine TL.val (OpV.indexAddr (j := i) se_24 rfl hA rfl (by omega) (by omega)) rfl ?_
    refine TL.val (OpV.fieldAddr rfl fo_31_0) rfl ?_
    refine TL.val (OpV.load pl_3 rfl (by first | exact Cel.blk P0 rfl | exact Cel.blk P1 rfl | exact Cel.blk P2 rfl | exact Cel.blk P3 rfl | exact Cel.blk P4 rfl | exact Cel.blk P5 rfl | exact Cel.frA (hatx _ _ rfl) | exact Cel.frA (haty _ _ rfl))) rfl ?_
    refine TL.val (OpV.fieldAddr rfl fo_41_0) rfl ?_
    refine TL.store rfl rfl szz_3 rfl rfl rfl (by first | exact P0 | exact P1 | exact P2 | exact P3 | exact P4 | exact P5) (by first | exact Nat.le_of_ble_eq_true rfl | (simp; done) | (simp; omega)) (by simp only [Cm.l, putL, List.take_succ_cons, List.take_zero, List.drop_succ_cons, List.drop_zero, List.cons_append, List.nil_append, List.length_cons, List.length_nil, Nat.reduceAdd]; rfl) ?_
    refine TL.val (OpV.fieldAddr rfl fo_41_4) rfl ?_
    refine TL.store rfl rfl szz_4 rfl rfl rfl (by first | exact P0 | exact P1 | exact P2 | exact P3 | exact P4 | exact P5) (by first | exact Nat.le_of_ble_eq_true rfl | (simp; done) | (simp; omega)) (by simp only [Cm.l, putL, List.take_succ_cons, List.take_zero, List.drop_succ_cons, List.drop_zero, List.cons_append, List.nil_append, List.length_cons, List.length_nil, Nat.reduceAdd]; rfl) ?_
    refine TL.nil ?_
    refine TE.out ?_
    exact TE.met (.cons (t := 0) rfl <| .cons (t := 3) rfl <| .cons (t := 4) rfl <| .cons (t := 5) rfl <| .nil) ((by rw [show (setC x (grZ (grF (xs.take i)).out (grF (xs.take i)).last x)) = { (grZ (grF (xs.take i)).out (grF (xs.take i)).last x) with p := x.ln, hp := true } by rw [setC, if_pos ht56]]; exact Perm.kle (.cons (by first | exact P0 | exact P1 | exact P2 | exact P3 | exact P4 | exact P5 | exact P6) (.cons (by first | exact P0 | exact P1 | exact P2 | exact P3 | exact P4 | exact P5 | exact P6) (.cons (by first | exact P0 | exact P1 | exact P2 | exact P3 | exact P4 | exact P5 | exact P6) .nil)))))
   ·
    intro ht56
    try simp only [decide_eq_true_eq, decide_eq_false_iff_not, beq_iff_eq, beq_eq_false_iff_ne, bne_iff_ne, bne_eq_false_iff_eq, Bool.not_eq_true', Bool.not_eq_false', ne_eq] at ht56
    refine T.seq ?_
    refine T.region ?_
    refine TL.val (OpV.eql rfl rfl) rfl ?_
    refine TL.val (OpV.assign rfl) rfl ?_
    refine TL.nil ?_
    refine TE.next ?_
    refine T.cond rfl ?_ ?_
    ·
     intro ht65
     try simp only [decide_eq_true_eq, decide_eq_false_iff_not, beq_iff_eq, beq_eq_false_iff_ne, bne_iff_ne, bne_eq_false_iff_eq, Bool.not_eq_true', Bool.not_eq_false', ne_eq] at ht65
     refine T.region ?_
     refine TL.val (OpV.move rfl) rfl ?_
     refine TL.val (OpV.move rfl) rfl ?_
     refine TL.val (OpV.indexAddr (j := i) se_24 rfl hA rfl (by omega) (by omega)) rfl ?_
     refine TL.val (OpV.fieldAddr rfl fo_31_0) rfl ?_
     refine TL.val (OpV.load pl_3 rfl (by first | exact Cel.blk P0 rfl | exact Cel.blk P1 rfl | exact Cel.blk P2 rfl | exact Cel.blk P3 rfl | exact Cel.blk P4 rfl | exact Cel.blk P5 rfl | exact Cel.frA (hatx _ _ rfl) | exact Cel.frA (haty _ _ rfl))) rfl ?_
     refine TL.val (OpV.fieldAddr rfl fo_41_1) rfl ?_
     refine TL.store rfl rfl szz_3 rfl rfl rfl (by first | exact P0 | exact P1 | exact P2 | exact P3 | exact P4 | exact P5) (by first | exact Nat.le_of_ble_eq_true rfl | (simp; done) | (simp; omega)) (by simp only [Cm.l, putL, List.take_succ_cons, List.take_zero, List.drop_succ_cons, List.drop_zero, List.cons_append, List.nil_append, List.length_cons, List.length_nil, Nat.reduceAdd]; rfl) ?_
     refine TL.val (OpV.fieldAddr rfl fo_41_5) rfl ?_
     refine TL.store rfl rfl szz_4 rfl rfl rfl (by first | exact P0 | exact P1 | exact P2 | exact P3 | exact P4 | exact P5) (by first | exact Nat.le_of_ble_eq_true rfl | (simp; done) | (simp; omega)) (by simp only [Cm.l, putL, List.take_succ_cons, List.take_zero, List.drop_succ_cons, List.drop_zero, List.cons_append, List.nil_append, List.length_cons, List.length_nil, Nat.reduceAdd]; rfl) ?_
     refine TL.nil ?_
     refine TE.out ?_
     exact TE.met (.cons (t := 0) rfl <| .cons (t := 3) rfl <| .cons (t := 4) rfl <| .cons (t := 5) rfl <| .nil) ((by rw [show (setC x (grZ (grF (xs.take i)).out (grF (xs.take i)).last x)) = { (grZ (grF (xs.take i)).out (grF (xs.take i)).last x) with c := x.ln, hc := true } by rw [setC, if_neg ht56, if_pos ht65]]; exact Perm.kle (.cons (by first | exact P0 | exact P1 | exact P2 | exact P3 | exact P4 | exact P5 | exact P6) (.cons (by first | exact P0 | exact P1 | exact P2 | exact P3 | exact P4 | exact P5 | exact P6) (.cons (by first | exact P0 | exact P1 | exact P2 | exact P3 | exact P4 | exact P5 | exact P6) .nil)))))
    ·
     intro ht65
     try simp only [decide_eq_true_eq, decide_eq_false_iff_not, beq_iff_eq, beq_eq_false_iff_ne, bne_iff_ne, bne_eq_false_iff_eq, Bool.not_eq_true', Bool.not_eq_false', ne_eq] at ht65
     refine T.seq ?_
     refine T.region ?_
     refine TL.val (OpV.eql rfl rfl) rfl ?_
     refine TL.val (OpV.assign rfl) rfl ?_
     refine TL.nil ?_
     refine TE.next ?_
     refine T.cond rfl ?_ ?_
     ·
      intro ht74
      try simp only [decide_eq_true_eq, decide_eq_false_iff_not, beq_iff_eq, beq_eq_false_iff_ne, bne_iff_ne, bne_eq_false_iff_eq, Bool.not_eq_true', Bool.not_eq_false', ne_eq] at ht74
      refine T.region ?_
      refine TL.val (OpV.move rfl) rfl ?_
      refine TL.val (OpV.move rfl) rfl ?_
      refine TL.val (OpV.indexAddr (j := i) se_24 rfl hA rfl (by omega) (by omega)) rfl ?_
      refine TL.val (OpV.fieldAddr rfl fo_31_0) rfl ?_
      refine TL.val (OpV.load pl_3 rfl (by first | exact Cel.blk P0 rfl | exact Cel.blk P1 rfl | exact Cel.blk P2 rfl | exact Cel.blk P3 rfl | exact Cel.blk P4 rfl | exact Cel.blk P5 rfl | exact Cel.frA (hatx _ _ rfl) | exact Cel.frA (haty _ _ rfl))) rfl ?_
      refine TL.val (OpV.fieldAddr rfl fo_41_2) rfl ?_
      refine TL.store rfl rfl szz_3 rfl rfl rfl (by first | exact P0 | exact P1 | exact P2 | exact P3 | exact P4 | exact P5) (by first | exact Nat.le_of_ble_eq_true rfl | (simp; done) | (simp; omega)) (by simp only [Cm.l, putL, List.take_succ_cons, List.take_zero, List.drop_succ_cons, List.drop_zero, List.cons_append, List.nil_append, List.length_cons, List.length_nil, Nat.reduceAdd]; rfl) ?_
      refine TL.val (OpV.fieldAddr rfl fo_41_6) rfl ?_
      refine TL.store rfl rfl szz_4 rfl rfl rfl (by first | exact P0 | exact P1 | exact P2 | exact P3 | exact P4 | exact P5) (by first | exact Nat.le_of_ble_eq_true rfl | (simp; done) | (simp; omega)) (by simp only [Cm.l, putL, List.take_succ_cons, List.take_zero, List.drop_succ_cons, List.drop_zero, List.cons_append, List.nil_append, List.length_cons, List.length_nil, Nat.reduceAdd]; rfl) ?_
      refine TL.nil ?_
      refine TE.out ?_
      exact TE.met (.cons (t := 0) rfl <| .cons (t := 3) rfl <| .cons (t := 4) rfl <| .cons (t := 5) rfl <| .nil) ((by rw [show (setC x (grZ (grF (xs.take i)).out (grF (xs.take i)).last x)) = { (grZ (grF (xs.take i)).out (grF (xs.take i)).last x) with o := x.ln, ho := true } by rw [setC, if_neg ht56, if_neg ht65, if_pos ht74]]; exact Perm.kle (.cons (by first | exact P0 | exact P1 | exact P2 | exact P3 | exact P4 | exact P5 | exact P6) (.cons (by first | exact P0 | exact P1 | exact P2 | exact P3 | exact P4 | exact P5 | exact P6) (.cons (by first | exact P0 | exact P1 | exact P2 | exact P3 | exact P4 | exact P5 | exact P6) .nil)))))
     ·
      intro ht74
      try simp only [decide_eq_true_eq, decide_eq_false_iff_not, beq_iff_eq, beq_eq_false_iff_ne, bne_iff_ne, bne_eq_false_iff_eq, Bool.not_eq_true', Bool.not_eq_false', ne_eq] at ht74
      refine T.any ([.fr σ]) [] mix rfl rfl ?_
      refine TA.takeP (i := 0) (ls := #[true, false, false, false, false, false, false, false, false, false, false, false, false, false, false, false]) rfl rfl rfl rfl rfl (by kernel_rfl) (by kernel_rfl) (by kernel_rfl) (by repeat (first | with_reducible exact PanicOk.body | with_reducible apply PanicOk.next | with_reducible apply PanicOk.block)) (OpV.move rfl) rfl (by kernel_rfl) ?_
      refine TA.takeP (i := 1) (ls := #[true, true, false, false, false, false, false, false, false, false, false, false, false, false, false, false]) rfl rfl rfl rfl rfl (by kernel_rfl) (by kernel_rfl) (by kernel_rfl) (by repeat (first | with_reducible exact PanicOk.body | with_reducible apply PanicOk.next | with_reducible apply PanicOk.block)) (OpV.move rfl) rfl (by kernel_rfl) ?_
      refine TA.takeP (i := 2) (ls := #[true, true, true, false, false, false, false, false, false, false, false, false, false, false, false, false]) rfl rfl rfl rfl rfl (by kernel_rfl) (by kernel_rfl) (by kernel_rfl) (by repeat (first | with_reducible exact PanicOk.body | with_reducible apply PanicOk.next | with_reducible apply PanicOk.block)) (OpV.indexAddr (j := i) se_24 rfl hA rfl (by omega) (by omega)) rfl (by kernel_rfl) ?_
      refine TA.takeP (i := 3) (ls := #[true, true, true, true, false, false, false, false, false, false, false, false, false, false, false, false]) rfl rfl rfl rfl rfl (by kernel_rfl) (by kernel_rfl) (by kernel_rfl) (by repeat (first | with_reducible exact PanicOk.body | with_reducible apply PanicOk.next | with_reducible apply PanicOk.block)) (OpV.fieldAddr rfl fo_31_0) rfl (by kernel_rfl) ?_
      refine TA.take (i := 4) (ls := #[true, true, true, true, true, false, false, false, false, false, false, false, false, false, false, false]) rfl rfl rfl rfl rfl (by kernel_rfl) (by kernel_rfl) (by kernel_rfl) (by kernel_rfl) (by repeat (first | with_reducible exact PanicOk.body | with_reducible apply PanicOk.next | with_reducible apply PanicOk.block)) ((.cons (by first | exact P0 | exact P1 | exact P2 | exact P3 | exact P4 | exact P5 | exact P6) .nil)) (OpV.load pl_3 rfl (by first | exact Cel.blk P0 rfl | exact Cel.blk P1 rfl | exact Cel.blk P2 rfl | exact Cel.blk P3 rfl | exact Cel.blk P4 rfl | exact Cel.blk P5 rfl | exact Cel.frA (hatx _ _ rfl) | exact Cel.frA (haty _ _ rfl))) rfl (by kernel_rfl) ?_
      refine TA.takeP (i := 5) (ls := #[true, true, true, true, true, true, false, false, false, false, false, false, false, false, false, false]) rfl rfl rfl rfl rfl (by kernel_rfl) (by kernel_rfl) (by kernel_rfl) (by repeat (first | with_reducible exact PanicOk.body | with_reducible apply PanicOk.next | with_reducible apply PanicOk.block)) (OpV.move rfl) rfl (by kernel_rfl) ?_
      refine TA.takeP (i := 6) (ls := #[true, true, true, true, true, true, true, false, false, false, false, false, false, false, false, false]) rfl rfl rfl rfl rfl (by kernel_rfl) (by kernel_rfl) (by kernel_rfl) (by repeat (first | with_reducible exact PanicOk.body | with_reducible apply PanicOk.next | with_reducible apply PanicOk.block)) (OpV.move rfl) rfl (by kernel_rfl) ?_
      refine TA.takeP (i := 7) (ls := #[true, true, true, true, true, true, true, true, false, false, false, false, false, false, false, false]) rfl rfl rfl rfl rfl (by kernel_rfl) (by kernel_rfl) (by kernel_rfl) (by repeat (first | with_reducible exact PanicOk.body | with_reducible apply PanicOk.next | with_reducible apply PanicOk.block)) (OpV.indexAddr (j := i) se_24 rfl hA rfl (by omega) (by omega)) rfl (by kernel_rfl) ?_
      refine TA.takeP (i := 8) (ls := #[true, true, true, true, true, true, true, true, true, false, false, false, false, false, false, false]) rfl rfl rfl rfl rfl (by kernel_rfl) (by kernel_rfl) (by kernel_rfl) (by repeat (first | with_reducible exact PanicOk.body | with_reducible apply PanicOk.next | with_reducible apply PanicOk.block)) (OpV.fieldAddr rfl fo_31_2) rfl (by kernel_rfl) ?_
      refine TA.take (i := 9) (ls := #[true, true, true, true, true, true, true, true, true, true, false, false, false, false, false, false]) rfl rfl rfl rfl rfl (by kernel_rfl) (by kernel_rfl) (by kernel_rfl) (by kernel_rfl) (by repeat (first | with_reducible exact PanicOk.body | with_reducible apply PanicOk.next | with_reducible apply PanicOk.block)) ((.cons (by first | exact P0 | exact P1 | exact P2 | exact P3 | exact P4 | exact P5 | exact P6) .nil)) (OpV.load pl_3 rfl (by first | exact Cel.blk P0 rfl | exact Cel.blk P1 rfl | exact Cel.blk P2 rfl | exact Cel.blk P3 rfl | exact Cel.blk P4 rfl | exact Cel.blk P5 rfl | exact Cel.frA (hatx _ _ rfl) | exact Cel.frA (haty _ _ rfl))) rfl (by kernel_rfl) ?_
      refine TA.takeP (i := 10) (ls := #[true, true, true, true, true, true, true, true, true, true, true, false, false, false, false, false]) rfl rfl rfl rfl rfl (by kernel_rfl) (by kernel_rfl) (by kernel_rfl) (by repeat (first | with_reducible exact PanicOk.body | with_reducible apply PanicOk.next | with_reducible apply PanicOk.block)) (OpV.fieldAddr rfl fo_41_3) rfl (by kernel_rfl) ?_
      refine TA.one (i := 11) (ls := #[true, true, true, true, true, true, true, true, true, true, true, true, false, false, false, false]) (by kernel_rfl) rfl (by kernel_rfl) (fun w1 => ?_)
      refine TL.store rfl rfl szz_3 rfl rfl rfl (by first | exact P0 | exact P1 | exact P2 | exact P3 | exact P4 | exact P5) (by first | exact Nat.le_of_ble_eq_true rfl | (simp; done) | (simp; omega)) (by simp only [Cm.l, putL, List.take_succ_cons, List.take_zero, List.drop_succ_cons, List.drop_zero, List.cons_append, List.nil_append, List.length_cons, List.length_nil, Nat.reduceAdd]; rfl) ?_
      refine TL.nil ?_
      refine TA.cont ((.cons (by first | exact P0 | exact P1 | exact P2 | exact P3 | exact P4 | exact P5 | exact P6) .nil)) ?_
      refine TA.takeP (i := 12) (ls := #[true, true, true, true, true, true, true, true, true, true, true, true, true, false, false, false]) rfl rfl rfl rfl rfl (by kernel_rfl) (by kernel_rfl) (by kernel_rfl) (by repeat (first | with_reducible exact PanicOk.body | with_reducible apply PanicOk.next | with_reducible apply PanicOk.block)) (OpV.fieldAddr rfl fo_41_7) rfl (by kernel_rfl) ?_
      refine TA.one (i := 13) (ls := #[true, true, true, true, true, true, true, true, true, true, true, true, true, true, false, false]) (by kernel_rfl) rfl (by kernel_rfl) (fun w1 => ?_)
      refine TL.store rfl rfl szz_4 rfl rfl rfl (by first | exact P0 | exact P1 | exact P2 | exact P3 | exact P4 | exact P5) (by first | exact Nat.le_of_ble_eq_true rfl | (simp; done) | (simp; omega)) (by simp only [Cm.l, putL, List.take_succ_cons, List.take_zero, List.drop_succ_cons, List.drop_zero, List.cons_append, List.nil_append, List.length_cons, List.length_nil, Nat.reduceAdd]; rfl) ?_
      refine TL.nil ?_
      refine TA.cont ((.cons (by first | exact P0 | exact P1 | exact P2 | exact P3 | exact P4 | exact P5 | exact P6) .nil)) ?_
      refine TA.takeP (i := 14) (ls := #[true, true, true, true, true, true, true, true, true, true, true, true, true, true, true, false]) rfl rfl rfl rfl rfl (by kernel_rfl) (by kernel_rfl) (by kernel_rfl) (by repeat (first | with_reducible exact PanicOk.body | with_reducible apply PanicOk.next | with_reducible apply PanicOk.block)) (OpV.fieldAddr rfl fo_41_8) rfl (by kernel_rfl) ?_
      refine TA.one (i := 15) (ls := #[true, true, true, true, true, true, true, true, true, true, true, true, true, true, true, true]) (by kernel_rfl) rfl (by kernel_rfl) (fun w1 => ?_)
      refine TL.store rfl rfl szz_3 rfl rfl rfl (by first | exact P0 | exact P1 | exact P2 | exact P3 | exact P4 | exact P5) (by first | exact Nat.le_of_ble_eq_true rfl | (simp; done) | (simp; omega)) (by simp only [Cm.l, putL, List.take_succ_cons, List.take_zero, List.drop_succ_cons, List.drop_zero, List.cons_append, List.nil_append, List.length_cons, List.length_nil, Nat.reduceAdd]; rfl) ?_
      refine TL.nil ?_
      refine TA.cont ((.cons (by first | exact P0 | exact P1 | exact P2 | exact P3 | exact P4 | exact P5 | exact P6) .nil)) ?_
      refine TA.done (by kernel_rfl) ?_
      refine TE.out ?_
      exact TE.met (.cons (t := 0) rfl <| .cons (t := 3) rfl <| .cons (t := 4) rfl <| .cons (t := 5) rfl <| .nil) ((by rw [show (setC x (grZ (grF (xs.take i)).out (grF (xs.take i)).last x)) = { (grZ (grF (xs.take i)).out (grF (xs.take i)).last x) with e := x.ln, he := true, st := x.st } by rw [setC, if_neg ht56, if_neg ht65, if_neg ht74, if_pos (by omega)]]; exact Perm.kle (.cons (by first | exact P0 | exact P1 | exact P2 | exact P3 | exact P4 | exact P5 | exact P6) (.cons (by first | exact P0 | exact P1 | exact P2 | exact P3 | exact P4 | exact P5 | exact P6) (.cons (by first | exact P0 | exact P1 | exact P2 | exact P3 | exact P4 | exact P5 | exact P6) .nil)))))
  refine TE.next ?_
  refine T.region ?_
  refine TL.val (OpV.move rfl) rfl ?_
  refine TL.val (OpV.move rfl) rfl ?_
  refine TL.val (OpV.len Try.underlying34 rfl) rfl ?_
  refine TL.val (OpV.sub rfl rfl (by first | exact IntWalk.i64_in _ ⟨by omega, by omega⟩ | rfl)) rfl ?_
  refine TL.val (OpV.loadA ag_41 rfl (Cels.blkAt (setC x (grZ (grF (xs.take i)).out (grF (xs.take i)).last x)).l (by first | exact P0 | exact P1 | exact P2 | exact P3 | exact P4 | exact P5 | exact P6) rfl rfl)) rfl ?_
  refine TL.val (OpV.indexAddr (j := (grO (grF (xs.take i)).out (grF (xs.take i)).last x).length) se_34 rfl rfl rfl (by omega) (by omega)) rfl ?_
  refine TL.store (o := (grO (grF (xs.take i)).out (grF (xs.take i)).last x).length * 9 + 0) (cs' := cl (grO (grF (xs.take i)).out (grF (xs.take i)).last x) ++ ((setC x (grZ (grF (xs.take i)).out (grF (xs.take i)).last x)).l ++ post)) (by simp only [Nat.zero_add, Nat.add_zero]; rfl) rfl szz_41 rfl rfl rfl (by first | exact P0 | exact P1 | exact P2 | exact P3 | exact P4 | exact P5 | exact P6) (mid_len (Nat.le_of_ble_eq_true rfl)) (mid_store (Z := (grZ (grF (xs.take i)).out (grF (xs.take i)).last x)) (Z' := (setC x (grZ (grF (xs.take i)).out (grF (xs.take i)).last x))) rfl (Nat.le_of_ble_eq_true rfl)) ?_
  refine TL.nil ?_
  refine TE.out ?_
  refine TE.sub (.cons (t := 0) rfl <| .cons (t := 3) rfl <| .cons (t := 4) rfl <| .nil) ?_
  refine TE.next ?_
  refine T.region ?_
  refine TL.val (OpV.move rfl) rfl ?_
  refine TL.val (OpV.add rfl rfl (by first | exact IntWalk.i64_in _ ⟨by omega, by omega⟩ | rfl)) rfl ?_
  refine TL.val (OpV.assign rfl) rfl ?_
  refine TL.nil ?_
  have hgo : (grF (xs.take (i + 1))).out = (grO (grF (xs.take i)).out (grF (xs.take i)).last x) ++ [(setC x (grZ (grF (xs.take i)).out (grF (xs.take i)).last x))] := by rw [hgs]; rfl
  have hgol : (grF (xs.take (i + 1))).out.length = (grO (grF (xs.take i)).out (grF (xs.take i)).last x).length + 1 := by rw [hgo]; simp
  exact TE.meet (i + 1, some ⟨bq, 0, none⟩, c3b) ⟨⟨by omega, fun h9 => (by cases h9)⟩, by simp only; omega⟩ (.cons (t := 0) (by first | rfl | (simp [lk]; done)) <| .cons (t := 3) (by simp only [hgol]; rfl) <| .cons (t := 4) (by first | rfl | (simp [lk]; done)) <| .nil) ((by simp only [hgol]; rw [hgo]; exact Kle.trans (Kle.pick (e := .blk bq (cl (grO (grF (xs.take i)).out (grF (xs.take i)).last x) ++ ((setC x (grZ (grF (xs.take i)).out (grF (xs.take i)).last x)).l ++ post)) 41) (by first | exact P0 | exact P1 | exact P2 | exact P3 | exact P4 | exact P5 | exact P6)) (Kle.trans (Kle.midRow p2 p3 p4) (Perm.kle (.cons (by first | exact P0 | exact P1 | exact P2 | exact P3 | exact P4 | exact P5 | exact P6) (.cons (by first | exact P0 | exact P1 | exact P2 | exact P3 | exact P4 | exact P5 | exact P6) .nil))))))
 ·
  intro ht9
  try simp only [decide_eq_true_eq, decide_eq_false_iff_not, beq_iff_eq, beq_eq_false_iff_ne, bne_iff_ne, bne_eq_false_iff_eq, Bool.not_eq_true', Bool.not_eq_false', ne_eq] at ht9
  have hX : xs.take i = xs := List.take_of_length_le (by omega)
  refine T.exit ?_
  refine TE.pass_exit ?_
  refine TE.pass_exit ?_
  refine TE.here ?_
  refine TE.next ?_
  refine T.seq ?_
  refine T.region ?_
  refine TL.val (OpV.move rfl) rfl ?_
  refine TL.val (OpV.assign rfl) rfl ?_
  refine TL.nil ?_
  refine TE.sub (.cons (t := 2) rfl <| .nil) ?_
  refine TE.next ?_
  refine T.ret ?_
  refine TE.ret1 rfl (ResV.tmp rfl) ?_
  exact fun w1 k1 => ⟨(A3, c3), by rw [cmdsV, hX], hq1, by rw [cmdsV]; simp only [hX] at k1; exact Perm.kle (.cons (by first | exact P0 | exact P1 | exact P2 | exact P3 | exact P4 | exact P5 | exact P6) .nil) w1 k1⟩
end Go.Proofs.Ytaoepaonjeilgaa
