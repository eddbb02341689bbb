/-
  The walks of the writer of rows. Condition: the package-level tables hold what they were laid with.
-/
import Derived.Test.YtdmpodpdpncobaaDoorWe
import Derived.Test.YtdmpodpdpncobaaDoorSto
namespace Go.Proofs.YtdmpodpdpncobaaDoor
open Go.RowKit
set_option linter.unusedSimpArgs false
set_option linter.unusedVariables false

def wrL (cols : Int) (AR : Option Addr) (nR cR : Nat) (AN : Option Addr) (nN cN : Nat) : List Value := [.int .i64 cols, .slice AR nR cR, .slice AN nN cN]
/-- a writer in memory -/
structure WS where
  AR : Option Addr
  nR : Nat
  cR : Nat
  ls : List LnA
  AN : Option Addr
  nN : Nat
  cN : Nat
  now : List Cl
  τ : Nat → Option Obj
def WS.K (s : WS) (cols : Int) (b : Nat) (Kf : List Ent) : List Ent := .blk b (wrL cols s.AR s.nR s.cR s.AN s.nN s.cN) 113 :: .row 58 16 s.AN s.nN s.cN (fl s.now) :: .row 65 2 s.AR s.nR s.cR (fll s.ls) :: .own s.τ :: Kf
def WS.ok (m : Nat) (s : WS) : Prop := s.now.length = s.nN ∧ s.ls.length = s.nR ∧ (s.AN = none → s.cN = 0) ∧ (s.AR = none → s.cR = 0) ∧ WR 58 s.τ m s.ls
/-- rows, each in a block of its own -/
def LsRW (T : TypeId) (σ : Nat → Option Obj) (m : Nat) (A : Option Addr) (n c : Nat) (xs : List Ln) : Prop := ∃ ls : List LnA, LsW T σ m A n c ls ∧ ls.map LnA.ln = xs
def WS.val (s : WS) : List Ln × List Cl := (s.ls.map LnA.ln, s.now)
theorem bld_65_0_1 (x : LnA) (w : World) : (Instr.build 65 #[(0, .slice x.A x.n x.c), (1, .bool x.soft)]).run Tryd.prog w = .ok (.agg x.l.toArray) w := by kernel_rfl
theorem sl_35_2_0_1 (c d : Cl) (w : World) : (Instr.buildSlice 35 2 #[(0, .agg c.l.toArray), (1, .agg d.l.toArray)]).run Tryd.prog w = .ok (.slice (some ⟨w.heap.size, 0, none⟩) 2 2) (w.alloc (.cells (fl [c, d]).toArray 58)) := by kernel_rfl
theorem sl_35_1_0 (c : Cl) (w : World) : (Instr.buildSlice 35 1 #[(0, .agg c.l.toArray)]).run Tryd.prog w = .ok (.slice (some ⟨w.heap.size, 0, none⟩) 1 1) (w.alloc (.cells c.l.toArray 58)) := by kernel_rfl
theorem sl_22_1_0 (x : LnA) (w : World) : (Instr.buildSlice 22 1 #[(0, .agg x.l.toArray)]).run Tryd.prog w = .ok (.slice (some ⟨w.heap.size, 0, none⟩) 1 1) (w.alloc (.cells x.l.toArray 65)) := by kernel_rfl
theorem bld_113_0 (n : Int) (w : World) : (Instr.build 113 #[(0, .int .i64 n)]).run Tryd.prog w = .ok (.agg (wrL n none 0 0 none 0 0).toArray) w := by kernel_rfl
set_option maxRecDepth 100000 in
set_option maxHeartbeats 400000 in
theorem blank_c (p : Pen) (w : World) : Calls Tryd.prog 89 #[.agg p.l.toArray] w (Ret (.agg (blank p).l.toArray) w) := by
 refine calls_T (vs := [.agg p.l.toArray]) (L0 := [(0, .agg p.l.toArray)]) Tryd.func89 rfl rfl rfl rfl (KOk.none w) ?_
 refine T.seq ?_
 refine T.region ?_
 refine TL.boxA rfl rfl ?_
 intro b1
 refine TL.alloc zo_58 rfl ?_
 intro b2
 refine TL.nil ?_
 refine TE.next ?_
 refine T.seq ?_
 refine T.region ?_
 refine TL.val (OpV.loadA ag_56 rfl (by first | exact Cels.blk P0 rfl | exact Cels.blk P1 rfl | exact Cels.blk P2 rfl | exact Cels.blk P3 rfl)) rfl ?_
 refine TL.val (OpV.build (qs := #[(2, _), (3, _)]) (fun _ f => by simp only [List.map_toArray, List.map_cons, List.map_nil]; rw [f.ev (x := .const (.int .i64 1)) rfl, f.ev (x := .tmp 3) rfl]) (bld_58_2_3 1 p )) rfl ?_
 first
   | refine TL.storeAll rfl rfl szz_58 rfl rfl rfl (by first | exact P0 | exact P1 | exact P2 | exact P3) (by rfl) ?_
   | refine TL.store rfl rfl szz_58 rfl rfl rfl (by first | exact P0 | exact P1 | exact P2 | exact P3) (by first | exact Nat.le_of_ble_eq_true rfl | (simp; done) | (simp; omega)) (by simp only [putL, List.take_succ_cons, List.take_zero, List.drop_succ_cons, List.drop_zero, List.cons_append, List.nil_append, List.length_cons, List.length_nil, Nat.reduceAdd]; rfl) ?_
 refine TL.nil ?_
 refine TE.next ?_
 refine T.ret ?_
 refine TE.ret1 rfl (ResV.cellA rfl ag_58 (by first | exact Cels.blk P0 rfl | exact Cels.blk P1 rfl | exact Cels.blk P2 rfl | exact Cels.blk P3 rfl)) ?_
 exact fun w1 k1 => ⟨rfl, k1.bel⟩
set_option maxRecDepth 100000 in
set_option maxHeartbeats 1000000 in
theorem wend_c {w0 : World} {Kf : List Ent} {b : Nat} {cols : Int} (soft : Bool) (s : WS) (w : World) (k : KOk w0 (s.K cols b Kf) w) (ok : s.ok cols.toNat) (hb : (s.nN : Int) ≤ cols ∧ s.nR ≤ 2147483648) (h1 : 1 ≤ cols ∧ cols ≤ 1000) : Calls Tryd.prog 68 #[.pointer (some ⟨b, 0, none⟩), .bool soft] w (fun e w' => ∃ s' : WS, e = .returned (.tuple #[]) ∧ (s'.ok cols.toNat ∧ s'.val = endV cols soft s.val) ∧ KOk w0 (s'.K cols b Kf) w') := by
 obtain ⟨AR, nR, cR, ls, AN, nN, cN, now, τ⟩ := s
 replace k : KOk w0 (.blk b (wrL cols AR nR cR AN nN cN) 113 :: .row 58 16 AN nN cN (fl now) :: .row 65 2 AR nR cR (fll ls) :: .own τ :: Kf) w := k
 obtain ⟨o1, o2, o3, o4, o5⟩ := ok
 simp only at o1 o2 o3 o4 o5 hb
 refine calls_T (vs := [.pointer (some ⟨b, 0, none⟩), .bool soft]) (L0 := [(0, .pointer (some ⟨b, 0, none⟩)), (1, .bool soft)]) Tryd.func68 rfl rfl rfl rfl (k) ?_
 refine T.seq ?_
 refine T.block ?_
 refine T.loop (ι := Option Addr × Nat × Nat × List Cl) (fun ⟨A1, m, c1, nw⟩ => nw.length = m ∧ (A1 = none → c1 = 0) ∧ nw = now ++ List.replicate (m - nN) (blank Pen.zero) ∧ (nN ≤ m ∧ m ≤ 1000) ∧ (m = nN ∨ (m : Int) ≤ cols)) (fun ⟨A1, m, c1, nw⟩ => (cols.toNat - m)) (fun ⟨A1, m, c1, nw⟩ => [(0, .pointer (some ⟨b, 0, none⟩)), (1, .bool soft)]) (fun ⟨A1, m, c1, nw⟩ => .blk b (wrL cols AR nR cR A1 m c1) 113 :: .row 58 16 A1 m c1 (fl nw) :: .row 65 2 AR nR cR (fll ls) :: .own τ :: Kf) (AN, nN, cN, now) ⟨o1, o3, by simp, by omega, .inl rfl⟩ (.cons (t := 0) rfl <| .cons (t := 1) rfl <| .nil) (Kle.refl) ?_
 rintro ⟨A1, m, c1, nw⟩ hR
 refine T.seq ?_
 refine T.seq ?_
 refine T.quiet mix (by kernel_rfl) ?_
 refine TQ.val (OpV.move rfl) rfl ?_
 refine TQ.val (OpV.nil rfl) rfl ?_
 refine TQ.val (OpV.fieldAddr rfl fo_113_2) rfl ?_
 refine TQ.val (OpV.load pl_35 rfl (by first | exact Cel.blk P0 rfl | exact Cel.blk P1 rfl | exact Cel.blk P2 rfl | exact Cel.blk P3 rfl | exact Cel.blk P4 rfl | exact Cel.blk P5 rfl | exact Cel.blk P6 rfl | exact Cel.blk P7 rfl)) rfl ?_
 refine TQ.val (OpV.len Tryd.underlying35 rfl) rfl ?_
 refine TQ.val (OpV.move rfl) rfl ?_
 refine TQ.val (OpV.nil rfl) rfl ?_
 refine TQ.val (OpV.fieldAddr rfl fo_113_0) rfl ?_
 refine TQ.val (OpV.load pl_3 rfl (by first | exact Cel.blk P0 rfl | exact Cel.blk P1 rfl | exact Cel.blk P2 rfl | exact Cel.blk P3 rfl | exact Cel.blk P4 rfl | exact Cel.blk P5 rfl | exact Cel.blk P6 rfl | exact Cel.blk P7 rfl)) rfl ?_
 refine TQ.val (OpV.lss rfl rfl) rfl ?_
 refine TQ.nil ?_
 refine TE.sub (.cons (t := 0) rfl <| .cons (t := 1) rfl <| .cons (t := 13) rfl <| .nil) ?_
 refine TE.next ?_
 refine T.cond rfl ?_ ?_
 ·
  intro ht13
  obtain ⟨q1, q2, q3, q4, q5⟩ := hR
  have q6 : (m : Int) < cols := of_decide_eq_true ht13
  refine T.skip ?_
  refine TE.next ?_
  refine T.block ?_
  refine T.any ([.blk b (wrL cols AR nR cR A1 m c1) 113]) [11] mix rfl rfl ?_
  refine TA.takeP (i := 0) (ls := #[true, false, false, false, false, false, false, false, false, false, false, false]) rfl rfl rfl rfl rfl (by kernel_rfl) (by kernel_rfl) (by kernel_rfl) (by repeat (first | with_reducible exact PanicOk.body | with_reducible apply PanicOk.next | with_reducible apply PanicOk.block)) (OpV.move rfl) rfl (by kernel_rfl) ?_
  refine TA.takeP (i := 1) (ls := #[true, true, false, false, false, false, false, false, false, false, false, false]) rfl rfl rfl rfl rfl (by kernel_rfl) (by kernel_rfl) (by kernel_rfl) (by repeat (first | with_reducible exact PanicOk.body | with_reducible apply PanicOk.next | with_reducible apply PanicOk.block)) (OpV.move rfl) rfl (by kernel_rfl) ?_
  refine TA.takeP (i := 2) (ls := #[true, true, true, false, false, false, false, false, false, false, false, false]) rfl rfl rfl rfl rfl (by kernel_rfl) (by kernel_rfl) (by kernel_rfl) (by repeat (first | with_reducible exact PanicOk.body | with_reducible apply PanicOk.next | with_reducible apply PanicOk.block)) (OpV.nil rfl) rfl (by kernel_rfl) ?_
  refine TA.takeP (i := 3) (ls := #[true, true, true, true, false, false, false, false, false, false, false, false]) rfl rfl rfl rfl rfl (by kernel_rfl) (by kernel_rfl) (by kernel_rfl) (by repeat (first | with_reducible exact PanicOk.body | with_reducible apply PanicOk.next | with_reducible apply PanicOk.block)) (OpV.fieldAddr rfl fo_113_2) rfl (by kernel_rfl) ?_
  refine TA.take (i := 4) (ls := #[true, true, true, true, true, false, false, false, false, false, false, false]) rfl rfl rfl rfl rfl (by kernel_rfl) (by kernel_rfl) (by kernel_rfl) (by kernel_rfl) (by repeat (first | with_reducible exact PanicOk.body | with_reducible apply PanicOk.next | with_reducible apply PanicOk.block)) ((.cons (by first | exact P0 | exact P1 | exact P2 | exact P3 | exact P4 | exact P5 | exact P6 | exact P7) .nil)) (OpV.load pl_35 rfl (by first | exact Cel.blk P0 rfl | exact Cel.blk P1 rfl | exact Cel.blk P2 rfl | exact Cel.blk P3 rfl | exact Cel.blk P4 rfl | exact Cel.blk P5 rfl | exact Cel.blk P6 rfl | exact Cel.blk P7 rfl)) rfl (by kernel_rfl) ?_
  refine TA.takeP (i := 5) (ls := #[true, true, true, true, true, true, false, false, false, false, false, false]) rfl rfl rfl rfl rfl (by kernel_rfl) (by kernel_rfl) (by kernel_rfl) (by repeat (first | with_reducible exact PanicOk.body | with_reducible apply PanicOk.next | with_reducible apply PanicOk.block)) (OpV.build (qs := #[]) (fun _ _ => by simp) (bld_56)) rfl (by kernel_rfl) ?_
  refine TA.one (i := 6) (ls := #[true, true, true, true, true, true, true, false, false, false, false, false]) (by kernel_rfl) rfl (by kernel_rfl) (fun w1 => ?_)
  refine TL.call (g := 89) rfl go_89 rfl (fun w1 k1 => blank_c Pen.zero w1) rfl ?_
  refine TL.nil ?_
  refine TA.cont ((.cons (by first | exact P0 | exact P1 | exact P2 | exact P3 | exact P4 | exact P5 | exact P6 | exact P7) .nil)) ?_
  refine TA.one (i := 7) (ls := #[true, true, true, true, true, true, true, true, false, false, false, false]) (by kernel_rfl) rfl (by kernel_rfl) (fun w1 => ?_)
  refine TL.slit (qs := #[(0, _)]) (fun _ f => by simp only [List.map_toArray, List.map_cons, List.map_nil]; rw [f.ev (x := .tmp 20) rfl]) (sl_35_1_0 (blank Pen.zero)) rfl ?_
  intro b21
  refine TL.nil ?_
  refine TA.cont ((.cons (by first | exact P0 | exact P1 | exact P2 | exact P3 | exact P4 | exact P5 | exact P6 | exact P7) .nil)) ?_
  refine TA.one (i := 8) (ls := #[true, true, true, true, true, true, true, true, true, false, false, false]) (by kernel_rfl) rfl (by kernel_rfl) (fun w1 => ?_)
  obtain ⟨ti22, hi22, hz22, hs22, hb22⟩ := info_parts inf_58
  refine TL.append rfl rfl Tryd.underlying35 hi22 hz22 hs22 hb22 rfl (by omega) (by first | exact P0 | exact P1 | exact P2 | exact P3 | exact P4 | exact P5 | exact P6 | exact P7) (by first | exact Src.nil | exact Src.blk P0 rfl | exact Src.blk P1 rfl | exact Src.blk P2 rfl | exact Src.blk P3 rfl | exact Src.blk P4 rfl | exact Src.blk P5 rfl | exact Src.blk P6 rfl | exact Src.blk P7 rfl | exact Src.row P0 | exact Src.row P1 | exact Src.row P2 | exact Src.row P3 | exact Src.row P4 | exact Src.row P5 | exact Src.row P6 | exact Src.row P7) (fun h => by cases h) rfl (by omega) (by omega) rfl ?_
  clear hi22 hz22 hs22 hb22 ti22
  intro A22 c22 hn22
  refine TL.nil ?_
  refine TA.cont ((.cons (by first | exact P0 | exact P1 | exact P2 | exact P3 | exact P4 | exact P5 | exact P6 | exact P7) .nil)) ?_
  refine TA.takeP (i := 9) (ls := #[true, true, true, true, true, true, true, true, true, true, false, false]) rfl rfl rfl rfl rfl (by kernel_rfl) (by kernel_rfl) (by kernel_rfl) (by repeat (first | with_reducible exact PanicOk.body | with_reducible apply PanicOk.next | with_reducible apply PanicOk.block)) (OpV.nil rfl) rfl (by kernel_rfl) ?_
  refine TA.takeP (i := 10) (ls := #[true, true, true, true, true, true, true, true, true, true, true, false]) rfl rfl rfl rfl rfl (by kernel_rfl) (by kernel_rfl) (by kernel_rfl) (by repeat (first | with_reducible exact PanicOk.body | with_reducible apply PanicOk.next | with_reducible apply PanicOk.block)) (OpV.fieldAddr rfl fo_113_2) rfl (by kernel_rfl) ?_
  refine TA.one (i := 11) (ls := #[true, true, true, true, true, true, true, true, true, true, true, true]) (by kernel_rfl) rfl (by kernel_rfl) (fun w1 => ?_)
  refine TL.store rfl rfl szz_35 rfl rfl rfl (by first | exact P0 | exact P1 | exact P2 | exact P3 | exact P4 | exact P5 | exact P6 | exact P7) (by first | exact Nat.le_of_ble_eq_true rfl | (simp; done) | (simp; omega)) (by simp only [wrL, putL, List.take_succ_cons, List.take_zero, List.drop_succ_cons, List.drop_zero, List.cons_append, List.nil_append, List.length_cons, List.length_nil, Nat.reduceAdd]; rfl) ?_
  refine TL.nil ?_
  refine TA.bar rfl ?_
  refine TA.done (by kernel_rfl) ?_
  refine TE.out ?_
  exact TE.meet (A22, m + 1, c22, nw ++ [blank Pen.zero]) ⟨⟨by simp [q1], hn22, (by rw [q3, List.append_assoc, ← List.replicate_succ', show m + 1 - nN = m - nN + 1 by omega]), by omega, by omega⟩, by simp only; omega⟩ (.cons (t := 0) (by first | rfl | (simp [lk]; done)) <| .cons (t := 1) (by first | rfl | (simp [lk]; done)) <| .nil) ((by simp only [fl_snoc]; exact Perm.kle (.cons (by first | exact P0 | exact P1 | exact P2 | exact P3 | exact P4 | exact P5 | exact P6 | exact P7) (.cons (by first | exact P0 | exact P1 | exact P2 | exact P3 | exact P4 | exact P5 | exact P6 | exact P7) (.cons (by first | exact P0 | exact P1 | exact P2 | exact P3 | exact P4 | exact P5 | exact P6 | exact P7) (.cons (by first | exact P0 | exact P1 | exact P2 | exact P3 | exact P4 | exact P5 | exact P6 | exact P7) (by first | exact .all | exact .drop .all | exact .drop (.drop .all) | exact .drop (.drop (.drop .all)) | exact .drop (.drop (.drop (.drop .all))) | exact .drop (.drop (.drop (.drop (.drop .all)))))))))))
 ·
  intro ht13
  obtain ⟨q1, q2, q3, q4, q5⟩ := hR
  have q6 : ¬ (m : Int) < cols := of_decide_eq_false ht13
  refine T.exit ?_
  refine TE.pass_exit ?_
  refine TE.pass_exit ?_
  refine TE.here ?_
  refine TE.next ?_
  refine T.seq ?_
  refine T.any ([.blk b (wrL cols AR nR cR A1 m c1) 113]) [15] mix rfl rfl ?_
  refine TA.takeP (i := 0) (ls := #[true, false, false, false, false, false, false, false, false, false, false, false, false, false, false, false]) rfl rfl rfl rfl rfl (by kernel_rfl) (by kernel_rfl) (by kernel_rfl) (by repeat (first | with_reducible exact PanicOk.body | with_reducible apply PanicOk.next | with_reducible apply PanicOk.block)) (OpV.move rfl) rfl (by kernel_rfl) ?_
  refine TA.takeP (i := 1) (ls := #[true, true, false, false, false, false, false, false, false, false, false, false, false, false, false, false]) rfl rfl rfl rfl rfl (by kernel_rfl) (by kernel_rfl) (by kernel_rfl) (by repeat (first | with_reducible exact PanicOk.body | with_reducible apply PanicOk.next | with_reducible apply PanicOk.block)) (OpV.move rfl) rfl (by kernel_rfl) ?_
  refine TA.takeP (i := 2) (ls := #[true, true, true, false, false, false, false, false, false, false, false, false, false, false, false, false]) rfl rfl rfl rfl rfl (by kernel_rfl) (by kernel_rfl) (by kernel_rfl) (by repeat (first | with_reducible exact PanicOk.body | with_reducible apply PanicOk.next | with_reducible apply PanicOk.block)) (OpV.nil rfl) rfl (by kernel_rfl) ?_
  refine TA.takeP (i := 3) (ls := #[true, true, true, true, false, false, false, false, false, false, false, false, false, false, false, false]) rfl rfl rfl rfl rfl (by kernel_rfl) (by kernel_rfl) (by kernel_rfl) (by repeat (first | with_reducible exact PanicOk.body | with_reducible apply PanicOk.next | with_reducible apply PanicOk.block)) (OpV.fieldAddr rfl fo_113_1) rfl (by kernel_rfl) ?_
  refine TA.take (i := 4) (ls := #[true, true, true, true, true, false, false, false, false, false, false, false, false, false, false, false]) rfl rfl rfl rfl rfl (by kernel_rfl) (by kernel_rfl) (by kernel_rfl) (by kernel_rfl) (by repeat (first | with_reducible exact PanicOk.body | with_reducible apply PanicOk.next | with_reducible apply PanicOk.block)) ((.cons (by first | exact P0 | exact P1 | exact P2 | exact P3 | exact P4 | exact P5 | exact P6 | exact P7) .nil)) (OpV.load pl_22 rfl (by first | exact Cel.blk P0 rfl | exact Cel.blk P1 rfl | exact Cel.blk P2 rfl | exact Cel.blk P3 rfl | exact Cel.blk P4 rfl | exact Cel.blk P5 rfl | exact Cel.blk P6 rfl | exact Cel.blk P7 rfl)) rfl (by kernel_rfl) ?_
  refine TA.takeP (i := 5) (ls := #[true, true, true, true, true, true, false, false, false, false, false, false, false, false, false, false]) rfl rfl rfl rfl rfl (by kernel_rfl) (by kernel_rfl) (by kernel_rfl) (by repeat (first | with_reducible exact PanicOk.body | with_reducible apply PanicOk.next | with_reducible apply PanicOk.block)) (OpV.move rfl) rfl (by kernel_rfl) ?_
  refine TA.takeP (i := 6) (ls := #[true, true, true, true, true, true, true, false, false, false, false, false, false, false, false, false]) rfl rfl rfl rfl rfl (by kernel_rfl) (by kernel_rfl) (by kernel_rfl) (by repeat (first | with_reducible exact PanicOk.body | with_reducible apply PanicOk.next | with_reducible apply PanicOk.block)) (OpV.nil rfl) rfl (by kernel_rfl) ?_
  refine TA.takeP (i := 7) (ls := #[true, true, true, true, true, true, true, true, false, false, false, false, false, false, false, false]) rfl rfl rfl rfl rfl (by kernel_rfl) (by kernel_rfl) (by kernel_rfl) (by repeat (first | with_reducible exact PanicOk.body | with_reducible apply PanicOk.next | with_reducible apply PanicOk.block)) (OpV.fieldAddr rfl fo_113_2) rfl (by kernel_rfl) ?_
  refine TA.take (i := 8) (ls := #[true, true, true, true, true, true, true, true, true, false, false, false, false, false, false, false]) rfl rfl rfl rfl rfl (by kernel_rfl) (by kernel_rfl) (by kernel_rfl) (by kernel_rfl) (by repeat (first | with_reducible exact PanicOk.body | with_reducible apply PanicOk.next | with_reducible apply PanicOk.block)) ((.cons (by first | exact P0 | exact P1 | exact P2 | exact P3 | exact P4 | exact P5 | exact P6 | exact P7) .nil)) (OpV.load pl_35 rfl (by first | exact Cel.blk P0 rfl | exact Cel.blk P1 rfl | exact Cel.blk P2 rfl | exact Cel.blk P3 rfl | exact Cel.blk P4 rfl | exact Cel.blk P5 rfl | exact Cel.blk P6 rfl | exact Cel.blk P7 rfl)) rfl (by kernel_rfl) ?_
  refine TA.takeP (i := 9) (ls := #[true, true, true, true, true, true, true, true, true, true, false, false, false, false, false, false]) rfl rfl rfl rfl rfl (by kernel_rfl) (by kernel_rfl) (by kernel_rfl) (by repeat (first | with_reducible exact PanicOk.body | with_reducible apply PanicOk.next | with_reducible apply PanicOk.block)) (OpV.move rfl) rfl (by kernel_rfl) ?_
  refine TA.takeP (i := 10) (ls := #[true, true, true, true, true, true, true, true, true, true, true, false, false, false, false, false]) rfl rfl rfl rfl rfl (by kernel_rfl) (by kernel_rfl) (by kernel_rfl) (by repeat (first | with_reducible exact PanicOk.body | with_reducible apply PanicOk.next | with_reducible apply PanicOk.block)) (OpV.build (qs := #[(0, _), (1, _)]) (fun _ f => by simp only [List.map_toArray, List.map_cons, List.map_nil]; rw [f.ev (x := .tmp 33) rfl, f.ev (x := .tmp 34) rfl]) (bld_65_0_1 ⟨A1, m, c1, nw, soft⟩ )) rfl (by kernel_rfl) ?_
  refine TA.one (i := 11) (ls := #[true, true, true, true, true, true, true, true, true, true, true, true, false, false, false, false]) (by kernel_rfl) rfl (by kernel_rfl) (fun w1 => ?_)
  refine TL.slit (qs := #[(0, _)]) (fun _ f => by simp only [List.map_toArray, List.map_cons, List.map_nil]; rw [f.ev (x := .tmp 35) rfl]) (sl_22_1_0 ⟨A1, m, c1, nw, soft⟩) rfl ?_
  intro b36
  refine TL.nil ?_
  refine TA.cont ((.cons (by first | exact P0 | exact P1 | exact P2 | exact P3 | exact P4 | exact P5 | exact P6 | exact P7) .nil)) ?_
  refine TA.one (i := 12) (ls := #[true, true, true, true, true, true, true, true, true, true, true, true, true, false, false, false]) (by kernel_rfl) rfl (by kernel_rfl) (fun w1 => ?_)
  obtain ⟨ti37, hi37, hz37, hs37, hb37⟩ := info_parts inf_65
  refine TL.append rfl rfl Tryd.underlying22 hi37 hz37 hs37 hb37 rfl (by omega) (by first | exact P0 | exact P1 | exact P2 | exact P3 | exact P4 | exact P5 | exact P6 | exact P7) (by first | exact Src.nil | exact Src.blk P0 rfl | exact Src.blk P1 rfl | exact Src.blk P2 rfl | exact Src.blk P3 rfl | exact Src.blk P4 rfl | exact Src.blk P5 rfl | exact Src.blk P6 rfl | exact Src.blk P7 rfl | exact Src.row P0 | exact Src.row P1 | exact Src.row P2 | exact Src.row P3 | exact Src.row P4 | exact Src.row P5 | exact Src.row P6 | exact Src.row P7) (fun h => by cases h) rfl (by omega) (by omega) rfl ?_
  clear hi37 hz37 hs37 hb37 ti37
  intro A37 c37 hn37
  refine TL.nil ?_
  refine TA.cont ((.cons (by first | exact P0 | exact P1 | exact P2 | exact P3 | exact P4 | exact P5 | exact P6 | exact P7) .nil)) ?_
  refine TA.takeP (i := 13) (ls := #[true, true, true, true, true, true, true, true, true, true, true, true, true, true, false, false]) rfl rfl rfl rfl rfl (by kernel_rfl) (by kernel_rfl) (by kernel_rfl) (by repeat (first | with_reducible exact PanicOk.body | with_reducible apply PanicOk.next | with_reducible apply PanicOk.block)) (OpV.nil rfl) rfl (by kernel_rfl) ?_
  refine TA.takeP (i := 14) (ls := #[true, true, true, true, true, true, true, true, true, true, true, true, true, true, true, false]) rfl rfl rfl rfl rfl (by kernel_rfl) (by kernel_rfl) (by kernel_rfl) (by repeat (first | with_reducible exact PanicOk.body | with_reducible apply PanicOk.next | with_reducible apply PanicOk.block)) (OpV.fieldAddr rfl fo_113_1) rfl (by kernel_rfl) ?_
  refine TA.one (i := 15) (ls := #[true, true, true, true, true, true, true, true, true, true, true, true, true, true, true, true]) (by kernel_rfl) rfl (by kernel_rfl) (fun w1 => ?_)
  refine TL.store rfl rfl szz_22 rfl rfl rfl (by first | exact P0 | exact P1 | exact P2 | exact P3 | exact P4 | exact P5 | exact P6 | exact P7) (by first | exact Nat.le_of_ble_eq_true rfl | (simp; done) | (simp; omega)) (by simp only [wrL, putL, List.take_succ_cons, List.take_zero, List.drop_succ_cons, List.drop_zero, List.cons_append, List.nil_append, List.length_cons, List.length_nil, Nat.reduceAdd]; rfl) ?_
  refine TL.nil ?_
  refine TA.bar rfl ?_
  refine TA.done (by kernel_rfl) ?_
  refine TE.sub (.cons (t := 0) rfl <| .nil) ?_
  refine TE.next ?_
  refine T.region ?_
  refine TL.val (OpV.move rfl) rfl ?_
  refine TL.val (OpV.nil rfl) rfl ?_
  refine TL.val (OpV.fieldAddr rfl fo_113_2) rfl ?_
  refine TL.store rfl rfl szz_35 rfl rfl rfl (by first | exact P0 | exact P1 | exact P2 | exact P3 | exact P4 | exact P5 | exact P6 | exact P7) (by first | exact Nat.le_of_ble_eq_true rfl | (simp; done) | (simp; omega)) (by simp only [wrL, putL, List.take_succ_cons, List.take_zero, List.drop_succ_cons, List.drop_zero, List.cons_append, List.nil_append, List.length_cons, List.length_nil, Nat.reduceAdd]; rfl) ?_
  refine TL.nil ?_
  refine TE.end0 rfl ?_
  intro w1 k1
  obtain ⟨bq, csq, ρ, ⟨r1, r2, r4, r5, r6, r7⟩, k2⟩ := rowIntoW (e := 58) (z := 16) (A := A1) (m := m) (c := c1) (xs := fl nw) (τ := τ) k1 (by first | exact P0 | exact P1 | exact P2 | exact P3 | exact P4 | exact P5 | exact P6 | exact P7) (by first | exact P0 | exact P1 | exact P2 | exact P3 | exact P4 | exact P5 | exact P6 | exact P7) (by omega)
  refine ⟨⟨A37, nR + 1, c37, ls ++ [⟨A1, m, c1, nw, soft⟩], none, 0, 0, [], ρ⟩, rfl, ⟨⟨rfl, by simp; omega, fun _ => rfl, hn37, ?_⟩, ?_⟩, ?_⟩
  · exact WR.snoc o5 r7 r1 (by simp only; omega) (by simp only; omega) (by have h9 := r2.2.1; simp only; omega) r2.2.2.1 ⟨csq, r4, r5⟩ r6
  · simp only [WS.val, endV, List.map_append, List.map_cons, List.map_nil, LnA.ln, o1, q3, show m - nN = cols.toNat - nN by omega]
  · have k3 := Kle.nilRow 58 16 w1 k2
    have e : fll (ls ++ [⟨A1, m, c1, nw, soft⟩]) = fll ls ++ (LnA.mk A1 m c1 nw soft).l := fll_snoc _ _
    simp only [WS.K]
    rw [e]
    exact Perm.kle (.cons (by first | exact P0 | exact P1 | exact P2 | exact P3 | exact P4 | exact P5 | exact P6 | exact P7) (.cons (by first | exact P0 | exact P1 | exact P2 | exact P3 | exact P4 | exact P5 | exact P6 | exact P7) (.cons (by first | exact P0 | exact P1 | exact P2 | exact P3 | exact P4 | exact P5 | exact P6 | exact P7) (.cons (by first | exact P0 | exact P1 | exact P2 | exact P3 | exact P4 | exact P5 | exact P6 | exact P7) (by first | exact .all | exact .drop .all | exact .drop (.drop .all) | exact .drop (.drop (.drop .all)) | exact .drop (.drop (.drop (.drop .all))) | exact .drop (.drop (.drop (.drop (.drop .all))))))))) w1 k3
set_option maxRecDepth 100000 in
set_option maxHeartbeats 1000000 in
theorem wput_c {σ : Nat → Option Obj} {A : Option Addr} {n c : Nat} {xs : List Cl} (h : CsR σ A n c xs) {w0 : World} {Kf : List Ent} {b : Nat} {cols : Int} (i : Nat) (x : Cl) (hx : xs[i]? = some x) (hlen : i + wid x ≤ n) (s : WS) (w : World) (k : KOk w0 (s.K cols b (.fr σ :: Kf)) w) (ok : s.ok cols.toNat) (hb : (s.nN : Int) ≤ cols ∧ s.nR ≤ 2147483647 ∧ n ≤ 1073741824) (h1 : 1 ≤ cols ∧ cols ≤ 1000) : Calls Tryd.prog 67 #[.pointer (some ⟨b, 0, none⟩), .slice A n c, .int .i64 (i : Int)] w (fun e w' => ∃ s' : WS, e = .returned (.int .i64 ((i + wid x : Nat) : Int)) ∧ (s'.ok cols.toNat ∧ s'.val = putV cols ((xs.take (i + wid x)).drop i) x.pen s.val ∧ (s'.nN : Int) ≤ cols ∧ s'.nR ≤ s.nR + 1) ∧ KOk w0 (s'.K cols b (.fr σ :: Kf)) w') := by
 have hn63 := h.2.1
 have hc63 := h.2.2.1
 have hl1 := h.1
 have hi := (List.getElem?_eq_some_iff.1 hx).1
 rw [hl1] at hi
 obtain ⟨bb, oo, hA, hat⟩ := h.pos (by omega)
 have hatx := hat i x hx
 obtain ⟨AR, nR, cR, ls, AN, nN, cN, now, τ⟩ := s
 replace k : KOk w0 (.blk b (wrL cols AR nR cR AN nN cN) 113 :: .row 58 16 AN nN cN (fl now) :: .row 65 2 AR nR cR (fll ls) :: .own τ :: .fr σ :: Kf) w := k
 obtain ⟨o1, o2, o3, o4, o5⟩ := ok
 simp only at o1 o2 o3 o4 o5 hb
 refine calls_T (vs := [.pointer (some ⟨b, 0, none⟩), .slice A n c, .int .i64 (i : Int)]) (L0 := [(0, .pointer (some ⟨b, 0, none⟩)), (1, .slice A n c), (2, .int .i64 (i : Int))]) Tryd.func67 rfl rfl rfl rfl (k) ?_
 refine T.seq ?_
 refine T.region ?_
 refine TL.val (OpV.assign rfl) rfl ?_
 refine TL.nil ?_
 refine TE.next ?_
 refine T.seq ?_
 refine T.region ?_
 refine TL.val (OpV.move rfl) rfl ?_
 refine TL.val (OpV.move rfl) rfl ?_
 refine TL.val (OpV.indexAddr se_35 rfl hA rfl (by rfl) (by first | omega | simp)) rfl ?_
 refine TL.val (OpV.loadA ag_58 rfl (by first | exact Cels.blk P0 rfl | exact Cels.blk P1 rfl | exact Cels.blk P2 rfl | exact Cels.blk P3 rfl | exact Cels.blk P4 rfl | exact Cels.blk P5 rfl | exact Cels.blk P6 rfl | exact Cels.blk P7 rfl | exact Cels.frA hatx rfl)) rfl ?_
 refine TL.alloc zo_58 rfl ?_
 intro b7
 first
   | refine TL.storeAll rfl rfl szz_58 rfl rfl rfl (by first | exact P0 | exact P1 | exact P2 | exact P3 | exact P4 | exact P5 | exact P6 | exact P7) (by rfl) ?_
   | refine TL.store rfl rfl szz_58 rfl rfl rfl (by first | exact P0 | exact P1 | exact P2 | exact P3 | exact P4 | exact P5 | exact P6 | exact P7) (by first | exact Nat.le_of_ble_eq_true rfl | (simp; done) | (simp; omega)) (by simp only [wrL, putL, List.take_succ_cons, List.take_zero, List.drop_succ_cons, List.drop_zero, List.cons_append, List.nil_append, List.length_cons, List.length_nil, Nat.reduceAdd]; rfl) ?_
 refine TL.val (OpV.assign rfl) rfl ?_
 refine TL.nil ?_
 refine TE.next ?_
 refine T.seq ?_
 refine T.cutx (ι := Nat) (fun m => m = wid x) (fun m => [(0, .pointer (some ⟨b, 0, none⟩)), (1, .slice A n c), (2, .int .i64 (i : Int)), (7, .pointer (some ⟨b7, 0, none⟩)), (8, .int .i64 (m : Int))]) (fun m => .blk b7 x.l 58 :: .blk b (wrL cols AR nR cR AN nN cN) 113 :: .row 58 16 AN nN cN (fl now) :: .row 65 2 AR nR cR (fll ls) :: .own τ :: .fr σ :: Kf) ?_ ?_
 rotate_left
 ·
  refine T.seq ?_
  refine T.region ?_
  refine TL.val (OpV.fieldAddr rfl fo_58_2) rfl ?_
  refine TL.val (OpV.load pl_3 rfl (by first | exact Cel.blk P0 rfl | exact Cel.blk P1 rfl | exact Cel.blk P2 rfl | exact Cel.blk P3 rfl | exact Cel.blk P4 rfl | exact Cel.blk P5 rfl | exact Cel.blk P6 rfl | exact Cel.blk P7 rfl | exact Cel.frA (hatx _ _ rfl))) rfl ?_
  refine TL.val (OpV.eql rfl rfl) rfl ?_
  refine TL.nil ?_
  refine TE.sub (.cons (t := 0) rfl <| .cons (t := 1) rfl <| .cons (t := 2) rfl <| .cons (t := 7) rfl <| .cons (t := 8) rfl <| .cons (t := 16) rfl <| .nil) ?_
  refine TE.next ?_
  refine T.cond rfl ?_ ?_
  ·
   intro ht16
   refine T.region ?_
   refine TL.val (OpV.assign rfl) rfl ?_
   refine TL.nil ?_
   exact TE.meet 2 (by simp only [wid]; rw [if_pos (eq_of_beq ht16)]) (.cons (t := 0) rfl <| .cons (t := 1) rfl <| .cons (t := 2) rfl <| .cons (t := 7) rfl <| .cons (t := 8) rfl <| .nil) (Perm.kle (.cons (by first | exact P0 | exact P1 | exact P2 | exact P3 | exact P4 | exact P5 | exact P6 | exact P7) (by first | exact .all | exact .drop .all | exact .drop (.drop .all) | exact .drop (.drop (.drop .all)) | exact .drop (.drop (.drop (.drop .all))) | exact .drop (.drop (.drop (.drop (.drop .all)))))))
  ·
   intro ht16
   refine T.skip ?_
   exact TE.meet 1 (by simp only [wid]; rw [if_neg (beq_eq_false_iff_ne.1 ht16)]) (.cons (t := 0) rfl <| .cons (t := 1) rfl <| .cons (t := 2) rfl <| .cons (t := 7) rfl <| .cons (t := 8) rfl <| .nil) (Perm.kle (.cons (by first | exact P0 | exact P1 | exact P2 | exact P3 | exact P4 | exact P5 | exact P6 | exact P7) (by first | exact .all | exact .drop .all | exact .drop (.drop .all) | exact .drop (.drop (.drop .all)) | exact .drop (.drop (.drop (.drop .all))) | exact .drop (.drop (.drop (.drop (.drop .all)))))))
 rintro m hm
 have hm2 : m = 1 ∨ m = 2 := by rw [hm, wid]; split <;> simp
 have hfm := fw_bd (cols := cols) (w := (m : Int)) (by omega) h1.1
 have hnb := need_bd h1.1 (m : Int)
 refine TE.next ?_
 refine T.seq ?_
 refine T.region ?_
 refine TL.val (OpV.move rfl) rfl ?_
 refine TL.val (OpV.move rfl) rfl ?_
 refine TL.val (OpV.nil rfl) rfl ?_
 refine TL.val (OpV.fieldAddr rfl fo_113_0) rfl ?_
 refine TL.val (OpV.load pl_3 rfl (by first | exact Cel.blk P0 rfl | exact Cel.blk P1 rfl | exact Cel.blk P2 rfl | exact Cel.blk P3 rfl | exact Cel.blk P4 rfl | exact Cel.blk P5 rfl | exact Cel.blk P6 rfl | exact Cel.blk P7 rfl | exact Cel.frA (hatx _ _ rfl))) rfl ?_
 refine TL.val (OpV.min rfl rfl) rfl ?_
 refine TL.val (OpV.assign rfl) rfl ?_
 refine TL.said (t := 9) rfl (show _ = Value.int .i64 (fw cols (m : Int)) from rfl) ?_
 refine TL.nil ?_
 refine TE.next ?_
 refine T.seq ?_
 refine T.cutx (ι := WS) (fun s1 => s1.ok cols.toNat ∧ s1.val = (if full cols m (WS.mk AR nR cR ls AN nN cN now τ).val = true then endV cols true (WS.mk AR nR cR ls AN nN cN now τ).val else (WS.mk AR nR cR ls AN nN cN now τ).val) ∧ (s1.nN : Int) + fw cols (m : Int) ≤ cols ∧ s1.nR ≤ nR + 1) (fun s1 => [(0, .pointer (some ⟨b, 0, none⟩)), (1, .slice A n c), (2, .int .i64 (i : Int)), (7, .pointer (some ⟨b7, 0, none⟩)), (8, .int .i64 (m : Int))]) (fun s1 => .blk b7 x.l 58 :: .blk b (wrL cols s1.AR s1.nR s1.cR s1.AN s1.nN s1.cN) 113 :: .row 58 16 s1.AN s1.nN s1.cN (fl s1.now) :: .row 65 2 s1.AR s1.nR s1.cR (fll s1.ls) :: .own s1.τ :: .fr σ :: Kf) ?_ ?_
 rotate_left
 ·
  refine T.seq ?_
  refine T.quiet mix (by kernel_rfl) ?_
  refine TQ.val (OpV.move rfl) rfl ?_
  refine TQ.val (OpV.nil rfl) rfl ?_
  refine TQ.val (OpV.fieldAddr rfl fo_113_2) rfl ?_
  refine TQ.val (OpV.load pl_35 rfl (by first | exact Cel.blk P0 rfl | exact Cel.blk P1 rfl | exact Cel.blk P2 rfl | exact Cel.blk P3 rfl | exact Cel.blk P4 rfl | exact Cel.blk P5 rfl | exact Cel.blk P6 rfl | exact Cel.blk P7 rfl | exact Cel.frA (hatx _ _ rfl))) rfl ?_
  refine TQ.val (OpV.len Tryd.underlying35 rfl) rfl ?_
  refine TQ.val (OpV.move rfl) rfl ?_
  refine TQ.val (OpV.add rfl rfl (by first | exact IntWalk.i64_in _ ⟨by omega, by omega⟩ | rfl)) rfl ?_
  refine TQ.val (OpV.move rfl) rfl ?_
  refine TQ.val (OpV.nil rfl) rfl ?_
  refine TQ.val (OpV.fieldAddr rfl fo_113_0) rfl ?_
  refine TQ.val (OpV.load pl_3 rfl (by first | exact Cel.blk P0 rfl | exact Cel.blk P1 rfl | exact Cel.blk P2 rfl | exact Cel.blk P3 rfl | exact Cel.blk P4 rfl | exact Cel.blk P5 rfl | exact Cel.blk P6 rfl | exact Cel.blk P7 rfl | exact Cel.frA (hatx _ _ rfl))) rfl ?_
  refine TQ.val (OpV.gtr rfl rfl) rfl ?_
  refine TQ.nil ?_
  refine TE.sub (.cons (t := 0) rfl <| .cons (t := 1) rfl <| .cons (t := 2) rfl <| .cons (t := 7) rfl <| .cons (t := 8) rfl <| .cons (t := 34) rfl <| .nil) ?_
  refine TE.next ?_
  refine T.cond rfl ?_ ?_
  ·
   intro ht34
   have hfull : full cols m (WS.mk AR nR cR ls AN nN cN now τ).val = true := by have h9 := of_decide_eq_true ht34; simp [full, WS.val, o1]; omega
   refine T.region ?_
   refine TL.val (OpV.move rfl) rfl ?_
   refine TL.callx (g := 68) rfl go_68 rfl (fun wz kz => wend_c (b := b) (Kf := .blk b7 x.l 58 :: .fr σ :: Kf) true (WS.mk AR nR cR ls AN nN cN now τ) wz (Perm.kle (.cons (by first | exact P0 | exact P1 | exact P2 | exact P3 | exact P4 | exact P5 | exact P6 | exact P7) (.cons (by first | exact P0 | exact P1 | exact P2 | exact P3 | exact P4 | exact P5 | exact P6 | exact P7) (.cons (by first | exact P0 | exact P1 | exact P2 | exact P3 | exact P4 | exact P5 | exact P6 | exact P7) (.cons (by first | exact P0 | exact P1 | exact P2 | exact P3 | exact P4 | exact P5 | exact P6 | exact P7) (by first | exact .all | exact .drop .all | exact .drop (.drop .all) | exact .drop (.drop (.drop .all)) | exact .drop (.drop (.drop (.drop .all))) | exact .drop (.drop (.drop (.drop (.drop .all))))))))) wz kz) ⟨o1, o2, o3, o4, o5⟩ (by simp only; omega) h1) rfl ?_
   rintro ⟨R1, n1, c1, l1, N1, m1, d1, nw, τ1⟩ ⟨ok1, hv1⟩
   refine TL.nil ?_
   have hz1 : (m1 : Int) + fw cols (m : Int) ≤ cols := by have h9 := congrArg (fun z => z.2.length) hv1; have h8 := ok1.1; simp [WS.val, endV] at h9 h8; rw [h9] at h8; simp at h8; omega
   have hz2 : n1 ≤ nR + 1 := by have h9 := congrArg (fun z => z.1.length) hv1; have h8 := ok1.2.1; simp [WS.val, endV] at h9 h8; omega
   exact TE.meet (WS.mk R1 n1 c1 l1 N1 m1 d1 nw τ1) ⟨ok1, by rw [hv1, if_pos hfull], hz1, hz2⟩ (.cons (t := 0) rfl <| .cons (t := 1) rfl <| .cons (t := 2) rfl <| .cons (t := 7) rfl <| .cons (t := 8) rfl <| .nil) (Perm.kle (.cons (by first | exact P0 | exact P1 | exact P2 | exact P3 | exact P4 | exact P5 | exact P6 | exact P7) (.cons (by first | exact P0 | exact P1 | exact P2 | exact P3 | exact P4 | exact P5 | exact P6 | exact P7) (.cons (by first | exact P0 | exact P1 | exact P2 | exact P3 | exact P4 | exact P5 | exact P6 | exact P7) (.cons (by first | exact P0 | exact P1 | exact P2 | exact P3 | exact P4 | exact P5 | exact P6 | exact P7) (.cons (by first | exact P0 | exact P1 | exact P2 | exact P3 | exact P4 | exact P5 | exact P6 | exact P7) (by first | exact .all | exact .drop .all | exact .drop (.drop .all) | exact .drop (.drop (.drop .all)) | exact .drop (.drop (.drop (.drop .all))) | exact .drop (.drop (.drop (.drop (.drop .all)))))))))))
  ·
   intro ht34
   have hfull : full cols m (WS.mk AR nR cR ls AN nN cN now τ).val = false := by have h9 := of_decide_eq_false ht34; simp [full, WS.val, o1]; omega
   refine T.skip ?_
   exact TE.meet (WS.mk AR nR cR ls AN nN cN now τ) ⟨⟨o1, o2, o3, o4, o5⟩, by rw [if_neg (by rw [hfull]; decide)], by have h9 := of_decide_eq_false ht34; simp only; omega, by simp only; omega⟩ (.cons (t := 0) rfl <| .cons (t := 1) rfl <| .cons (t := 2) rfl <| .cons (t := 7) rfl <| .cons (t := 8) rfl <| .nil) (Perm.kle (.cons (by first | exact P0 | exact P1 | exact P2 | exact P3 | exact P4 | exact P5 | exact P6 | exact P7) (.cons (by first | exact P0 | exact P1 | exact P2 | exact P3 | exact P4 | exact P5 | exact P6 | exact P7) (.cons (by first | exact P0 | exact P1 | exact P2 | exact P3 | exact P4 | exact P5 | exact P6 | exact P7) (.cons (by first | exact P0 | exact P1 | exact P2 | exact P3 | exact P4 | exact P5 | exact P6 | exact P7) (.cons (by first | exact P0 | exact P1 | exact P2 | exact P3 | exact P4 | exact P5 | exact P6 | exact P7) (by first | exact .all | exact .drop .all | exact .drop (.drop .all) | exact .drop (.drop (.drop .all)) | exact .drop (.drop (.drop (.drop .all))) | exact .drop (.drop (.drop (.drop (.drop .all)))))))))))
 rintro s1 hs1
 obtain ⟨R1, n1, c1, l1, N1, m1, d1, nw, τ1⟩ := s1
 obtain ⟨⟨p1, p2, p3, p4, p5⟩, hv1, hb1, hb2⟩ := hs1
 simp only at p1 p2 p3 p4 p5 hb1 hb2
 refine TE.kle (K' := .blk b7 x.l 58 :: .blk b (wrL cols R1 n1 c1 N1 m1 d1) 113 :: .row 58 16 N1 m1 d1 (fl nw) :: .row 65 2 R1 n1 c1 (fll l1) :: .own τ1 :: .fr σ :: Kf) (fun _ k => k) ?_
 refine TE.next ?_
 refine T.seq ?_
 refine T.seq ?_
 refine T.region ?_
 refine TL.val (OpV.move rfl) rfl ?_
 refine TL.val (OpV.move rfl) rfl ?_
 refine TL.val (OpV.nil rfl) rfl ?_
 refine TL.val (OpV.fieldAddr rfl fo_113_0) rfl ?_
 refine TL.val (OpV.load pl_3 rfl (by first | exact Cel.blk P0 rfl | exact Cel.blk P1 rfl | exact Cel.blk P2 rfl | exact Cel.blk P3 rfl | exact Cel.blk P4 rfl | exact Cel.blk P5 rfl | exact Cel.blk P6 rfl | exact Cel.blk P7 rfl | exact Cel.frA (hatx _ _ rfl))) rfl ?_
 refine TL.val (OpV.gtr rfl rfl) rfl ?_
 refine TL.nil ?_
 refine TE.next ?_
 refine T.cond rfl ?_ ?_
 ·
  intro ht42
  have hcol := of_decide_eq_true ht42
  have hfe : fw cols (m : Int) = cols := by rw [fw, if_pos hcol]
  refine T.any ([.blk b (wrL cols R1 n1 c1 N1 m1 d1) 113, .blk b7 x.l 58]) [12] mix rfl rfl ?_
  refine TA.takeP (i := 0) (ls := #[true, false, false, false, false, false, false, false, false, false, false, false, false]) rfl rfl rfl rfl rfl (by kernel_rfl) (by kernel_rfl) (by kernel_rfl) (by repeat (first | with_reducible exact PanicOk.body | with_reducible apply PanicOk.next | with_reducible apply PanicOk.block)) (OpV.move rfl) rfl (by kernel_rfl) ?_
  refine TA.takeP (i := 1) (ls := #[true, true, false, false, false, false, false, false, false, false, false, false, false]) rfl rfl rfl rfl rfl (by kernel_rfl) (by kernel_rfl) (by kernel_rfl) (by repeat (first | with_reducible exact PanicOk.body | with_reducible apply PanicOk.next | with_reducible apply PanicOk.block)) (OpV.move rfl) rfl (by kernel_rfl) ?_
  refine TA.takeP (i := 2) (ls := #[true, true, true, false, false, false, false, false, false, false, false, false, false]) rfl rfl rfl rfl rfl (by kernel_rfl) (by kernel_rfl) (by kernel_rfl) (by repeat (first | with_reducible exact PanicOk.body | with_reducible apply PanicOk.next | with_reducible apply PanicOk.block)) (OpV.nil rfl) rfl (by kernel_rfl) ?_
  refine TA.takeP (i := 3) (ls := #[true, true, true, true, false, false, false, false, false, false, false, false, false]) rfl rfl rfl rfl rfl (by kernel_rfl) (by kernel_rfl) (by kernel_rfl) (by repeat (first | with_reducible exact PanicOk.body | with_reducible apply PanicOk.next | with_reducible apply PanicOk.block)) (OpV.fieldAddr rfl fo_113_2) rfl (by kernel_rfl) ?_
  refine TA.take (i := 4) (ls := #[true, true, true, true, true, false, false, false, false, false, false, false, false]) rfl rfl rfl rfl rfl (by kernel_rfl) (by kernel_rfl) (by kernel_rfl) (by kernel_rfl) (by repeat (first | with_reducible exact PanicOk.body | with_reducible apply PanicOk.next | with_reducible apply PanicOk.block)) ((.cons (by first | exact P0 | exact P1 | exact P2 | exact P3 | exact P4 | exact P5 | exact P6 | exact P7) (.cons (by first | exact P0 | exact P1 | exact P2 | exact P3 | exact P4 | exact P5 | exact P6 | exact P7) .nil))) (OpV.load pl_35 rfl (by first | exact Cel.blk P0 rfl | exact Cel.blk P1 rfl | exact Cel.blk P2 rfl | exact Cel.blk P3 rfl | exact Cel.blk P4 rfl | exact Cel.blk P5 rfl | exact Cel.blk P6 rfl | exact Cel.blk P7 rfl | exact Cel.frA (hatx _ _ rfl))) rfl (by kernel_rfl) ?_
  refine TA.takeP (i := 5) (ls := #[true, true, true, true, true, true, false, false, false, false, false, false, false]) rfl rfl rfl rfl rfl (by kernel_rfl) (by kernel_rfl) (by kernel_rfl) (by repeat (first | with_reducible exact PanicOk.body | with_reducible apply PanicOk.next | with_reducible apply PanicOk.block)) (OpV.fieldAddr rfl fo_58_3) rfl (by kernel_rfl) ?_
  refine TA.take (i := 6) (ls := #[true, true, true, true, true, true, true, false, false, false, false, false, false]) rfl rfl rfl rfl rfl (by kernel_rfl) (by kernel_rfl) (by kernel_rfl) (by kernel_rfl) (by repeat (first | with_reducible exact PanicOk.body | with_reducible apply PanicOk.next | with_reducible apply PanicOk.block)) ((.cons (by first | exact P0 | exact P1 | exact P2 | exact P3 | exact P4 | exact P5 | exact P6 | exact P7) (.cons (by first | exact P0 | exact P1 | exact P2 | exact P3 | exact P4 | exact P5 | exact P6 | exact P7) .nil))) (OpV.loadA ag_56 rfl (Cels.blkAt x.pen.l (by first | exact P0 | exact P1 | exact P2 | exact P3) rfl rfl)) rfl (by kernel_rfl) ?_
  refine TA.one (i := 7) (ls := #[true, true, true, true, true, true, true, true, false, false, false, false, false]) (by kernel_rfl) rfl (by kernel_rfl) (fun w1 => ?_)
  refine TL.call (g := 89) rfl go_89 rfl (fun wz kz => blank_c x.pen wz) rfl ?_
  refine TL.nil ?_
  refine TA.cont ((.cons (by first | exact P0 | exact P1 | exact P2 | exact P3 | exact P4 | exact P5 | exact P6 | exact P7) (.cons (by first | exact P0 | exact P1 | exact P2 | exact P3 | exact P4 | exact P5 | exact P6 | exact P7) .nil))) ?_
  refine TA.one (i := 8) (ls := #[true, true, true, true, true, true, true, true, true, false, false, false, false]) (by kernel_rfl) rfl (by kernel_rfl) (fun w1 => ?_)
  refine TL.slit (qs := #[(0, _)]) (fun _ f => by simp only [List.map_toArray, List.map_cons, List.map_nil]; rw [f.ev (x := .tmp 50) rfl]) (sl_35_1_0 (blank x.pen)) rfl ?_
  intro b51
  refine TL.nil ?_
  refine TA.cont ((.cons (by first | exact P0 | exact P1 | exact P2 | exact P3 | exact P4 | exact P5 | exact P6 | exact P7) (.cons (by first | exact P0 | exact P1 | exact P2 | exact P3 | exact P4 | exact P5 | exact P6 | exact P7) .nil))) ?_
  refine TA.one (i := 9) (ls := #[true, true, true, true, true, true, true, true, true, true, false, false, false]) (by kernel_rfl) rfl (by kernel_rfl) (fun w1 => ?_)
  obtain ⟨ti52, hi52, hz52, hs52, hb52⟩ := info_parts inf_58
  refine TL.append rfl rfl Tryd.underlying35 hi52 hz52 hs52 hb52 rfl (by omega) (by first | exact P0 | exact P1 | exact P2 | exact P3 | exact P4 | exact P5 | exact P6 | exact P7) (by first | exact Src.nil | exact Src.blk P0 rfl | exact Src.blk P1 rfl | exact Src.blk P2 rfl | exact Src.blk P3 rfl | exact Src.blk P4 rfl | exact Src.blk P5 rfl | exact Src.blk P6 rfl | exact Src.blk P7 rfl | exact Src.row P0 | exact Src.row P1 | exact Src.row P2 | exact Src.row P3 | exact Src.row P4 | exact Src.row P5 | exact Src.row P6 | exact Src.row P7) (fun h => by cases h) rfl (by omega) (by omega) rfl ?_
  clear hi52 hz52 hs52 hb52 ti52
  intro A52 c52 hn52
  refine TL.nil ?_
  refine TA.cont ((.cons (by first | exact P0 | exact P1 | exact P2 | exact P3 | exact P4 | exact P5 | exact P6 | exact P7) (.cons (by first | exact P0 | exact P1 | exact P2 | exact P3 | exact P4 | exact P5 | exact P6 | exact P7) .nil))) ?_
  refine TA.takeP (i := 10) (ls := #[true, true, true, true, true, true, true, true, true, true, true, false, false]) rfl rfl rfl rfl rfl (by kernel_rfl) (by kernel_rfl) (by kernel_rfl) (by repeat (first | with_reducible exact PanicOk.body | with_reducible apply PanicOk.next | with_reducible apply PanicOk.block)) (OpV.nil rfl) rfl (by kernel_rfl) ?_
  refine TA.takeP (i := 11) (ls := #[true, true, true, true, true, true, true, true, true, true, true, true, false]) rfl rfl rfl rfl rfl (by kernel_rfl) (by kernel_rfl) (by kernel_rfl) (by repeat (first | with_reducible exact PanicOk.body | with_reducible apply PanicOk.next | with_reducible apply PanicOk.block)) (OpV.fieldAddr rfl fo_113_2) rfl (by kernel_rfl) ?_
  refine TA.one (i := 12) (ls := #[true, true, true, true, true, true, true, true, true, true, true, true, true]) (by kernel_rfl) rfl (by kernel_rfl) (fun w1 => ?_)
  refine TL.store rfl rfl szz_35 rfl rfl rfl (by first | exact P0 | exact P1 | exact P2 | exact P3 | exact P4 | exact P5 | exact P6 | exact P7) (by first | exact Nat.le_of_ble_eq_true rfl | (simp; done) | (simp; omega)) (by simp only [wrL, putL, List.take_succ_cons, List.take_zero, List.drop_succ_cons, List.drop_zero, List.cons_append, List.nil_append, List.length_cons, List.length_nil, Nat.reduceAdd]; rfl) ?_
  refine TL.nil ?_
  refine TA.bar rfl ?_
  refine TA.done (by kernel_rfl) ?_
  refine TE.sub (.cons (t := 2) rfl <| .cons (t := 8) rfl <| .nil) ?_
  refine TE.next ?_
  refine T.seq ?_
  refine T.region ?_
  refine TL.val (OpV.move rfl) rfl ?_
  refine TL.val (OpV.move rfl) rfl ?_
  refine TL.val (OpV.add rfl rfl (by first | exact IntWalk.i64_in _ ⟨by omega, by omega⟩ | rfl)) rfl ?_
  refine TL.val (OpV.assign rfl) rfl ?_
  refine TL.nil ?_
  refine TE.next ?_
  refine T.ret ?_
  refine TE.ret1 rfl (ResV.tmp rfl) ?_
  intro wz kz
  have hcs : ((xs.take (i + wid x)).drop i).length = m := by rw [hm]; simp; omega
  have hcs2 : ((xs.take (i + wid x)).drop i) = (xs.take (i + m)).drop i := by rw [hm]
  refine ⟨⟨R1, n1, c1, l1, A52, m1 + 1, c52, nw ++ [blank x.pen], τ1⟩, congrArg (fun z => Ending.returned (Value.int .i64 z)) (by omega), ⟨⟨?_, p2, hn52, p4, p5⟩, ?_, ?_, ?_⟩, ?_⟩
  · simp only [List.length_append, p1]; rfl
  · rw [putV, hcs, ← hv1]
    simp only [addV, WS.val, hcs]
    rw [if_pos hcol]
  · simp only; omega
  · simp only; omega
  · simp only [WS.K, fl_snoc]
    exact Perm.kle (.cons (by first | exact P0 | exact P1 | exact P2 | exact P3 | exact P4 | exact P5 | exact P6 | exact P7) (.cons (by first | exact P0 | exact P1 | exact P2 | exact P3 | exact P4 | exact P5 | exact P6 | exact P7) (.cons (by first | exact P0 | exact P1 | exact P2 | exact P3 | exact P4 | exact P5 | exact P6 | exact P7) (.cons (by first | exact P0 | exact P1 | exact P2 | exact P3 | exact P4 | exact P5 | exact P6 | exact P7) (.cons (by first | exact P0 | exact P1 | exact P2 | exact P3 | exact P4 | exact P5 | exact P6 | exact P7) (by first | exact .all | exact .drop .all | exact .drop (.drop .all) | exact .drop (.drop (.drop .all)) | exact .drop (.drop (.drop (.drop .all))) | exact .drop (.drop (.drop (.drop (.drop .all)))))))))) wz kz
 ·
  intro ht42
  have hcol := of_decide_eq_false ht42
  have hfe : fw cols (m : Int) = m := by rw [fw, if_neg hcol]
  refine T.any ([.blk b (wrL cols R1 n1 c1 N1 m1 d1) 113]) [14] mix rfl rfl ?_
  refine TA.takeP (i := 0) (ls := #[true, false, false, false, false, false, false, false, false, false, false, false, false, false, false]) rfl rfl rfl rfl rfl (by kernel_rfl) (by kernel_rfl) (by kernel_rfl) (by repeat (first | with_reducible exact PanicOk.body | with_reducible apply PanicOk.next | with_reducible apply PanicOk.block)) (OpV.move rfl) rfl (by kernel_rfl) ?_
  refine TA.takeP (i := 1) (ls := #[true, true, false, false, false, false, false, false, false, false, false, false, false, false, false]) rfl rfl rfl rfl rfl (by kernel_rfl) (by kernel_rfl) (by kernel_rfl) (by repeat (first | with_reducible exact PanicOk.body | with_reducible apply PanicOk.next | with_reducible apply PanicOk.block)) (OpV.move rfl) rfl (by kernel_rfl) ?_
  refine TA.takeP (i := 2) (ls := #[true, true, true, false, false, false, false, false, false, false, false, false, false, false, false]) rfl rfl rfl rfl rfl (by kernel_rfl) (by kernel_rfl) (by kernel_rfl) (by repeat (first | with_reducible exact PanicOk.body | with_reducible apply PanicOk.next | with_reducible apply PanicOk.block)) (OpV.nil rfl) rfl (by kernel_rfl) ?_
  refine TA.takeP (i := 3) (ls := #[true, true, true, true, false, false, false, false, false, false, false, false, false, false, false]) rfl rfl rfl rfl rfl (by kernel_rfl) (by kernel_rfl) (by kernel_rfl) (by repeat (first | with_reducible exact PanicOk.body | with_reducible apply PanicOk.next | with_reducible apply PanicOk.block)) (OpV.fieldAddr rfl fo_113_2) rfl (by kernel_rfl) ?_
  refine TA.take (i := 4) (ls := #[true, true, true, true, true, false, false, false, false, false, false, false, false, false, false]) rfl rfl rfl rfl rfl (by kernel_rfl) (by kernel_rfl) (by kernel_rfl) (by kernel_rfl) (by repeat (first | with_reducible exact PanicOk.body | with_reducible apply PanicOk.next | with_reducible apply PanicOk.block)) ((.cons (by first | exact P0 | exact P1 | exact P2 | exact P3 | exact P4 | exact P5 | exact P6 | exact P7) .nil)) (OpV.load pl_35 rfl (by first | exact Cel.blk P0 rfl | exact Cel.blk P1 rfl | exact Cel.blk P2 rfl | exact Cel.blk P3 rfl | exact Cel.blk P4 rfl | exact Cel.blk P5 rfl | exact Cel.blk P6 rfl | exact Cel.blk P7 rfl | exact Cel.frA (hatx _ _ rfl))) rfl (by kernel_rfl) ?_
  refine TA.takeP (i := 5) (ls := #[true, true, true, true, true, true, false, false, false, false, false, false, false, false, false]) rfl rfl rfl rfl rfl (by kernel_rfl) (by kernel_rfl) (by kernel_rfl) (by repeat (first | with_reducible exact PanicOk.body | with_reducible apply PanicOk.next | with_reducible apply PanicOk.block)) (OpV.move rfl) rfl (by kernel_rfl) ?_
  refine TA.takeP (i := 6) (ls := #[true, true, true, true, true, true, true, false, false, false, false, false, false, false, false]) rfl rfl rfl rfl rfl (by kernel_rfl) (by kernel_rfl) (by kernel_rfl) (by repeat (first | with_reducible exact PanicOk.body | with_reducible apply PanicOk.next | with_reducible apply PanicOk.block)) (OpV.move rfl) rfl (by kernel_rfl) ?_
  refine TA.takeP (i := 7) (ls := #[true, true, true, true, true, true, true, true, false, false, false, false, false, false, false]) rfl rfl rfl rfl rfl (by kernel_rfl) (by kernel_rfl) (by kernel_rfl) (by repeat (first | with_reducible exact PanicOk.body | with_reducible apply PanicOk.next | with_reducible apply PanicOk.block)) (OpV.move rfl) rfl (by kernel_rfl) ?_
  refine TA.takeP (i := 8) (ls := #[true, true, true, true, true, true, true, true, true, false, false, false, false, false, false]) rfl rfl rfl rfl rfl (by kernel_rfl) (by kernel_rfl) (by kernel_rfl) (by repeat (first | with_reducible exact PanicOk.body | with_reducible apply PanicOk.next | with_reducible apply PanicOk.block)) (OpV.move rfl) rfl (by kernel_rfl) ?_
  refine TA.takeP (i := 9) (ls := #[true, true, true, true, true, true, true, true, true, true, false, false, false, false, false]) rfl rfl rfl rfl rfl (by kernel_rfl) (by kernel_rfl) (by kernel_rfl) (by repeat (first | with_reducible exact PanicOk.body | with_reducible apply PanicOk.next | with_reducible apply PanicOk.block)) (OpV.add rfl rfl (by first | exact IntWalk.i64_in _ ⟨by omega, by omega⟩ | rfl)) rfl (by kernel_rfl) ?_
  refine TA.takeP (i := 10) (ls := #[true, true, true, true, true, true, true, true, true, true, true, false, false, false, false]) rfl rfl rfl rfl rfl (by kernel_rfl) (by kernel_rfl) (by kernel_rfl) (by repeat (first | with_reducible exact PanicOk.body | with_reducible apply PanicOk.next | with_reducible apply PanicOk.block)) (OpV.sliceLH (lo := i) (hi := i + m) se_35 rfl rfl rfl rfl (by omega) (by omega) (by omega)) rfl (by kernel_rfl) ?_
  refine TA.said (t := 65) rfl (show _ = Value.slice (subA A c i 16) m (c - i) by rw [Nat.add_sub_cancel_left]) ?_
  have hcsr : CsR σ (subA A c i 16) m (c - i) ((xs.take (i + m)).drop i) := by have h9 := h.slice (lo := i) (hi := i + m) (by omega) (by omega); rwa [Nat.add_sub_cancel_left] at h9
  refine TA.one (i := 11) (ls := #[true, true, true, true, true, true, true, true, true, true, true, true, false, false, false]) (by kernel_rfl) rfl (by kernel_rfl) (fun w1 => ?_)
  obtain ⟨ti66, hi66, hz66, hs66, hb66⟩ := info_parts inf_58
  refine TL.append rfl rfl Tryd.underlying35 hi66 hz66 hs66 hb66 rfl (by omega) (by first | exact P0 | exact P1 | exact P2 | exact P3 | exact P4 | exact P5 | exact P6 | exact P7) (Src.cs (by first | exact P0 | exact P1 | exact P2 | exact P3 | exact P4 | exact P5 | exact P6 | exact P7) hcsr) (fun h9 => hcsr.2.2.2.1 h9) (one_fl _) (by omega) (by omega) rfl ?_
  clear hi66 hz66 hs66 hb66 ti66
  intro A66 c66 hn66
  refine TL.nil ?_
  refine TA.cont ((.cons (by first | exact P0 | exact P1 | exact P2 | exact P3 | exact P4 | exact P5 | exact P6 | exact P7) .nil)) ?_
  refine TA.takeP (i := 12) (ls := #[true, true, true, true, true, true, true, true, true, true, true, true, true, false, false]) rfl rfl rfl rfl rfl (by kernel_rfl) (by kernel_rfl) (by kernel_rfl) (by repeat (first | with_reducible exact PanicOk.body | with_reducible apply PanicOk.next | with_reducible apply PanicOk.block)) (OpV.nil rfl) rfl (by kernel_rfl) ?_
  refine TA.takeP (i := 13) (ls := #[true, true, true, true, true, true, true, true, true, true, true, true, true, true, false]) rfl rfl rfl rfl rfl (by kernel_rfl) (by kernel_rfl) (by kernel_rfl) (by repeat (first | with_reducible exact PanicOk.body | with_reducible apply PanicOk.next | with_reducible apply PanicOk.block)) (OpV.fieldAddr rfl fo_113_2) rfl (by kernel_rfl) ?_
  refine TA.one (i := 14) (ls := #[true, true, true, true, true, true, true, true, true, true, true, true, true, true, true]) (by kernel_rfl) rfl (by kernel_rfl) (fun w1 => ?_)
  refine TL.store rfl rfl szz_35 rfl rfl rfl (by first | exact P0 | exact P1 | exact P2 | exact P3 | exact P4 | exact P5 | exact P6 | exact P7) (by first | exact Nat.le_of_ble_eq_true rfl | (simp; done) | (simp; omega)) (by simp only [wrL, putL, List.take_succ_cons, List.take_zero, List.drop_succ_cons, List.drop_zero, List.cons_append, List.nil_append, List.length_cons, List.length_nil, Nat.reduceAdd]; rfl) ?_
  refine TL.nil ?_
  refine TA.bar rfl ?_
  refine TA.done (by kernel_rfl) ?_
  refine TE.sub (.cons (t := 2) rfl <| .cons (t := 8) rfl <| .nil) ?_
  refine TE.next ?_
  refine T.seq ?_
  refine T.region ?_
  refine TL.val (OpV.move rfl) rfl ?_
  refine TL.val (OpV.move rfl) rfl ?_
  refine TL.val (OpV.add rfl rfl (by first | exact IntWalk.i64_in _ ⟨by omega, by omega⟩ | rfl)) rfl ?_
  refine TL.val (OpV.assign rfl) rfl ?_
  refine TL.nil ?_
  refine TE.next ?_
  refine T.ret ?_
  refine TE.ret1 rfl (ResV.tmp rfl) ?_
  intro wz kz
  have hcs : ((xs.take (i + wid x)).drop i).length = m := by rw [hm]; simp; omega
  have hcs2 : ((xs.take (i + wid x)).drop i) = (xs.take (i + m)).drop i := by rw [hm]
  refine ⟨⟨R1, n1, c1, l1, A66, m1 + m, c66, nw ++ ((xs.take (i + m)).drop i), τ1⟩, congrArg (fun z => Ending.returned (Value.int .i64 z)) (by omega), ⟨⟨?_, p2, hn66, p4, p5⟩, ?_, ?_, ?_⟩, ?_⟩
  · simp only [List.length_append, p1]; rw [← hcs2, hcs]
  · rw [putV, hcs, ← hv1]
    simp only [addV, WS.val, hcs]
    rw [if_neg hcol, hcs2]
  · simp only; omega
  · simp only; omega
  · simp only [WS.K, fl_append]
    exact Perm.kle (.cons (by first | exact P0 | exact P1 | exact P2 | exact P3 | exact P4 | exact P5 | exact P6 | exact P7) (.cons (by first | exact P0 | exact P1 | exact P2 | exact P3 | exact P4 | exact P5 | exact P6 | exact P7) (.cons (by first | exact P0 | exact P1 | exact P2 | exact P3 | exact P4 | exact P5 | exact P6 | exact P7) (.cons (by first | exact P0 | exact P1 | exact P2 | exact P3 | exact P4 | exact P5 | exact P6 | exact P7) (.cons (by first | exact P0 | exact P1 | exact P2 | exact P3 | exact P4 | exact P5 | exact P6 | exact P7) (by first | exact .all | exact .drop .all | exact .drop (.drop .all) | exact .drop (.drop (.drop .all)) | exact .drop (.drop (.drop (.drop .all))) | exact .drop (.drop (.drop (.drop (.drop .all)))))))))) wz kz
set_option maxRecDepth 100000 in
set_option maxHeartbeats 1000000 in
theorem wrapw_c {σ : Nat → Option Obj} {A : Option Addr} {n c : Nat} {xs : List Cl} (w : World) (cols : Int) (L : LaidW w) (h : CsR σ A n c xs) (hs : ∀ b o, σ b = some o → w.heap[b]? = some o) : Calls Tryd.prog 36 #[.slice A n c, .int .i64 cols] w (fun e w' => ∃ v : SV, e = .returned (.tuple #[v.v, .int .i64 (rowsE xs cols)]) ∧ LsRW 58 v.σ cols.toNat v.A v.n v.c (wrapV xs cols) ∧ KOk w [.own v.σ] w') := by
 have hn63 := h.2.1
 have hc63 := h.2.2.1
 have hl1 := h.1
 refine calls_T (vs := [.slice A n c, .int .i64 cols]) (L0 := [(0, .slice A n c), (1, .int .i64 cols)]) Tryd.func36 rfl rfl rfl rfl (KOk.fr1 hs) ?_
 refine T.seq ?_
 refine T.region ?_
 refine TL.val (OpV.assign rfl) rfl ?_
 refine TL.val (OpV.assign rfl) rfl ?_
 refine TL.nil ?_
 refine TE.next ?_
 refine T.seq ?_
 refine T.seq ?_
 refine T.region ?_
 refine TL.val (OpV.move rfl) rfl ?_
 refine TL.val (OpV.move rfl) rfl ?_
 refine TL.call (g := 65) rfl go_65 rfl (fun w1 k1 => wvalid_c w1 cols (L.below k1.bel) h (k1.get (e := .fr σ) (by first | exact P0 | exact P1 | exact P2 | exact P3))) rfl ?_
 refine TL.val (OpV.not rfl) rfl ?_
 refine TL.nil ?_
 refine TE.next ?_
 refine T.cond rfl ?_ ?_
 ·
  intro ht11
  have hv9 : vW xs cols = false := by simpa using ht11
  refine T.seq ?_
  refine T.region ?_
  refine TL.val (OpV.assign rfl) rfl ?_
  refine TL.val (OpV.assign rfl) rfl ?_
  refine TL.nil ?_
  refine TE.next ?_
  refine T.ret ?_
  refine TE.pass_ret ?_
  refine TE.retN rfl (.cons (ResV.tmp rfl) <| .cons (ResV.tmp rfl) <| .nil) ?_
  exact fun wz kz => ⟨⟨none, 0, 0, fun _ => none⟩, by rw [rowsE, hv9]; rfl, ⟨[], LsW.nil, by rw [wrapV, hv9]; rfl⟩, Perm.kle (.cons .here .nil) wz (KOk.ownNil kz)⟩
 ·
  intro ht11
  have hv9 : vW xs cols = true := by simpa using ht11
  have hv := vW_parts hv9
  refine T.skip ?_
  refine TE.next ?_
  refine T.seq ?_
  refine T.region ?_
  refine TL.val (OpV.move rfl) rfl ?_
  refine TL.val (OpV.build (qs := #[(0, _)]) (fun _ f => by simp only [List.map_toArray, List.map_cons, List.map_nil]; rw [f.ev (x := .tmp 12) rfl]) (bld_113_0 _ )) rfl ?_
  refine TL.boxA rfl rfl ?_
  intro b14
  refine TL.val (OpV.assign rfl) rfl ?_
  refine TL.nil ?_
  refine TE.sub (.cons (t := 0) rfl <| .cons (t := 6) rfl <| .nil) ?_
  refine TE.next ?_
  refine T.seq ?_
  refine T.seq ?_
  refine T.region ?_
  refine TL.val (OpV.assign rfl) rfl ?_
  refine TL.nil ?_
  refine TE.next ?_
  refine T.block ?_
  refine T.loop (ι := Nat × WS) (fun ⟨i, s1⟩ => s1.ok cols.toNat ∧ i ≤ n ∧ wrapG cols s1.val (xs.drop i) = wrapG cols ([], []) xs ∧ rowR (xs.drop i) = true ∧ (s1.nN : Int) ≤ cols ∧ s1.nR ≤ i) (fun ⟨i, s1⟩ => (n - i)) (fun ⟨i, s1⟩ => [(0, .slice A n c), (6, .pointer (some ⟨b14, 0, none⟩)), (7, .int .i64 (i : Int))]) (fun ⟨i, s1⟩ => s1.K cols b14 [.fr σ]) (0, WS.mk none 0 0 [] none 0 0 [] (fun _ => none)) ⟨⟨rfl, rfl, fun _ => rfl, fun _ => rfl, WR.nil⟩, Nat.zero_le _, rfl, hv.2.2, by simp only; omega, Nat.zero_le _⟩ (.cons (t := 0) rfl <| .cons (t := 6) rfl <| .cons (t := 7) rfl <| .nil) ((fun wz kz => Perm.kle (K := .row 58 16 none 0 0 [] :: .row 65 2 none 0 0 [] :: .own (fun _ => none) :: _) (.cons (by first | exact P0 | exact P1 | exact P2 | exact P3 | exact P4 | exact P5 | exact P6 | exact P7) (.cons (by first | exact P0 | exact P1 | exact P2 | exact P3 | exact P4 | exact P5 | exact P6 | exact P7) (.cons (by first | exact P0 | exact P1 | exact P2 | exact P3 | exact P4 | exact P5 | exact P6 | exact P7) (.cons (by first | exact P0 | exact P1 | exact P2 | exact P3 | exact P4 | exact P5 | exact P6 | exact P7) (by first | exact .all | exact .drop .all | exact .drop (.drop .all) | exact .drop (.drop (.drop .all)) | exact .drop (.drop (.drop (.drop .all))) | exact .drop (.drop (.drop (.drop (.drop .all))))))))) wz (Kle.nilRow 58 16 wz (Kle.nilRow 65 2 wz (KOk.ownNil kz))))) ?_
  rintro ⟨i, s1⟩ hR
  refine T.seq ?_
  refine T.seq ?_
  refine T.region ?_
  refine TL.val (OpV.move rfl) rfl ?_
  refine TL.val (OpV.move rfl) rfl ?_
  refine TL.val (OpV.len Tryd.underlying35 rfl) rfl ?_
  refine TL.val (OpV.lss rfl rfl) rfl ?_
  refine TL.nil ?_
  refine TE.next ?_
  refine T.cond rfl ?_ ?_
  ·
   intro ht18
   obtain ⟨ok, q1, q2, q3, q4, q5⟩ := hR
   have hi : i < n := by have h9 := of_decide_eq_true ht18; omega
   obtain ⟨x, hx⟩ := get_of_lt h.1 hi
   obtain ⟨g1, g2, g3⟩ := wrapG_drop (cols := cols) s1.val hx q3
   have hw2 : wid x = 1 ∨ wid x = 2 := by rw [wid]; split <;> simp
   refine T.skip ?_
   refine TE.next ?_
   refine T.block ?_
   refine T.region ?_
   refine TL.val (OpV.move rfl) rfl ?_
   refine TL.val (OpV.move rfl) rfl ?_
   refine TL.val (OpV.move rfl) rfl ?_
   refine TL.callx (g := 67) rfl go_67 rfl (fun wz kz => wput_c (b := b14) (Kf := []) h i x hx (by omega) s1 wz kz ok (by omega) hv.1) rfl ?_
   rintro s2 ⟨ok2, hv2, hb1, hb2⟩
   refine TL.val (OpV.assign rfl) rfl ?_
   refine TL.nil ?_
   refine TE.out ?_
   exact TE.meet (i + wid x, s2) ⟨⟨ok2, by omega, by rw [hv2, ← g3]; exact q2, g2, by omega, by omega⟩, by simp only; omega⟩ (.cons (t := 0) (by first | rfl | (simp [lk]; done)) <| .cons (t := 6) (by first | rfl | (simp [lk]; done)) <| .cons (t := 7) (by first | rfl | (simp [lk]; done)) <| .nil) (Kle.refl)
  ·
   intro ht18
   obtain ⟨ok, q1, q2, q3, q4, q5⟩ := hR
   have hin : i = n := by have h9 := of_decide_eq_false ht18; omega
   rw [hin, ← hl1, List.drop_length, wrapG] at q2
   refine T.exit ?_
   refine TE.pass_exit ?_
   refine TE.pass_exit ?_
   refine TE.here ?_
   refine TE.next ?_
   refine T.seq ?_
   refine T.region ?_
   refine TL.val (OpV.move rfl) rfl ?_
   refine TL.callx (g := 68) rfl go_68 rfl (fun wz kz => wend_c (b := b14) (Kf := [.fr σ]) false s1 wz kz ok (by omega) hv.1) rfl ?_
   rintro ⟨R1, n1, c1, l1, N1, m1, d1, nw, τ1⟩ ⟨⟨p1, p2, p3, p4, p5⟩, hv2⟩
   refine TL.nil ?_
   refine TE.sub (.cons (t := 6) rfl <| .nil) ?_
   refine TE.next ?_
   refine T.seq ?_
   refine T.region ?_
   refine TL.val (OpV.move rfl) rfl ?_
   refine TL.val (OpV.nil rfl) rfl ?_
   refine TL.val (OpV.fieldAddr rfl fo_113_1) rfl ?_
   refine TL.val (OpV.load pl_22 rfl (by first | exact Cel.blk P0 rfl | exact Cel.blk P1 rfl | exact Cel.blk P2 rfl | exact Cel.blk P3 rfl | exact Cel.blk P4 rfl | exact Cel.blk P5 rfl | exact Cel.blk P6 rfl | exact Cel.blk P7 rfl)) rfl ?_
   refine TL.val (OpV.assign rfl) rfl ?_
   refine TL.val (OpV.assign rfl) rfl ?_
   refine TL.nil ?_
   refine TE.next ?_
   refine T.ret ?_
   refine TE.retN rfl (.cons (ResV.tmp rfl) <| .cons (ResV.tmp rfl) <| .nil) ?_
   intro wz kz
   have hn1 : 0 < n1 := by have h9 := congrArg (fun z => z.1.length) hv2; simp [WS.val, endV] at h9; simp only at p2; omega
   obtain ⟨bq, csq, ρ, ⟨r1, r2, r4, r5, r6, r7⟩, k2⟩ := rowIntoW (e := 65) (z := 2) (A := R1) (m := n1) (c := c1) (xs := fll l1) (τ := τ1) kz (by first | exact P0 | exact P1 | exact P2 | exact P3 | exact P4 | exact P5 | exact P6 | exact P7) (by first | exact P0 | exact P1 | exact P2 | exact P3 | exact P4 | exact P5 | exact P6 | exact P7) hn1
   refine ⟨⟨R1, n1, c1, ρ⟩, by rw [rowsE, hv9]; rfl, ⟨l1, LsW.of_rows p5 r7 r1 r6 (SlR.of_row LnA.l_length r2 p2), ?_⟩, Perm.kle (.cons .here .nil) wz k2⟩
   rw [wrapV, hv9, if_pos rfl, ← q2, ← hv2]
   rfl
end Go.Proofs.YtdmpodpdpncobaaDoor
