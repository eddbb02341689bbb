/-
  The walks of add, each and Lines. Condition: the package-level tables hold what they were laid with.
-/
import Derived.Test.YtdmpodpdpncobaaDoorRfl
import Derived.Test.YtdmpodpdpncobaaDoorWg
namespace Go.Proofs.YtdmpodpdpncobaaDoor
open Go.RowKit
set_option linter.unusedSimpArgs false
set_option linter.unusedVariables false
theorem fo_118_0 : fOff Tryd.prog 118 0 = some 0 := by kernel_rfl
theorem fo_118_1 : fOff Tryd.prog 118 1 = some 1 := by kernel_rfl
theorem go_36 : isGo Tryd.prog 36 = true := by kernel_rfl
theorem go_71 : isGo Tryd.prog 71 = true := by kernel_rfl
theorem go_72 : isGo Tryd.prog 72 = true := by kernel_rfl
theorem bld_118_1 (x : Int) (w : World) : (Instr.build 118 #[(1, .int .i64 x)]).run Tryd.prog w = .ok (.agg (flL none 0 0 x).toArray) w := by kernel_rfl
set_option maxRecDepth 100000 in
set_option maxHeartbeats 1000000 in
theorem fadd_c {w0 : World} {Kf : List Ent} {υ τ : Nat → Option Obj} {b n c : Nat} {A : Option Addr} {ls : List LnA} {cols : Int} (x : LgA) (w : World) (L : LaidW w0) (k : KOk w0 (.blk b (flL A n c cols) 118 :: .row 65 2 A n c (fll ls) :: .own τ :: .fr υ :: Kf) w) (hr : WR 58 τ cols.toNat ls) (hn : ls.length = n) (hb : n ≤ 1000000000000) (hx : CsR υ x.A x.n x.c x.cells) (hxb : x.cells.length ≤ 20000000) (hv : vW x.cells cols = true) : Calls Tryd.prog 72 #[.pointer (some ⟨b, 0, none⟩), .agg x.l.toArray] w (fun e w' => ∃ v : FV, e = .returned (.int .i64 0) ∧ (v.ls.map LnA.ln = ls.map LnA.ln ++ wrapV x.cells cols ∧ WR 58 v.σ cols.toNat v.ls ∧ (v.A = none → v.c = 0) ∧ (v.ls.length : Int) = (n : Int) + rowsV x.cells cols) ∧ KOk w0 (.blk b (flL v.A v.ls.length v.c cols) 118 :: .row 65 2 v.A v.ls.length v.c (fll v.ls) :: .own v.σ :: .fr υ :: Kf) w') := by
 refine calls_T (vs := [.pointer (some ⟨b, 0, none⟩), .agg x.l.toArray]) (L0 := [(0, .pointer (some ⟨b, 0, none⟩)), (1, .agg x.l.toArray)]) Tryd.func72 rfl rfl rfl rfl (k) ?_
 refine T.seq ?_
 refine T.region ?_
 refine TL.boxA rfl rfl ?_
 intro b3
 refine TL.val (OpV.assign rfl) rfl ?_
 refine TL.nil ?_
 refine TE.next ?_
 refine T.seq ?_
 refine T.any ([.blk b3 x.l 37, .blk b (flL A n c cols) 118]) [] mix rfl rfl ?_
 refine TA.takeP (i := 0) (ls := #[true, false, false, false, false, false, false, false, false, false, false, false]) rfl rfl rfl rfl rfl (by kernel_rfl) (by kernel_rfl) (by kernel_rfl) (by repeat (first | with_reducible exact PanicOk.body | with_reducible apply PanicOk.next | with_reducible apply PanicOk.block)) (OpV.fieldAddr rfl fo_37_0) rfl (by kernel_rfl) ?_
 refine TA.take (i := 1) (ls := #[true, true, false, false, false, false, false, false, false, false, false, false]) rfl rfl rfl rfl rfl (by kernel_rfl) (by kernel_rfl) (by kernel_rfl) (by kernel_rfl) (by repeat (first | with_reducible exact PanicOk.body | with_reducible apply PanicOk.next | with_reducible apply PanicOk.block)) ((.cons (by first | exact P0 | exact P1 | exact P2 | exact P3 | exact P4 | exact P5 | exact P6 | exact P7) (.cons (by first | exact P0 | exact P1 | exact P2 | exact P3 | exact P4 | exact P5 | exact P6 | exact P7) .nil))) (OpV.load pl_35 rfl (by first | exact Cel.blk P0 rfl | exact Cel.blk P1 rfl | exact Cel.blk P2 rfl | exact Cel.blk P3 rfl | exact Cel.blk P4 rfl | exact Cel.blk P5 rfl | exact Cel.blk P6 rfl | exact Cel.blk P7 rfl)) rfl (by kernel_rfl) ?_
 refine TA.takeP (i := 2) (ls := #[true, true, true, false, false, false, false, false, false, false, false, false]) rfl rfl rfl rfl rfl (by kernel_rfl) (by kernel_rfl) (by kernel_rfl) (by repeat (first | with_reducible exact PanicOk.body | with_reducible apply PanicOk.next | with_reducible apply PanicOk.block)) (OpV.move rfl) rfl (by kernel_rfl) ?_
 refine TA.takeP (i := 3) (ls := #[true, true, true, true, false, false, false, false, false, false, false, false]) rfl rfl rfl rfl rfl (by kernel_rfl) (by kernel_rfl) (by kernel_rfl) (by repeat (first | with_reducible exact PanicOk.body | with_reducible apply PanicOk.next | with_reducible apply PanicOk.block)) (OpV.nil rfl) rfl (by kernel_rfl) ?_
 refine TA.takeP (i := 4) (ls := #[true, true, true, true, true, false, false, false, false, false, false, false]) rfl rfl rfl rfl rfl (by kernel_rfl) (by kernel_rfl) (by kernel_rfl) (by repeat (first | with_reducible exact PanicOk.body | with_reducible apply PanicOk.next | with_reducible apply PanicOk.block)) (OpV.fieldAddr rfl fo_118_1) rfl (by kernel_rfl) ?_
 refine TA.take (i := 5) (ls := #[true, true, true, true, true, true, false, false, false, false, false, false]) rfl rfl rfl rfl rfl (by kernel_rfl) (by kernel_rfl) (by kernel_rfl) (by kernel_rfl) (by repeat (first | with_reducible exact PanicOk.body | with_reducible apply PanicOk.next | with_reducible apply PanicOk.block)) ((.cons (by first | exact P0 | exact P1 | exact P2 | exact P3 | exact P4 | exact P5 | exact P6 | exact P7) (.cons (by first | exact P0 | exact P1 | exact P2 | exact P3 | exact P4 | exact P5 | exact P6 | exact P7) .nil))) (OpV.load pl_3 rfl (by first | exact Cel.blk P0 rfl | exact Cel.blk P1 rfl | exact Cel.blk P2 rfl | exact Cel.blk P3 rfl | exact Cel.blk P4 rfl | exact Cel.blk P5 rfl | exact Cel.blk P6 rfl | exact Cel.blk P7 rfl)) rfl (by kernel_rfl) ?_
 refine TA.one (i := 6) (ls := #[true, true, true, true, true, true, true, false, false, false, false, false]) (by kernel_rfl) rfl (by kernel_rfl) (fun w1 => ?_)
 refine TL.callx (g := 36) rfl go_36 rfl (fun wz k1 => own_x k1 (wrapw_c wz cols (L.below k1.bel) hx (k1.get (e := .fr υ) (by first | exact P0 | exact P1 | exact P2 | exact P3 | exact P4 | exact P5 | exact P6 | exact P7)))) rfl ?_
 rintro ⟨A5, n5, c5, σ5⟩ ⟨ls5, h5, h5e⟩
 replace h5 : LsW 58 σ5 cols.toNat A5 n5 c5 ls5 := h5
 refine TL.said (t := 14) rfl (show _ = Value.tuple #[.slice A5 n5 c5, .int .i64 0] by rw [rowsE, hv]; rfl) ?_
 have h51 := h5.1.1
 have h52 := h5.1.2.1
 have h53 := h5.1.2.2.1
 have hw5 := wrapV_len hv
 have hr5 := rowsV_len x.cells cols
 rw [← h5e, List.length_map, h51] at hw5
 refine TL.nil ?_
 refine TA.cont ((.cons (by first | exact P0 | exact P1 | exact P2 | exact P3 | exact P4 | exact P5 | exact P6 | exact P7) (.cons (by first | exact P0 | exact P1 | exact P2 | exact P3 | exact P4 | exact P5 | exact P6 | exact P7) .nil))) ?_
 refine TA.takeP (i := 7) (ls := #[true, true, true, true, true, true, true, true, false, false, false, false]) rfl rfl rfl rfl rfl (by kernel_rfl) (by kernel_rfl) (by kernel_rfl) (by repeat (first | with_reducible exact PanicOk.body | with_reducible apply PanicOk.next | with_reducible apply PanicOk.block)) (OpV.move rfl) rfl (by kernel_rfl) ?_
 refine TA.takeP (i := 8) (ls := #[true, true, true, true, true, true, true, true, true, false, false, false]) rfl rfl rfl rfl rfl (by kernel_rfl) (by kernel_rfl) (by kernel_rfl) (by repeat (first | with_reducible exact PanicOk.body | with_reducible apply PanicOk.next | with_reducible apply PanicOk.block)) (OpV.extract rfl rfl) rfl (by kernel_rfl) ?_
 refine TA.takeP (i := 9) (ls := #[true, true, true, true, true, true, true, true, true, true, false, false]) rfl rfl rfl rfl rfl (by kernel_rfl) (by kernel_rfl) (by kernel_rfl) (by repeat (first | with_reducible exact PanicOk.body | with_reducible apply PanicOk.next | with_reducible apply PanicOk.block)) (OpV.extract rfl rfl) rfl (by kernel_rfl) ?_
 refine TA.takeP (i := 10) (ls := #[true, true, true, true, true, true, true, true, true, true, true, false]) rfl rfl rfl rfl rfl (by kernel_rfl) (by kernel_rfl) (by kernel_rfl) (by repeat (first | with_reducible exact PanicOk.body | with_reducible apply PanicOk.next | with_reducible apply PanicOk.block)) (OpV.assign rfl) rfl (by kernel_rfl) ?_
 refine TA.takeP (i := 11) (ls := #[true, true, true, true, true, true, true, true, true, true, true, true]) rfl rfl rfl rfl rfl (by kernel_rfl) (by kernel_rfl) (by kernel_rfl) (by repeat (first | with_reducible exact PanicOk.body | with_reducible apply PanicOk.next | with_reducible apply PanicOk.block)) (OpV.assign rfl) rfl (by kernel_rfl) ?_
 refine TA.done (by kernel_rfl) ?_
 refine TE.sub (.cons (t := 0) rfl <| .cons (t := 5) rfl <| .cons (t := 6) rfl <| .nil) ?_
 refine TE.next ?_
 refine T.seq ?_
 refine T.seq ?_
 refine T.region ?_
 refine TL.val (OpV.move rfl) rfl ?_
 refine TL.val (OpV.neq rfl rfl) rfl ?_
 refine TL.said (t := 18) rfl (show _ = Value.bool false from congrArg Value.bool (rfl)) ?_
 refine TL.nil ?_
 refine TE.next ?_
 refine T.no rfl ?_
 refine T.skip ?_
 refine TE.next ?_
 refine T.seq ?_
 refine T.region ?_
 refine TL.val (OpV.move rfl) rfl ?_
 refine TL.val (OpV.move rfl) rfl ?_
 refine TL.val (OpV.nil rfl) rfl ?_
 refine TL.val (OpV.fieldAddr rfl fo_118_0) rfl ?_
 refine TL.val (OpV.load pl_22 rfl (by first | exact Cel.blk P0 rfl | exact Cel.blk P1 rfl | exact Cel.blk P2 rfl | exact Cel.blk P3 rfl | exact Cel.blk P4 rfl | exact Cel.blk P5 rfl | exact Cel.blk P6 rfl | exact Cel.blk P7 rfl)) rfl ?_
 refine TL.val (OpV.move rfl) rfl ?_
 obtain ⟨ti26, hi26, hz26, hs26, hb26⟩ := info_parts inf_65
 refine TL.append rfl rfl Tryd.underlying22 hi26 hz26 hs26 hb26 rfl (by omega) (by first | exact P0 | exact P1 | exact P2 | exact P3 | exact P4 | exact P5 | exact P6 | exact P7) (Src.slK LnA.l_length (by decide) (fun w k1 => (fun b o hb => (k1.get (e := .own σ5) (by first | exact P0 | exact P1 | exact P2 | exact P3 | exact P4 | exact P5 | exact P6 | exact P7) b o hb).2)) h5.1) (fun h9 => h5.1.2.2.2.1 h9) (oneC_fll _) (by omega) (by omega) rfl ?_
 clear hi26 hz26 hs26 hb26 ti26
 intro A26 c26 hn26
 refine TL.val (OpV.nil rfl) rfl ?_
 refine TL.val (OpV.fieldAddr rfl fo_118_0) rfl ?_
 refine TL.store rfl rfl szz_22 rfl rfl rfl (by first | exact P0 | exact P1 | exact P2 | exact P3 | exact P4 | exact P5 | exact P6 | exact P7) (by first | exact Nat.le_of_ble_eq_true rfl | (simp; done) | (simp; omega)) (by simp only [flL, LgA.l, putL, List.take_succ_cons, List.take_zero, List.drop_succ_cons, List.drop_zero, List.cons_append, List.nil_append, List.length_cons, List.length_nil, Nat.reduceAdd]; rfl) ?_
 refine TL.nil ?_
 refine TE.sub (.nil) ?_
 refine TE.next ?_
 refine T.seq ?_
 refine T.region ?_
 refine TL.val (OpV.assign rfl) rfl ?_
 refine TL.nil ?_
 refine TE.next ?_
 refine T.ret ?_
 refine TE.ret1 rfl (ResV.tmp rfl) ?_
 intro wz kz
 obtain ⟨π, ⟨f1, f2, f3⟩, k2⟩ := own2d ((kz.pick (e := .own σ5) (by first | exact P0 | exact P1 | exact P2 | exact P3 | exact P4 | exact P5 | exact P6 | exact P7)).pick (e := .own τ) (by first | exact P0 | exact P1 | exact P2 | exact P3 | exact P4 | exact P5 | exact P6 | exact P7))
 refine ⟨⟨A26, c26, ls ++ ls5, π⟩, rfl, ⟨by rw [List.map_append, h5e], hr.app h5.2.1 f1 f2 f3, hn26, by rw [List.length_append]; omega⟩, ?_⟩
 simp only [List.length_append, fll_append, hn, h51]
 exact Perm.kle (.cons (by first | exact P0 | exact P1 | exact P2 | exact P3 | exact P4 | exact P5 | exact P6 | exact P7) (.cons (by first | exact P0 | exact P1 | exact P2 | exact P3 | exact P4 | exact P5 | exact P6 | exact P7) (.cons (by first | exact P0 | exact P1 | exact P2 | exact P3 | exact P4 | exact P5 | exact P6 | exact P7) (.drop .all)))) wz k2
set_option maxRecDepth 100000 in
set_option maxHeartbeats 1000000 in
theorem feach_c {w0 : World} {Kf : List Ent} {υ : Nat → Option Obj} {b n2 c2 : Nat} {A2 : Option Addr} {gs : List LgA} {cols : Int} (w : World) (L : LaidW w0) (k : KOk w0 (.blk b (flL none 0 0 cols) 118 :: .fr υ :: Kf) w) (h2 : GsA υ A2 n2 c2 gs) (hn2 : n2 ≤ 20000) (hb : ∀ g ∈ (gs.map LgA.lg), g.cells.length ≤ 20000000) (hv : ∀ g ∈ (gs.map LgA.lg), vW g.cells cols = true) : Calls Tryd.prog 71 #[.pointer (some ⟨b, 0, none⟩), .func (.func 72) #[] #[], .slice A2 n2 c2] w (fun e w' => ∃ v : FV, e = .returned (.int .i64 0) ∧ (v.ls.map LnA.ln = flowV (gs.map LgA.lg) cols ∧ WR 58 v.σ cols.toNat v.ls ∧ (v.A = none → v.c = 0) ∧ (v.ls.length : Int) = rwS cols (gs.map LgA.lg)) ∧ KOk w0 (.blk b (flL v.A v.ls.length v.c cols) 118 :: .row 65 2 v.A v.ls.length v.c (fll v.ls) :: .own v.σ :: .fr υ :: Kf) w') := by
 have hn64 := h2.1.2.1
 have hc64 := h2.1.2.2.1
 refine calls_T (vs := [.pointer (some ⟨b, 0, none⟩), .func (.func 72) #[] #[], .slice A2 n2 c2]) (L0 := [(0, .pointer (some ⟨b, 0, none⟩)), (1, .func (.func 72) #[] #[]), (2, .slice A2 n2 c2)]) Tryd.func71 rfl rfl rfl rfl (k) ?_
 refine T.seq ?_
 refine T.region ?_
 refine TL.val (OpV.assign rfl) rfl ?_
 refine TL.nil ?_
 refine TE.next ?_
 refine T.seq ?_
 refine T.seq ?_
 refine T.region ?_
 refine TL.val (OpV.move rfl) rfl ?_
 refine TL.val (OpV.len Tryd.underlying34 rfl) rfl ?_
 refine TL.val (OpV.move rfl) rfl ?_
 refine TL.nil ?_
 refine TE.next ?_
 refine T.block ?_
 refine T.loop (ι := Nat × FV) (fun ⟨q, A1, c1, ls1, τ1⟩ => q ≤ n2 ∧ ls1.map LnA.ln = flowV ((gs.map LgA.lg).take q) cols ∧ WR 58 τ1 cols.toNat ls1 ∧ (A1 = none → c1 = 0) ∧ (ls1.length : Int) = rwS cols ((gs.map LgA.lg).take q)) (fun ⟨q, A1, c1, ls1, τ1⟩ => (n2 - q)) (fun ⟨q, A1, c1, ls1, τ1⟩ => [(0, .pointer (some ⟨b, 0, none⟩)), (1, .func (.func 72) #[] #[]), (10, .slice A2 n2 c2), (11, .int .i64 (n2 : Int)), (12, .int .i64 (q : Int))]) (fun ⟨q, A1, c1, ls1, τ1⟩ => .blk b (flL A1 ls1.length c1 cols) 118 :: .row 65 2 A1 ls1.length c1 (fll ls1) :: .own τ1 :: .fr υ :: Kf) (0, FV.mk none 0 [] (fun _ => none)) ⟨Nat.zero_le _, rfl, WR.nil, fun _ => rfl, rfl⟩ (.cons (t := 0) rfl <| .cons (t := 1) rfl <| .cons (t := 10) rfl <| .cons (t := 11) rfl <| .cons (t := 12) rfl <| .nil) ((fun wz kz => Perm.kle (.cons (by first | exact P0 | exact P1 | exact P2 | exact P3 | exact P4 | exact P5 | exact P6 | exact P7) (.cons (by first | exact P0 | exact P1 | exact P2 | exact P3 | exact P4 | exact P5 | exact P6 | exact P7) (.cons (by first | exact P0 | exact P1 | exact P2 | exact P3 | exact P4 | exact P5 | exact P6 | exact P7) .all))) wz (Kle.nilRow 65 2 wz (KOk.ownNil kz)))) ?_
 rintro ⟨q, A1, c1, ls1, τ1⟩ hR
 refine T.seq ?_
 refine T.region ?_
 refine TL.val (OpV.lss rfl rfl) rfl ?_
 refine TL.nil ?_
 refine TE.next ?_
 refine T.seq ?_
 refine T.cond rfl ?_ ?_
 ·
  intro ht13
  obtain ⟨q1, q2, q3, q4, q5⟩ := hR
  have hq : q < n2 := by have h9 := of_decide_eq_true ht13; omega
  obtain ⟨g, hg⟩ := get_of_lt h2.1.1 hq
  obtain ⟨b2, o2, hA2, hat2⟩ := h2.1.2.2.2.2 (by omega)
  obtain ⟨_, rfl, _, hatg⟩ := hat2 _ g hg
  have hcg := h2.2 g (List.mem_of_getElem? hg)
  have hG : (gs.map LgA.lg)[q]? = some g.lg := by simp [hg]
  have hvg : vW g.cells cols = true := hv g.lg (List.mem_of_getElem? hG)
  have hbg : g.cells.length ≤ 20000000 := hb g.lg (List.mem_of_getElem? hG)
  have hrb := rwS_len (cols := cols) ((gs.map LgA.lg).take q) (fun g hg => hb g (List.mem_of_mem_take hg))
  have hrl : ((gs.map LgA.lg).take q).length ≤ 20000 := by rw [List.length_take, List.length_map, h2.1.1]; omega
  have hrs : rwS cols ((gs.map LgA.lg).take (q + 1)) = rwS cols ((gs.map LgA.lg).take q) + rowsV g.cells cols := rwS_snoc hG
  refine T.skip ?_
  refine TE.next ?_
  refine T.seq ?_
  refine T.block ?_
  refine T.seq ?_
  refine T.region ?_
  refine TL.val (OpV.indexAddr (j := q) se_34 rfl hA2 rfl rfl (by omega)) rfl ?_
  refine TL.val (OpV.loadA ag_37 rfl (by first | exact Cels.blk P0 rfl | exact Cels.blk P1 rfl | exact Cels.blk P2 rfl | exact Cels.blk P3 rfl | exact Cels.blk P4 rfl | exact Cels.blk P5 rfl | exact Cels.frA hatg rfl)) rfl ?_
  refine TL.alloc zo_37 rfl ?_
  intro b8
  first
    | refine TL.storeAll rfl rfl szz_37 rfl rfl rfl (by first | exact P0 | exact P1 | exact P2 | exact P3 | exact P4 | exact P5) (by rfl) ?_
    | refine TL.store rfl rfl szz_37 rfl rfl rfl (by first | exact P0 | exact P1 | exact P2 | exact P3 | exact P4 | exact P5) (by first | exact Nat.le_of_ble_eq_true rfl | (simp; done) | (simp; omega)) (by simp only [LgA.l, putL, List.take_succ_cons, List.take_zero, List.drop_succ_cons, List.drop_zero, List.cons_append, List.nil_append, List.length_cons, List.length_nil, Nat.reduceAdd]; rfl) ?_
  refine TL.nil ?_
  refine TE.next ?_
  refine T.seq ?_
  refine T.region ?_
  refine TL.val (OpV.move rfl) rfl ?_
  refine TL.val (OpV.move rfl) rfl ?_
  refine TL.val (OpV.loadA ag_37 rfl (by first | exact Cels.blk P0 rfl | exact Cels.blk P1 rfl | exact Cels.blk P2 rfl | exact Cels.blk P3 rfl | exact Cels.blk P4 rfl | exact Cels.blk P5 rfl | exact Cels.frA hatg rfl)) rfl ?_
  refine TL.callx (g := 72) rfl go_72 rfl (fun wz kz => fadd_c (b := b) (Kf := .blk b8 g.l 37 :: Kf) g wz L (Perm.kle (.cons (by first | exact P0 | exact P1 | exact P2 | exact P3 | exact P4 | exact P5 | exact P6 | exact P7) (.cons (by first | exact P0 | exact P1 | exact P2 | exact P3 | exact P4 | exact P5 | exact P6 | exact P7) (.cons (by first | exact P0 | exact P1 | exact P2 | exact P3 | exact P4 | exact P5 | exact P6 | exact P7) (.cons (by first | exact P0 | exact P1 | exact P2 | exact P3 | exact P4 | exact P5 | exact P6 | exact P7) .all)))) wz kz) q3 rfl (by omega) hcg hbg hvg) rfl ?_
  rintro ⟨A3, c3, ls3, τ3⟩ ⟨e1, e2, e3, e4⟩
  simp only at e1 e2 e3 e4
  refine TL.val (OpV.assign rfl) rfl ?_
  refine TL.nil ?_
  refine TE.sub (.cons (t := 0) rfl <| .cons (t := 1) rfl <| .cons (t := 9) rfl <| .cons (t := 10) rfl <| .cons (t := 11) rfl <| .cons (t := 12) rfl <| .nil) ?_
  refine TE.next ?_
  refine T.seq ?_
  refine T.region ?_
  refine TL.val (OpV.move rfl) rfl ?_
  refine TL.val (OpV.neq rfl rfl) rfl ?_
  refine TL.said (t := 21) rfl (show _ = Value.bool false from congrArg Value.bool (rfl)) ?_
  refine TL.nil ?_
  refine TE.next ?_
  refine T.no rfl ?_
  refine T.skip ?_
  refine TE.out ?_
  refine TE.next ?_
  refine T.region ?_
  refine TL.val (OpV.add rfl rfl (by first | exact IntWalk.i64_in _ ⟨by omega, by omega⟩ | rfl)) rfl ?_
  refine TL.val (OpV.move rfl) rfl ?_
  refine TL.nil ?_
  exact TE.meet (q + 1, FV.mk A3 c3 ls3 τ3) ⟨⟨by omega, by rw [e1, q2, flowV_snoc hG]; rfl, e2, e3, by rw [hrs]; omega⟩, by simp only; omega⟩ (.cons (t := 0) (by first | rfl | (simp [lk]; done)) <| .cons (t := 1) (by first | rfl | (simp [lk]; done)) <| .cons (t := 10) (by first | rfl | (simp [lk]; done)) <| .cons (t := 11) (by first | rfl | (simp [lk]; done)) <| .cons (t := 12) (by first | rfl | (simp [lk]; done)) <| .nil) ((Perm.kle (.cons (by first | exact P0 | exact P1 | exact P2 | exact P3 | exact P4 | exact P5 | exact P6 | exact P7) (.cons (by first | exact P0 | exact P1 | exact P2 | exact P3 | exact P4 | exact P5 | exact P6 | exact P7) (.cons (by first | exact P0 | exact P1 | exact P2 | exact P3 | exact P4 | exact P5 | exact P6 | exact P7) (.cons (by first | exact P0 | exact P1 | exact P2 | exact P3 | exact P4 | exact P5 | exact P6 | exact P7) (.drop .all)))))))
 ·
  intro ht13
  obtain ⟨q1, q2, q3, q4, q5⟩ := hR
  have hq : ¬ q < n2 := by have h9 := of_decide_eq_false ht13; omega
  rw [List.take_of_length_le (by rw [List.length_map, h2.1.1]; omega)] at q2 q5
  refine T.exit ?_
  refine TE.pass_exit ?_
  refine TE.pass_exit ?_
  refine TE.here ?_
  refine TE.next ?_
  refine T.seq ?_
  refine T.region ?_
  refine TL.val (OpV.assign rfl) rfl ?_
  refine TL.nil ?_
  refine TE.next ?_
  refine T.ret ?_
  refine TE.ret1 rfl (ResV.tmp rfl) ?_
  exact fun wz kz => ⟨⟨A1, c1, ls1, τ1⟩, rfl, ⟨q2, q3, q4, q5⟩, kz⟩
set_option maxRecDepth 100000 in
set_option maxHeartbeats 1000000 in
theorem rfl_c {σ υ : Nat → Option Obj} {A A3 : Option Addr} {n c n3 c3 : Nat} {ls : List LnA} {as_ : List (Int × Int)} (cols : Int) (w : World) (L : LaidW w) (h : LsA σ A n c ls) (h3 : AsR υ A3 n3 c3 as_) (hn : n ≤ 20000) (hn3 : n3 ≤ 131072) (hs : ∀ b o, σ b = some o → w.heap[b]? = some o) (hu : ∀ b o, υ b = some o → w.heap[b]? = some o) : Calls Tryd.prog 38 #[.slice A n c, .int .i64 cols, .slice A3 n3 c3] w (fun e w' => ∃ v : RV, e = .returned (.tuple #[v.v, v.v2, .int .i64 (carE (ls.map LnA.ln) cols as_)]) ∧ ((∃ ls', LsW 58 v.σ cols.toNat v.A v.n v.c ls' ∧ ls'.map LnA.ln = reflV (ls.map LnA.ln) cols as_) ∧ AsR v.σ v.A2 v.n2 v.c2 (carV (ls.map LnA.ln) cols as_)) ∧ KOk w [.own v.σ] w') := by
 have hn63 := h.1.2.1
 have hc63 := h.1.2.2.1
 have hl1 := h.1.1
 have hn65 := h3.2.1
 have hc65 := h3.2.2.1
 refine calls_T (vs := [.slice A n c, .int .i64 cols, .slice A3 n3 c3]) (L0 := [(0, .slice A n c), (1, .int .i64 cols), (2, .slice A3 n3 c3)]) Tryd.func38 rfl rfl rfl rfl (KOk.frs hs hu) ?_
 refine T.seq ?_
 refine T.region ?_
 refine TL.val (OpV.assign rfl) rfl ?_
 refine TL.val (OpV.assign rfl) rfl ?_
 refine TL.val (OpV.assign rfl) rfl ?_
 refine TL.nil ?_
 refine TE.next ?_
 refine T.seq ?_
 refine T.seq ?_
 refine T.region ?_
 refine TL.val (OpV.move rfl) rfl ?_
 refine TL.val (OpV.len Tryd.underlying22 rfl) rfl ?_
 refine TL.val (OpV.gtr rfl rfl) rfl ?_
 refine TL.said (t := 16) rfl (show _ = Value.bool false from congrArg Value.bool (decide_eq_false (by omega))) ?_
 refine TL.nil ?_
 refine TE.next ?_
 refine T.no rfl ?_
 refine T.skip ?_
 refine TE.next ?_
 refine T.seq ?_
 refine T.region ?_
 refine TL.val (OpV.move rfl) rfl ?_
 refine TL.callx (g := 32) rfl go_32 rfl (fun wz k1 => own_x k1 (ulines_c wz (L.below k1.bel) h (k1.get (e := .fr σ) (by first | exact P0 | exact P1 | exact P2 | exact P3 | exact P4 | exact P5 | exact P6 | exact P7)) (by omega))) rfl ?_
 rintro ⟨A6, n6, c6, ρ⟩ ⟨gs, hgs, hge⟩
 replace hgs : GsA ρ A6 n6 c6 gs := GsW.gsA hgs
 refine TL.kle Kle.ownFr ?_
 refine TL.said (t := 19) rfl (show _ = Value.tuple #[.slice A6 n6 c6, .int .i64 (linesE (ls.map LnA.ln))] from rfl) ?_
 refine TL.val (OpV.move rfl) rfl ?_
 refine TL.val (OpV.extract rfl rfl) rfl ?_
 refine TL.val (OpV.extract rfl rfl) rfl ?_
 refine TL.val (OpV.assign rfl) rfl ?_
 refine TL.val (OpV.assign rfl) rfl ?_
 refine TL.nil ?_
 refine TE.sub (.cons (t := 0) rfl <| .cons (t := 1) rfl <| .cons (t := 2) rfl <| .cons (t := 9) rfl <| .cons (t := 10) rfl <| .nil) ?_
 refine TE.next ?_
 refine T.seq ?_
 refine T.seq ?_
 refine T.region ?_
 refine TL.val (OpV.move rfl) rfl ?_
 refine TL.val (OpV.neq rfl rfl) rfl ?_
 refine TL.nil ?_
 refine TE.next ?_
 refine T.cond rfl ?_ ?_
 ·
  intro ht23
  have hv : vLs (ls.map LnA.ln) = false := by cases hv : vLs (ls.map LnA.ln) with | false => rfl | true => (rw [linesE, hv] at ht23; cases ht23)
  have hle : linesE (ls.map LnA.ln) = 2 := by rw [linesE, hv]; rfl
  have hce : carE (ls.map LnA.ln) cols as_ = 2 := by rw [carE, hv]; rfl
  refine T.seq ?_
  refine T.region ?_
  refine TL.val (OpV.move rfl) rfl ?_
  refine TL.val (OpV.assign rfl) rfl ?_
  refine TL.val (OpV.assign rfl) rfl ?_
  refine TL.val (OpV.assign rfl) rfl ?_
  refine TL.nil ?_
  refine TE.sub (.cons (t := 6) rfl <| .cons (t := 7) rfl <| .cons (t := 8) rfl <| .nil) ?_
  refine TE.next ?_
  refine T.ret ?_
  refine TE.pass_ret ?_
  refine TE.retN rfl (.cons (ResV.tmp rfl) <| .cons (ResV.tmp rfl) <| .cons (ResV.tmp rfl) <| .nil) ?_
  exact fun wz kz => ⟨⟨none, 0, 0, none, 0, 0, fun _ => none⟩, by rw [hce, hle]; rfl, ⟨⟨[], LsW.nil, by rw [reflV, if_neg (by rw [hce]; decide)]; rfl⟩, by rw [carV, if_neg (by rw [hce]; decide)]; exact SlR.nil⟩, Perm.kle (.cons .here .nil) wz (KOk.ownNil kz)⟩
 ·
  intro ht23
  have hv : vLs (ls.map LnA.ln) = true := by cases hv : vLs (ls.map LnA.ln) with | true => rfl | false => (rw [linesE, hv] at ht23; cases ht23)
  rw [show linesV (ls.map LnA.ln) = (lgG [] 0 (ls.map LnA.ln)) by rw [linesV, hv, if_pos rfl]] at hge
  have hn6 : n6 ≤ 20000 := by have h9 := okG_len _ 0 (ok_lines hv); rw [← hge, List.length_map, hgs.1.1, List.length_map, hl1] at h9; omega
  refine T.skip ?_
  refine TE.next ?_
  refine T.seq ?_
  refine T.region ?_
  refine TL.val (OpV.move rfl) rfl ?_
  refine TL.val (OpV.move rfl) rfl ?_
  refine TL.val (OpV.move rfl) rfl ?_
  refine TL.callx (g := 33) rfl go_33 rfl (fun wz k1 => own_x k1 (carry_c cols wz (L.below k1.bel) h h3 (by omega) hn3 (k1.get (e := .fr σ) (by first | exact P0 | exact P1 | exact P2 | exact P3 | exact P4 | exact P5 | exact P6 | exact P7)) (k1.get (e := .fr υ) (by first | exact P0 | exact P1 | exact P2 | exact P3 | exact P4 | exact P5 | exact P6 | exact P7)))) rfl ?_
  rintro ⟨A9, n9, c9, ρ9⟩ h9
  replace h9 : AsR ρ9 A9 n9 c9 (carV (ls.map LnA.ln) cols as_) := h9
  refine TL.said (t := 29) rfl (show _ = Value.tuple #[.slice A9 n9 c9, .int .i64 (carE (ls.map LnA.ln) cols as_)] from rfl) ?_
  refine TL.val (OpV.move rfl) rfl ?_
  refine TL.val (OpV.extract rfl rfl) rfl ?_
  refine TL.val (OpV.extract rfl rfl) rfl ?_
  refine TL.val (OpV.assign rfl) rfl ?_
  refine TL.val (OpV.assign rfl) rfl ?_
  refine TL.nil ?_
  refine TE.sub (.cons (t := 1) rfl <| .cons (t := 9) rfl <| .cons (t := 10) rfl <| .cons (t := 11) rfl <| .nil) ?_
  refine TE.next ?_
  refine T.seq ?_
  refine T.seq ?_
  refine T.region ?_
  refine TL.val (OpV.move rfl) rfl ?_
  refine TL.val (OpV.neq rfl rfl) rfl ?_
  refine TL.nil ?_
  refine TE.next ?_
  refine T.cond rfl ?_ ?_
  ·
   intro ht33
   have hne : ¬ carE (ls.map LnA.ln) cols as_ = 0 := by have h9 : (carE (ls.map LnA.ln) cols as_ != 0) = true := ht33; simpa using h9
   refine T.seq ?_
   refine T.region ?_
   refine TL.val (OpV.move rfl) rfl ?_
   refine TL.val (OpV.assign rfl) rfl ?_
   refine TL.val (OpV.assign rfl) rfl ?_
   refine TL.val (OpV.assign rfl) rfl ?_
   refine TL.nil ?_
   refine TE.sub (.cons (t := 6) rfl <| .cons (t := 7) rfl <| .cons (t := 8) rfl <| .nil) ?_
   refine TE.next ?_
   refine T.ret ?_
   refine TE.pass_ret ?_
   refine TE.retN rfl (.cons (ResV.tmp rfl) <| .cons (ResV.tmp rfl) <| .cons (ResV.tmp rfl) <| .nil) ?_
   exact fun wz kz => ⟨⟨none, 0, 0, none, 0, 0, fun _ => none⟩, rfl, ⟨⟨[], LsW.nil, by rw [reflV, if_neg hne]; rfl⟩, by rw [carV, if_neg hne]; exact SlR.nil⟩, Perm.kle (.cons .here .nil) wz (KOk.ownNil kz)⟩
  ·
   intro ht33
   have hce : carE (ls.map LnA.ln) cols as_ = 0 := by have h9 : (carE (ls.map LnA.ln) cols as_ != 0) = false := ht33; simpa using h9
   have hf : fineB (lgG [] 0 (ls.map LnA.ln)) cols = true := by cases hf : fineB (lgG [] 0 (ls.map LnA.ln)) cols with | true => rfl | false => (rw [carE, hv, if_pos rfl, hf] at hce; cases hce)
   refine T.skip ?_
   refine TE.next ?_
   refine T.seq ?_
   refine T.region ?_
   refine TL.val (OpV.move rfl) rfl ?_
   refine TL.val (OpV.build (qs := #[(1, _)]) (fun _ f => by simp only [List.map_toArray, List.map_cons, List.map_nil]; rw [f.ev (x := .tmp 35) rfl]) (bld_118_1 cols )) rfl ?_
   refine TL.boxA rfl rfl ?_
   intro b37
   refine TL.val (OpV.assign rfl) rfl ?_
   refine TL.nil ?_
   refine TE.sub (.cons (t := 9) rfl <| .cons (t := 11) rfl <| .cons (t := 12) rfl <| .nil) ?_
   refine TE.next ?_
   refine T.seq ?_
   refine T.seq ?_
   refine T.region ?_
   refine TL.val (OpV.move rfl) rfl ?_
   refine TL.val (OpV.move rfl) rfl ?_
   refine TL.callx (g := 71) rfl go_71 rfl (fun wz kz => feach_c (b := b37) (υ := ρ) wz L (Perm.kle (.cons (by first | exact P0 | exact P1 | exact P2 | exact P3 | exact P4 | exact P5 | exact P6 | exact P7) (.cons (by first | exact P0 | exact P1 | exact P2 | exact P3 | exact P4 | exact P5 | exact P6 | exact P7) .all)) wz kz) hgs hn6 (by rw [hge]; exact okG_cells hv (by rw [List.length_map, hl1]; exact hn)) (by rw [hge]; exact fine_all hf)) rfl ?_
   rintro ⟨A1, c1, ls1, τ1⟩ ⟨e1, e2, e3, e4⟩
   simp only at e1 e2 e3 e4
   refine TL.val (OpV.assign rfl) rfl ?_
   refine TL.nil ?_
   refine TE.next ?_
   refine T.seq ?_
   refine T.region ?_
   refine TL.val (OpV.move rfl) rfl ?_
   refine TL.val (OpV.neq rfl rfl) rfl ?_
   refine TL.said (t := 42) rfl (show _ = Value.bool false from congrArg Value.bool (rfl)) ?_
   refine TL.nil ?_
   refine TE.next ?_
   refine T.no rfl ?_
   refine T.skip ?_
   refine TE.sub (.cons (t := 11) rfl <| .cons (t := 12) rfl <| .nil) ?_
   refine TE.next ?_
   refine T.seq ?_
   refine T.region ?_
   refine TL.val (OpV.move rfl) rfl ?_
   refine TL.val (OpV.nil rfl) rfl ?_
   refine TL.val (OpV.fieldAddr rfl fo_118_0) rfl ?_
   refine TL.val (OpV.load pl_22 rfl (by first | exact Cel.blk P0 rfl | exact Cel.blk P1 rfl | exact Cel.blk P2 rfl | exact Cel.blk P3 rfl | exact Cel.blk P4 rfl | exact Cel.blk P5 rfl | exact Cel.blk P6 rfl | exact Cel.blk P7 rfl)) rfl ?_
   refine TL.val (OpV.move rfl) rfl ?_
   refine TL.val (OpV.assign rfl) rfl ?_
   refine TL.val (OpV.assign rfl) rfl ?_
   refine TL.val (OpV.assign rfl) rfl ?_
   refine TL.nil ?_
   refine TE.sub (.cons (t := 6) rfl <| .cons (t := 7) rfl <| .cons (t := 8) rfl <| .nil) ?_
   refine TE.next ?_
   refine T.ret ?_
   refine TE.retN rfl (.cons (ResV.tmp rfl) <| .cons (ResV.tmp rfl) <| .cons (ResV.tmp rfl) <| .nil) ?_
   intro wz kz
   by_cases h0 : 0 < ls1.length
   · obtain ⟨bq, csq, π, ⟨r1, r2, r4, r5, r6, r7⟩, k2⟩ := rowIntoW (e := 65) (z := 2) (A := A1) (m := ls1.length) (c := c1) (xs := fll ls1) (τ := τ1) kz (by first | exact P0 | exact P1 | exact P2 | exact P3 | exact P4 | exact P5 | exact P6 | exact P7) (by first | exact P0 | exact P1 | exact P2 | exact P3 | exact P4 | exact P5 | exact P6 | exact P7) h0
     have hW : LsW 58 π cols.toNat A1 ls1.length c1 ls1 := (LsW.of_rows e2 r7 r1 r6 (SlR.of_row LnA.l_length r2 rfl))
     obtain ⟨κ, ⟨f1, f2⟩, k3⟩ := KOk.own2 ((k2.pick (e := .own ρ9) (by first | exact P0 | exact P1 | exact P2 | exact P3 | exact P4 | exact P5 | exact P6 | exact P7)).pick (e := .own π) (by first | exact P0 | exact P1 | exact P2 | exact P3 | exact P4 | exact P5 | exact P6 | exact P7))
     exact ⟨⟨A1, ls1.length, c1, A9, n9, c9, κ⟩, by rw [hce]; rfl, ⟨⟨ls1, hW.mono f1, by rw [reflV, if_pos hce, ← hge]; exact e1⟩, h9.mono f2⟩, Perm.kle (.cons .here .nil) wz k3⟩
   · obtain ⟨π, r2, k2⟩ := KOk.rowOwn (kz.pick (e := .row 65 2 A1 ls1.length c1 (fll ls1)) (by first | exact P0 | exact P1 | exact P2 | exact P3 | exact P4 | exact P5 | exact P6 | exact P7))
     have hg0 : ls1 = [] := List.length_eq_zero_iff.1 (by omega)
     have hW : LsW 58 π cols.toNat A1 ls1.length c1 ls1 := ⟨SlR.of_row LnA.l_length r2 rfl, by rw [hg0]; exact WR.nil, fun l hl => by rw [hg0] at hl; cases hl⟩
     obtain ⟨κ, ⟨f1, f2⟩, k3⟩ := KOk.own2 ((k2.pick (e := .own ρ9) (by first | exact P0 | exact P1 | exact P2 | exact P3 | exact P4 | exact P5 | exact P6 | exact P7)).pick (e := .own π) (by first | exact P0 | exact P1 | exact P2 | exact P3 | exact P4 | exact P5 | exact P6 | exact P7))
     exact ⟨⟨A1, ls1.length, c1, A9, n9, c9, κ⟩, by rw [hce]; rfl, ⟨⟨ls1, hW.mono f1, by rw [reflV, if_pos hce, ← hge]; exact e1⟩, h9.mono f2⟩, Perm.kle (.cons .here .nil) wz k3⟩
end Go.Proofs.YtdmpodpdpncobaaDoor
