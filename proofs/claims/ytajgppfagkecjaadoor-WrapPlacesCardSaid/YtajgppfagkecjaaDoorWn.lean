/-
  The walk of the law WrapPlaces. Condition: the package-level tables hold what they were laid with.
-/
import Derived.Test.YtajgppfagkecjaaDoorWm
namespace Go.Proofs.YtajgppfagkecjaaDoor
open Go.RowKit
set_option linter.unusedSimpArgs false
set_option linter.unusedVariables false
theorem go_28 : isGo Tryd.prog 28 = true := by kernel_rfl
set_option maxRecDepth 100000 in
set_option maxHeartbeats 1000000 in
theorem wrapPlaces_law {σ : Nat → Option Obj} {A : Option Addr} {n c : Nat} {xs : List Cl} (w : World) (cols p a1 a2 : Int) (L : LaidW w) (h : CsR σ A n c xs) (hs : ∀ b o, σ b = some o → w.heap[b]? = some o) : Calls Tryd.prog 7 #[.slice A n c, .int .i64 cols, .int .i64 p, .agg (anL a1 a2).toArray] w (Ret (.bool true) w) := by
  have hn63 := h.2.1
  have hc63 := h.2.2.1
  have hl1 := h.1
  refine calls_T (vs := [.slice A n c, .int .i64 cols, .int .i64 p, .agg (anL a1 a2).toArray]) (L0 := [(0, .slice A n c), (1, .int .i64 cols), (2, .int .i64 p), (3, .agg (anL a1 a2).toArray)]) Tryd.func7 rfl rfl rfl rfl (KOk.fr1 hs) ?_
  refine T.seq ?_
  refine T.region ?_
  refine TL.boxA rfl rfl ?_
  intro b7
  refine TL.val (OpV.assign rfl) rfl ?_
  refine TL.nil ?_
  refine TE.next ?_
  refine T.seq ?_
  refine T.seq ?_
  refine T.region ?_
  refine TL.val (OpV.move rfl) rfl ?_
  refine TL.val (OpV.len Tryd.underlying31 rfl) rfl ?_
  refine TL.val (OpV.gtr rfl rfl) rfl ?_
  refine TL.nil ?_
  refine TE.next ?_
  refine T.cond rfl ?_ ?_
  · intro ht11
    refine T.seq ?_
    refine T.region ?_
    refine TL.call (g := 26) rfl go_26 rfl (fun w1 k1 => known_law w1 (L.below k1.bel)) rfl ?_
    refine TL.val (OpV.assign rfl) rfl ?_
    refine TL.nil ?_
    refine TE.sub (.cons (t := 8) rfl <| .nil) ?_
    refine TE.next ?_
    refine T.ret ?_
    refine TE.pass_ret ?_
    refine TE.ret1 rfl (ResV.tmp rfl) ?_
    exact fun w1 k1 => ⟨rfl, k1.bel⟩
  · intro ht11
    have hn60 : n ≤ 60 := by have h9 := of_decide_eq_false ht11; omega
    refine T.skip ?_
    refine TE.next ?_
    refine T.seq ?_
    refine T.seq ?_
    refine T.region ?_
    refine TL.val (OpV.move rfl) rfl ?_
    refine TL.val (OpV.move rfl) rfl ?_
    refine TL.call (g := 28) rfl go_28 rfl (fun w1 k1 => rwvalid_c w1 cols h (k1.get (e := .fr σ) (by first | exact .here | exact (.there .here) | exact (.there (.there .here)) | exact (.there (.there (.there .here))) | exact (.there (.there (.there (.there .here))))))) rfl ?_
    refine TL.val (OpV.not rfl) rfl ?_
    refine TL.nil ?_
    refine TE.sub (.cons (t := 0) rfl <| .cons (t := 1) rfl <| .cons (t := 2) rfl <| .cons (t := 7) rfl <| .cons (t := 16) rfl <| .nil) ?_
    refine TE.next ?_
    refine T.cond rfl ?_ ?_
    · intro ht16
      have hv : vW xs cols = false := by simpa using ht16
      refine T.seq ?_
      refine T.region ?_
      refine TL.val (OpV.move rfl) rfl ?_
      refine TL.val (OpV.move rfl) rfl ?_
      refine TL.val (OpV.move rfl) rfl ?_
      refine TL.call (g := 34) rfl go_34 rfl (fun w1 k1 => at_law _ _ w1) rfl ?_
      refine TL.call (g := 33) rfl go_33 rfl (fun w1 k1 => placed_t w1 cols p 0 0 2 (L.below k1.bel) h (k1.get (e := .fr σ) (by first | exact .here | exact (.there .here) | exact (.there (.there .here)) | exact (.there (.there (.there .here))) | exact (.there (.there (.there (.there .here)))))) (placed_bad hv p)) rfl ?_
      refine TL.val (OpV.move rfl) rfl ?_
      refine TL.open rfl rfl ?_
      refine TL.val (OpV.move rfl) rfl ?_
      refine TL.open rfl rfl ?_
      refine TL.val (OpV.move rfl) rfl ?_
      refine TL.open rfl rfl ?_
      refine TL.val (OpV.loadA ag_62 rfl (by first | exact Cels.blk .here rfl | exact Cels.blk (.there .here) rfl | exact Cels.blk (.there (.there .here)) rfl | exact Cels.blk (.there (.there (.there .here))) rfl | exact Cels.blk (.there (.there (.there (.there .here)))) rfl | exact Cels.blk (.there (.there (.there (.there (.there .here))))) rfl)) rfl ?_
      refine TL.open rfl rfl ?_
      refine TL.call (g := 35) rfl go_35 rfl (fun w1 k1 => indexed_t w1 cols a1 a2 0 2 (L.below k1.bel) h (k1.get (e := .fr σ) (by first | exact .here | exact (.there .here) | exact (.there (.there .here)) | exact (.there (.there (.there .here))) | exact (.there (.there (.there (.there .here)))))) (indexed_bad hv (a1, a2))) rfl ?_
      refine TL.val ((by first | exact OpV.pick_t rfl rfl | exact OpV.pick_f rfl rfl)) rfl ?_
      refine TL.val (OpV.move rfl) rfl ?_
      refine TL.open rfl rfl ?_
      refine TL.call (g := 26) rfl go_26 rfl (fun w1 k1 => known_law w1 (L.below k1.bel)) rfl ?_
      refine TL.val ((by first | exact OpV.pick_t rfl rfl | exact OpV.pick_f rfl rfl)) rfl ?_
      refine TL.val (OpV.assign rfl) rfl ?_
      refine TL.nil ?_
      refine TE.sub (.cons (t := 8) rfl <| .nil) ?_
      refine TE.next ?_
      refine T.ret ?_
      refine TE.pass_ret ?_
      refine TE.ret1 rfl (ResV.tmp rfl) ?_
      exact fun w1 k1 => ⟨rfl, k1.bel⟩
    · intro ht16
      have hv : vW xs cols = true := by simpa using ht16
      have hc := (vW_parts hv).1
      have hrb := (plR_bd cols xs).2.1
      refine T.skip ?_
      refine TE.next ?_
      refine T.seq ?_
      refine T.seq ?_
      refine T.region ?_
      refine TL.val (OpV.move rfl) rfl ?_
      refine TL.val (OpV.lss rfl rfl) rfl ?_
      refine TL.val (OpV.move rfl) rfl ?_
      refine TL.part (t := 33) rfl ?_ ?_
      · intro hg33
        have hp9 : inI xs p = false := by have h9 := of_decide_eq_true hg33; simp [inI]; omega
        refine TL.shut rfl rfl ?_
        refine TL.shut rfl rfl ?_
        refine TL.shut rfl rfl ?_
        refine TL.shut rfl rfl ?_
        refine TL.val ((by first | exact OpV.pick_t rfl rfl | exact OpV.pick_f rfl rfl)) rfl ?_
        refine TL.nil ?_
        refine TE.sub (.cons (t := 0) rfl <| .cons (t := 1) rfl <| .cons (t := 2) rfl <| .cons (t := 7) rfl <| .cons (t := 38) rfl <| .nil) ?_
        refine TE.next ?_
        refine T.yes rfl ?_
        refine T.seq ?_
        refine T.region ?_
        refine TL.val (OpV.move rfl) rfl ?_
        refine TL.val (OpV.move rfl) rfl ?_
        refine TL.val (OpV.move rfl) rfl ?_
        refine TL.call (g := 34) rfl go_34 rfl (fun w1 k1 => at_law _ _ w1) rfl ?_
        refine TL.call (g := 33) rfl go_33 rfl (fun w1 k1 => placed_t w1 cols p 0 0 3 (L.below k1.bel) h (k1.get (e := .fr σ) (by first | exact .here | exact (.there .here) | exact (.there (.there .here)) | exact (.there (.there (.there .here))) | exact (.there (.there (.there (.there .here)))))) (placed_out hv hp9)) rfl ?_
        refine TL.val (OpV.not rfl) rfl ?_
        refine TL.nil ?_
        refine TE.sub (.cons (t := 0) rfl <| .cons (t := 1) rfl <| .cons (t := 7) rfl <| .cons (t := 44) rfl <| .nil) ?_
        refine TE.next ?_
        refine T.no rfl ?_
        refine T.skip ?_
        refine TE.next ?_
        refine T.seq ?_
        refine T.seq ?_
        refine T.any ([.blk b7 (anL a1 a2) 62]) [] mix rfl rfl ?_
        refine TA.takeP (i := 0) (ls := #[true, false, false, false, false, false, false, false, false, false, false, false, false, false, false, false, false, false, false, false, false, false, false]) rfl rfl rfl rfl rfl (by kernel_rfl) (by kernel_rfl) (by kernel_rfl) (by repeat (first | with_reducible exact PanicOk.body | with_reducible apply PanicOk.next | with_reducible apply PanicOk.block)) (OpV.fieldAddr rfl fo_62_0) rfl (by kernel_rfl) ?_
        refine TA.take (i := 1) (ls := #[true, true, false, false, false, false, false, false, false, false, false, false, false, false, false, false, false, false, false, false, false, false, false]) rfl rfl rfl rfl rfl (by kernel_rfl) (by kernel_rfl) (by kernel_rfl) (by kernel_rfl) (by repeat (first | with_reducible exact PanicOk.body | with_reducible apply PanicOk.next | with_reducible apply PanicOk.block)) ((.cons (by first | exact .here | exact (.there .here) | exact (.there (.there .here)) | exact (.there (.there (.there .here))) | exact (.there (.there (.there (.there .here)))) | exact (.there (.there (.there (.there (.there .here)))))) .nil)) (OpV.load pl_3 rfl (by first | exact Cel.blk .here rfl | exact Cel.blk (.there .here) rfl | exact Cel.blk (.there (.there .here)) rfl | exact Cel.blk (.there (.there (.there .here))) rfl | exact Cel.blk (.there (.there (.there (.there .here)))) rfl | exact Cel.blk (.there (.there (.there (.there (.there .here))))) rfl)) rfl (by kernel_rfl) ?_
        refine TA.takeP (i := 2) (ls := #[true, true, true, false, false, false, false, false, false, false, false, false, false, false, false, false, false, false, false, false, false, false, false]) rfl rfl rfl rfl rfl (by kernel_rfl) (by kernel_rfl) (by kernel_rfl) (by repeat (first | with_reducible exact PanicOk.body | with_reducible apply PanicOk.next | with_reducible apply PanicOk.block)) (OpV.lss rfl rfl) rfl (by kernel_rfl) ?_
        refine TA.takeP (i := 3) (ls := #[true, true, true, true, false, false, false, false, false, false, false, false, false, false, false, false, false, false, false, false, false, false, false]) rfl rfl rfl rfl rfl (by kernel_rfl) (by kernel_rfl) (by kernel_rfl) (by repeat (first | with_reducible exact PanicOk.body | with_reducible apply PanicOk.next | with_reducible apply PanicOk.block)) (OpV.move rfl) rfl (by kernel_rfl) ?_
        refine TA.part (t := 57) rfl ?_ ?_
        · intro hg57
          have ha : inA xs cols (a1, a2) = false := by have h9 := of_decide_eq_true hg57; simp [inA, rows_eq hv]; omega
          refine TA.skip (i := 4) (ls := #[true, true, true, true, true, false, false, false, false, false, false, false, false, false, false, false, false, false, false, false, false, false, false]) rfl rfl (by kernel_rfl) (by kernel_rfl) (by kernel_rfl) (by repeat (first | with_reducible exact PanicOk.body | with_reducible apply PanicOk.next | with_reducible apply PanicOk.block)) rfl (by kernel_rfl) ?_
          refine TA.skip (i := 5) (ls := #[true, true, true, true, true, true, false, false, false, false, false, false, false, false, false, false, false, false, false, false, false, false, false]) rfl rfl (by kernel_rfl) (by kernel_rfl) (by kernel_rfl) (by repeat (first | with_reducible exact PanicOk.body | with_reducible apply PanicOk.next | with_reducible apply PanicOk.block)) rfl (by kernel_rfl) ?_
          refine TA.skip (i := 6) (ls := #[true, true, true, true, true, true, true, false, false, false, false, false, false, false, false, false, false, false, false, false, false, false, false]) rfl rfl (by kernel_rfl) (by kernel_rfl) (by kernel_rfl) (by repeat (first | with_reducible exact PanicOk.body | with_reducible apply PanicOk.next | with_reducible apply PanicOk.block)) rfl (by kernel_rfl) ?_
          refine TA.skip (i := 7) (ls := #[true, true, true, true, true, true, true, true, false, false, false, false, false, false, false, false, false, false, false, false, false, false, false]) rfl rfl (by kernel_rfl) (by kernel_rfl) (by kernel_rfl) (by repeat (first | with_reducible exact PanicOk.body | with_reducible apply PanicOk.next | with_reducible apply PanicOk.block)) rfl (by kernel_rfl) ?_
          refine TA.one (i := 8) (ls := #[true, true, true, true, true, true, true, true, true, false, false, false, false, false, false, false, false, false, false, false, false, false, false]) (by kernel_rfl) rfl (by kernel_rfl) (fun w1 => ?_)
          refine TL.shut rfl rfl ?_
          refine TL.nil ?_
          refine TA.cont ((.cons (by first | exact .here | exact (.there .here) | exact (.there (.there .here)) | exact (.there (.there (.there .here))) | exact (.there (.there (.there (.there .here)))) | exact (.there (.there (.there (.there (.there .here)))))) .nil)) ?_
          refine TA.skip (i := 9) (ls := #[true, true, true, true, true, true, true, true, true, true, false, false, false, false, false, false, false, false, false, false, false, false, false]) rfl rfl (by kernel_rfl) (by kernel_rfl) (by kernel_rfl) (by repeat (first | with_reducible exact PanicOk.body | with_reducible apply PanicOk.next | with_reducible apply PanicOk.block)) rfl (by kernel_rfl) ?_
          refine TA.skip (i := 10) (ls := #[true, true, true, true, true, true, true, true, true, true, true, false, false, false, false, false, false, false, false, false, false, false, false]) rfl rfl (by kernel_rfl) (by kernel_rfl) (by kernel_rfl) (by repeat (first | with_reducible exact PanicOk.body | with_reducible apply PanicOk.next | with_reducible apply PanicOk.block)) rfl (by kernel_rfl) ?_
          refine TA.takeP (i := 11) (ls := #[true, true, true, true, true, true, true, true, true, true, true, true, false, false, false, false, false, false, false, false, false, false, false]) rfl rfl rfl rfl rfl (by kernel_rfl) (by kernel_rfl) (by kernel_rfl) (by repeat (first | with_reducible exact PanicOk.body | with_reducible apply PanicOk.next | with_reducible apply PanicOk.block)) ((by first | exact OpV.pick_t rfl rfl | exact OpV.pick_f rfl rfl)) rfl (by kernel_rfl) ?_
          refine TA.takeP (i := 12) (ls := #[true, true, true, true, true, true, true, true, true, true, true, true, true, false, false, false, false, false, false, false, false, false, false]) rfl rfl rfl rfl rfl (by kernel_rfl) (by kernel_rfl) (by kernel_rfl) (by repeat (first | with_reducible exact PanicOk.body | with_reducible apply PanicOk.next | with_reducible apply PanicOk.block)) (OpV.move rfl) rfl (by kernel_rfl) ?_
          refine TA.skip (i := 13) (ls := #[true, true, true, true, true, true, true, true, true, true, true, true, true, true, false, false, false, false, false, false, false, false, false]) rfl rfl (by kernel_rfl) (by kernel_rfl) (by kernel_rfl) (by repeat (first | with_reducible exact PanicOk.body | with_reducible apply PanicOk.next | with_reducible apply PanicOk.block)) rfl (by kernel_rfl) ?_
          refine TA.skip (i := 14) (ls := #[true, true, true, true, true, true, true, true, true, true, true, true, true, true, true, false, false, false, false, false, false, false, false]) rfl rfl (by kernel_rfl) (by kernel_rfl) (by kernel_rfl) (by repeat (first | with_reducible exact PanicOk.body | with_reducible apply PanicOk.next | with_reducible apply PanicOk.block)) rfl (by kernel_rfl) ?_
          refine TA.skip (i := 15) (ls := #[true, true, true, true, true, true, true, true, true, true, true, true, true, true, true, true, false, false, false, false, false, false, false]) rfl rfl (by kernel_rfl) (by kernel_rfl) (by kernel_rfl) (by repeat (first | with_reducible exact PanicOk.body | with_reducible apply PanicOk.next | with_reducible apply PanicOk.block)) rfl (by kernel_rfl) ?_
          refine TA.takeP (i := 16) (ls := #[true, true, true, true, true, true, true, true, true, true, true, true, true, true, true, true, true, false, false, false, false, false, false]) rfl rfl rfl rfl rfl (by kernel_rfl) (by kernel_rfl) (by kernel_rfl) (by repeat (first | with_reducible exact PanicOk.body | with_reducible apply PanicOk.next | with_reducible apply PanicOk.block)) ((by first | exact OpV.pick_t rfl rfl | exact OpV.pick_f rfl rfl)) rfl (by kernel_rfl) ?_
          refine TA.takeP (i := 17) (ls := #[true, true, true, true, true, true, true, true, true, true, true, true, true, true, true, true, true, true, false, false, false, false, false]) rfl rfl rfl rfl rfl (by kernel_rfl) (by kernel_rfl) (by kernel_rfl) (by repeat (first | with_reducible exact PanicOk.body | with_reducible apply PanicOk.next | with_reducible apply PanicOk.block)) (OpV.move rfl) rfl (by kernel_rfl) ?_
          refine TA.skip (i := 18) (ls := #[true, true, true, true, true, true, true, true, true, true, true, true, true, true, true, true, true, true, true, false, false, false, false]) rfl rfl (by kernel_rfl) (by kernel_rfl) (by kernel_rfl) (by repeat (first | with_reducible exact PanicOk.body | with_reducible apply PanicOk.next | with_reducible apply PanicOk.block)) rfl (by kernel_rfl) ?_
          refine TA.skip (i := 19) (ls := #[true, true, true, true, true, true, true, true, true, true, true, true, true, true, true, true, true, true, true, true, false, false, false]) rfl rfl (by kernel_rfl) (by kernel_rfl) (by kernel_rfl) (by repeat (first | with_reducible exact PanicOk.body | with_reducible apply PanicOk.next | with_reducible apply PanicOk.block)) rfl (by kernel_rfl) ?_
          refine TA.skip (i := 20) (ls := #[true, true, true, true, true, true, true, true, true, true, true, true, true, true, true, true, true, true, true, true, true, false, false]) rfl rfl (by kernel_rfl) (by kernel_rfl) (by kernel_rfl) (by repeat (first | with_reducible exact PanicOk.body | with_reducible apply PanicOk.next | with_reducible apply PanicOk.block)) rfl (by kernel_rfl) ?_
          refine TA.skip (i := 21) (ls := #[true, true, true, true, true, true, true, true, true, true, true, true, true, true, true, true, true, true, true, true, true, true, false]) rfl rfl (by kernel_rfl) (by kernel_rfl) (by kernel_rfl) (by repeat (first | with_reducible exact PanicOk.body | with_reducible apply PanicOk.next | with_reducible apply PanicOk.block)) rfl (by kernel_rfl) ?_
          refine TA.takeP (i := 22) (ls := #[true, true, true, true, true, true, true, true, true, true, true, true, true, true, true, true, true, true, true, true, true, true, true]) rfl rfl rfl rfl rfl (by kernel_rfl) (by kernel_rfl) (by kernel_rfl) (by repeat (first | with_reducible exact PanicOk.body | with_reducible apply PanicOk.next | with_reducible apply PanicOk.block)) ((by first | exact OpV.pick_t rfl rfl | exact OpV.pick_f rfl rfl)) rfl (by kernel_rfl) ?_
          refine TA.done (by kernel_rfl) ?_
          refine TE.sub (.cons (t := 0) rfl <| .cons (t := 1) rfl <| .cons (t := 7) rfl <| .cons (t := 76) rfl <| .nil) ?_
          refine TE.next ?_
          refine T.yes rfl ?_
          refine T.seq ?_
          refine T.region ?_
          refine TL.val (OpV.move rfl) rfl ?_
          refine TL.val (OpV.move rfl) rfl ?_
          refine TL.val (OpV.loadA ag_62 rfl (by first | exact Cels.blk .here rfl | exact Cels.blk (.there .here) rfl | exact Cels.blk (.there (.there .here)) rfl | exact Cels.blk (.there (.there (.there .here))) rfl | exact Cels.blk (.there (.there (.there (.there .here)))) rfl | exact Cels.blk (.there (.there (.there (.there (.there .here))))) rfl)) rfl ?_
          refine TL.call (g := 35) rfl go_35 rfl (fun w1 k1 => indexed_t w1 cols a1 a2 0 3 (L.below k1.bel) h (k1.get (e := .fr σ) (by first | exact .here | exact (.there .here) | exact (.there (.there .here)) | exact (.there (.there (.there .here))) | exact (.there (.there (.there (.there .here)))))) (indexed_out hv ha)) rfl ?_
          refine TL.val (OpV.move rfl) rfl ?_
          refine TL.open rfl rfl ?_
          refine TL.call (g := 26) rfl go_26 rfl (fun w1 k1 => known_law w1 (L.below k1.bel)) rfl ?_
          refine TL.val ((by first | exact OpV.pick_t rfl rfl | exact OpV.pick_f rfl rfl)) rfl ?_
          refine TL.val (OpV.assign rfl) rfl ?_
          refine TL.nil ?_
          refine TE.sub (.cons (t := 8) rfl <| .nil) ?_
          refine TE.next ?_
          refine T.ret ?_
          refine TE.pass_ret ?_
          refine TE.ret1 rfl (ResV.tmp rfl) ?_
          exact fun w1 k1 => ⟨rfl, k1.bel⟩
        · intro hg57
          refine TA.takeP (i := 4) (ls := #[true, true, true, true, true, false, false, false, false, false, false, false, false, false, false, false, false, false, false, false, false, false, false]) rfl rfl rfl rfl rfl (by kernel_rfl) (by kernel_rfl) (by kernel_rfl) (by repeat (first | with_reducible exact PanicOk.body | with_reducible apply PanicOk.next | with_reducible apply PanicOk.block)) (OpV.fieldAddr rfl fo_62_0) rfl (by kernel_rfl) ?_
          refine TA.take (i := 5) (ls := #[true, true, true, true, true, true, false, false, false, false, false, false, false, false, false, false, false, false, false, false, false, false, false]) rfl rfl rfl rfl rfl (by kernel_rfl) (by kernel_rfl) (by kernel_rfl) (by kernel_rfl) (by repeat (first | with_reducible exact PanicOk.body | with_reducible apply PanicOk.next | with_reducible apply PanicOk.block)) ((.cons (by first | exact .here | exact (.there .here) | exact (.there (.there .here)) | exact (.there (.there (.there .here))) | exact (.there (.there (.there (.there .here)))) | exact (.there (.there (.there (.there (.there .here)))))) .nil)) (OpV.load pl_3 rfl (by first | exact Cel.blk .here rfl | exact Cel.blk (.there .here) rfl | exact Cel.blk (.there (.there .here)) rfl | exact Cel.blk (.there (.there (.there .here))) rfl | exact Cel.blk (.there (.there (.there (.there .here)))) rfl | exact Cel.blk (.there (.there (.there (.there (.there .here))))) rfl)) rfl (by kernel_rfl) ?_
          refine TA.takeP (i := 6) (ls := #[true, true, true, true, true, true, true, false, false, false, false, false, false, false, false, false, false, false, false, false, false, false, false]) rfl rfl rfl rfl rfl (by kernel_rfl) (by kernel_rfl) (by kernel_rfl) (by repeat (first | with_reducible exact PanicOk.body | with_reducible apply PanicOk.next | with_reducible apply PanicOk.block)) (OpV.move rfl) rfl (by kernel_rfl) ?_
          refine TA.takeP (i := 7) (ls := #[true, true, true, true, true, true, true, true, false, false, false, false, false, false, false, false, false, false, false, false, false, false, false]) rfl rfl rfl rfl rfl (by kernel_rfl) (by kernel_rfl) (by kernel_rfl) (by repeat (first | with_reducible exact PanicOk.body | with_reducible apply PanicOk.next | with_reducible apply PanicOk.block)) (OpV.move rfl) rfl (by kernel_rfl) ?_
          refine TA.one (i := 8) (ls := #[true, true, true, true, true, true, true, true, true, false, false, false, false, false, false, false, false, false, false, false, false, false, false]) (by kernel_rfl) rfl (by kernel_rfl) (fun w1 => ?_)
          refine TL.open rfl rfl ?_
          refine TL.callx (g := 37) rfl go_37 rfl (fun wz k1 => own_x k1 (places_c wz cols h (k1.get (e := .fr σ) (by first | exact .here | exact (.there .here) | exact (.there (.there .here)) | exact (.there (.there (.there .here))) | exact (.there (.there (.there (.there .here)))))) (by omega) (by omega))) rfl ?_
          rintro ⟨A1, c1, A2, c2, m, ρ⟩ hpl
          refine TL.nil ?_
          refine TA.cont ((.cons (by first | exact .here | exact (.there .here) | exact (.there (.there .here)) | exact (.there (.there (.there .here))) | exact (.there (.there (.there (.there .here)))) | exact (.there (.there (.there (.there (.there .here)))))) .nil)) ?_
          refine TA.takeP (i := 9) (ls := #[true, true, true, true, true, true, true, true, true, true, false, false, false, false, false, false, false, false, false, false, false, false, false]) rfl rfl rfl rfl rfl (by kernel_rfl) (by kernel_rfl) (by kernel_rfl) (by repeat (first | with_reducible exact PanicOk.body | with_reducible apply PanicOk.next | with_reducible apply PanicOk.block)) (OpV.field rfl (fld_69_2 _ _ _ _ _ _ _ _)) rfl (by kernel_rfl) ?_
          refine TA.takeP (i := 10) (ls := #[true, true, true, true, true, true, true, true, true, true, true, false, false, false, false, false, false, false, false, false, false, false, false]) rfl rfl rfl rfl rfl (by kernel_rfl) (by kernel_rfl) (by kernel_rfl) (by repeat (first | with_reducible exact PanicOk.body | with_reducible apply PanicOk.next | with_reducible apply PanicOk.block)) (OpV.geq rfl rfl) rfl (by kernel_rfl) ?_
          refine TA.takeP (i := 11) (ls := #[true, true, true, true, true, true, true, true, true, true, true, true, false, false, false, false, false, false, false, false, false, false, false]) rfl rfl rfl rfl rfl (by kernel_rfl) (by kernel_rfl) (by kernel_rfl) (by repeat (first | with_reducible exact PanicOk.body | with_reducible apply PanicOk.next | with_reducible apply PanicOk.block)) ((by first | exact OpV.pick_t rfl rfl | exact OpV.pick_f rfl rfl)) rfl (by kernel_rfl) ?_
          refine TA.takeP (i := 12) (ls := #[true, true, true, true, true, true, true, true, true, true, true, true, true, false, false, false, false, false, false, false, false, false, false]) rfl rfl rfl rfl rfl (by kernel_rfl) (by kernel_rfl) (by kernel_rfl) (by repeat (first | with_reducible exact PanicOk.body | with_reducible apply PanicOk.next | with_reducible apply PanicOk.block)) (OpV.move rfl) rfl (by kernel_rfl) ?_
          refine TA.part (t := 66) rfl ?_ ?_
          · intro hg66
            have ha : inA xs cols (a1, a2) = false := by have h9 := of_decide_eq_true hg66; simp [inA, rows_eq hv]; omega
            refine TA.skip (i := 13) (ls := #[true, true, true, true, true, true, true, true, true, true, true, true, true, true, false, false, false, false, false, false, false, false, false]) rfl rfl (by kernel_rfl) (by kernel_rfl) (by kernel_rfl) (by repeat (first | with_reducible exact PanicOk.body | with_reducible apply PanicOk.next | with_reducible apply PanicOk.block)) rfl (by kernel_rfl) ?_
            refine TA.skip (i := 14) (ls := #[true, true, true, true, true, true, true, true, true, true, true, true, true, true, true, false, false, false, false, false, false, false, false]) rfl rfl (by kernel_rfl) (by kernel_rfl) (by kernel_rfl) (by repeat (first | with_reducible exact PanicOk.body | with_reducible apply PanicOk.next | with_reducible apply PanicOk.block)) rfl (by kernel_rfl) ?_
            refine TA.skip (i := 15) (ls := #[true, true, true, true, true, true, true, true, true, true, true, true, true, true, true, true, false, false, false, false, false, false, false]) rfl rfl (by kernel_rfl) (by kernel_rfl) (by kernel_rfl) (by repeat (first | with_reducible exact PanicOk.body | with_reducible apply PanicOk.next | with_reducible apply PanicOk.block)) rfl (by kernel_rfl) ?_
            refine TA.takeP (i := 16) (ls := #[true, true, true, true, true, true, true, true, true, true, true, true, true, true, true, true, true, false, false, false, false, false, false]) rfl rfl rfl rfl rfl (by kernel_rfl) (by kernel_rfl) (by kernel_rfl) (by repeat (first | with_reducible exact PanicOk.body | with_reducible apply PanicOk.next | with_reducible apply PanicOk.block)) ((by first | exact OpV.pick_t rfl rfl | exact OpV.pick_f rfl rfl)) rfl (by kernel_rfl) ?_
            refine TA.takeP (i := 17) (ls := #[true, true, true, true, true, true, true, true, true, true, true, true, true, true, true, true, true, true, false, false, false, false, false]) rfl rfl rfl rfl rfl (by kernel_rfl) (by kernel_rfl) (by kernel_rfl) (by repeat (first | with_reducible exact PanicOk.body | with_reducible apply PanicOk.next | with_reducible apply PanicOk.block)) (OpV.move rfl) rfl (by kernel_rfl) ?_
            refine TA.skip (i := 18) (ls := #[true, true, true, true, true, true, true, true, true, true, true, true, true, true, true, true, true, true, true, false, false, false, false]) rfl rfl (by kernel_rfl) (by kernel_rfl) (by kernel_rfl) (by repeat (first | with_reducible exact PanicOk.body | with_reducible apply PanicOk.next | with_reducible apply PanicOk.block)) rfl (by kernel_rfl) ?_
            refine TA.skip (i := 19) (ls := #[true, true, true, true, true, true, true, true, true, true, true, true, true, true, true, true, true, true, true, true, false, false, false]) rfl rfl (by kernel_rfl) (by kernel_rfl) (by kernel_rfl) (by repeat (first | with_reducible exact PanicOk.body | with_reducible apply PanicOk.next | with_reducible apply PanicOk.block)) rfl (by kernel_rfl) ?_
            refine TA.skip (i := 20) (ls := #[true, true, true, true, true, true, true, true, true, true, true, true, true, true, true, true, true, true, true, true, true, false, false]) rfl rfl (by kernel_rfl) (by kernel_rfl) (by kernel_rfl) (by repeat (first | with_reducible exact PanicOk.body | with_reducible apply PanicOk.next | with_reducible apply PanicOk.block)) rfl (by kernel_rfl) ?_
            refine TA.skip (i := 21) (ls := #[true, true, true, true, true, true, true, true, true, true, true, true, true, true, true, true, true, true, true, true, true, true, false]) rfl rfl (by kernel_rfl) (by kernel_rfl) (by kernel_rfl) (by repeat (first | with_reducible exact PanicOk.body | with_reducible apply PanicOk.next | with_reducible apply PanicOk.block)) rfl (by kernel_rfl) ?_
            refine TA.takeP (i := 22) (ls := #[true, true, true, true, true, true, true, true, true, true, true, true, true, true, true, true, true, true, true, true, true, true, true]) rfl rfl rfl rfl rfl (by kernel_rfl) (by kernel_rfl) (by kernel_rfl) (by repeat (first | with_reducible exact PanicOk.body | with_reducible apply PanicOk.next | with_reducible apply PanicOk.block)) ((by first | exact OpV.pick_t rfl rfl | exact OpV.pick_f rfl rfl)) rfl (by kernel_rfl) ?_
            refine TA.done (by kernel_rfl) ?_
            refine TE.sub (.cons (t := 0) rfl <| .cons (t := 1) rfl <| .cons (t := 7) rfl <| .cons (t := 76) rfl <| .nil) ?_
            refine TE.next ?_
            refine T.yes rfl ?_
            refine T.seq ?_
            refine T.region ?_
            refine TL.val (OpV.move rfl) rfl ?_
            refine TL.val (OpV.move rfl) rfl ?_
            refine TL.val (OpV.loadA ag_62 rfl (by first | exact Cels.blk .here rfl | exact Cels.blk (.there .here) rfl | exact Cels.blk (.there (.there .here)) rfl | exact Cels.blk (.there (.there (.there .here))) rfl | exact Cels.blk (.there (.there (.there (.there .here)))) rfl | exact Cels.blk (.there (.there (.there (.there (.there .here))))) rfl)) rfl ?_
            refine TL.call (g := 35) rfl go_35 rfl (fun w1 k1 => indexed_t w1 cols a1 a2 0 3 (L.below k1.bel) h (k1.get (e := .fr σ) (by first | exact .here | exact (.there .here) | exact (.there (.there .here)) | exact (.there (.there (.there .here))) | exact (.there (.there (.there (.there .here)))))) (indexed_out hv ha)) rfl ?_
            refine TL.val (OpV.move rfl) rfl ?_
            refine TL.open rfl rfl ?_
            refine TL.call (g := 26) rfl go_26 rfl (fun w1 k1 => known_law w1 (L.below k1.bel)) rfl ?_
            refine TL.val ((by first | exact OpV.pick_t rfl rfl | exact OpV.pick_f rfl rfl)) rfl ?_
            refine TL.val (OpV.assign rfl) rfl ?_
            refine TL.nil ?_
            refine TE.sub (.cons (t := 8) rfl <| .nil) ?_
            refine TE.next ?_
            refine T.ret ?_
            refine TE.pass_ret ?_
            refine TE.ret1 rfl (ResV.tmp rfl) ?_
            exact fun w1 k1 => ⟨rfl, k1.bel⟩
          · intro hg66
            refine TA.takeP (i := 13) (ls := #[true, true, true, true, true, true, true, true, true, true, true, true, true, true, false, false, false, false, false, false, false, false, false]) rfl rfl rfl rfl rfl (by kernel_rfl) (by kernel_rfl) (by kernel_rfl) (by repeat (first | with_reducible exact PanicOk.body | with_reducible apply PanicOk.next | with_reducible apply PanicOk.block)) (OpV.fieldAddr rfl fo_62_1) rfl (by kernel_rfl) ?_
            refine TA.take (i := 14) (ls := #[true, true, true, true, true, true, true, true, true, true, true, true, true, true, true, false, false, false, false, false, false, false, false]) rfl rfl rfl rfl rfl (by kernel_rfl) (by kernel_rfl) (by kernel_rfl) (by kernel_rfl) (by repeat (first | with_reducible exact PanicOk.body | with_reducible apply PanicOk.next | with_reducible apply PanicOk.block)) ((.cons (by first | exact .here | exact (.there .here) | exact (.there (.there .here)) | exact (.there (.there (.there .here))) | exact (.there (.there (.there (.there .here)))) | exact (.there (.there (.there (.there (.there .here)))))) .nil)) (OpV.load pl_3 rfl (by first | exact Cel.blk .here rfl | exact Cel.blk (.there .here) rfl | exact Cel.blk (.there (.there .here)) rfl | exact Cel.blk (.there (.there (.there .here))) rfl | exact Cel.blk (.there (.there (.there (.there .here)))) rfl | exact Cel.blk (.there (.there (.there (.there (.there .here))))) rfl)) rfl (by kernel_rfl) ?_
            refine TA.takeP (i := 15) (ls := #[true, true, true, true, true, true, true, true, true, true, true, true, true, true, true, true, false, false, false, false, false, false, false]) rfl rfl rfl rfl rfl (by kernel_rfl) (by kernel_rfl) (by kernel_rfl) (by repeat (first | with_reducible exact PanicOk.body | with_reducible apply PanicOk.next | with_reducible apply PanicOk.block)) (OpV.lss rfl rfl) rfl (by kernel_rfl) ?_
            refine TA.takeP (i := 16) (ls := #[true, true, true, true, true, true, true, true, true, true, true, true, true, true, true, true, true, false, false, false, false, false, false]) rfl rfl rfl rfl rfl (by kernel_rfl) (by kernel_rfl) (by kernel_rfl) (by repeat (first | with_reducible exact PanicOk.body | with_reducible apply PanicOk.next | with_reducible apply PanicOk.block)) ((by first | exact OpV.pick_t rfl rfl | exact OpV.pick_f rfl rfl)) rfl (by kernel_rfl) ?_
            refine TA.takeP (i := 17) (ls := #[true, true, true, true, true, true, true, true, true, true, true, true, true, true, true, true, true, true, false, false, false, false, false]) rfl rfl rfl rfl rfl (by kernel_rfl) (by kernel_rfl) (by kernel_rfl) (by repeat (first | with_reducible exact PanicOk.body | with_reducible apply PanicOk.next | with_reducible apply PanicOk.block)) (OpV.move rfl) rfl (by kernel_rfl) ?_
            refine TA.part (t := 71) rfl ?_ ?_
            · intro hg71
              have ha : inA xs cols (a1, a2) = false := by have h9 := of_decide_eq_true hg71; simp [inA, rows_eq hv]; omega
              refine TA.skip (i := 18) (ls := #[true, true, true, true, true, true, true, true, true, true, true, true, true, true, true, true, true, true, true, false, false, false, false]) rfl rfl (by kernel_rfl) (by kernel_rfl) (by kernel_rfl) (by repeat (first | with_reducible exact PanicOk.body | with_reducible apply PanicOk.next | with_reducible apply PanicOk.block)) rfl (by kernel_rfl) ?_
              refine TA.skip (i := 19) (ls := #[true, true, true, true, true, true, true, true, true, true, true, true, true, true, true, true, true, true, true, true, false, false, false]) rfl rfl (by kernel_rfl) (by kernel_rfl) (by kernel_rfl) (by repeat (first | with_reducible exact PanicOk.body | with_reducible apply PanicOk.next | with_reducible apply PanicOk.block)) rfl (by kernel_rfl) ?_
              refine TA.skip (i := 20) (ls := #[true, true, true, true, true, true, true, true, true, true, true, true, true, true, true, true, true, true, true, true, true, false, false]) rfl rfl (by kernel_rfl) (by kernel_rfl) (by kernel_rfl) (by repeat (first | with_reducible exact PanicOk.body | with_reducible apply PanicOk.next | with_reducible apply PanicOk.block)) rfl (by kernel_rfl) ?_
              refine TA.skip (i := 21) (ls := #[true, true, true, true, true, true, true, true, true, true, true, true, true, true, true, true, true, true, true, true, true, true, false]) rfl rfl (by kernel_rfl) (by kernel_rfl) (by kernel_rfl) (by repeat (first | with_reducible exact PanicOk.body | with_reducible apply PanicOk.next | with_reducible apply PanicOk.block)) rfl (by kernel_rfl) ?_
              refine TA.takeP (i := 22) (ls := #[true, true, true, true, true, true, true, true, true, true, true, true, true, true, true, true, true, true, true, true, true, true, true]) rfl rfl rfl rfl rfl (by kernel_rfl) (by kernel_rfl) (by kernel_rfl) (by repeat (first | with_reducible exact PanicOk.body | with_reducible apply PanicOk.next | with_reducible apply PanicOk.block)) ((by first | exact OpV.pick_t rfl rfl | exact OpV.pick_f rfl rfl)) rfl (by kernel_rfl) ?_
              refine TA.done (by kernel_rfl) ?_
              refine TE.sub (.cons (t := 0) rfl <| .cons (t := 1) rfl <| .cons (t := 7) rfl <| .cons (t := 76) rfl <| .nil) ?_
              refine TE.next ?_
              refine T.yes rfl ?_
              refine T.seq ?_
              refine T.region ?_
              refine TL.val (OpV.move rfl) rfl ?_
              refine TL.val (OpV.move rfl) rfl ?_
              refine TL.val (OpV.loadA ag_62 rfl (by first | exact Cels.blk .here rfl | exact Cels.blk (.there .here) rfl | exact Cels.blk (.there (.there .here)) rfl | exact Cels.blk (.there (.there (.there .here))) rfl | exact Cels.blk (.there (.there (.there (.there .here)))) rfl | exact Cels.blk (.there (.there (.there (.there (.there .here))))) rfl)) rfl ?_
              refine TL.call (g := 35) rfl go_35 rfl (fun w1 k1 => indexed_t w1 cols a1 a2 0 3 (L.below k1.bel) h (k1.get (e := .fr σ) (by first | exact .here | exact (.there .here) | exact (.there (.there .here)) | exact (.there (.there (.there .here))) | exact (.there (.there (.there (.there .here)))))) (indexed_out hv ha)) rfl ?_
              refine TL.val (OpV.move rfl) rfl ?_
              refine TL.open rfl rfl ?_
              refine TL.call (g := 26) rfl go_26 rfl (fun w1 k1 => known_law w1 (L.below k1.bel)) rfl ?_
              refine TL.val ((by first | exact OpV.pick_t rfl rfl | exact OpV.pick_f rfl rfl)) rfl ?_
              refine TL.val (OpV.assign rfl) rfl ?_
              refine TL.nil ?_
              refine TE.sub (.cons (t := 8) rfl <| .nil) ?_
              refine TE.next ?_
              refine T.ret ?_
              refine TE.pass_ret ?_
              refine TE.ret1 rfl (ResV.tmp rfl) ?_
              exact fun w1 k1 => ⟨rfl, k1.bel⟩
            · intro hg71
              refine TA.takeP (i := 18) (ls := #[true, true, true, true, true, true, true, true, true, true, true, true, true, true, true, true, true, true, true, false, false, false, false]) rfl rfl rfl rfl rfl (by kernel_rfl) (by kernel_rfl) (by kernel_rfl) (by repeat (first | with_reducible exact PanicOk.body | with_reducible apply PanicOk.next | with_reducible apply PanicOk.block)) (OpV.fieldAddr rfl fo_62_1) rfl (by kernel_rfl) ?_
              refine TA.take (i := 19) (ls := #[true, true, true, true, true, true, true, true, true, true, true, true, true, true, true, true, true, true, true, true, false, false, false]) rfl rfl rfl rfl rfl (by kernel_rfl) (by kernel_rfl) (by kernel_rfl) (by kernel_rfl) (by repeat (first | with_reducible exact PanicOk.body | with_reducible apply PanicOk.next | with_reducible apply PanicOk.block)) ((.cons (by first | exact .here | exact (.there .here) | exact (.there (.there .here)) | exact (.there (.there (.there .here))) | exact (.there (.there (.there (.there .here)))) | exact (.there (.there (.there (.there (.there .here)))))) .nil)) (OpV.load pl_3 rfl (by first | exact Cel.blk .here rfl | exact Cel.blk (.there .here) rfl | exact Cel.blk (.there (.there .here)) rfl | exact Cel.blk (.there (.there (.there .here))) rfl | exact Cel.blk (.there (.there (.there (.there .here)))) rfl | exact Cel.blk (.there (.there (.there (.there (.there .here))))) rfl)) rfl (by kernel_rfl) ?_
              refine TA.takeP (i := 20) (ls := #[true, true, true, true, true, true, true, true, true, true, true, true, true, true, true, true, true, true, true, true, true, false, false]) rfl rfl rfl rfl rfl (by kernel_rfl) (by kernel_rfl) (by kernel_rfl) (by repeat (first | with_reducible exact PanicOk.body | with_reducible apply PanicOk.next | with_reducible apply PanicOk.block)) (OpV.move rfl) rfl (by kernel_rfl) ?_
              refine TA.takeP (i := 21) (ls := #[true, true, true, true, true, true, true, true, true, true, true, true, true, true, true, true, true, true, true, true, true, true, false]) rfl rfl rfl rfl rfl (by kernel_rfl) (by kernel_rfl) (by kernel_rfl) (by repeat (first | with_reducible exact PanicOk.body | with_reducible apply PanicOk.next | with_reducible apply PanicOk.block)) (OpV.geq rfl rfl) rfl (by kernel_rfl) ?_
              refine TA.takeP (i := 22) (ls := #[true, true, true, true, true, true, true, true, true, true, true, true, true, true, true, true, true, true, true, true, true, true, true]) rfl rfl rfl rfl rfl (by kernel_rfl) (by kernel_rfl) (by kernel_rfl) (by repeat (first | with_reducible exact PanicOk.body | with_reducible apply PanicOk.next | with_reducible apply PanicOk.block)) ((by first | exact OpV.pick_t rfl rfl | exact OpV.pick_f rfl rfl)) rfl (by kernel_rfl) ?_
              refine TA.done (by kernel_rfl) ?_
              refine TE.sub (.cons (t := 0) rfl <| .cons (t := 1) rfl <| .cons (t := 7) rfl <| .cons (t := 76) rfl <| .nil) ?_
              refine TE.next ?_
              refine T.cond rfl ?_ ?_
              · intro ht76
                have ha : inA xs cols (a1, a2) = false := by have h9 := of_decide_eq_true ht76; simp [inA, rows_eq hv]; omega
                refine T.seq ?_
                refine T.region ?_
                refine TL.val (OpV.move rfl) rfl ?_
                refine TL.val (OpV.move rfl) rfl ?_
                refine TL.val (OpV.loadA ag_62 rfl (by first | exact Cels.blk .here rfl | exact Cels.blk (.there .here) rfl | exact Cels.blk (.there (.there .here)) rfl | exact Cels.blk (.there (.there (.there .here))) rfl | exact Cels.blk (.there (.there (.there (.there .here)))) rfl | exact Cels.blk (.there (.there (.there (.there (.there .here))))) rfl)) rfl ?_
                refine TL.call (g := 35) rfl go_35 rfl (fun w1 k1 => indexed_t w1 cols a1 a2 0 3 (L.below k1.bel) h (k1.get (e := .fr σ) (by first | exact .here | exact (.there .here) | exact (.there (.there .here)) | exact (.there (.there (.there .here))) | exact (.there (.there (.there (.there .here)))))) (indexed_out hv ha)) rfl ?_
                refine TL.val (OpV.move rfl) rfl ?_
                refine TL.open rfl rfl ?_
                refine TL.call (g := 26) rfl go_26 rfl (fun w1 k1 => known_law w1 (L.below k1.bel)) rfl ?_
                refine TL.val ((by first | exact OpV.pick_t rfl rfl | exact OpV.pick_f rfl rfl)) rfl ?_
                refine TL.val (OpV.assign rfl) rfl ?_
                refine TL.nil ?_
                refine TE.sub (.cons (t := 8) rfl <| .nil) ?_
                refine TE.next ?_
                refine T.ret ?_
                refine TE.pass_ret ?_
                refine TE.ret1 rfl (ResV.tmp rfl) ?_
                exact fun w1 k1 => ⟨rfl, k1.bel⟩
              · intro ht76
                have ha : inA xs cols (a1, a2) = true := by have h9 := of_decide_eq_false ht76; have h8 := of_decide_eq_false hg71; have h7 := of_decide_eq_false hg66; have h6 := of_decide_eq_false hg57; simp [inA, rows_eq hv]; omega
                refine T.skip ?_
                refine TE.next ?_
                refine T.seq ?_
                refine T.quiet mix (by kernel_rfl) ?_
                refine TQ.val (OpV.move rfl) rfl ?_
                refine TQ.val (OpV.move rfl) rfl ?_
                refine TQ.val (OpV.loadA ag_62 rfl (by first | exact Cels.blk .here rfl | exact Cels.blk (.there .here) rfl | exact Cels.blk (.there (.there .here)) rfl | exact Cels.blk (.there (.there (.there .here))) rfl | exact Cels.blk (.there (.there (.there (.there .here)))) rfl | exact Cels.blk (.there (.there (.there (.there (.there .here))))) rfl)) rfl ?_
                refine TQ.val (OpV.move rfl) rfl ?_
                refine TQ.val (OpV.move rfl) rfl ?_
                refine TQ.val (OpV.loadA ag_62 rfl (by first | exact Cels.blk .here rfl | exact Cels.blk (.there .here) rfl | exact Cels.blk (.there (.there .here)) rfl | exact Cels.blk (.there (.there (.there .here))) rfl | exact Cels.blk (.there (.there (.there (.there .here)))) rfl | exact Cels.blk (.there (.there (.there (.there (.there .here))))) rfl)) rfl ?_
                refine TQ.call (g := 38) rfl go_38 rfl (fun w1 k1 => rindex_c w1 cols a1 a2 h (k1.get (e := .fr σ) (by first | exact .here | exact (.there .here) | exact (.there (.there .here)) | exact (.there (.there (.there .here))) | exact (.there (.there (.there (.there .here)))))) (by omega) (by omega)) rfl ?_
                refine TQ.call (g := 35) rfl go_35 rfl (fun w1 k1 => indexed_t w1 cols a1 a2 _ 0 (L.below k1.bel) h (k1.get (e := .fr σ) (by first | exact .here | exact (.there .here) | exact (.there (.there .here)) | exact (.there (.there (.there .here))) | exact (.there (.there (.there (.there .here)))))) (indexed_ok hv ha)) rfl ?_
                refine TQ.val (OpV.move rfl) rfl ?_
                refine TQ.open rfl rfl ?_
                refine TQ.call (g := 26) rfl go_26 rfl (fun w1 k1 => known_law w1 (L.below k1.bel)) rfl ?_
                refine TQ.val ((by first | exact OpV.pick_t rfl rfl | exact OpV.pick_f rfl rfl)) rfl ?_
                refine TQ.val (OpV.assign rfl) rfl ?_
                refine TQ.nil ?_
                refine TE.sub (.cons (t := 8) rfl <| .nil) ?_
                refine TE.next ?_
                refine T.ret ?_
                refine TE.ret1 rfl (ResV.tmp rfl) ?_
                exact fun w1 k1 => ⟨rfl, k1.bel⟩
      · intro hg33
        refine TL.open rfl rfl ?_
        refine TL.val (OpV.move rfl) rfl ?_
        refine TL.open rfl rfl ?_
        refine TL.val (OpV.move rfl) rfl ?_
        refine TL.open rfl rfl ?_
        refine TL.val (OpV.len Tryd.underlying31 rfl) rfl ?_
        refine TL.open rfl rfl ?_
        refine TL.val (OpV.gtr rfl rfl) rfl ?_
        refine TL.val ((by first | exact OpV.pick_t rfl rfl | exact OpV.pick_f rfl rfl)) rfl ?_
        refine TL.nil ?_
        refine TE.sub (.cons (t := 0) rfl <| .cons (t := 1) rfl <| .cons (t := 2) rfl <| .cons (t := 7) rfl <| .cons (t := 38) rfl <| .nil) ?_
        refine TE.next ?_
        refine T.cond rfl ?_ ?_
        · intro ht38
          have hp9 : inI xs p = false := by have h9 := of_decide_eq_true ht38; simp [inI]; omega
          refine T.seq ?_
          refine T.region ?_
          refine TL.val (OpV.move rfl) rfl ?_
          refine TL.val (OpV.move rfl) rfl ?_
          refine TL.val (OpV.move rfl) rfl ?_
          refine TL.call (g := 34) rfl go_34 rfl (fun w1 k1 => at_law _ _ w1) rfl ?_
          refine TL.call (g := 33) rfl go_33 rfl (fun w1 k1 => placed_t w1 cols p 0 0 3 (L.below k1.bel) h (k1.get (e := .fr σ) (by first | exact .here | exact (.there .here) | exact (.there (.there .here)) | exact (.there (.there (.there .here))) | exact (.there (.there (.there (.there .here)))))) (placed_out hv hp9)) rfl ?_
          refine TL.val (OpV.not rfl) rfl ?_
          refine TL.nil ?_
          refine TE.sub (.cons (t := 0) rfl <| .cons (t := 1) rfl <| .cons (t := 7) rfl <| .cons (t := 44) rfl <| .nil) ?_
          refine TE.next ?_
          refine T.no rfl ?_
          refine T.skip ?_
          refine TE.next ?_
          refine T.seq ?_
          refine T.seq ?_
          refine T.any ([.blk b7 (anL a1 a2) 62]) [] mix rfl rfl ?_
          refine TA.takeP (i := 0) (ls := #[true, false, false, false, false, false, false, false, false, false, false, false, false, false, false, false, false, false, false, false, false, false, false]) rfl rfl rfl rfl rfl (by kernel_rfl) (by kernel_rfl) (by kernel_rfl) (by repeat (first | with_reducible exact PanicOk.body | with_reducible apply PanicOk.next | with_reducible apply PanicOk.block)) (OpV.fieldAddr rfl fo_62_0) rfl (by kernel_rfl) ?_
          refine TA.take (i := 1) (ls := #[true, true, false, false, false, false, false, false, false, false, false, false, false, false, false, false, false, false, false, false, false, false, false]) rfl rfl rfl rfl rfl (by kernel_rfl) (by kernel_rfl) (by kernel_rfl) (by kernel_rfl) (by repeat (first | with_reducible exact PanicOk.body | with_reducible apply PanicOk.next | with_reducible apply PanicOk.block)) ((.cons (by first | exact .here | exact (.there .here) | exact (.there (.there .here)) | exact (.there (.there (.there .here))) | exact (.there (.there (.there (.there .here)))) | exact (.there (.there (.there (.there (.there .here)))))) .nil)) (OpV.load pl_3 rfl (by first | exact Cel.blk .here rfl | exact Cel.blk (.there .here) rfl | exact Cel.blk (.there (.there .here)) rfl | exact Cel.blk (.there (.there (.there .here))) rfl | exact Cel.blk (.there (.there (.there (.there .here)))) rfl | exact Cel.blk (.there (.there (.there (.there (.there .here))))) rfl)) rfl (by kernel_rfl) ?_
          refine TA.takeP (i := 2) (ls := #[true, true, true, false, false, false, false, false, false, false, false, false, false, false, false, false, false, false, false, false, false, false, false]) rfl rfl rfl rfl rfl (by kernel_rfl) (by kernel_rfl) (by kernel_rfl) (by repeat (first | with_reducible exact PanicOk.body | with_reducible apply PanicOk.next | with_reducible apply PanicOk.block)) (OpV.lss rfl rfl) rfl (by kernel_rfl) ?_
          refine TA.takeP (i := 3) (ls := #[true, true, true, true, false, false, false, false, false, false, false, false, false, false, false, false, false, false, false, false, false, false, false]) rfl rfl rfl rfl rfl (by kernel_rfl) (by kernel_rfl) (by kernel_rfl) (by repeat (first | with_reducible exact PanicOk.body | with_reducible apply PanicOk.next | with_reducible apply PanicOk.block)) (OpV.move rfl) rfl (by kernel_rfl) ?_
          refine TA.part (t := 57) rfl ?_ ?_
          · intro hg57
            have ha : inA xs cols (a1, a2) = false := by have h9 := of_decide_eq_true hg57; simp [inA, rows_eq hv]; omega
            refine TA.skip (i := 4) (ls := #[true, true, true, true, true, false, false, false, false, false, false, false, false, false, false, false, false, false, false, false, false, false, false]) rfl rfl (by kernel_rfl) (by kernel_rfl) (by kernel_rfl) (by repeat (first | with_reducible exact PanicOk.body | with_reducible apply PanicOk.next | with_reducible apply PanicOk.block)) rfl (by kernel_rfl) ?_
            refine TA.skip (i := 5) (ls := #[true, true, true, true, true, true, false, false, false, false, false, false, false, false, false, false, false, false, false, false, false, false, false]) rfl rfl (by kernel_rfl) (by kernel_rfl) (by kernel_rfl) (by repeat (first | with_reducible exact PanicOk.body | with_reducible apply PanicOk.next | with_reducible apply PanicOk.block)) rfl (by kernel_rfl) ?_
            refine TA.skip (i := 6) (ls := #[true, true, true, true, true, true, true, false, false, false, false, false, false, false, false, false, false, false, false, false, false, false, false]) rfl rfl (by kernel_rfl) (by kernel_rfl) (by kernel_rfl) (by repeat (first | with_reducible exact PanicOk.body | with_reducible apply PanicOk.next | with_reducible apply PanicOk.block)) rfl (by kernel_rfl) ?_
            refine TA.skip (i := 7) (ls := #[true, true, true, true, true, true, true, true, false, false, false, false, false, false, false, false, false, false, false, false, false, false, false]) rfl rfl (by kernel_rfl) (by kernel_rfl) (by kernel_rfl) (by repeat (first | with_reducible exact PanicOk.body | with_reducible apply PanicOk.next | with_reducible apply PanicOk.block)) rfl (by kernel_rfl) ?_
            refine TA.one (i := 8) (ls := #[true, true, true, true, true, true, true, true, true, false, false, false, false, false, false, false, false, false, false, false, false, false, false]) (by kernel_rfl) rfl (by kernel_rfl) (fun w1 => ?_)
            refine TL.shut rfl rfl ?_
            refine TL.nil ?_
            refine TA.cont ((.cons (by first | exact .here | exact (.there .here) | exact (.there (.there .here)) | exact (.there (.there (.there .here))) | exact (.there (.there (.there (.there .here)))) | exact (.there (.there (.there (.there (.there .here)))))) .nil)) ?_
            refine TA.skip (i := 9) (ls := #[true, true, true, true, true, true, true, true, true, true, false, false, false, false, false, false, false, false, false, false, false, false, false]) rfl rfl (by kernel_rfl) (by kernel_rfl) (by kernel_rfl) (by repeat (first | with_reducible exact PanicOk.body | with_reducible apply PanicOk.next | with_reducible apply PanicOk.block)) rfl (by kernel_rfl) ?_
            refine TA.skip (i := 10) (ls := #[true, true, true, true, true, true, true, true, true, true, true, false, false, false, false, false, false, false, false, false, false, false, false]) rfl rfl (by kernel_rfl) (by kernel_rfl) (by kernel_rfl) (by repeat (first | with_reducible exact PanicOk.body | with_reducible apply PanicOk.next | with_reducible apply PanicOk.block)) rfl (by kernel_rfl) ?_
            refine TA.takeP (i := 11) (ls := #[true, true, true, true, true, true, true, true, true, true, true, true, false, false, false, false, false, false, false, false, false, false, false]) rfl rfl rfl rfl rfl (by kernel_rfl) (by kernel_rfl) (by kernel_rfl) (by repeat (first | with_reducible exact PanicOk.body | with_reducible apply PanicOk.next | with_reducible apply PanicOk.block)) ((by first | exact OpV.pick_t rfl rfl | exact OpV.pick_f rfl rfl)) rfl (by kernel_rfl) ?_
            refine TA.takeP (i := 12) (ls := #[true, true, true, true, true, true, true, true, true, true, true, true, true, false, false, false, false, false, false, false, false, false, false]) rfl rfl rfl rfl rfl (by kernel_rfl) (by kernel_rfl) (by kernel_rfl) (by repeat (first | with_reducible exact PanicOk.body | with_reducible apply PanicOk.next | with_reducible apply PanicOk.block)) (OpV.move rfl) rfl (by kernel_rfl) ?_
            refine TA.skip (i := 13) (ls := #[true, true, true, true, true, true, true, true, true, true, true, true, true, true, false, false, false, false, false, false, false, false, false]) rfl rfl (by kernel_rfl) (by kernel_rfl) (by kernel_rfl) (by repeat (first | with_reducible exact PanicOk.body | with_reducible apply PanicOk.next | with_reducible apply PanicOk.block)) rfl (by kernel_rfl) ?_
            refine TA.skip (i := 14) (ls := #[true, true, true, true, true, true, true, true, true, true, true, true, true, true, true, false, false, false, false, false, false, false, false]) rfl rfl (by kernel_rfl) (by kernel_rfl) (by kernel_rfl) (by repeat (first | with_reducible exact PanicOk.body | with_reducible apply PanicOk.next | with_reducible apply PanicOk.block)) rfl (by kernel_rfl) ?_
            refine TA.skip (i := 15) (ls := #[true, true, true, true, true, true, true, true, true, true, true, true, true, true, true, true, false, false, false, false, false, false, false]) rfl rfl (by kernel_rfl) (by kernel_rfl) (by kernel_rfl) (by repeat (first | with_reducible exact PanicOk.body | with_reducible apply PanicOk.next | with_reducible apply PanicOk.block)) rfl (by kernel_rfl) ?_
            refine TA.takeP (i := 16) (ls := #[true, true, true, true, true, true, true, true, true, true, true, true, true, true, true, true, true, false, false, false, false, false, false]) rfl rfl rfl rfl rfl (by kernel_rfl) (by kernel_rfl) (by kernel_rfl) (by repeat (first | with_reducible exact PanicOk.body | with_reducible apply PanicOk.next | with_reducible apply PanicOk.block)) ((by first | exact OpV.pick_t rfl rfl | exact OpV.pick_f rfl rfl)) rfl (by kernel_rfl) ?_
            refine TA.takeP (i := 17) (ls := #[true, true, true, true, true, true, true, true, true, true, true, true, true, true, true, true, true, true, false, false, false, false, false]) rfl rfl rfl rfl rfl (by kernel_rfl) (by kernel_rfl) (by kernel_rfl) (by repeat (first | with_reducible exact PanicOk.body | with_reducible apply PanicOk.next | with_reducible apply PanicOk.block)) (OpV.move rfl) rfl (by kernel_rfl) ?_
            refine TA.skip (i := 18) (ls := #[true, true, true, true, true, true, true, true, true, true, true, true, true, true, true, true, true, true, true, false, false, false, false]) rfl rfl (by kernel_rfl) (by kernel_rfl) (by kernel_rfl) (by repeat (first | with_reducible exact PanicOk.body | with_reducible apply PanicOk.next | with_reducible apply PanicOk.block)) rfl (by kernel_rfl) ?_
            refine TA.skip (i := 19) (ls := #[true, true, true, true, true, true, true, true, true, true, true, true, true, true, true, true, true, true, true, true, false, false, false]) rfl rfl (by kernel_rfl) (by kernel_rfl) (by kernel_rfl) (by repeat (first | with_reducible exact PanicOk.body | with_reducible apply PanicOk.next | with_reducible apply PanicOk.block)) rfl (by kernel_rfl) ?_
            refine TA.skip (i := 20) (ls := #[true, true, true, true, true, true, true, true, true, true, true, true, true, true, true, true, true, true, true, true, true, false, false]) rfl rfl (by kernel_rfl) (by kernel_rfl) (by kernel_rfl) (by repeat (first | with_reducible exact PanicOk.body | with_reducible apply PanicOk.next | with_reducible apply PanicOk.block)) rfl (by kernel_rfl) ?_
            refine TA.skip (i := 21) (ls := #[true, true, true, true, true, true, true, true, true, true, true, true, true, true, true, true, true, true, true, true, true, true, false]) rfl rfl (by kernel_rfl) (by kernel_rfl) (by kernel_rfl) (by repeat (first | with_reducible exact PanicOk.body | with_reducible apply PanicOk.next | with_reducible apply PanicOk.block)) rfl (by kernel_rfl) ?_
            refine TA.takeP (i := 22) (ls := #[true, true, true, true, true, true, true, true, true, true, true, true, true, true, true, true, true, true, true, true, true, true, true]) rfl rfl rfl rfl rfl (by kernel_rfl) (by kernel_rfl) (by kernel_rfl) (by repeat (first | with_reducible exact PanicOk.body | with_reducible apply PanicOk.next | with_reducible apply PanicOk.block)) ((by first | exact OpV.pick_t rfl rfl | exact OpV.pick_f rfl rfl)) rfl (by kernel_rfl) ?_
            refine TA.done (by kernel_rfl) ?_
            refine TE.sub (.cons (t := 0) rfl <| .cons (t := 1) rfl <| .cons (t := 7) rfl <| .cons (t := 76) rfl <| .nil) ?_
            refine TE.next ?_
            refine T.yes rfl ?_
            refine T.seq ?_
            refine T.region ?_
            refine TL.val (OpV.move rfl) rfl ?_
            refine TL.val (OpV.move rfl) rfl ?_
            refine TL.val (OpV.loadA ag_62 rfl (by first | exact Cels.blk .here rfl | exact Cels.blk (.there .here) rfl | exact Cels.blk (.there (.there .here)) rfl | exact Cels.blk (.there (.there (.there .here))) rfl | exact Cels.blk (.there (.there (.there (.there .here)))) rfl | exact Cels.blk (.there (.there (.there (.there (.there .here))))) rfl)) rfl ?_
            refine TL.call (g := 35) rfl go_35 rfl (fun w1 k1 => indexed_t w1 cols a1 a2 0 3 (L.below k1.bel) h (k1.get (e := .fr σ) (by first | exact .here | exact (.there .here) | exact (.there (.there .here)) | exact (.there (.there (.there .here))) | exact (.there (.there (.there (.there .here)))))) (indexed_out hv ha)) rfl ?_
            refine TL.val (OpV.move rfl) rfl ?_
            refine TL.open rfl rfl ?_
            refine TL.call (g := 26) rfl go_26 rfl (fun w1 k1 => known_law w1 (L.below k1.bel)) rfl ?_
            refine TL.val ((by first | exact OpV.pick_t rfl rfl | exact OpV.pick_f rfl rfl)) rfl ?_
            refine TL.val (OpV.assign rfl) rfl ?_
            refine TL.nil ?_
            refine TE.sub (.cons (t := 8) rfl <| .nil) ?_
            refine TE.next ?_
            refine T.ret ?_
            refine TE.pass_ret ?_
            refine TE.ret1 rfl (ResV.tmp rfl) ?_
            exact fun w1 k1 => ⟨rfl, k1.bel⟩
          · intro hg57
            refine TA.takeP (i := 4) (ls := #[true, true, true, true, true, false, false, false, false, false, false, false, false, false, false, false, false, false, false, false, false, false, false]) rfl rfl rfl rfl rfl (by kernel_rfl) (by kernel_rfl) (by kernel_rfl) (by repeat (first | with_reducible exact PanicOk.body | with_reducible apply PanicOk.next | with_reducible apply PanicOk.block)) (OpV.fieldAddr rfl fo_62_0) rfl (by kernel_rfl) ?_
            refine TA.take (i := 5) (ls := #[true, true, true, true, true, true, false, false, false, false, false, false, false, false, false, false, false, false, false, false, false, false, false]) rfl rfl rfl rfl rfl (by kernel_rfl) (by kernel_rfl) (by kernel_rfl) (by kernel_rfl) (by repeat (first | with_reducible exact PanicOk.body | with_reducible apply PanicOk.next | with_reducible apply PanicOk.block)) ((.cons (by first | exact .here | exact (.there .here) | exact (.there (.there .here)) | exact (.there (.there (.there .here))) | exact (.there (.there (.there (.there .here)))) | exact (.there (.there (.there (.there (.there .here)))))) .nil)) (OpV.load pl_3 rfl (by first | exact Cel.blk .here rfl | exact Cel.blk (.there .here) rfl | exact Cel.blk (.there (.there .here)) rfl | exact Cel.blk (.there (.there (.there .here))) rfl | exact Cel.blk (.there (.there (.there (.there .here)))) rfl | exact Cel.blk (.there (.there (.there (.there (.there .here))))) rfl)) rfl (by kernel_rfl) ?_
            refine TA.takeP (i := 6) (ls := #[true, true, true, true, true, true, true, false, false, false, false, false, false, false, false, false, false, false, false, false, false, false, false]) rfl rfl rfl rfl rfl (by kernel_rfl) (by kernel_rfl) (by kernel_rfl) (by repeat (first | with_reducible exact PanicOk.body | with_reducible apply PanicOk.next | with_reducible apply PanicOk.block)) (OpV.move rfl) rfl (by kernel_rfl) ?_
            refine TA.takeP (i := 7) (ls := #[true, true, true, true, true, true, true, true, false, false, false, false, false, false, false, false, false, false, false, false, false, false, false]) rfl rfl rfl rfl rfl (by kernel_rfl) (by kernel_rfl) (by kernel_rfl) (by repeat (first | with_reducible exact PanicOk.body | with_reducible apply PanicOk.next | with_reducible apply PanicOk.block)) (OpV.move rfl) rfl (by kernel_rfl) ?_
            refine TA.one (i := 8) (ls := #[true, true, true, true, true, true, true, true, true, false, false, false, false, false, false, false, false, false, false, false, false, false, false]) (by kernel_rfl) rfl (by kernel_rfl) (fun w1 => ?_)
            refine TL.open rfl rfl ?_
            refine TL.callx (g := 37) rfl go_37 rfl (fun wz k1 => own_x k1 (places_c wz cols h (k1.get (e := .fr σ) (by first | exact .here | exact (.there .here) | exact (.there (.there .here)) | exact (.there (.there (.there .here))) | exact (.there (.there (.there (.there .here)))))) (by omega) (by omega))) rfl ?_
            rintro ⟨A1, c1, A2, c2, m, ρ⟩ hpl
            refine TL.nil ?_
            refine TA.cont ((.cons (by first | exact .here | exact (.there .here) | exact (.there (.there .here)) | exact (.there (.there (.there .here))) | exact (.there (.there (.there (.there .here)))) | exact (.there (.there (.there (.there (.there .here)))))) .nil)) ?_
            refine TA.takeP (i := 9) (ls := #[true, true, true, true, true, true, true, true, true, true, false, false, false, false, false, false, false, false, false, false, false, false, false]) rfl rfl rfl rfl rfl (by kernel_rfl) (by kernel_rfl) (by kernel_rfl) (by repeat (first | with_reducible exact PanicOk.body | with_reducible apply PanicOk.next | with_reducible apply PanicOk.block)) (OpV.field rfl (fld_69_2 _ _ _ _ _ _ _ _)) rfl (by kernel_rfl) ?_
            refine TA.takeP (i := 10) (ls := #[true, true, true, true, true, true, true, true, true, true, true, false, false, false, false, false, false, false, false, false, false, false, false]) rfl rfl rfl rfl rfl (by kernel_rfl) (by kernel_rfl) (by kernel_rfl) (by repeat (first | with_reducible exact PanicOk.body | with_reducible apply PanicOk.next | with_reducible apply PanicOk.block)) (OpV.geq rfl rfl) rfl (by kernel_rfl) ?_
            refine TA.takeP (i := 11) (ls := #[true, true, true, true, true, true, true, true, true, true, true, true, false, false, false, false, false, false, false, false, false, false, false]) rfl rfl rfl rfl rfl (by kernel_rfl) (by kernel_rfl) (by kernel_rfl) (by repeat (first | with_reducible exact PanicOk.body | with_reducible apply PanicOk.next | with_reducible apply PanicOk.block)) ((by first | exact OpV.pick_t rfl rfl | exact OpV.pick_f rfl rfl)) rfl (by kernel_rfl) ?_
            refine TA.takeP (i := 12) (ls := #[true, true, true, true, true, true, true, true, true, true, true, true, true, false, false, false, false, false, false, false, false, false, false]) rfl rfl rfl rfl rfl (by kernel_rfl) (by kernel_rfl) (by kernel_rfl) (by repeat (first | with_reducible exact PanicOk.body | with_reducible apply PanicOk.next | with_reducible apply PanicOk.block)) (OpV.move rfl) rfl (by kernel_rfl) ?_
            refine TA.part (t := 66) rfl ?_ ?_
            · intro hg66
              have ha : inA xs cols (a1, a2) = false := by have h9 := of_decide_eq_true hg66; simp [inA, rows_eq hv]; omega
              refine TA.skip (i := 13) (ls := #[true, true, true, true, true, true, true, true, true, true, true, true, true, true, false, false, false, false, false, false, false, false, false]) rfl rfl (by kernel_rfl) (by kernel_rfl) (by kernel_rfl) (by repeat (first | with_reducible exact PanicOk.body | with_reducible apply PanicOk.next | with_reducible apply PanicOk.block)) rfl (by kernel_rfl) ?_
              refine TA.skip (i := 14) (ls := #[true, true, true, true, true, true, true, true, true, true, true, true, true, true, true, false, false, false, false, false, false, false, false]) rfl rfl (by kernel_rfl) (by kernel_rfl) (by kernel_rfl) (by repeat (first | with_reducible exact PanicOk.body | with_reducible apply PanicOk.next | with_reducible apply PanicOk.block)) rfl (by kernel_rfl) ?_
              refine TA.skip (i := 15) (ls := #[true, true, true, true, true, true, true, true, true, true, true, true, true, true, true, true, false, false, false, false, false, false, false]) rfl rfl (by kernel_rfl) (by kernel_rfl) (by kernel_rfl) (by repeat (first | with_reducible exact PanicOk.body | with_reducible apply PanicOk.next | with_reducible apply PanicOk.block)) rfl (by kernel_rfl) ?_
              refine TA.takeP (i := 16) (ls := #[true, true, true, true, true, true, true, true, true, true, true, true, true, true, true, true, true, false, false, false, false, false, false]) rfl rfl rfl rfl rfl (by kernel_rfl) (by kernel_rfl) (by kernel_rfl) (by repeat (first | with_reducible exact PanicOk.body | with_reducible apply PanicOk.next | with_reducible apply PanicOk.block)) ((by first | exact OpV.pick_t rfl rfl | exact OpV.pick_f rfl rfl)) rfl (by kernel_rfl) ?_
              refine TA.takeP (i := 17) (ls := #[true, true, true, true, true, true, true, true, true, true, true, true, true, true, true, true, true, true, false, false, false, false, false]) rfl rfl rfl rfl rfl (by kernel_rfl) (by kernel_rfl) (by kernel_rfl) (by repeat (first | with_reducible exact PanicOk.body | with_reducible apply PanicOk.next | with_reducible apply PanicOk.block)) (OpV.move rfl) rfl (by kernel_rfl) ?_
              refine TA.skip (i := 18) (ls := #[true, true, true, true, true, true, true, true, true, true, true, true, true, true, true, true, true, true, true, false, false, false, false]) rfl rfl (by kernel_rfl) (by kernel_rfl) (by kernel_rfl) (by repeat (first | with_reducible exact PanicOk.body | with_reducible apply PanicOk.next | with_reducible apply PanicOk.block)) rfl (by kernel_rfl) ?_
              refine TA.skip (i := 19) (ls := #[true, true, true, true, true, true, true, true, true, true, true, true, true, true, true, true, true, true, true, true, false, false, false]) rfl rfl (by kernel_rfl) (by kernel_rfl) (by kernel_rfl) (by repeat (first | with_reducible exact PanicOk.body | with_reducible apply PanicOk.next | with_reducible apply PanicOk.block)) rfl (by kernel_rfl) ?_
              refine TA.skip (i := 20) (ls := #[true, true, true, true, true, true, true, true, true, true, true, true, true, true, true, true, true, true, true, true, true, false, false]) rfl rfl (by kernel_rfl) (by kernel_rfl) (by kernel_rfl) (by repeat (first | with_reducible exact PanicOk.body | with_reducible apply PanicOk.next | with_reducible apply PanicOk.block)) rfl (by kernel_rfl) ?_
              refine TA.skip (i := 21) (ls := #[true, true, true, true, true, true, true, true, true, true, true, true, true, true, true, true, true, true, true, true, true, true, false]) rfl rfl (by kernel_rfl) (by kernel_rfl) (by kernel_rfl) (by repeat (first | with_reducible exact PanicOk.body | with_reducible apply PanicOk.next | with_reducible apply PanicOk.block)) rfl (by kernel_rfl) ?_
              refine TA.takeP (i := 22) (ls := #[true, true, true, true, true, true, true, true, true, true, true, true, true, true, true, true, true, true, true, true, true, true, true]) rfl rfl rfl rfl rfl (by kernel_rfl) (by kernel_rfl) (by kernel_rfl) (by repeat (first | with_reducible exact PanicOk.body | with_reducible apply PanicOk.next | with_reducible apply PanicOk.block)) ((by first | exact OpV.pick_t rfl rfl | exact OpV.pick_f rfl rfl)) rfl (by kernel_rfl) ?_
              refine TA.done (by kernel_rfl) ?_
              refine TE.sub (.cons (t := 0) rfl <| .cons (t := 1) rfl <| .cons (t := 7) rfl <| .cons (t := 76) rfl <| .nil) ?_
              refine TE.next ?_
              refine T.yes rfl ?_
              refine T.seq ?_
              refine T.region ?_
              refine TL.val (OpV.move rfl) rfl ?_
              refine TL.val (OpV.move rfl) rfl ?_
              refine TL.val (OpV.loadA ag_62 rfl (by first | exact Cels.blk .here rfl | exact Cels.blk (.there .here) rfl | exact Cels.blk (.there (.there .here)) rfl | exact Cels.blk (.there (.there (.there .here))) rfl | exact Cels.blk (.there (.there (.there (.there .here)))) rfl | exact Cels.blk (.there (.there (.there (.there (.there .here))))) rfl)) rfl ?_
              refine TL.call (g := 35) rfl go_35 rfl (fun w1 k1 => indexed_t w1 cols a1 a2 0 3 (L.below k1.bel) h (k1.get (e := .fr σ) (by first | exact .here | exact (.there .here) | exact (.there (.there .here)) | exact (.there (.there (.there .here))) | exact (.there (.there (.there (.there .here)))))) (indexed_out hv ha)) rfl ?_
              refine TL.val (OpV.move rfl) rfl ?_
              refine TL.open rfl rfl ?_
              refine TL.call (g := 26) rfl go_26 rfl (fun w1 k1 => known_law w1 (L.below k1.bel)) rfl ?_
              refine TL.val ((by first | exact OpV.pick_t rfl rfl | exact OpV.pick_f rfl rfl)) rfl ?_
              refine TL.val (OpV.assign rfl) rfl ?_
              refine TL.nil ?_
              refine TE.sub (.cons (t := 8) rfl <| .nil) ?_
              refine TE.next ?_
              refine T.ret ?_
              refine TE.pass_ret ?_
              refine TE.ret1 rfl (ResV.tmp rfl) ?_
              exact fun w1 k1 => ⟨rfl, k1.bel⟩
            · intro hg66
              refine TA.takeP (i := 13) (ls := #[true, true, true, true, true, true, true, true, true, true, true, true, true, true, false, false, false, false, false, false, false, false, false]) rfl rfl rfl rfl rfl (by kernel_rfl) (by kernel_rfl) (by kernel_rfl) (by repeat (first | with_reducible exact PanicOk.body | with_reducible apply PanicOk.next | with_reducible apply PanicOk.block)) (OpV.fieldAddr rfl fo_62_1) rfl (by kernel_rfl) ?_
              refine TA.take (i := 14) (ls := #[true, true, true, true, true, true, true, true, true, true, true, true, true, true, true, false, false, false, false, false, false, false, false]) rfl rfl rfl rfl rfl (by kernel_rfl) (by kernel_rfl) (by kernel_rfl) (by kernel_rfl) (by repeat (first | with_reducible exact PanicOk.body | with_reducible apply PanicOk.next | with_reducible apply PanicOk.block)) ((.cons (by first | exact .here | exact (.there .here) | exact (.there (.there .here)) | exact (.there (.there (.there .here))) | exact (.there (.there (.there (.there .here)))) | exact (.there (.there (.there (.there (.there .here)))))) .nil)) (OpV.load pl_3 rfl (by first | exact Cel.blk .here rfl | exact Cel.blk (.there .here) rfl | exact Cel.blk (.there (.there .here)) rfl | exact Cel.blk (.there (.there (.there .here))) rfl | exact Cel.blk (.there (.there (.there (.there .here)))) rfl | exact Cel.blk (.there (.there (.there (.there (.there .here))))) rfl)) rfl (by kernel_rfl) ?_
              refine TA.takeP (i := 15) (ls := #[true, true, true, true, true, true, true, true, true, true, true, true, true, true, true, true, false, false, false, false, false, false, false]) rfl rfl rfl rfl rfl (by kernel_rfl) (by kernel_rfl) (by kernel_rfl) (by repeat (first | with_reducible exact PanicOk.body | with_reducible apply PanicOk.next | with_reducible apply PanicOk.block)) (OpV.lss rfl rfl) rfl (by kernel_rfl) ?_
              refine TA.takeP (i := 16) (ls := #[true, true, true, true, true, true, true, true, true, true, true, true, true, true, true, true, true, false, false, false, false, false, false]) rfl rfl rfl rfl rfl (by kernel_rfl) (by kernel_rfl) (by kernel_rfl) (by repeat (first | with_reducible exact PanicOk.body | with_reducible apply PanicOk.next | with_reducible apply PanicOk.block)) ((by first | exact OpV.pick_t rfl rfl | exact OpV.pick_f rfl rfl)) rfl (by kernel_rfl) ?_
              refine TA.takeP (i := 17) (ls := #[true, true, true, true, true, true, true, true, true, true, true, true, true, true, true, true, true, true, false, false, false, false, false]) rfl rfl rfl rfl rfl (by kernel_rfl) (by kernel_rfl) (by kernel_rfl) (by repeat (first | with_reducible exact PanicOk.body | with_reducible apply PanicOk.next | with_reducible apply PanicOk.block)) (OpV.move rfl) rfl (by kernel_rfl) ?_
              refine TA.part (t := 71) rfl ?_ ?_
              · intro hg71
                have ha : inA xs cols (a1, a2) = false := by have h9 := of_decide_eq_true hg71; simp [inA, rows_eq hv]; omega
                refine TA.skip (i := 18) (ls := #[true, true, true, true, true, true, true, true, true, true, true, true, true, true, true, true, true, true, true, false, false, false, false]) rfl rfl (by kernel_rfl) (by kernel_rfl) (by kernel_rfl) (by repeat (first | with_reducible exact PanicOk.body | with_reducible apply PanicOk.next | with_reducible apply PanicOk.block)) rfl (by kernel_rfl) ?_
                refine TA.skip (i := 19) (ls := #[true, true, true, true, true, true, true, true, true, true, true, true, true, true, true, true, true, true, true, true, false, false, false]) rfl rfl (by kernel_rfl) (by kernel_rfl) (by kernel_rfl) (by repeat (first | with_reducible exact PanicOk.body | with_reducible apply PanicOk.next | with_reducible apply PanicOk.block)) rfl (by kernel_rfl) ?_
                refine TA.skip (i := 20) (ls := #[true, true, true, true, true, true, true, true, true, true, true, true, true, true, true, true, true, true, true, true, true, false, false]) rfl rfl (by kernel_rfl) (by kernel_rfl) (by kernel_rfl) (by repeat (first | with_reducible exact PanicOk.body | with_reducible apply PanicOk.next | with_reducible apply PanicOk.block)) rfl (by kernel_rfl) ?_
                refine TA.skip (i := 21) (ls := #[true, true, true, true, true, true, true, true, true, true, true, true, true, true, true, true, true, true, true, true, true, true, false]) rfl rfl (by kernel_rfl) (by kernel_rfl) (by kernel_rfl) (by repeat (first | with_reducible exact PanicOk.body | with_reducible apply PanicOk.next | with_reducible apply PanicOk.block)) rfl (by kernel_rfl) ?_
                refine TA.takeP (i := 22) (ls := #[true, true, true, true, true, true, true, true, true, true, true, true, true, true, true, true, true, true, true, true, true, true, true]) rfl rfl rfl rfl rfl (by kernel_rfl) (by kernel_rfl) (by kernel_rfl) (by repeat (first | with_reducible exact PanicOk.body | with_reducible apply PanicOk.next | with_reducible apply PanicOk.block)) ((by first | exact OpV.pick_t rfl rfl | exact OpV.pick_f rfl rfl)) rfl (by kernel_rfl) ?_
                refine TA.done (by kernel_rfl) ?_
                refine TE.sub (.cons (t := 0) rfl <| .cons (t := 1) rfl <| .cons (t := 7) rfl <| .cons (t := 76) rfl <| .nil) ?_
                refine TE.next ?_
                refine T.yes rfl ?_
                refine T.seq ?_
                refine T.region ?_
                refine TL.val (OpV.move rfl) rfl ?_
                refine TL.val (OpV.move rfl) rfl ?_
                refine TL.val (OpV.loadA ag_62 rfl (by first | exact Cels.blk .here rfl | exact Cels.blk (.there .here) rfl | exact Cels.blk (.there (.there .here)) rfl | exact Cels.blk (.there (.there (.there .here))) rfl | exact Cels.blk (.there (.there (.there (.there .here)))) rfl | exact Cels.blk (.there (.there (.there (.there (.there .here))))) rfl)) rfl ?_
                refine TL.call (g := 35) rfl go_35 rfl (fun w1 k1 => indexed_t w1 cols a1 a2 0 3 (L.below k1.bel) h (k1.get (e := .fr σ) (by first | exact .here | exact (.there .here) | exact (.there (.there .here)) | exact (.there (.there (.there .here))) | exact (.there (.there (.there (.there .here)))))) (indexed_out hv ha)) rfl ?_
                refine TL.val (OpV.move rfl) rfl ?_
                refine TL.open rfl rfl ?_
                refine TL.call (g := 26) rfl go_26 rfl (fun w1 k1 => known_law w1 (L.below k1.bel)) rfl ?_
                refine TL.val ((by first | exact OpV.pick_t rfl rfl | exact OpV.pick_f rfl rfl)) rfl ?_
                refine TL.val (OpV.assign rfl) rfl ?_
                refine TL.nil ?_
                refine TE.sub (.cons (t := 8) rfl <| .nil) ?_
                refine TE.next ?_
                refine T.ret ?_
                refine TE.pass_ret ?_
                refine TE.ret1 rfl (ResV.tmp rfl) ?_
                exact fun w1 k1 => ⟨rfl, k1.bel⟩
              · intro hg71
                refine TA.takeP (i := 18) (ls := #[true, true, true, true, true, true, true, true, true, true, true, true, true, true, true, true, true, true, true, false, false, false, false]) rfl rfl rfl rfl rfl (by kernel_rfl) (by kernel_rfl) (by kernel_rfl) (by repeat (first | with_reducible exact PanicOk.body | with_reducible apply PanicOk.next | with_reducible apply PanicOk.block)) (OpV.fieldAddr rfl fo_62_1) rfl (by kernel_rfl) ?_
                refine TA.take (i := 19) (ls := #[true, true, true, true, true, true, true, true, true, true, true, true, true, true, true, true, true, true, true, true, false, false, false]) rfl rfl rfl rfl rfl (by kernel_rfl) (by kernel_rfl) (by kernel_rfl) (by kernel_rfl) (by repeat (first | with_reducible exact PanicOk.body | with_reducible apply PanicOk.next | with_reducible apply PanicOk.block)) ((.cons (by first | exact .here | exact (.there .here) | exact (.there (.there .here)) | exact (.there (.there (.there .here))) | exact (.there (.there (.there (.there .here)))) | exact (.there (.there (.there (.there (.there .here)))))) .nil)) (OpV.load pl_3 rfl (by first | exact Cel.blk .here rfl | exact Cel.blk (.there .here) rfl | exact Cel.blk (.there (.there .here)) rfl | exact Cel.blk (.there (.there (.there .here))) rfl | exact Cel.blk (.there (.there (.there (.there .here)))) rfl | exact Cel.blk (.there (.there (.there (.there (.there .here))))) rfl)) rfl (by kernel_rfl) ?_
                refine TA.takeP (i := 20) (ls := #[true, true, true, true, true, true, true, true, true, true, true, true, true, true, true, true, true, true, true, true, true, false, false]) rfl rfl rfl rfl rfl (by kernel_rfl) (by kernel_rfl) (by kernel_rfl) (by repeat (first | with_reducible exact PanicOk.body | with_reducible apply PanicOk.next | with_reducible apply PanicOk.block)) (OpV.move rfl) rfl (by kernel_rfl) ?_
                refine TA.takeP (i := 21) (ls := #[true, true, true, true, true, true, true, true, true, true, true, true, true, true, true, true, true, true, true, true, true, true, false]) rfl rfl rfl rfl rfl (by kernel_rfl) (by kernel_rfl) (by kernel_rfl) (by repeat (first | with_reducible exact PanicOk.body | with_reducible apply PanicOk.next | with_reducible apply PanicOk.block)) (OpV.geq rfl rfl) rfl (by kernel_rfl) ?_
                refine TA.takeP (i := 22) (ls := #[true, true, true, true, true, true, true, true, true, true, true, true, true, true, true, true, true, true, true, true, true, true, true]) rfl rfl rfl rfl rfl (by kernel_rfl) (by kernel_rfl) (by kernel_rfl) (by repeat (first | with_reducible exact PanicOk.body | with_reducible apply PanicOk.next | with_reducible apply PanicOk.block)) ((by first | exact OpV.pick_t rfl rfl | exact OpV.pick_f rfl rfl)) rfl (by kernel_rfl) ?_
                refine TA.done (by kernel_rfl) ?_
                refine TE.sub (.cons (t := 0) rfl <| .cons (t := 1) rfl <| .cons (t := 7) rfl <| .cons (t := 76) rfl <| .nil) ?_
                refine TE.next ?_
                refine T.cond rfl ?_ ?_
                · intro ht76
                  have ha : inA xs cols (a1, a2) = false := by have h9 := of_decide_eq_true ht76; simp [inA, rows_eq hv]; omega
                  refine T.seq ?_
                  refine T.region ?_
                  refine TL.val (OpV.move rfl) rfl ?_
                  refine TL.val (OpV.move rfl) rfl ?_
                  refine TL.val (OpV.loadA ag_62 rfl (by first | exact Cels.blk .here rfl | exact Cels.blk (.there .here) rfl | exact Cels.blk (.there (.there .here)) rfl | exact Cels.blk (.there (.there (.there .here))) rfl | exact Cels.blk (.there (.there (.there (.there .here)))) rfl | exact Cels.blk (.there (.there (.there (.there (.there .here))))) rfl)) rfl ?_
                  refine TL.call (g := 35) rfl go_35 rfl (fun w1 k1 => indexed_t w1 cols a1 a2 0 3 (L.below k1.bel) h (k1.get (e := .fr σ) (by first | exact .here | exact (.there .here) | exact (.there (.there .here)) | exact (.there (.there (.there .here))) | exact (.there (.there (.there (.there .here)))))) (indexed_out hv ha)) rfl ?_
                  refine TL.val (OpV.move rfl) rfl ?_
                  refine TL.open rfl rfl ?_
                  refine TL.call (g := 26) rfl go_26 rfl (fun w1 k1 => known_law w1 (L.below k1.bel)) rfl ?_
                  refine TL.val ((by first | exact OpV.pick_t rfl rfl | exact OpV.pick_f rfl rfl)) rfl ?_
                  refine TL.val (OpV.assign rfl) rfl ?_
                  refine TL.nil ?_
                  refine TE.sub (.cons (t := 8) rfl <| .nil) ?_
                  refine TE.next ?_
                  refine T.ret ?_
                  refine TE.pass_ret ?_
                  refine TE.ret1 rfl (ResV.tmp rfl) ?_
                  exact fun w1 k1 => ⟨rfl, k1.bel⟩
                · intro ht76
                  have ha : inA xs cols (a1, a2) = true := by have h9 := of_decide_eq_false ht76; have h8 := of_decide_eq_false hg71; have h7 := of_decide_eq_false hg66; have h6 := of_decide_eq_false hg57; simp [inA, rows_eq hv]; omega
                  refine T.skip ?_
                  refine TE.next ?_
                  refine T.seq ?_
                  refine T.quiet mix (by kernel_rfl) ?_
                  refine TQ.val (OpV.move rfl) rfl ?_
                  refine TQ.val (OpV.move rfl) rfl ?_
                  refine TQ.val (OpV.loadA ag_62 rfl (by first | exact Cels.blk .here rfl | exact Cels.blk (.there .here) rfl | exact Cels.blk (.there (.there .here)) rfl | exact Cels.blk (.there (.there (.there .here))) rfl | exact Cels.blk (.there (.there (.there (.there .here)))) rfl | exact Cels.blk (.there (.there (.there (.there (.there .here))))) rfl)) rfl ?_
                  refine TQ.val (OpV.move rfl) rfl ?_
                  refine TQ.val (OpV.move rfl) rfl ?_
                  refine TQ.val (OpV.loadA ag_62 rfl (by first | exact Cels.blk .here rfl | exact Cels.blk (.there .here) rfl | exact Cels.blk (.there (.there .here)) rfl | exact Cels.blk (.there (.there (.there .here))) rfl | exact Cels.blk (.there (.there (.there (.there .here)))) rfl | exact Cels.blk (.there (.there (.there (.there (.there .here))))) rfl)) rfl ?_
                  refine TQ.call (g := 38) rfl go_38 rfl (fun w1 k1 => rindex_c w1 cols a1 a2 h (k1.get (e := .fr σ) (by first | exact .here | exact (.there .here) | exact (.there (.there .here)) | exact (.there (.there (.there .here))) | exact (.there (.there (.there (.there .here)))))) (by omega) (by omega)) rfl ?_
                  refine TQ.call (g := 35) rfl go_35 rfl (fun w1 k1 => indexed_t w1 cols a1 a2 _ 0 (L.below k1.bel) h (k1.get (e := .fr σ) (by first | exact .here | exact (.there .here) | exact (.there (.there .here)) | exact (.there (.there (.there .here))) | exact (.there (.there (.there (.there .here)))))) (indexed_ok hv ha)) rfl ?_
                  refine TQ.val (OpV.move rfl) rfl ?_
                  refine TQ.open rfl rfl ?_
                  refine TQ.call (g := 26) rfl go_26 rfl (fun w1 k1 => known_law w1 (L.below k1.bel)) rfl ?_
                  refine TQ.val ((by first | exact OpV.pick_t rfl rfl | exact OpV.pick_f rfl rfl)) rfl ?_
                  refine TQ.val (OpV.assign rfl) rfl ?_
                  refine TQ.nil ?_
                  refine TE.sub (.cons (t := 8) rfl <| .nil) ?_
                  refine TE.next ?_
                  refine T.ret ?_
                  refine TE.ret1 rfl (ResV.tmp rfl) ?_
                  exact fun w1 k1 => ⟨rfl, k1.bel⟩
        · intro ht38
          obtain ⟨q, rfl⟩ : ∃ q : Nat, p = (q : Int) := ⟨p.toNat, by have h8 := of_decide_eq_false hg33; omega⟩
          have hqn : q ≤ n := by have h9 := of_decide_eq_false ht38; omega
          refine T.seq ?_
          refine T.region ?_
          refine TL.val (OpV.move rfl) rfl ?_
          refine TL.val (OpV.move rfl) rfl ?_
          refine TL.val (OpV.move rfl) rfl ?_
          refine TL.val (OpV.move rfl) rfl ?_
          refine TL.val (OpV.move rfl) rfl ?_
          refine TL.val (OpV.move rfl) rfl ?_
          refine TL.call (g := 36) rfl go_36 rfl (fun w1 k1 => rplace_c w1 cols q h (k1.get (e := .fr σ) (by first | exact .here | exact (.there .here) | exact (.there (.there .here)) | exact (.there (.there (.there .here))) | exact (.there (.there (.there (.there .here)))))) (by omega) (by omega)) rfl ?_
          refine TL.call (g := 33) rfl go_33 rfl (fun w1 k1 => placed_t w1 cols q _ _ 0 (L.below k1.bel) h (k1.get (e := .fr σ) (by first | exact .here | exact (.there .here) | exact (.there (.there .here)) | exact (.there (.there (.there .here))) | exact (.there (.there (.there (.there .here)))))) (placed_ok hv (by omega))) rfl ?_
          refine TL.val (OpV.not rfl) rfl ?_
          refine TL.nil ?_
          refine TE.sub (.cons (t := 0) rfl <| .cons (t := 1) rfl <| .cons (t := 7) rfl <| .cons (t := 53) rfl <| .nil) ?_
          refine TE.next ?_
          refine T.no rfl ?_
          refine T.skip ?_
          refine TE.next ?_
          refine T.seq ?_
          refine T.seq ?_
          refine T.any ([.blk b7 (anL a1 a2) 62]) [] mix rfl rfl ?_
          refine TA.takeP (i := 0) (ls := #[true, false, false, false, false, false, false, false, false, false, false, false, false, false, false, false, false, false, false, false, false, false, false]) rfl rfl rfl rfl rfl (by kernel_rfl) (by kernel_rfl) (by kernel_rfl) (by repeat (first | with_reducible exact PanicOk.body | with_reducible apply PanicOk.next | with_reducible apply PanicOk.block)) (OpV.fieldAddr rfl fo_62_0) rfl (by kernel_rfl) ?_
          refine TA.take (i := 1) (ls := #[true, true, false, false, false, false, false, false, false, false, false, false, false, false, false, false, false, false, false, false, false, false, false]) rfl rfl rfl rfl rfl (by kernel_rfl) (by kernel_rfl) (by kernel_rfl) (by kernel_rfl) (by repeat (first | with_reducible exact PanicOk.body | with_reducible apply PanicOk.next | with_reducible apply PanicOk.block)) ((.cons (by first | exact .here | exact (.there .here) | exact (.there (.there .here)) | exact (.there (.there (.there .here))) | exact (.there (.there (.there (.there .here)))) | exact (.there (.there (.there (.there (.there .here)))))) .nil)) (OpV.load pl_3 rfl (by first | exact Cel.blk .here rfl | exact Cel.blk (.there .here) rfl | exact Cel.blk (.there (.there .here)) rfl | exact Cel.blk (.there (.there (.there .here))) rfl | exact Cel.blk (.there (.there (.there (.there .here)))) rfl | exact Cel.blk (.there (.there (.there (.there (.there .here))))) rfl)) rfl (by kernel_rfl) ?_
          refine TA.takeP (i := 2) (ls := #[true, true, true, false, false, false, false, false, false, false, false, false, false, false, false, false, false, false, false, false, false, false, false]) rfl rfl rfl rfl rfl (by kernel_rfl) (by kernel_rfl) (by kernel_rfl) (by repeat (first | with_reducible exact PanicOk.body | with_reducible apply PanicOk.next | with_reducible apply PanicOk.block)) (OpV.lss rfl rfl) rfl (by kernel_rfl) ?_
          refine TA.takeP (i := 3) (ls := #[true, true, true, true, false, false, false, false, false, false, false, false, false, false, false, false, false, false, false, false, false, false, false]) rfl rfl rfl rfl rfl (by kernel_rfl) (by kernel_rfl) (by kernel_rfl) (by repeat (first | with_reducible exact PanicOk.body | with_reducible apply PanicOk.next | with_reducible apply PanicOk.block)) (OpV.move rfl) rfl (by kernel_rfl) ?_
          refine TA.part (t := 57) rfl ?_ ?_
          · intro hg57
            have ha : inA xs cols (a1, a2) = false := by have h9 := of_decide_eq_true hg57; simp [inA, rows_eq hv]; omega
            refine TA.skip (i := 4) (ls := #[true, true, true, true, true, false, false, false, false, false, false, false, false, false, false, false, false, false, false, false, false, false, false]) rfl rfl (by kernel_rfl) (by kernel_rfl) (by kernel_rfl) (by repeat (first | with_reducible exact PanicOk.body | with_reducible apply PanicOk.next | with_reducible apply PanicOk.block)) rfl (by kernel_rfl) ?_
            refine TA.skip (i := 5) (ls := #[true, true, true, true, true, true, false, false, false, false, false, false, false, false, false, false, false, false, false, false, false, false, false]) rfl rfl (by kernel_rfl) (by kernel_rfl) (by kernel_rfl) (by repeat (first | with_reducible exact PanicOk.body | with_reducible apply PanicOk.next | with_reducible apply PanicOk.block)) rfl (by kernel_rfl) ?_
            refine TA.skip (i := 6) (ls := #[true, true, true, true, true, true, true, false, false, false, false, false, false, false, false, false, false, false, false, false, false, false, false]) rfl rfl (by kernel_rfl) (by kernel_rfl) (by kernel_rfl) (by repeat (first | with_reducible exact PanicOk.body | with_reducible apply PanicOk.next | with_reducible apply PanicOk.block)) rfl (by kernel_rfl) ?_
            refine TA.skip (i := 7) (ls := #[true, true, true, true, true, true, true, true, false, false, false, false, false, false, false, false, false, false, false, false, false, false, false]) rfl rfl (by kernel_rfl) (by kernel_rfl) (by kernel_rfl) (by repeat (first | with_reducible exact PanicOk.body | with_reducible apply PanicOk.next | with_reducible apply PanicOk.block)) rfl (by kernel_rfl) ?_
            refine TA.one (i := 8) (ls := #[true, true, true, true, true, true, true, true, true, false, false, false, false, false, false, false, false, false, false, false, false, false, false]) (by kernel_rfl) rfl (by kernel_rfl) (fun w1 => ?_)
            refine TL.shut rfl rfl ?_
            refine TL.nil ?_
            refine TA.cont ((.cons (by first | exact .here | exact (.there .here) | exact (.there (.there .here)) | exact (.there (.there (.there .here))) | exact (.there (.there (.there (.there .here)))) | exact (.there (.there (.there (.there (.there .here)))))) .nil)) ?_
            refine TA.skip (i := 9) (ls := #[true, true, true, true, true, true, true, true, true, true, false, false, false, false, false, false, false, false, false, false, false, false, false]) rfl rfl (by kernel_rfl) (by kernel_rfl) (by kernel_rfl) (by repeat (first | with_reducible exact PanicOk.body | with_reducible apply PanicOk.next | with_reducible apply PanicOk.block)) rfl (by kernel_rfl) ?_
            refine TA.skip (i := 10) (ls := #[true, true, true, true, true, true, true, true, true, true, true, false, false, false, false, false, false, false, false, false, false, false, false]) rfl rfl (by kernel_rfl) (by kernel_rfl) (by kernel_rfl) (by repeat (first | with_reducible exact PanicOk.body | with_reducible apply PanicOk.next | with_reducible apply PanicOk.block)) rfl (by kernel_rfl) ?_
            refine TA.takeP (i := 11) (ls := #[true, true, true, true, true, true, true, true, true, true, true, true, false, false, false, false, false, false, false, false, false, false, false]) rfl rfl rfl rfl rfl (by kernel_rfl) (by kernel_rfl) (by kernel_rfl) (by repeat (first | with_reducible exact PanicOk.body | with_reducible apply PanicOk.next | with_reducible apply PanicOk.block)) ((by first | exact OpV.pick_t rfl rfl | exact OpV.pick_f rfl rfl)) rfl (by kernel_rfl) ?_
            refine TA.takeP (i := 12) (ls := #[true, true, true, true, true, true, true, true, true, true, true, true, true, false, false, false, false, false, false, false, false, false, false]) rfl rfl rfl rfl rfl (by kernel_rfl) (by kernel_rfl) (by kernel_rfl) (by repeat (first | with_reducible exact PanicOk.body | with_reducible apply PanicOk.next | with_reducible apply PanicOk.block)) (OpV.move rfl) rfl (by kernel_rfl) ?_
            refine TA.skip (i := 13) (ls := #[true, true, true, true, true, true, true, true, true, true, true, true, true, true, false, false, false, false, false, false, false, false, false]) rfl rfl (by kernel_rfl) (by kernel_rfl) (by kernel_rfl) (by repeat (first | with_reducible exact PanicOk.body | with_reducible apply PanicOk.next | with_reducible apply PanicOk.block)) rfl (by kernel_rfl) ?_
            refine TA.skip (i := 14) (ls := #[true, true, true, true, true, true, true, true, true, true, true, true, true, true, true, false, false, false, false, false, false, false, false]) rfl rfl (by kernel_rfl) (by kernel_rfl) (by kernel_rfl) (by repeat (first | with_reducible exact PanicOk.body | with_reducible apply PanicOk.next | with_reducible apply PanicOk.block)) rfl (by kernel_rfl) ?_
            refine TA.skip (i := 15) (ls := #[true, true, true, true, true, true, true, true, true, true, true, true, true, true, true, true, false, false, false, false, false, false, false]) rfl rfl (by kernel_rfl) (by kernel_rfl) (by kernel_rfl) (by repeat (first | with_reducible exact PanicOk.body | with_reducible apply PanicOk.next | with_reducible apply PanicOk.block)) rfl (by kernel_rfl) ?_
            refine TA.takeP (i := 16) (ls := #[true, true, true, true, true, true, true, true, true, true, true, true, true, true, true, true, true, false, false, false, false, false, false]) rfl rfl rfl rfl rfl (by kernel_rfl) (by kernel_rfl) (by kernel_rfl) (by repeat (first | with_reducible exact PanicOk.body | with_reducible apply PanicOk.next | with_reducible apply PanicOk.block)) ((by first | exact OpV.pick_t rfl rfl | exact OpV.pick_f rfl rfl)) rfl (by kernel_rfl) ?_
            refine TA.takeP (i := 17) (ls := #[true, true, true, true, true, true, true, true, true, true, true, true, true, true, true, true, true, true, false, false, false, false, false]) rfl rfl rfl rfl rfl (by kernel_rfl) (by kernel_rfl) (by kernel_rfl) (by repeat (first | with_reducible exact PanicOk.body | with_reducible apply PanicOk.next | with_reducible apply PanicOk.block)) (OpV.move rfl) rfl (by kernel_rfl) ?_
            refine TA.skip (i := 18) (ls := #[true, true, true, true, true, true, true, true, true, true, true, true, true, true, true, true, true, true, true, false, false, false, false]) rfl rfl (by kernel_rfl) (by kernel_rfl) (by kernel_rfl) (by repeat (first | with_reducible exact PanicOk.body | with_reducible apply PanicOk.next | with_reducible apply PanicOk.block)) rfl (by kernel_rfl) ?_
            refine TA.skip (i := 19) (ls := #[true, true, true, true, true, true, true, true, true, true, true, true, true, true, true, true, true, true, true, true, false, false, false]) rfl rfl (by kernel_rfl) (by kernel_rfl) (by kernel_rfl) (by repeat (first | with_reducible exact PanicOk.body | with_reducible apply PanicOk.next | with_reducible apply PanicOk.block)) rfl (by kernel_rfl) ?_
            refine TA.skip (i := 20) (ls := #[true, true, true, true, true, true, true, true, true, true, true, true, true, true, true, true, true, true, true, true, true, false, false]) rfl rfl (by kernel_rfl) (by kernel_rfl) (by kernel_rfl) (by repeat (first | with_reducible exact PanicOk.body | with_reducible apply PanicOk.next | with_reducible apply PanicOk.block)) rfl (by kernel_rfl) ?_
            refine TA.skip (i := 21) (ls := #[true, true, true, true, true, true, true, true, true, true, true, true, true, true, true, true, true, true, true, true, true, true, false]) rfl rfl (by kernel_rfl) (by kernel_rfl) (by kernel_rfl) (by repeat (first | with_reducible exact PanicOk.body | with_reducible apply PanicOk.next | with_reducible apply PanicOk.block)) rfl (by kernel_rfl) ?_
            refine TA.takeP (i := 22) (ls := #[true, true, true, true, true, true, true, true, true, true, true, true, true, true, true, true, true, true, true, true, true, true, true]) rfl rfl rfl rfl rfl (by kernel_rfl) (by kernel_rfl) (by kernel_rfl) (by repeat (first | with_reducible exact PanicOk.body | with_reducible apply PanicOk.next | with_reducible apply PanicOk.block)) ((by first | exact OpV.pick_t rfl rfl | exact OpV.pick_f rfl rfl)) rfl (by kernel_rfl) ?_
            refine TA.done (by kernel_rfl) ?_
            refine TE.sub (.cons (t := 0) rfl <| .cons (t := 1) rfl <| .cons (t := 7) rfl <| .cons (t := 76) rfl <| .nil) ?_
            refine TE.next ?_
            refine T.yes rfl ?_
            refine T.seq ?_
            refine T.region ?_
            refine TL.val (OpV.move rfl) rfl ?_
            refine TL.val (OpV.move rfl) rfl ?_
            refine TL.val (OpV.loadA ag_62 rfl (by first | exact Cels.blk .here rfl | exact Cels.blk (.there .here) rfl | exact Cels.blk (.there (.there .here)) rfl | exact Cels.blk (.there (.there (.there .here))) rfl | exact Cels.blk (.there (.there (.there (.there .here)))) rfl | exact Cels.blk (.there (.there (.there (.there (.there .here))))) rfl)) rfl ?_
            refine TL.call (g := 35) rfl go_35 rfl (fun w1 k1 => indexed_t w1 cols a1 a2 0 3 (L.below k1.bel) h (k1.get (e := .fr σ) (by first | exact .here | exact (.there .here) | exact (.there (.there .here)) | exact (.there (.there (.there .here))) | exact (.there (.there (.there (.there .here)))))) (indexed_out hv ha)) rfl ?_
            refine TL.val (OpV.move rfl) rfl ?_
            refine TL.open rfl rfl ?_
            refine TL.call (g := 26) rfl go_26 rfl (fun w1 k1 => known_law w1 (L.below k1.bel)) rfl ?_
            refine TL.val ((by first | exact OpV.pick_t rfl rfl | exact OpV.pick_f rfl rfl)) rfl ?_
            refine TL.val (OpV.assign rfl) rfl ?_
            refine TL.nil ?_
            refine TE.sub (.cons (t := 8) rfl <| .nil) ?_
            refine TE.next ?_
            refine T.ret ?_
            refine TE.pass_ret ?_
            refine TE.ret1 rfl (ResV.tmp rfl) ?_
            exact fun w1 k1 => ⟨rfl, k1.bel⟩
          · intro hg57
            refine TA.takeP (i := 4) (ls := #[true, true, true, true, true, false, false, false, false, false, false, false, false, false, false, false, false, false, false, false, false, false, false]) rfl rfl rfl rfl rfl (by kernel_rfl) (by kernel_rfl) (by kernel_rfl) (by repeat (first | with_reducible exact PanicOk.body | with_reducible apply PanicOk.next | with_reducible apply PanicOk.block)) (OpV.fieldAddr rfl fo_62_0) rfl (by kernel_rfl) ?_
            refine TA.take (i := 5) (ls := #[true, true, true, true, true, true, false, false, false, false, false, false, false, false, false, false, false, false, false, false, false, false, false]) rfl rfl rfl rfl rfl (by kernel_rfl) (by kernel_rfl) (by kernel_rfl) (by kernel_rfl) (by repeat (first | with_reducible exact PanicOk.body | with_reducible apply PanicOk.next | with_reducible apply PanicOk.block)) ((.cons (by first | exact .here | exact (.there .here) | exact (.there (.there .here)) | exact (.there (.there (.there .here))) | exact (.there (.there (.there (.there .here)))) | exact (.there (.there (.there (.there (.there .here)))))) .nil)) (OpV.load pl_3 rfl (by first | exact Cel.blk .here rfl | exact Cel.blk (.there .here) rfl | exact Cel.blk (.there (.there .here)) rfl | exact Cel.blk (.there (.there (.there .here))) rfl | exact Cel.blk (.there (.there (.there (.there .here)))) rfl | exact Cel.blk (.there (.there (.there (.there (.there .here))))) rfl)) rfl (by kernel_rfl) ?_
            refine TA.takeP (i := 6) (ls := #[true, true, true, true, true, true, true, false, false, false, false, false, false, false, false, false, false, false, false, false, false, false, false]) rfl rfl rfl rfl rfl (by kernel_rfl) (by kernel_rfl) (by kernel_rfl) (by repeat (first | with_reducible exact PanicOk.body | with_reducible apply PanicOk.next | with_reducible apply PanicOk.block)) (OpV.move rfl) rfl (by kernel_rfl) ?_
            refine TA.takeP (i := 7) (ls := #[true, true, true, true, true, true, true, true, false, false, false, false, false, false, false, false, false, false, false, false, false, false, false]) rfl rfl rfl rfl rfl (by kernel_rfl) (by kernel_rfl) (by kernel_rfl) (by repeat (first | with_reducible exact PanicOk.body | with_reducible apply PanicOk.next | with_reducible apply PanicOk.block)) (OpV.move rfl) rfl (by kernel_rfl) ?_
            refine TA.one (i := 8) (ls := #[true, true, true, true, true, true, true, true, true, false, false, false, false, false, false, false, false, false, false, false, false, false, false]) (by kernel_rfl) rfl (by kernel_rfl) (fun w1 => ?_)
            refine TL.open rfl rfl ?_
            refine TL.callx (g := 37) rfl go_37 rfl (fun wz k1 => own_x k1 (places_c wz cols h (k1.get (e := .fr σ) (by first | exact .here | exact (.there .here) | exact (.there (.there .here)) | exact (.there (.there (.there .here))) | exact (.there (.there (.there (.there .here)))))) (by omega) (by omega))) rfl ?_
            rintro ⟨A1, c1, A2, c2, m, ρ⟩ hpl
            refine TL.nil ?_
            refine TA.cont ((.cons (by first | exact .here | exact (.there .here) | exact (.there (.there .here)) | exact (.there (.there (.there .here))) | exact (.there (.there (.there (.there .here)))) | exact (.there (.there (.there (.there (.there .here)))))) .nil)) ?_
            refine TA.takeP (i := 9) (ls := #[true, true, true, true, true, true, true, true, true, true, false, false, false, false, false, false, false, false, false, false, false, false, false]) rfl rfl rfl rfl rfl (by kernel_rfl) (by kernel_rfl) (by kernel_rfl) (by repeat (first | with_reducible exact PanicOk.body | with_reducible apply PanicOk.next | with_reducible apply PanicOk.block)) (OpV.field rfl (fld_69_2 _ _ _ _ _ _ _ _)) rfl (by kernel_rfl) ?_
            refine TA.takeP (i := 10) (ls := #[true, true, true, true, true, true, true, true, true, true, true, false, false, false, false, false, false, false, false, false, false, false, false]) rfl rfl rfl rfl rfl (by kernel_rfl) (by kernel_rfl) (by kernel_rfl) (by repeat (first | with_reducible exact PanicOk.body | with_reducible apply PanicOk.next | with_reducible apply PanicOk.block)) (OpV.geq rfl rfl) rfl (by kernel_rfl) ?_
            refine TA.takeP (i := 11) (ls := #[true, true, true, true, true, true, true, true, true, true, true, true, false, false, false, false, false, false, false, false, false, false, false]) rfl rfl rfl rfl rfl (by kernel_rfl) (by kernel_rfl) (by kernel_rfl) (by repeat (first | with_reducible exact PanicOk.body | with_reducible apply PanicOk.next | with_reducible apply PanicOk.block)) ((by first | exact OpV.pick_t rfl rfl | exact OpV.pick_f rfl rfl)) rfl (by kernel_rfl) ?_
            refine TA.takeP (i := 12) (ls := #[true, true, true, true, true, true, true, true, true, true, true, true, true, false, false, false, false, false, false, false, false, false, false]) rfl rfl rfl rfl rfl (by kernel_rfl) (by kernel_rfl) (by kernel_rfl) (by repeat (first | with_reducible exact PanicOk.body | with_reducible apply PanicOk.next | with_reducible apply PanicOk.block)) (OpV.move rfl) rfl (by kernel_rfl) ?_
            refine TA.part (t := 66) rfl ?_ ?_
            · intro hg66
              have ha : inA xs cols (a1, a2) = false := by have h9 := of_decide_eq_true hg66; simp [inA, rows_eq hv]; omega
              refine TA.skip (i := 13) (ls := #[true, true, true, true, true, true, true, true, true, true, true, true, true, true, false, false, false, false, false, false, false, false, false]) rfl rfl (by kernel_rfl) (by kernel_rfl) (by kernel_rfl) (by repeat (first | with_reducible exact PanicOk.body | with_reducible apply PanicOk.next | with_reducible apply PanicOk.block)) rfl (by kernel_rfl) ?_
              refine TA.skip (i := 14) (ls := #[true, true, true, true, true, true, true, true, true, true, true, true, true, true, true, false, false, false, false, false, false, false, false]) rfl rfl (by kernel_rfl) (by kernel_rfl) (by kernel_rfl) (by repeat (first | with_reducible exact PanicOk.body | with_reducible apply PanicOk.next | with_reducible apply PanicOk.block)) rfl (by kernel_rfl) ?_
              refine TA.skip (i := 15) (ls := #[true, true, true, true, true, true, true, true, true, true, true, true, true, true, true, true, false, false, false, false, false, false, false]) rfl rfl (by kernel_rfl) (by kernel_rfl) (by kernel_rfl) (by repeat (first | with_reducible exact PanicOk.body | with_reducible apply PanicOk.next | with_reducible apply PanicOk.block)) rfl (by kernel_rfl) ?_
              refine TA.takeP (i := 16) (ls := #[true, true, true, true, true, true, true, true, true, true, true, true, true, true, true, true, true, false, false, false, false, false, false]) rfl rfl rfl rfl rfl (by kernel_rfl) (by kernel_rfl) (by kernel_rfl) (by repeat (first | with_reducible exact PanicOk.body | with_reducible apply PanicOk.next | with_reducible apply PanicOk.block)) ((by first | exact OpV.pick_t rfl rfl | exact OpV.pick_f rfl rfl)) rfl (by kernel_rfl) ?_
              refine TA.takeP (i := 17) (ls := #[true, true, true, true, true, true, true, true, true, true, true, true, true, true, true, true, true, true, false, false, false, false, false]) rfl rfl rfl rfl rfl (by kernel_rfl) (by kernel_rfl) (by kernel_rfl) (by repeat (first | with_reducible exact PanicOk.body | with_reducible apply PanicOk.next | with_reducible apply PanicOk.block)) (OpV.move rfl) rfl (by kernel_rfl) ?_
              refine TA.skip (i := 18) (ls := #[true, true, true, true, true, true, true, true, true, true, true, true, true, true, true, true, true, true, true, false, false, false, false]) rfl rfl (by kernel_rfl) (by kernel_rfl) (by kernel_rfl) (by repeat (first | with_reducible exact PanicOk.body | with_reducible apply PanicOk.next | with_reducible apply PanicOk.block)) rfl (by kernel_rfl) ?_
              refine TA.skip (i := 19) (ls := #[true, true, true, true, true, true, true, true, true, true, true, true, true, true, true, true, true, true, true, true, false, false, false]) rfl rfl (by kernel_rfl) (by kernel_rfl) (by kernel_rfl) (by repeat (first | with_reducible exact PanicOk.body | with_reducible apply PanicOk.next | with_reducible apply PanicOk.block)) rfl (by kernel_rfl) ?_
              refine TA.skip (i := 20) (ls := #[true, true, true, true, true, true, true, true, true, true, true, true, true, true, true, true, true, true, true, true, true, false, false]) rfl rfl (by kernel_rfl) (by kernel_rfl) (by kernel_rfl) (by repeat (first | with_reducible exact PanicOk.body | with_reducible apply PanicOk.next | with_reducible apply PanicOk.block)) rfl (by kernel_rfl) ?_
              refine TA.skip (i := 21) (ls := #[true, true, true, true, true, true, true, true, true, true, true, true, true, true, true, true, true, true, true, true, true, true, false]) rfl rfl (by kernel_rfl) (by kernel_rfl) (by kernel_rfl) (by repeat (first | with_reducible exact PanicOk.body | with_reducible apply PanicOk.next | with_reducible apply PanicOk.block)) rfl (by kernel_rfl) ?_
              refine TA.takeP (i := 22) (ls := #[true, true, true, true, true, true, true, true, true, true, true, true, true, true, true, true, true, true, true, true, true, true, true]) rfl rfl rfl rfl rfl (by kernel_rfl) (by kernel_rfl) (by kernel_rfl) (by repeat (first | with_reducible exact PanicOk.body | with_reducible apply PanicOk.next | with_reducible apply PanicOk.block)) ((by first | exact OpV.pick_t rfl rfl | exact OpV.pick_f rfl rfl)) rfl (by kernel_rfl) ?_
              refine TA.done (by kernel_rfl) ?_
              refine TE.sub (.cons (t := 0) rfl <| .cons (t := 1) rfl <| .cons (t := 7) rfl <| .cons (t := 76) rfl <| .nil) ?_
              refine TE.next ?_
              refine T.yes rfl ?_
              refine T.seq ?_
              refine T.region ?_
              refine TL.val (OpV.move rfl) rfl ?_
              refine TL.val (OpV.move rfl) rfl ?_
              refine TL.val (OpV.loadA ag_62 rfl (by first | exact Cels.blk .here rfl | exact Cels.blk (.there .here) rfl | exact Cels.blk (.there (.there .here)) rfl | exact Cels.blk (.there (.there (.there .here))) rfl | exact Cels.blk (.there (.there (.there (.there .here)))) rfl | exact Cels.blk (.there (.there (.there (.there (.there .here))))) rfl)) rfl ?_
              refine TL.call (g := 35) rfl go_35 rfl (fun w1 k1 => indexed_t w1 cols a1 a2 0 3 (L.below k1.bel) h (k1.get (e := .fr σ) (by first | exact .here | exact (.there .here) | exact (.there (.there .here)) | exact (.there (.there (.there .here))) | exact (.there (.there (.there (.there .here)))))) (indexed_out hv ha)) rfl ?_
              refine TL.val (OpV.move rfl) rfl ?_
              refine TL.open rfl rfl ?_
              refine TL.call (g := 26) rfl go_26 rfl (fun w1 k1 => known_law w1 (L.below k1.bel)) rfl ?_
              refine TL.val ((by first | exact OpV.pick_t rfl rfl | exact OpV.pick_f rfl rfl)) rfl ?_
              refine TL.val (OpV.assign rfl) rfl ?_
              refine TL.nil ?_
              refine TE.sub (.cons (t := 8) rfl <| .nil) ?_
              refine TE.next ?_
              refine T.ret ?_
              refine TE.pass_ret ?_
              refine TE.ret1 rfl (ResV.tmp rfl) ?_
              exact fun w1 k1 => ⟨rfl, k1.bel⟩
            · intro hg66
              refine TA.takeP (i := 13) (ls := #[true, true, true, true, true, true, true, true, true, true, true, true, true, true, false, false, false, false, false, false, false, false, false]) rfl rfl rfl rfl rfl (by kernel_rfl) (by kernel_rfl) (by kernel_rfl) (by repeat (first | with_reducible exact PanicOk.body | with_reducible apply PanicOk.next | with_reducible apply PanicOk.block)) (OpV.fieldAddr rfl fo_62_1) rfl (by kernel_rfl) ?_
              refine TA.take (i := 14) (ls := #[true, true, true, true, true, true, true, true, true, true, true, true, true, true, true, false, false, false, false, false, false, false, false]) rfl rfl rfl rfl rfl (by kernel_rfl) (by kernel_rfl) (by kernel_rfl) (by kernel_rfl) (by repeat (first | with_reducible exact PanicOk.body | with_reducible apply PanicOk.next | with_reducible apply PanicOk.block)) ((.cons (by first | exact .here | exact (.there .here) | exact (.there (.there .here)) | exact (.there (.there (.there .here))) | exact (.there (.there (.there (.there .here)))) | exact (.there (.there (.there (.there (.there .here)))))) .nil)) (OpV.load pl_3 rfl (by first | exact Cel.blk .here rfl | exact Cel.blk (.there .here) rfl | exact Cel.blk (.there (.there .here)) rfl | exact Cel.blk (.there (.there (.there .here))) rfl | exact Cel.blk (.there (.there (.there (.there .here)))) rfl | exact Cel.blk (.there (.there (.there (.there (.there .here))))) rfl)) rfl (by kernel_rfl) ?_
              refine TA.takeP (i := 15) (ls := #[true, true, true, true, true, true, true, true, true, true, true, true, true, true, true, true, false, false, false, false, false, false, false]) rfl rfl rfl rfl rfl (by kernel_rfl) (by kernel_rfl) (by kernel_rfl) (by repeat (first | with_reducible exact PanicOk.body | with_reducible apply PanicOk.next | with_reducible apply PanicOk.block)) (OpV.lss rfl rfl) rfl (by kernel_rfl) ?_
              refine TA.takeP (i := 16) (ls := #[true, true, true, true, true, true, true, true, true, true, true, true, true, true, true, true, true, false, false, false, false, false, false]) rfl rfl rfl rfl rfl (by kernel_rfl) (by kernel_rfl) (by kernel_rfl) (by repeat (first | with_reducible exact PanicOk.body | with_reducible apply PanicOk.next | with_reducible apply PanicOk.block)) ((by first | exact OpV.pick_t rfl rfl | exact OpV.pick_f rfl rfl)) rfl (by kernel_rfl) ?_
              refine TA.takeP (i := 17) (ls := #[true, true, true, true, true, true, true, true, true, true, true, true, true, true, true, true, true, true, false, false, false, false, false]) rfl rfl rfl rfl rfl (by kernel_rfl) (by kernel_rfl) (by kernel_rfl) (by repeat (first | with_reducible exact PanicOk.body | with_reducible apply PanicOk.next | with_reducible apply PanicOk.block)) (OpV.move rfl) rfl (by kernel_rfl) ?_
              refine TA.part (t := 71) rfl ?_ ?_
              · intro hg71
                have ha : inA xs cols (a1, a2) = false := by have h9 := of_decide_eq_true hg71; simp [inA, rows_eq hv]; omega
                refine TA.skip (i := 18) (ls := #[true, true, true, true, true, true, true, true, true, true, true, true, true, true, true, true, true, true, true, false, false, false, false]) rfl rfl (by kernel_rfl) (by kernel_rfl) (by kernel_rfl) (by repeat (first | with_reducible exact PanicOk.body | with_reducible apply PanicOk.next | with_reducible apply PanicOk.block)) rfl (by kernel_rfl) ?_
                refine TA.skip (i := 19) (ls := #[true, true, true, true, true, true, true, true, true, true, true, true, true, true, true, true, true, true, true, true, false, false, false]) rfl rfl (by kernel_rfl) (by kernel_rfl) (by kernel_rfl) (by repeat (first | with_reducible exact PanicOk.body | with_reducible apply PanicOk.next | with_reducible apply PanicOk.block)) rfl (by kernel_rfl) ?_
                refine TA.skip (i := 20) (ls := #[true, true, true, true, true, true, true, true, true, true, true, true, true, true, true, true, true, true, true, true, true, false, false]) rfl rfl (by kernel_rfl) (by kernel_rfl) (by kernel_rfl) (by repeat (first | with_reducible exact PanicOk.body | with_reducible apply PanicOk.next | with_reducible apply PanicOk.block)) rfl (by kernel_rfl) ?_
                refine TA.skip (i := 21) (ls := #[true, true, true, true, true, true, true, true, true, true, true, true, true, true, true, true, true, true, true, true, true, true, false]) rfl rfl (by kernel_rfl) (by kernel_rfl) (by kernel_rfl) (by repeat (first | with_reducible exact PanicOk.body | with_reducible apply PanicOk.next | with_reducible apply PanicOk.block)) rfl (by kernel_rfl) ?_
                refine TA.takeP (i := 22) (ls := #[true, true, true, true, true, true, true, true, true, true, true, true, true, true, true, true, true, true, true, true, true, true, true]) rfl rfl rfl rfl rfl (by kernel_rfl) (by kernel_rfl) (by kernel_rfl) (by repeat (first | with_reducible exact PanicOk.body | with_reducible apply PanicOk.next | with_reducible apply PanicOk.block)) ((by first | exact OpV.pick_t rfl rfl | exact OpV.pick_f rfl rfl)) rfl (by kernel_rfl) ?_
                refine TA.done (by kernel_rfl) ?_
                refine TE.sub (.cons (t := 0) rfl <| .cons (t := 1) rfl <| .cons (t := 7) rfl <| .cons (t := 76) rfl <| .nil) ?_
                refine TE.next ?_
                refine T.yes rfl ?_
                refine T.seq ?_
                refine T.region ?_
                refine TL.val (OpV.move rfl) rfl ?_
                refine TL.val (OpV.move rfl) rfl ?_
                refine TL.val (OpV.loadA ag_62 rfl (by first | exact Cels.blk .here rfl | exact Cels.blk (.there .here) rfl | exact Cels.blk (.there (.there .here)) rfl | exact Cels.blk (.there (.there (.there .here))) rfl | exact Cels.blk (.there (.there (.there (.there .here)))) rfl | exact Cels.blk (.there (.there (.there (.there (.there .here))))) rfl)) rfl ?_
                refine TL.call (g := 35) rfl go_35 rfl (fun w1 k1 => indexed_t w1 cols a1 a2 0 3 (L.below k1.bel) h (k1.get (e := .fr σ) (by first | exact .here | exact (.there .here) | exact (.there (.there .here)) | exact (.there (.there (.there .here))) | exact (.there (.there (.there (.there .here)))))) (indexed_out hv ha)) rfl ?_
                refine TL.val (OpV.move rfl) rfl ?_
                refine TL.open rfl rfl ?_
                refine TL.call (g := 26) rfl go_26 rfl (fun w1 k1 => known_law w1 (L.below k1.bel)) rfl ?_
                refine TL.val ((by first | exact OpV.pick_t rfl rfl | exact OpV.pick_f rfl rfl)) rfl ?_
                refine TL.val (OpV.assign rfl) rfl ?_
                refine TL.nil ?_
                refine TE.sub (.cons (t := 8) rfl <| .nil) ?_
                refine TE.next ?_
                refine T.ret ?_
                refine TE.pass_ret ?_
                refine TE.ret1 rfl (ResV.tmp rfl) ?_
                exact fun w1 k1 => ⟨rfl, k1.bel⟩
              · intro hg71
                refine TA.takeP (i := 18) (ls := #[true, true, true, true, true, true, true, true, true, true, true, true, true, true, true, true, true, true, true, false, false, false, false]) rfl rfl rfl rfl rfl (by kernel_rfl) (by kernel_rfl) (by kernel_rfl) (by repeat (first | with_reducible exact PanicOk.body | with_reducible apply PanicOk.next | with_reducible apply PanicOk.block)) (OpV.fieldAddr rfl fo_62_1) rfl (by kernel_rfl) ?_
                refine TA.take (i := 19) (ls := #[true, true, true, true, true, true, true, true, true, true, true, true, true, true, true, true, true, true, true, true, false, false, false]) rfl rfl rfl rfl rfl (by kernel_rfl) (by kernel_rfl) (by kernel_rfl) (by kernel_rfl) (by repeat (first | with_reducible exact PanicOk.body | with_reducible apply PanicOk.next | with_reducible apply PanicOk.block)) ((.cons (by first | exact .here | exact (.there .here) | exact (.there (.there .here)) | exact (.there (.there (.there .here))) | exact (.there (.there (.there (.there .here)))) | exact (.there (.there (.there (.there (.there .here)))))) .nil)) (OpV.load pl_3 rfl (by first | exact Cel.blk .here rfl | exact Cel.blk (.there .here) rfl | exact Cel.blk (.there (.there .here)) rfl | exact Cel.blk (.there (.there (.there .here))) rfl | exact Cel.blk (.there (.there (.there (.there .here)))) rfl | exact Cel.blk (.there (.there (.there (.there (.there .here))))) rfl)) rfl (by kernel_rfl) ?_
                refine TA.takeP (i := 20) (ls := #[true, true, true, true, true, true, true, true, true, true, true, true, true, true, true, true, true, true, true, true, true, false, false]) rfl rfl rfl rfl rfl (by kernel_rfl) (by kernel_rfl) (by kernel_rfl) (by repeat (first | with_reducible exact PanicOk.body | with_reducible apply PanicOk.next | with_reducible apply PanicOk.block)) (OpV.move rfl) rfl (by kernel_rfl) ?_
                refine TA.takeP (i := 21) (ls := #[true, true, true, true, true, true, true, true, true, true, true, true, true, true, true, true, true, true, true, true, true, true, false]) rfl rfl rfl rfl rfl (by kernel_rfl) (by kernel_rfl) (by kernel_rfl) (by repeat (first | with_reducible exact PanicOk.body | with_reducible apply PanicOk.next | with_reducible apply PanicOk.block)) (OpV.geq rfl rfl) rfl (by kernel_rfl) ?_
                refine TA.takeP (i := 22) (ls := #[true, true, true, true, true, true, true, true, true, true, true, true, true, true, true, true, true, true, true, true, true, true, true]) rfl rfl rfl rfl rfl (by kernel_rfl) (by kernel_rfl) (by kernel_rfl) (by repeat (first | with_reducible exact PanicOk.body | with_reducible apply PanicOk.next | with_reducible apply PanicOk.block)) ((by first | exact OpV.pick_t rfl rfl | exact OpV.pick_f rfl rfl)) rfl (by kernel_rfl) ?_
                refine TA.done (by kernel_rfl) ?_
                refine TE.sub (.cons (t := 0) rfl <| .cons (t := 1) rfl <| .cons (t := 7) rfl <| .cons (t := 76) rfl <| .nil) ?_
                refine TE.next ?_
                refine T.cond rfl ?_ ?_
                · intro ht76
                  have ha : inA xs cols (a1, a2) = false := by have h9 := of_decide_eq_true ht76; simp [inA, rows_eq hv]; omega
                  refine T.seq ?_
                  refine T.region ?_
                  refine TL.val (OpV.move rfl) rfl ?_
                  refine TL.val (OpV.move rfl) rfl ?_
                  refine TL.val (OpV.loadA ag_62 rfl (by first | exact Cels.blk .here rfl | exact Cels.blk (.there .here) rfl | exact Cels.blk (.there (.there .here)) rfl | exact Cels.blk (.there (.there (.there .here))) rfl | exact Cels.blk (.there (.there (.there (.there .here)))) rfl | exact Cels.blk (.there (.there (.there (.there (.there .here))))) rfl)) rfl ?_
                  refine TL.call (g := 35) rfl go_35 rfl (fun w1 k1 => indexed_t w1 cols a1 a2 0 3 (L.below k1.bel) h (k1.get (e := .fr σ) (by first | exact .here | exact (.there .here) | exact (.there (.there .here)) | exact (.there (.there (.there .here))) | exact (.there (.there (.there (.there .here)))))) (indexed_out hv ha)) rfl ?_
                  refine TL.val (OpV.move rfl) rfl ?_
                  refine TL.open rfl rfl ?_
                  refine TL.call (g := 26) rfl go_26 rfl (fun w1 k1 => known_law w1 (L.below k1.bel)) rfl ?_
                  refine TL.val ((by first | exact OpV.pick_t rfl rfl | exact OpV.pick_f rfl rfl)) rfl ?_
                  refine TL.val (OpV.assign rfl) rfl ?_
                  refine TL.nil ?_
                  refine TE.sub (.cons (t := 8) rfl <| .nil) ?_
                  refine TE.next ?_
                  refine T.ret ?_
                  refine TE.pass_ret ?_
                  refine TE.ret1 rfl (ResV.tmp rfl) ?_
                  exact fun w1 k1 => ⟨rfl, k1.bel⟩
                · intro ht76
                  have ha : inA xs cols (a1, a2) = true := by have h9 := of_decide_eq_false ht76; have h8 := of_decide_eq_false hg71; have h7 := of_decide_eq_false hg66; have h6 := of_decide_eq_false hg57; simp [inA, rows_eq hv]; omega
                  refine T.skip ?_
                  refine TE.next ?_
                  refine T.seq ?_
                  refine T.quiet mix (by kernel_rfl) ?_
                  refine TQ.val (OpV.move rfl) rfl ?_
                  refine TQ.val (OpV.move rfl) rfl ?_
                  refine TQ.val (OpV.loadA ag_62 rfl (by first | exact Cels.blk .here rfl | exact Cels.blk (.there .here) rfl | exact Cels.blk (.there (.there .here)) rfl | exact Cels.blk (.there (.there (.there .here))) rfl | exact Cels.blk (.there (.there (.there (.there .here)))) rfl | exact Cels.blk (.there (.there (.there (.there (.there .here))))) rfl)) rfl ?_
                  refine TQ.val (OpV.move rfl) rfl ?_
                  refine TQ.val (OpV.move rfl) rfl ?_
                  refine TQ.val (OpV.loadA ag_62 rfl (by first | exact Cels.blk .here rfl | exact Cels.blk (.there .here) rfl | exact Cels.blk (.there (.there .here)) rfl | exact Cels.blk (.there (.there (.there .here))) rfl | exact Cels.blk (.there (.there (.there (.there .here)))) rfl | exact Cels.blk (.there (.there (.there (.there (.there .here))))) rfl)) rfl ?_
                  refine TQ.call (g := 38) rfl go_38 rfl (fun w1 k1 => rindex_c w1 cols a1 a2 h (k1.get (e := .fr σ) (by first | exact .here | exact (.there .here) | exact (.there (.there .here)) | exact (.there (.there (.there .here))) | exact (.there (.there (.there (.there .here)))))) (by omega) (by omega)) rfl ?_
                  refine TQ.call (g := 35) rfl go_35 rfl (fun w1 k1 => indexed_t w1 cols a1 a2 _ 0 (L.below k1.bel) h (k1.get (e := .fr σ) (by first | exact .here | exact (.there .here) | exact (.there (.there .here)) | exact (.there (.there (.there .here))) | exact (.there (.there (.there (.there .here)))))) (indexed_ok hv ha)) rfl ?_
                  refine TQ.val (OpV.move rfl) rfl ?_
                  refine TQ.open rfl rfl ?_
                  refine TQ.call (g := 26) rfl go_26 rfl (fun w1 k1 => known_law w1 (L.below k1.bel)) rfl ?_
                  refine TQ.val ((by first | exact OpV.pick_t rfl rfl | exact OpV.pick_f rfl rfl)) rfl ?_
                  refine TQ.val (OpV.assign rfl) rfl ?_
                  refine TQ.nil ?_
                  refine TE.sub (.cons (t := 8) rfl <| .nil) ?_
                  refine TE.next ?_
                  refine T.ret ?_
                  refine TE.ret1 rfl (ResV.tmp rfl) ?_
                  exact fun w1 k1 => ⟨rfl, k1.bel⟩
end Go.Proofs.YtajgppfagkecjaaDoor
