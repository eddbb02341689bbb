/-
  The walk of the law AnchorHolds. Condition: the package-level tables hold what they were laid with.
-/
import Derived.Test.YtdmpodpdpncobaaDoorVg
import Derived.Test.YtdmpodpdpncobaaDoorAnd
import Derived.Test.YtdmpodpdpncobaaDoorUd
namespace Go.Proofs.YtdmpodpdpncobaaDoor
open Go.RowKit
set_option linter.unusedSimpArgs false
set_option linter.unusedVariables false
theorem go_36 : isGo Tryd.prog 36 = true := by kernel_rfl
theorem sl2_43 (x y : Int × Int) (w : World) : (Instr.buildSlice 43 2 #[(0, .agg (aL x).toArray), (1, .agg (aL y).toArray)]).run Tryd.prog w = .ok (.slice (some ⟨w.heap.size, 0, none⟩) 2 2) (w.alloc (.cells (al [x, y]).toArray 24)) := by kernel_rfl
set_option maxRecDepth 100000 in
set_option maxHeartbeats 2000000 in
theorem anchorHolds_law {σ : Nat → Option Obj} {A : Option Addr} {n c : Nat} {ls : List LnA} (u a1 a2 b1 b2 : Int) (w : World) (L : LaidW w) (h : LsA σ A n c ls) (hs : ∀ b o, σ b = some o → w.heap[b]? = some o) : Calls Tryd.prog 7 #[.slice A n c, .int .u8 u, .agg (anL a1 a2).toArray, .agg (anL b1 b2).toArray] w (Ret (.bool true) w) := by
  have hn63 := h.1.2.1
  have hc63 := h.1.2.2.1
  have hl1 := h.1.1
  refine calls_T (vs := [.slice A n c, .int .u8 u, .agg (anL a1 a2).toArray, .agg (anL b1 b2).toArray]) (L0 := [(0, .slice A n c), (1, .int .u8 u), (2, .agg (anL a1 a2).toArray), (3, .agg (anL b1 b2).toArray)]) Tryd.func7 rfl rfl rfl rfl (KOk.fr1 hs) ?_
  refine T.seq ?_
  refine T.region ?_
  refine TL.boxA rfl rfl ?_
  intro b6
  refine TL.boxA rfl rfl ?_
  intro b7
  refine TL.val (OpV.assign rfl) rfl ?_
  refine TL.nil ?_
  refine TE.next ?_
  refine T.seq ?_
  refine T.seq ?_
  refine T.region ?_
  refine TL.val (OpV.move rfl) rfl ?_
  refine TL.call (g := 13) rfl go_13 rfl (fun w1 k1 => few29_c w1 h (k1.get (e := .fr σ) (by first | exact P0 | exact P1 | exact P2 | exact P3 | exact P4 | exact P5 | exact P6 | exact P7 | exact P8))) rfl ?_
  refine TL.val (OpV.not rfl) rfl ?_
  refine TL.val (OpV.move rfl) rfl ?_
  refine TL.part (t := 24) rfl ?_ ?_
  · intro hg24
    refine TL.shut rfl rfl ?_
    refine TL.shut rfl rfl ?_
    refine TL.val ((by first | exact OpV.pick_t rfl rfl | exact OpV.pick_f rfl rfl)) rfl ?_
    refine TL.val (OpV.move rfl) rfl ?_
    refine TL.shut rfl rfl ?_
    refine TL.shut rfl rfl ?_
    refine TL.val ((by first | exact OpV.pick_t rfl rfl | exact OpV.pick_f rfl rfl)) rfl ?_
    refine TL.nil ?_
    refine TE.sub (.cons (t := 0) rfl <| .cons (t := 1) rfl <| .cons (t := 6) rfl <| .cons (t := 7) rfl <| .cons (t := 31) rfl <| .nil) ?_
    refine TE.next ?_
    refine T.yes rfl ?_
    refine T.seq ?_
    refine T.region ?_
    refine TL.call (g := 14) rfl go_14 rfl (fun w1 k1 => known29_law w1 (L.below k1.bel)) rfl ?_
    refine TL.val (OpV.assign rfl) rfl ?_
    refine TL.nil ?_
    refine TE.next ?_
    refine T.ret ?_
    refine TE.pass_ret ?_
    refine TE.ret1 rfl (ResV.tmp rfl) ?_
    exact fun w1 k1 => ⟨rfl, k1.bel⟩
  · intro hg24
    have hfew : few29V (ls.map LnA.ln) = true := by simpa using hg24
    have hfb := few29_bd hfew
    have hn12 : n ≤ 12 := by rw [List.length_map, hl1] at hfb; exact hfb.1
    refine TL.open rfl rfl ?_
    refine TL.val (OpV.move rfl) rfl ?_
    refine TL.open rfl rfl ?_
    refine TL.val (OpV.lss rfl rfl) rfl ?_
    refine TL.val ((by first | exact OpV.pick_t rfl rfl | exact OpV.pick_f rfl rfl)) rfl ?_
    refine TL.val (OpV.move rfl) rfl ?_
    refine TL.part (t := 28) rfl ?_ ?_
    · intro hg28
      refine TL.shut rfl rfl ?_
      refine TL.shut rfl rfl ?_
      refine TL.val ((by first | exact OpV.pick_t rfl rfl | exact OpV.pick_f rfl rfl)) rfl ?_
      refine TL.nil ?_
      refine TE.sub (.cons (t := 0) rfl <| .cons (t := 1) rfl <| .cons (t := 6) rfl <| .cons (t := 7) rfl <| .cons (t := 31) rfl <| .nil) ?_
      refine TE.next ?_
      refine T.yes rfl ?_
      refine T.seq ?_
      refine T.region ?_
      refine TL.call (g := 14) rfl go_14 rfl (fun w1 k1 => known29_law w1 (L.below k1.bel)) rfl ?_
      refine TL.val (OpV.assign rfl) rfl ?_
      refine TL.nil ?_
      refine TE.next ?_
      refine T.ret ?_
      refine TE.pass_ret ?_
      refine TE.ret1 rfl (ResV.tmp rfl) ?_
      exact fun w1 k1 => ⟨rfl, k1.bel⟩
    · intro hg28
      refine TL.open rfl rfl ?_
      refine TL.val (OpV.move rfl) rfl ?_
      refine TL.open rfl rfl ?_
      refine TL.val (OpV.gtr rfl rfl) rfl ?_
      refine TL.val ((by first | exact OpV.pick_t rfl rfl | exact OpV.pick_f rfl rfl)) rfl ?_
      refine TL.nil ?_
      refine TE.sub (.cons (t := 0) rfl <| .cons (t := 1) rfl <| .cons (t := 6) rfl <| .cons (t := 7) rfl <| .cons (t := 31) rfl <| .nil) ?_
      refine TE.next ?_
      refine T.cond rfl ?_ ?_
      · intro ht31
        refine T.seq ?_
        refine T.region ?_
        refine TL.call (g := 14) rfl go_14 rfl (fun w1 k1 => known29_law w1 (L.below k1.bel)) rfl ?_
        refine TL.val (OpV.assign rfl) rfl ?_
        refine TL.nil ?_
        refine TE.next ?_
        refine T.ret ?_
        refine TE.pass_ret ?_
        refine TE.ret1 rfl (ResV.tmp rfl) ?_
        exact fun w1 k1 => ⟨rfl, k1.bel⟩
      · intro ht31
        refine T.skip ?_
        refine TE.next ?_
        refine T.seq ?_
        refine T.region ?_
        refine TL.val (OpV.move rfl) rfl ?_
        refine TL.callx (g := 32) rfl go_32 rfl (fun wz k1 => own_x k1 (ulines_c wz (L.below k1.bel) h (k1.get (e := .fr σ) (by first | exact P0 | exact P1 | exact P2 | exact P3 | exact P4 | exact P5 | exact P6 | exact P7 | exact P8)) (by omega))) rfl ?_
        rintro ⟨A6, n6, c6, ρ⟩ ⟨gs, hgs, hge⟩
        replace hgs : GsA ρ A6 n6 c6 gs := GsW.gsA hgs
        refine TL.said (t := 35) rfl (show _ = Value.tuple #[.slice A6 n6 c6, .int .i64 (linesE (ls.map LnA.ln))] from rfl) ?_
        refine TL.val (OpV.move rfl) rfl ?_
        refine TL.val (OpV.extract rfl rfl) rfl ?_
        refine TL.val (OpV.extract rfl rfl) rfl ?_
        refine TL.val (OpV.assign rfl) rfl ?_
        refine TL.val (OpV.assign rfl) rfl ?_
        refine TL.nil ?_
        refine TE.next ?_
        refine T.seq ?_
        refine T.seq ?_
        refine T.quiet mix (by kernel_rfl) ?_
        refine TQ.val (OpV.move rfl) rfl ?_
        refine TQ.val (OpV.neq rfl rfl) rfl ?_
        refine TQ.val (OpV.move rfl) rfl ?_
        refine TQ.part (t := 40) rfl ?_ ?_
        · intro hg40
          refine TQ.shut rfl rfl ?_
          refine TQ.shut rfl rfl ?_
          refine TQ.shut rfl rfl ?_
          refine TQ.val ((by first | exact OpV.pick_t rfl rfl | exact OpV.pick_f rfl rfl)) rfl ?_
          refine TQ.val (OpV.move rfl) rfl ?_
          refine TQ.shut rfl rfl ?_
          refine TQ.shut rfl rfl ?_
          refine TQ.shut rfl rfl ?_
          refine TQ.shut rfl rfl ?_
          refine TQ.shut rfl rfl ?_
          refine TQ.val ((by first | exact OpV.pick_t rfl rfl | exact OpV.pick_f rfl rfl)) rfl ?_
          refine TQ.val (OpV.move rfl) rfl ?_
          refine TQ.shut rfl rfl ?_
          refine TQ.shut rfl rfl ?_
          refine TQ.shut rfl rfl ?_
          refine TQ.val ((by first | exact OpV.pick_t rfl rfl | exact OpV.pick_f rfl rfl)) rfl ?_
          refine TQ.val (OpV.move rfl) rfl ?_
          refine TQ.shut rfl rfl ?_
          refine TQ.shut rfl rfl ?_
          refine TQ.shut rfl rfl ?_
          refine TQ.shut rfl rfl ?_
          refine TQ.shut rfl rfl ?_
          refine TQ.shut rfl rfl ?_
          refine TQ.shut rfl rfl ?_
          refine TQ.shut rfl rfl ?_
          refine TQ.shut rfl rfl ?_
          refine TQ.shut rfl rfl ?_
          refine TQ.val ((by first | exact OpV.pick_t rfl rfl | exact OpV.pick_f rfl rfl)) rfl ?_
          refine TQ.val (OpV.move rfl) rfl ?_
          refine TQ.shut rfl rfl ?_
          refine TQ.shut rfl rfl ?_
          refine TQ.shut rfl rfl ?_
          refine TQ.val ((by first | exact OpV.pick_t rfl rfl | exact OpV.pick_f rfl rfl)) rfl ?_
          refine TQ.val (OpV.move rfl) rfl ?_
          refine TQ.shut rfl rfl ?_
          refine TQ.shut rfl rfl ?_
          refine TQ.shut rfl rfl ?_
          refine TQ.shut rfl rfl ?_
          refine TQ.shut rfl rfl ?_
          refine TQ.val ((by first | exact OpV.pick_t rfl rfl | exact OpV.pick_f rfl rfl)) rfl ?_
          refine TQ.val (OpV.move rfl) rfl ?_
          refine TQ.shut rfl rfl ?_
          refine TQ.shut rfl rfl ?_
          refine TQ.shut rfl rfl ?_
          refine TQ.val ((by first | exact OpV.pick_t rfl rfl | exact OpV.pick_f rfl rfl)) rfl ?_
          refine TQ.val (OpV.move rfl) rfl ?_
          refine TQ.shut rfl rfl ?_
          refine TQ.shut rfl rfl ?_
          refine TQ.shut rfl rfl ?_
          refine TQ.shut rfl rfl ?_
          refine TQ.shut rfl rfl ?_
          refine TQ.shut rfl rfl ?_
          refine TQ.shut rfl rfl ?_
          refine TQ.shut rfl rfl ?_
          refine TQ.shut rfl rfl ?_
          refine TQ.shut rfl rfl ?_
          refine TQ.val ((by first | exact OpV.pick_t rfl rfl | exact OpV.pick_f rfl rfl)) rfl ?_
          refine TQ.nil ?_
          refine TE.sub (.cons (t := 0) rfl <| .cons (t := 1) rfl <| .cons (t := 6) rfl <| .cons (t := 7) rfl <| .cons (t := 9) rfl <| .cons (t := 97) rfl <| .nil) ?_
          refine TE.next ?_
          refine T.yes rfl ?_
          refine T.seq ?_
          refine T.region ?_
          refine TL.call (g := 14) rfl go_14 rfl (fun w1 k1 => known29_law w1 (L.below k1.bel)) rfl ?_
          refine TL.val (OpV.assign rfl) rfl ?_
          refine TL.nil ?_
          refine TE.sub (.cons (t := 8) rfl <| .nil) ?_
          refine TE.next ?_
          refine T.ret ?_
          refine TE.pass_ret ?_
          refine TE.ret1 rfl (ResV.tmp rfl) ?_
          exact fun w1 k1 => ⟨rfl, k1.bel⟩
        · intro hg40
          have hv : vLs (ls.map LnA.ln) = true := by cases hv : vLs (ls.map LnA.ln) with | true => rfl | false => (rw [linesE, hv] at hg40; cases hg40)
          rw [show linesV (ls.map LnA.ln) = (lgG [] 0 (ls.map LnA.ln)) by rw [linesV, hv, if_pos rfl]] at hge
          refine TQ.open rfl rfl ?_
          refine TQ.val (OpV.fieldAddr rfl fo_24_0) rfl ?_
          refine TQ.open rfl rfl ?_
          refine TQ.val (OpV.load pl_3 rfl (by first | exact Cel.blk P0 rfl | exact Cel.blk P1 rfl | exact Cel.blk P2 rfl | exact Cel.blk P3 rfl | exact Cel.blk P4 rfl | exact Cel.blk P5 rfl | exact Cel.ownA (hatP _ _ rfl) | exact Cel.ownA (hatQ _ _ rfl) | exact Cel.ownA (hatg _ _ rfl) | exact Cel.ownA (hate _ _ rfl) | exact Cel.ownA (hatly _ _ rfl) | exact Cel.ownA (hatyu _ _ rfl) | exact Cel.ownA (hatu _ _ rfl) | exact Cel.frA (hatx _ _ rfl) | exact Cel.frA (hatz _ _ rfl) | exact Cel.frA (hatv _ _ rfl))) rfl ?_
          refine TQ.open rfl rfl ?_
          refine TQ.val (OpV.lss rfl rfl) rfl ?_
          refine TQ.val ((by first | exact OpV.pick_t rfl rfl | exact OpV.pick_f rfl rfl)) rfl ?_
          refine TQ.val (OpV.move rfl) rfl ?_
          refine TQ.part (t := 45) rfl ?_ ?_
          · intro hg45
            refine TQ.shut rfl rfl ?_
            refine TQ.shut rfl rfl ?_
            refine TQ.shut rfl rfl ?_
            refine TQ.shut rfl rfl ?_
            refine TQ.shut rfl rfl ?_
            refine TQ.val ((by first | exact OpV.pick_t rfl rfl | exact OpV.pick_f rfl rfl)) rfl ?_
            refine TQ.val (OpV.move rfl) rfl ?_
            refine TQ.shut rfl rfl ?_
            refine TQ.shut rfl rfl ?_
            refine TQ.shut rfl rfl ?_
            refine TQ.val ((by first | exact OpV.pick_t rfl rfl | exact OpV.pick_f rfl rfl)) rfl ?_
            refine TQ.val (OpV.move rfl) rfl ?_
            refine TQ.shut rfl rfl ?_
            refine TQ.shut rfl rfl ?_
            refine TQ.shut rfl rfl ?_
            refine TQ.shut rfl rfl ?_
            refine TQ.shut rfl rfl ?_
            refine TQ.shut rfl rfl ?_
            refine TQ.shut rfl rfl ?_
            refine TQ.shut rfl rfl ?_
            refine TQ.shut rfl rfl ?_
            refine TQ.shut rfl rfl ?_
            refine TQ.val ((by first | exact OpV.pick_t rfl rfl | exact OpV.pick_f rfl rfl)) rfl ?_
            refine TQ.val (OpV.move rfl) rfl ?_
            refine TQ.shut rfl rfl ?_
            refine TQ.shut rfl rfl ?_
            refine TQ.shut rfl rfl ?_
            refine TQ.val ((by first | exact OpV.pick_t rfl rfl | exact OpV.pick_f rfl rfl)) rfl ?_
            refine TQ.val (OpV.move rfl) rfl ?_
            refine TQ.shut rfl rfl ?_
            refine TQ.shut rfl rfl ?_
            refine TQ.shut rfl rfl ?_
            refine TQ.shut rfl rfl ?_
            refine TQ.shut rfl rfl ?_
            refine TQ.val ((by first | exact OpV.pick_t rfl rfl | exact OpV.pick_f rfl rfl)) rfl ?_
            refine TQ.val (OpV.move rfl) rfl ?_
            refine TQ.shut rfl rfl ?_
            refine TQ.shut rfl rfl ?_
            refine TQ.shut rfl rfl ?_
            refine TQ.val ((by first | exact OpV.pick_t rfl rfl | exact OpV.pick_f rfl rfl)) rfl ?_
            refine TQ.val (OpV.move rfl) rfl ?_
            refine TQ.shut rfl rfl ?_
            refine TQ.shut rfl rfl ?_
            refine TQ.shut rfl rfl ?_
            refine TQ.shut rfl rfl ?_
            refine TQ.shut rfl rfl ?_
            refine TQ.shut rfl rfl ?_
            refine TQ.shut rfl rfl ?_
            refine TQ.shut rfl rfl ?_
            refine TQ.shut rfl rfl ?_
            refine TQ.shut rfl rfl ?_
            refine TQ.val ((by first | exact OpV.pick_t rfl rfl | exact OpV.pick_f rfl rfl)) rfl ?_
            refine TQ.nil ?_
            refine TE.sub (.cons (t := 0) rfl <| .cons (t := 1) rfl <| .cons (t := 6) rfl <| .cons (t := 7) rfl <| .cons (t := 9) rfl <| .cons (t := 97) rfl <| .nil) ?_
            refine TE.next ?_
            refine T.yes rfl ?_
            refine T.seq ?_
            refine T.region ?_
            refine TL.call (g := 14) rfl go_14 rfl (fun w1 k1 => known29_law w1 (L.below k1.bel)) rfl ?_
            refine TL.val (OpV.assign rfl) rfl ?_
            refine TL.nil ?_
            refine TE.sub (.cons (t := 8) rfl <| .nil) ?_
            refine TE.next ?_
            refine T.ret ?_
            refine TE.pass_ret ?_
            refine TE.ret1 rfl (ResV.tmp rfl) ?_
            exact fun w1 k1 => ⟨rfl, k1.bel⟩
          · intro hg45
            have ha0 := of_decide_eq_false hg45
            refine TQ.open rfl rfl ?_
            refine TQ.val (OpV.fieldAddr rfl fo_24_0) rfl ?_
            refine TQ.open rfl rfl ?_
            refine TQ.val (OpV.load pl_3 rfl (by first | exact Cel.blk P0 rfl | exact Cel.blk P1 rfl | exact Cel.blk P2 rfl | exact Cel.blk P3 rfl | exact Cel.blk P4 rfl | exact Cel.blk P5 rfl | exact Cel.ownA (hatP _ _ rfl) | exact Cel.ownA (hatQ _ _ rfl) | exact Cel.ownA (hatg _ _ rfl) | exact Cel.ownA (hate _ _ rfl) | exact Cel.ownA (hatly _ _ rfl) | exact Cel.ownA (hatyu _ _ rfl) | exact Cel.ownA (hatu _ _ rfl) | exact Cel.frA (hatx _ _ rfl) | exact Cel.frA (hatz _ _ rfl) | exact Cel.frA (hatv _ _ rfl))) rfl ?_
            refine TQ.open rfl rfl ?_
            refine TQ.val (OpV.move rfl) rfl ?_
            refine TQ.open rfl rfl ?_
            refine TQ.val (OpV.len Tryd.underlying22 rfl) rfl ?_
            refine TQ.open rfl rfl ?_
            refine TQ.val (OpV.geq rfl rfl) rfl ?_
            refine TQ.val ((by first | exact OpV.pick_t rfl rfl | exact OpV.pick_f rfl rfl)) rfl ?_
            refine TQ.val (OpV.move rfl) rfl ?_
            refine TQ.part (t := 52) rfl ?_ ?_
            · intro hg52
              refine TQ.shut rfl rfl ?_
              refine TQ.shut rfl rfl ?_
              refine TQ.shut rfl rfl ?_
              refine TQ.val ((by first | exact OpV.pick_t rfl rfl | exact OpV.pick_f rfl rfl)) rfl ?_
              refine TQ.val (OpV.move rfl) rfl ?_
              refine TQ.shut rfl rfl ?_
              refine TQ.shut rfl rfl ?_
              refine TQ.shut rfl rfl ?_
              refine TQ.shut rfl rfl ?_
              refine TQ.shut rfl rfl ?_
              refine TQ.shut rfl rfl ?_
              refine TQ.shut rfl rfl ?_
              refine TQ.shut rfl rfl ?_
              refine TQ.shut rfl rfl ?_
              refine TQ.shut rfl rfl ?_
              refine TQ.val ((by first | exact OpV.pick_t rfl rfl | exact OpV.pick_f rfl rfl)) rfl ?_
              refine TQ.val (OpV.move rfl) rfl ?_
              refine TQ.shut rfl rfl ?_
              refine TQ.shut rfl rfl ?_
              refine TQ.shut rfl rfl ?_
              refine TQ.val ((by first | exact OpV.pick_t rfl rfl | exact OpV.pick_f rfl rfl)) rfl ?_
              refine TQ.val (OpV.move rfl) rfl ?_
              refine TQ.shut rfl rfl ?_
              refine TQ.shut rfl rfl ?_
              refine TQ.shut rfl rfl ?_
              refine TQ.shut rfl rfl ?_
              refine TQ.shut rfl rfl ?_
              refine TQ.val ((by first | exact OpV.pick_t rfl rfl | exact OpV.pick_f rfl rfl)) rfl ?_
              refine TQ.val (OpV.move rfl) rfl ?_
              refine TQ.shut rfl rfl ?_
              refine TQ.shut rfl rfl ?_
              refine TQ.shut rfl rfl ?_
              refine TQ.val ((by first | exact OpV.pick_t rfl rfl | exact OpV.pick_f rfl rfl)) rfl ?_
              refine TQ.val (OpV.move rfl) rfl ?_
              refine TQ.shut rfl rfl ?_
              refine TQ.shut rfl rfl ?_
              refine TQ.shut rfl rfl ?_
              refine TQ.shut rfl rfl ?_
              refine TQ.shut rfl rfl ?_
              refine TQ.shut rfl rfl ?_
              refine TQ.shut rfl rfl ?_
              refine TQ.shut rfl rfl ?_
              refine TQ.shut rfl rfl ?_
              refine TQ.shut rfl rfl ?_
              refine TQ.val ((by first | exact OpV.pick_t rfl rfl | exact OpV.pick_f rfl rfl)) rfl ?_
              refine TQ.nil ?_
              refine TE.sub (.cons (t := 0) rfl <| .cons (t := 1) rfl <| .cons (t := 6) rfl <| .cons (t := 7) rfl <| .cons (t := 9) rfl <| .cons (t := 97) rfl <| .nil) ?_
              refine TE.next ?_
              refine T.yes rfl ?_
              refine T.seq ?_
              refine T.region ?_
              refine TL.call (g := 14) rfl go_14 rfl (fun w1 k1 => known29_law w1 (L.below k1.bel)) rfl ?_
              refine TL.val (OpV.assign rfl) rfl ?_
              refine TL.nil ?_
              refine TE.sub (.cons (t := 8) rfl <| .nil) ?_
              refine TE.next ?_
              refine T.ret ?_
              refine TE.pass_ret ?_
              refine TE.ret1 rfl (ResV.tmp rfl) ?_
              exact fun w1 k1 => ⟨rfl, k1.bel⟩
            · intro hg52
              have ha9 := of_decide_eq_false hg52
              obtain ⟨k, rfl⟩ : ∃ k : Nat, a1 = (k : Int) := ⟨a1.toNat, by omega⟩
              obtain ⟨x, hlx⟩ := get_of_lt h.1.1 (show k < n by omega)
              obtain ⟨b, o, hA, hat⟩ := h.1.2.2.2.2 (by omega)
              obtain ⟨_, rfl, _, hatx⟩ := hat _ x hlx
              have hcx := h.2 x (List.mem_of_getElem? hlx)
              have hXx : (ls.map LnA.ln)[k]? = some x.ln := by simp [hlx]
              have hlenx : x.ln.cells.length = x.n := hcx.1
              have hnx := hcx.2.1
              have hmx := hcx.2.2.1
              refine TQ.open rfl rfl ?_
              refine TQ.val (OpV.fieldAddr rfl fo_24_1) rfl ?_
              refine TQ.open rfl rfl ?_
              refine TQ.val (OpV.load pl_3 rfl (by first | exact Cel.blk P0 rfl | exact Cel.blk P1 rfl | exact Cel.blk P2 rfl | exact Cel.blk P3 rfl | exact Cel.blk P4 rfl | exact Cel.blk P5 rfl | exact Cel.ownA (hatP _ _ rfl) | exact Cel.ownA (hatQ _ _ rfl) | exact Cel.ownA (hatg _ _ rfl) | exact Cel.ownA (hate _ _ rfl) | exact Cel.ownA (hatly _ _ rfl) | exact Cel.ownA (hatyu _ _ rfl) | exact Cel.ownA (hatu _ _ rfl) | exact Cel.frA (hatx _ _ rfl) | exact Cel.frA (hatz _ _ rfl) | exact Cel.frA (hatv _ _ rfl))) rfl ?_
              refine TQ.open rfl rfl ?_
              refine TQ.val (OpV.lss rfl rfl) rfl ?_
              refine TQ.val ((by first | exact OpV.pick_t rfl rfl | exact OpV.pick_f rfl rfl)) rfl ?_
              refine TQ.val (OpV.move rfl) rfl ?_
              refine TQ.part (t := 57) rfl ?_ ?_
              · intro hg57
                refine TQ.shut rfl rfl ?_
                refine TQ.shut rfl rfl ?_
                refine TQ.shut rfl rfl ?_
                refine TQ.shut rfl rfl ?_
                refine TQ.shut rfl rfl ?_
                refine TQ.shut rfl rfl ?_
                refine TQ.shut rfl rfl ?_
                refine TQ.shut rfl rfl ?_
                refine TQ.shut rfl rfl ?_
                refine TQ.shut rfl rfl ?_
                refine TQ.val ((by first | exact OpV.pick_t rfl rfl | exact OpV.pick_f rfl rfl)) rfl ?_
                refine TQ.val (OpV.move rfl) rfl ?_
                refine TQ.shut rfl rfl ?_
                refine TQ.shut rfl rfl ?_
                refine TQ.shut rfl rfl ?_
                refine TQ.val ((by first | exact OpV.pick_t rfl rfl | exact OpV.pick_f rfl rfl)) rfl ?_
                refine TQ.val (OpV.move rfl) rfl ?_
                refine TQ.shut rfl rfl ?_
                refine TQ.shut rfl rfl ?_
                refine TQ.shut rfl rfl ?_
                refine TQ.shut rfl rfl ?_
                refine TQ.shut rfl rfl ?_
                refine TQ.val ((by first | exact OpV.pick_t rfl rfl | exact OpV.pick_f rfl rfl)) rfl ?_
                refine TQ.val (OpV.move rfl) rfl ?_
                refine TQ.shut rfl rfl ?_
                refine TQ.shut rfl rfl ?_
                refine TQ.shut rfl rfl ?_
                refine TQ.val ((by first | exact OpV.pick_t rfl rfl | exact OpV.pick_f rfl rfl)) rfl ?_
                refine TQ.val (OpV.move rfl) rfl ?_
                refine TQ.shut rfl rfl ?_
                refine TQ.shut rfl rfl ?_
                refine TQ.shut rfl rfl ?_
                refine TQ.shut rfl rfl ?_
                refine TQ.shut rfl rfl ?_
                refine TQ.shut rfl rfl ?_
                refine TQ.shut rfl rfl ?_
                refine TQ.shut rfl rfl ?_
                refine TQ.shut rfl rfl ?_
                refine TQ.shut rfl rfl ?_
                refine TQ.val ((by first | exact OpV.pick_t rfl rfl | exact OpV.pick_f rfl rfl)) rfl ?_
                refine TQ.nil ?_
                refine TE.sub (.cons (t := 0) rfl <| .cons (t := 1) rfl <| .cons (t := 6) rfl <| .cons (t := 7) rfl <| .cons (t := 9) rfl <| .cons (t := 97) rfl <| .nil) ?_
                refine TE.next ?_
                refine T.yes rfl ?_
                refine T.seq ?_
                refine T.region ?_
                refine TL.call (g := 14) rfl go_14 rfl (fun w1 k1 => known29_law w1 (L.below k1.bel)) rfl ?_
                refine TL.val (OpV.assign rfl) rfl ?_
                refine TL.nil ?_
                refine TE.sub (.cons (t := 8) rfl <| .nil) ?_
                refine TE.next ?_
                refine T.ret ?_
                refine TE.pass_ret ?_
                refine TE.ret1 rfl (ResV.tmp rfl) ?_
                exact fun w1 k1 => ⟨rfl, k1.bel⟩
              · intro hg57
                have hc0 := of_decide_eq_false hg57
                refine TQ.open rfl rfl ?_
                refine TQ.val (OpV.fieldAddr rfl fo_24_1) rfl ?_
                refine TQ.open rfl rfl ?_
                refine TQ.val (OpV.load pl_3 rfl (by first | exact Cel.blk P0 rfl | exact Cel.blk P1 rfl | exact Cel.blk P2 rfl | exact Cel.blk P3 rfl | exact Cel.blk P4 rfl | exact Cel.blk P5 rfl | exact Cel.ownA (hatP _ _ rfl) | exact Cel.ownA (hatQ _ _ rfl) | exact Cel.ownA (hatg _ _ rfl) | exact Cel.ownA (hate _ _ rfl) | exact Cel.ownA (hatly _ _ rfl) | exact Cel.ownA (hatyu _ _ rfl) | exact Cel.ownA (hatu _ _ rfl) | exact Cel.frA (hatx _ _ rfl) | exact Cel.frA (hatz _ _ rfl) | exact Cel.frA (hatv _ _ rfl))) rfl ?_
                refine TQ.open rfl rfl ?_
                refine TQ.val (OpV.move rfl) rfl ?_
                refine TQ.open rfl rfl ?_
                refine TQ.val (OpV.fieldAddr rfl fo_24_0) rfl ?_
                refine TQ.open rfl rfl ?_
                refine TQ.val (OpV.load pl_3 rfl (by first | exact Cel.blk P0 rfl | exact Cel.blk P1 rfl | exact Cel.blk P2 rfl | exact Cel.blk P3 rfl | exact Cel.blk P4 rfl | exact Cel.blk P5 rfl | exact Cel.ownA (hatP _ _ rfl) | exact Cel.ownA (hatQ _ _ rfl) | exact Cel.ownA (hatg _ _ rfl) | exact Cel.ownA (hate _ _ rfl) | exact Cel.ownA (hatly _ _ rfl) | exact Cel.ownA (hatyu _ _ rfl) | exact Cel.ownA (hatu _ _ rfl) | exact Cel.frA (hatx _ _ rfl) | exact Cel.frA (hatz _ _ rfl) | exact Cel.frA (hatv _ _ rfl))) rfl ?_
                refine TQ.open rfl rfl ?_
                refine TQ.val (OpV.indexAddr (j := k) se_22 rfl hA rfl rfl (by omega)) rfl ?_
                refine TQ.open rfl rfl ?_
                refine TQ.val (OpV.fieldAddr rfl fo_65_0) rfl ?_
                refine TQ.open rfl rfl ?_
                refine TQ.val (OpV.load pl_35 rfl (by first | exact Cel.blk P0 rfl | exact Cel.blk P1 rfl | exact Cel.blk P2 rfl | exact Cel.blk P3 rfl | exact Cel.blk P4 rfl | exact Cel.blk P5 rfl | exact Cel.ownA (hatP _ _ rfl) | exact Cel.ownA (hatQ _ _ rfl) | exact Cel.ownA (hatg _ _ rfl) | exact Cel.ownA (hate _ _ rfl) | exact Cel.ownA (hatly _ _ rfl) | exact Cel.ownA (hatyu _ _ rfl) | exact Cel.ownA (hatu _ _ rfl) | exact Cel.frA (hatx _ _ rfl) | exact Cel.frA (hatz _ _ rfl) | exact Cel.frA (hatv _ _ rfl))) rfl ?_
                refine TQ.open rfl rfl ?_
                refine TQ.val (OpV.len Tryd.underlying35 rfl) rfl ?_
                refine TQ.open rfl rfl ?_
                refine TQ.val (OpV.geq rfl rfl) rfl ?_
                refine TQ.val ((by first | exact OpV.pick_t rfl rfl | exact OpV.pick_f rfl rfl)) rfl ?_
                refine TQ.val (OpV.move rfl) rfl ?_
                refine TQ.part (t := 69) rfl ?_ ?_
                · intro hg69
                  refine TQ.shut rfl rfl ?_
                  refine TQ.shut rfl rfl ?_
                  refine TQ.shut rfl rfl ?_
                  refine TQ.val ((by first | exact OpV.pick_t rfl rfl | exact OpV.pick_f rfl rfl)) rfl ?_
                  refine TQ.val (OpV.move rfl) rfl ?_
                  refine TQ.shut rfl rfl ?_
                  refine TQ.shut rfl rfl ?_
                  refine TQ.shut rfl rfl ?_
                  refine TQ.shut rfl rfl ?_
                  refine TQ.shut rfl rfl ?_
                  refine TQ.val ((by first | exact OpV.pick_t rfl rfl | exact OpV.pick_f rfl rfl)) rfl ?_
                  refine TQ.val (OpV.move rfl) rfl ?_
                  refine TQ.shut rfl rfl ?_
                  refine TQ.shut rfl rfl ?_
                  refine TQ.shut rfl rfl ?_
                  refine TQ.val ((by first | exact OpV.pick_t rfl rfl | exact OpV.pick_f rfl rfl)) rfl ?_
                  refine TQ.val (OpV.move rfl) rfl ?_
                  refine TQ.shut rfl rfl ?_
                  refine TQ.shut rfl rfl ?_
                  refine TQ.shut rfl rfl ?_
                  refine TQ.shut rfl rfl ?_
                  refine TQ.shut rfl rfl ?_
                  refine TQ.shut rfl rfl ?_
                  refine TQ.shut rfl rfl ?_
                  refine TQ.shut rfl rfl ?_
                  refine TQ.shut rfl rfl ?_
                  refine TQ.shut rfl rfl ?_
                  refine TQ.val ((by first | exact OpV.pick_t rfl rfl | exact OpV.pick_f rfl rfl)) rfl ?_
                  refine TQ.nil ?_
                  refine TE.sub (.cons (t := 0) rfl <| .cons (t := 1) rfl <| .cons (t := 6) rfl <| .cons (t := 7) rfl <| .cons (t := 9) rfl <| .cons (t := 97) rfl <| .nil) ?_
                  refine TE.next ?_
                  refine T.yes rfl ?_
                  refine T.seq ?_
                  refine T.region ?_
                  refine TL.call (g := 14) rfl go_14 rfl (fun w1 k1 => known29_law w1 (L.below k1.bel)) rfl ?_
                  refine TL.val (OpV.assign rfl) rfl ?_
                  refine TL.nil ?_
                  refine TE.sub (.cons (t := 8) rfl <| .nil) ?_
                  refine TE.next ?_
                  refine T.ret ?_
                  refine TE.pass_ret ?_
                  refine TE.ret1 rfl (ResV.tmp rfl) ?_
                  exact fun w1 k1 => ⟨rfl, k1.bel⟩
                · intro hg69
                  have hc9 := of_decide_eq_false hg69
                  refine TQ.open rfl rfl ?_
                  refine TQ.val (OpV.fieldAddr rfl fo_24_0) rfl ?_
                  refine TQ.open rfl rfl ?_
                  refine TQ.val (OpV.load pl_3 rfl (by first | exact Cel.blk P0 rfl | exact Cel.blk P1 rfl | exact Cel.blk P2 rfl | exact Cel.blk P3 rfl | exact Cel.blk P4 rfl | exact Cel.blk P5 rfl | exact Cel.ownA (hatP _ _ rfl) | exact Cel.ownA (hatQ _ _ rfl) | exact Cel.ownA (hatg _ _ rfl) | exact Cel.ownA (hate _ _ rfl) | exact Cel.ownA (hatly _ _ rfl) | exact Cel.ownA (hatyu _ _ rfl) | exact Cel.ownA (hatu _ _ rfl) | exact Cel.frA (hatx _ _ rfl) | exact Cel.frA (hatz _ _ rfl) | exact Cel.frA (hatv _ _ rfl))) rfl ?_
                  refine TQ.open rfl rfl ?_
                  refine TQ.val (OpV.lss rfl rfl) rfl ?_
                  refine TQ.val ((by first | exact OpV.pick_t rfl rfl | exact OpV.pick_f rfl rfl)) rfl ?_
                  refine TQ.val (OpV.move rfl) rfl ?_
                  refine TQ.part (t := 74) rfl ?_ ?_
                  · intro hg74
                    refine TQ.shut rfl rfl ?_
                    refine TQ.shut rfl rfl ?_
                    refine TQ.shut rfl rfl ?_
                    refine TQ.shut rfl rfl ?_
                    refine TQ.shut rfl rfl ?_
                    refine TQ.val ((by first | exact OpV.pick_t rfl rfl | exact OpV.pick_f rfl rfl)) rfl ?_
                    refine TQ.val (OpV.move rfl) rfl ?_
                    refine TQ.shut rfl rfl ?_
                    refine TQ.shut rfl rfl ?_
                    refine TQ.shut rfl rfl ?_
                    refine TQ.val ((by first | exact OpV.pick_t rfl rfl | exact OpV.pick_f rfl rfl)) rfl ?_
                    refine TQ.val (OpV.move rfl) rfl ?_
                    refine TQ.shut rfl rfl ?_
                    refine TQ.shut rfl rfl ?_
                    refine TQ.shut rfl rfl ?_
                    refine TQ.shut rfl rfl ?_
                    refine TQ.shut rfl rfl ?_
                    refine TQ.shut rfl rfl ?_
                    refine TQ.shut rfl rfl ?_
                    refine TQ.shut rfl rfl ?_
                    refine TQ.shut rfl rfl ?_
                    refine TQ.shut rfl rfl ?_
                    refine TQ.val ((by first | exact OpV.pick_t rfl rfl | exact OpV.pick_f rfl rfl)) rfl ?_
                    refine TQ.nil ?_
                    refine TE.sub (.cons (t := 0) rfl <| .cons (t := 1) rfl <| .cons (t := 6) rfl <| .cons (t := 7) rfl <| .cons (t := 9) rfl <| .cons (t := 97) rfl <| .nil) ?_
                    refine TE.next ?_
                    refine T.yes rfl ?_
                    refine T.seq ?_
                    refine T.region ?_
                    refine TL.call (g := 14) rfl go_14 rfl (fun w1 k1 => known29_law w1 (L.below k1.bel)) rfl ?_
                    refine TL.val (OpV.assign rfl) rfl ?_
                    refine TL.nil ?_
                    refine TE.sub (.cons (t := 8) rfl <| .nil) ?_
                    refine TE.next ?_
                    refine T.ret ?_
                    refine TE.pass_ret ?_
                    refine TE.ret1 rfl (ResV.tmp rfl) ?_
                    exact fun w1 k1 => ⟨rfl, k1.bel⟩
                  · intro hg74
                    have hb0 := of_decide_eq_false hg74
                    refine TQ.open rfl rfl ?_
                    refine TQ.val (OpV.fieldAddr rfl fo_24_0) rfl ?_
                    refine TQ.open rfl rfl ?_
                    refine TQ.val (OpV.load pl_3 rfl (by first | exact Cel.blk P0 rfl | exact Cel.blk P1 rfl | exact Cel.blk P2 rfl | exact Cel.blk P3 rfl | exact Cel.blk P4 rfl | exact Cel.blk P5 rfl | exact Cel.ownA (hatP _ _ rfl) | exact Cel.ownA (hatQ _ _ rfl) | exact Cel.ownA (hatg _ _ rfl) | exact Cel.ownA (hate _ _ rfl) | exact Cel.ownA (hatly _ _ rfl) | exact Cel.ownA (hatyu _ _ rfl) | exact Cel.ownA (hatu _ _ rfl) | exact Cel.frA (hatx _ _ rfl) | exact Cel.frA (hatz _ _ rfl) | exact Cel.frA (hatv _ _ rfl))) rfl ?_
                    refine TQ.open rfl rfl ?_
                    refine TQ.val (OpV.move rfl) rfl ?_
                    refine TQ.open rfl rfl ?_
                    refine TQ.val (OpV.len Tryd.underlying22 rfl) rfl ?_
                    refine TQ.open rfl rfl ?_
                    refine TQ.val (OpV.geq rfl rfl) rfl ?_
                    refine TQ.val ((by first | exact OpV.pick_t rfl rfl | exact OpV.pick_f rfl rfl)) rfl ?_
                    refine TQ.val (OpV.move rfl) rfl ?_
                    refine TQ.part (t := 81) rfl ?_ ?_
                    · intro hg81
                      refine TQ.shut rfl rfl ?_
                      refine TQ.shut rfl rfl ?_
                      refine TQ.shut rfl rfl ?_
                      refine TQ.val ((by first | exact OpV.pick_t rfl rfl | exact OpV.pick_f rfl rfl)) rfl ?_
                      refine TQ.val (OpV.move rfl) rfl ?_
                      refine TQ.shut rfl rfl ?_
                      refine TQ.shut rfl rfl ?_
                      refine TQ.shut rfl rfl ?_
                      refine TQ.shut rfl rfl ?_
                      refine TQ.shut rfl rfl ?_
                      refine TQ.shut rfl rfl ?_
                      refine TQ.shut rfl rfl ?_
                      refine TQ.shut rfl rfl ?_
                      refine TQ.shut rfl rfl ?_
                      refine TQ.shut rfl rfl ?_
                      refine TQ.val ((by first | exact OpV.pick_t rfl rfl | exact OpV.pick_f rfl rfl)) rfl ?_
                      refine TQ.nil ?_
                      refine TE.sub (.cons (t := 0) rfl <| .cons (t := 1) rfl <| .cons (t := 6) rfl <| .cons (t := 7) rfl <| .cons (t := 9) rfl <| .cons (t := 97) rfl <| .nil) ?_
                      refine TE.next ?_
                      refine T.yes rfl ?_
                      refine T.seq ?_
                      refine T.region ?_
                      refine TL.call (g := 14) rfl go_14 rfl (fun w1 k1 => known29_law w1 (L.below k1.bel)) rfl ?_
                      refine TL.val (OpV.assign rfl) rfl ?_
                      refine TL.nil ?_
                      refine TE.sub (.cons (t := 8) rfl <| .nil) ?_
                      refine TE.next ?_
                      refine T.ret ?_
                      refine TE.pass_ret ?_
                      refine TE.ret1 rfl (ResV.tmp rfl) ?_
                      exact fun w1 k1 => ⟨rfl, k1.bel⟩
                    · intro hg81
                      have hb9 := of_decide_eq_false hg81
                      obtain ⟨k2, rfl⟩ : ∃ k : Nat, b1 = (k : Int) := ⟨b1.toNat, by omega⟩
                      obtain ⟨z, hlz⟩ := get_of_lt h.1.1 (show k2 < n by omega)
                      obtain ⟨b4, o4, hA4, hat4⟩ := h.1.2.2.2.2 (by omega)
                      obtain ⟨_, rfl, _, hatz⟩ := hat4 _ z hlz
                      have hcz := h.2 z (List.mem_of_getElem? hlz)
                      have hXz : (ls.map LnA.ln)[k2]? = some z.ln := by simp [hlz]
                      have hlenz : z.ln.cells.length = z.n := hcz.1
                      have hnz := hcz.2.1
                      have hmz := hcz.2.2.1
                      refine TQ.open rfl rfl ?_
                      refine TQ.val (OpV.fieldAddr rfl fo_24_1) rfl ?_
                      refine TQ.open rfl rfl ?_
                      refine TQ.val (OpV.load pl_3 rfl (by first | exact Cel.blk P0 rfl | exact Cel.blk P1 rfl | exact Cel.blk P2 rfl | exact Cel.blk P3 rfl | exact Cel.blk P4 rfl | exact Cel.blk P5 rfl | exact Cel.ownA (hatP _ _ rfl) | exact Cel.ownA (hatQ _ _ rfl) | exact Cel.ownA (hatg _ _ rfl) | exact Cel.ownA (hate _ _ rfl) | exact Cel.ownA (hatly _ _ rfl) | exact Cel.ownA (hatyu _ _ rfl) | exact Cel.ownA (hatu _ _ rfl) | exact Cel.frA (hatx _ _ rfl) | exact Cel.frA (hatz _ _ rfl) | exact Cel.frA (hatv _ _ rfl))) rfl ?_
                      refine TQ.open rfl rfl ?_
                      refine TQ.val (OpV.lss rfl rfl) rfl ?_
                      refine TQ.val ((by first | exact OpV.pick_t rfl rfl | exact OpV.pick_f rfl rfl)) rfl ?_
                      refine TQ.val (OpV.move rfl) rfl ?_
                      refine TQ.part (t := 86) rfl ?_ ?_
                      · intro hg86
                        refine TQ.shut rfl rfl ?_
                        refine TQ.shut rfl rfl ?_
                        refine TQ.shut rfl rfl ?_
                        refine TQ.shut rfl rfl ?_
                        refine TQ.shut rfl rfl ?_
                        refine TQ.shut rfl rfl ?_
                        refine TQ.shut rfl rfl ?_
                        refine TQ.shut rfl rfl ?_
                        refine TQ.shut rfl rfl ?_
                        refine TQ.shut rfl rfl ?_
                        refine TQ.val ((by first | exact OpV.pick_t rfl rfl | exact OpV.pick_f rfl rfl)) rfl ?_
                        refine TQ.nil ?_
                        refine TE.sub (.cons (t := 0) rfl <| .cons (t := 1) rfl <| .cons (t := 6) rfl <| .cons (t := 7) rfl <| .cons (t := 9) rfl <| .cons (t := 97) rfl <| .nil) ?_
                        refine TE.next ?_
                        refine T.yes rfl ?_
                        refine T.seq ?_
                        refine T.region ?_
                        refine TL.call (g := 14) rfl go_14 rfl (fun w1 k1 => known29_law w1 (L.below k1.bel)) rfl ?_
                        refine TL.val (OpV.assign rfl) rfl ?_
                        refine TL.nil ?_
                        refine TE.sub (.cons (t := 8) rfl <| .nil) ?_
                        refine TE.next ?_
                        refine T.ret ?_
                        refine TE.pass_ret ?_
                        refine TE.ret1 rfl (ResV.tmp rfl) ?_
                        exact fun w1 k1 => ⟨rfl, k1.bel⟩
                      · intro hg86
                        have hd0 := of_decide_eq_false hg86
                        refine TQ.open rfl rfl ?_
                        refine TQ.val (OpV.fieldAddr rfl fo_24_1) rfl ?_
                        refine TQ.open rfl rfl ?_
                        refine TQ.val (OpV.load pl_3 rfl (by first | exact Cel.blk P0 rfl | exact Cel.blk P1 rfl | exact Cel.blk P2 rfl | exact Cel.blk P3 rfl | exact Cel.blk P4 rfl | exact Cel.blk P5 rfl | exact Cel.ownA (hatP _ _ rfl) | exact Cel.ownA (hatQ _ _ rfl) | exact Cel.ownA (hatg _ _ rfl) | exact Cel.ownA (hate _ _ rfl) | exact Cel.ownA (hatly _ _ rfl) | exact Cel.ownA (hatyu _ _ rfl) | exact Cel.ownA (hatu _ _ rfl) | exact Cel.frA (hatx _ _ rfl) | exact Cel.frA (hatz _ _ rfl) | exact Cel.frA (hatv _ _ rfl))) rfl ?_
                        refine TQ.open rfl rfl ?_
                        refine TQ.val (OpV.move rfl) rfl ?_
                        refine TQ.open rfl rfl ?_
                        refine TQ.val (OpV.fieldAddr rfl fo_24_0) rfl ?_
                        refine TQ.open rfl rfl ?_
                        refine TQ.val (OpV.load pl_3 rfl (by first | exact Cel.blk P0 rfl | exact Cel.blk P1 rfl | exact Cel.blk P2 rfl | exact Cel.blk P3 rfl | exact Cel.blk P4 rfl | exact Cel.blk P5 rfl | exact Cel.ownA (hatP _ _ rfl) | exact Cel.ownA (hatQ _ _ rfl) | exact Cel.ownA (hatg _ _ rfl) | exact Cel.ownA (hate _ _ rfl) | exact Cel.ownA (hatly _ _ rfl) | exact Cel.ownA (hatyu _ _ rfl) | exact Cel.ownA (hatu _ _ rfl) | exact Cel.frA (hatx _ _ rfl) | exact Cel.frA (hatz _ _ rfl) | exact Cel.frA (hatv _ _ rfl))) rfl ?_
                        refine TQ.open rfl rfl ?_
                        refine TQ.val (OpV.indexAddr (j := k2) se_22 rfl hA4 rfl rfl (by omega)) rfl ?_
                        refine TQ.open rfl rfl ?_
                        refine TQ.val (OpV.fieldAddr rfl fo_65_0) rfl ?_
                        refine TQ.open rfl rfl ?_
                        refine TQ.val (OpV.load pl_35 rfl (by first | exact Cel.blk P0 rfl | exact Cel.blk P1 rfl | exact Cel.blk P2 rfl | exact Cel.blk P3 rfl | exact Cel.blk P4 rfl | exact Cel.blk P5 rfl | exact Cel.ownA (hatP _ _ rfl) | exact Cel.ownA (hatQ _ _ rfl) | exact Cel.ownA (hatg _ _ rfl) | exact Cel.ownA (hate _ _ rfl) | exact Cel.ownA (hatly _ _ rfl) | exact Cel.ownA (hatyu _ _ rfl) | exact Cel.ownA (hatu _ _ rfl) | exact Cel.frA (hatx _ _ rfl) | exact Cel.frA (hatz _ _ rfl) | exact Cel.frA (hatv _ _ rfl))) rfl ?_
                        refine TQ.open rfl rfl ?_
                        refine TQ.val (OpV.len Tryd.underlying35 rfl) rfl ?_
                        refine TQ.open rfl rfl ?_
                        refine TQ.val (OpV.geq rfl rfl) rfl ?_
                        refine TQ.val ((by first | exact OpV.pick_t rfl rfl | exact OpV.pick_f rfl rfl)) rfl ?_
                        refine TQ.nil ?_
                        refine TE.sub (.cons (t := 0) rfl <| .cons (t := 1) rfl <| .cons (t := 6) rfl <| .cons (t := 7) rfl <| .cons (t := 9) rfl <| .cons (t := 97) rfl <| .nil) ?_
                        refine TE.next ?_
                        refine T.cond rfl ?_ ?_
                        · intro ht97
                          refine T.seq ?_
                          refine T.region ?_
                          refine TL.call (g := 14) rfl go_14 rfl (fun w1 k1 => known29_law w1 (L.below k1.bel)) rfl ?_
                          refine TL.val (OpV.assign rfl) rfl ?_
                          refine TL.nil ?_
                          refine TE.sub (.cons (t := 8) rfl <| .nil) ?_
                          refine TE.next ?_
                          refine T.ret ?_
                          refine TE.pass_ret ?_
                          refine TE.ret1 rfl (ResV.tmp rfl) ?_
                          exact fun w1 k1 => ⟨rfl, k1.bel⟩
                        · intro ht97
                          have e1 := of_decide_eq_false hg28
                          have e2 := of_decide_eq_false ht31
                          obtain ⟨m, rfl⟩ : ∃ m : Nat, u = (m : Int) := ⟨u.toNat, by omega⟩
                          have hPa : hasP (ls.map LnA.ln) ((k : Int), a2) = true := hasP_yes hXx (by omega) (by rw [hlenx]; omega)
                          have hPb : hasP (ls.map LnA.ln) ((k2 : Int), b2) = true := hasP_yes hXz (by omega) (by rw [hlenz]; have h9 := of_decide_eq_false ht97; omega)
                          have hf : fineB (lgG [] 0 (ls.map LnA.ln)) (m : Int) = true := fine_of hv (by rw [List.length_map]; omega) (by omega)
                          have hmono : ge2 ((k : Int), a2) ((k2 : Int), b2) → ge2 (car1 (ls.map LnA.ln) (m : Int) ((k : Int), a2)) (car1 (ls.map LnA.ln) (m : Int) ((k2 : Int), b2)) := fun h9 => car1_mono hv hf hPa hPb h9
                          have hce : carE (ls.map LnA.ln) (m : Int) [((k : Int), a2), ((k2 : Int), b2)] = 0 := by rw [carE, hv, if_pos rfl, hf, if_pos rfl]; simp [hPa, hPb]
                          have hcv : carV (ls.map LnA.ln) (m : Int) [((k : Int), a2), ((k2 : Int), b2)] = [car1 (ls.map LnA.ln) (m : Int) ((k : Int), a2), car1 (ls.map LnA.ln) (m : Int) ((k2 : Int), b2)] := by rw [carV, hce]; rfl
                          obtain ⟨i, gl, f, r, hgl, hfrm, hrows, hfk, hkr, hfr, hto⟩ := to_at hv hXx a2
                          obtain ⟨g, hg, hgg⟩ : ∃ g, gs[i]? = some g ∧ g.lg = gl := by rw [← hge, List.getElem?_map, Option.map_eq_some_iff] at hgl; exact hgl
                          have hin6 : i < n6 := by have h9 := (List.getElem?_eq_some_iff.1 hg).1; have h8 := hgs.1.1; omega
                          have hgs1 := hgs.1.2.1
                          have hgs2 := hgs.1.2.2.1
                          have hn6b : n6 ≤ 12 := by have h9 := okG_len _ 0 (ok_lines hv); rw [← hge, List.length_map, hgs.1.1, List.length_map, hl1] at h9; omega
                          obtain ⟨b3, o3, hA3, hat3⟩ := hgs.1.2.2.2.2 (by omega)
                          obtain ⟨_, rfl, _, hatg⟩ := hat3 _ g hg
                          have hcg := hgs.2 g (List.mem_of_getElem? hg)
                          have hcgn : g.cells.length = g.n := hcg.1
                          have hcg1 := hcg.2.1
                          have hcg2 := hcg.2.2.1
                          obtain ⟨nn, hnn⟩ : ∃ q : Int, q = a2 + (sumK (((ls.map LnA.ln).drop f).map Ln.cells) (k - f) : Int) := ⟨_, rfl⟩
                          rw [← hnn] at hto
                          have hnn0 : 0 ≤ nn := by omega
                          have htoa : toAV (ls.map LnA.ln) ((k : Int), a2) = ((i : Int), nn) := by rw [toAV, hv, if_pos rfl, plAV, hPa, if_pos rfl, hto]
                          have htoe : toE (ls.map LnA.ln) ((k : Int), a2) = 0 := by rw [toE, hv, if_pos rfl, plAE, hPa, if_pos rfl]
                          obtain ⟨P, hPe⟩ : ∃ P, P = car1 (ls.map LnA.ln) (m : Int) ((k : Int), a2) := ⟨_, rfl⟩
                          obtain ⟨Q, hQe⟩ : ∃ Q, Q = car1 (ls.map LnA.ln) (m : Int) ((k2 : Int), b2) := ⟨_, rfl⟩
                          rw [← hPe, ← hQe] at hcv hmono
                          refine T.skip ?_
                          refine TE.next ?_
                          refine T.seq ?_
                          refine T.region ?_
                          refine TL.val (OpV.move rfl) rfl ?_
                          refine TL.val (OpV.move rfl) rfl ?_
                          refine TL.val (OpV.conv Tryd.underlying5 Tryd.underlying3 rfl (by first | exact IntWalk.i64_in _ ⟨by omega, by omega⟩ | rfl)) rfl ?_
                          refine TL.val (OpV.loadA ag_24 rfl (by first | exact Cels.blk P0 rfl | exact Cels.blk P1 rfl | exact Cels.blk P2 rfl | exact Cels.blk P3 rfl | exact Cels.blk P4 rfl | exact Cels.blk P5 rfl | exact Cels.ownA (hatP) rfl | exact Cels.ownA (hatQ) rfl | exact Cels.ownA (hatg) rfl | exact Cels.ownA (hate) rfl | exact Cels.ownA (hatly) rfl | exact Cels.ownA (hatyu) rfl | exact Cels.ownA (hatu) rfl | exact Cels.frA hatx rfl | exact Cels.frA hatz rfl | exact Cels.frA hatv rfl)) rfl ?_
                          refine TL.said (t := 103) rfl (show _ = Value.agg (aL ((k : Int), a2)).toArray from rfl) ?_
                          refine TL.val (OpV.loadA ag_24 rfl (by first | exact Cels.blk P0 rfl | exact Cels.blk P1 rfl | exact Cels.blk P2 rfl | exact Cels.blk P3 rfl | exact Cels.blk P4 rfl | exact Cels.blk P5 rfl | exact Cels.ownA (hatP) rfl | exact Cels.ownA (hatQ) rfl | exact Cels.ownA (hatg) rfl | exact Cels.ownA (hate) rfl | exact Cels.ownA (hatly) rfl | exact Cels.ownA (hatyu) rfl | exact Cels.ownA (hatu) rfl | exact Cels.frA hatx rfl | exact Cels.frA hatz rfl | exact Cels.frA hatv rfl)) rfl ?_
                          refine TL.said (t := 104) rfl (show _ = Value.agg (aL ((k2 : Int), b2)).toArray from rfl) ?_
                          refine TL.slit (qs := #[(0, _), (1, _)]) (fun _ f => by simp only [List.map_toArray, List.map_cons, List.map_nil]; rw [f.ev (x := .tmp 103) rfl]; (try rw [f.ev (x := .tmp 104) rfl])) (sl2_43 ((k : Int), a2) ((k2 : Int), b2)) rfl ?_
                          intro b105
                          refine TL.callx (g := 33) rfl go_33 rfl (fun wz k1 => own_x k1 (carry_c (υ := fun b => wz.heap[b]?) (m : Int) wz (L.below k1.bel) h (AsR.of_blk (ls := [((k : Int), a2), ((k2 : Int), b2)]) (k1.has (e := .blk b105 (al [((k : Int), a2), ((k2 : Int), b2)]) 24) (by repeat first | exact List.Mem.head _ | apply List.Mem.tail)).2 rfl) (by omega) (by decide) (k1.get (e := .fr σ) (by first | exact P0 | exact P1 | exact P2 | exact P3 | exact P4 | exact P5 | exact P6 | exact P7 | exact P8)) (fun b o hb => hb))) rfl ?_
                          rintro ⟨A9, n9, c9, ρ9⟩ h9
                          replace h9 : AsR ρ9 A9 n9 c9 (carV (ls.map LnA.ln) (m : Int) [((k : Int), a2), ((k2 : Int), b2)]) := h9
                          refine TL.said (t := 106) rfl (show _ = Value.tuple #[.slice A9 n9 c9, .int .i64 0] by rw [hce]; rfl) ?_
                          rw [hcv] at h9
                          have hn9_ : n9 = 2 := h9.1.symm
                          have hc9_ := h9.2.1
                          have hd9_ := h9.2.2.1
                          obtain ⟨b9, o9, hA9, hat9⟩ := h9.2.2.2.2 (by omega)
                          obtain ⟨_, rfl, _, hatP⟩ := hat9 0 P rfl
                          obtain ⟨_, rfl, _, hatQ⟩ := hat9 1 Q rfl
                          refine TL.val (OpV.move rfl) rfl ?_
                          refine TL.val (OpV.extract rfl rfl) rfl ?_
                          refine TL.val (OpV.extract rfl rfl) rfl ?_
                          refine TL.val (OpV.assign rfl) rfl ?_
                          refine TL.val (OpV.assign rfl) rfl ?_
                          refine TL.nil ?_
                          refine TE.sub (.cons (t := 0) rfl <| .cons (t := 1) rfl <| .cons (t := 6) rfl <| .cons (t := 7) rfl <| .cons (t := 9) rfl <| .cons (t := 10) rfl <| .cons (t := 11) rfl <| .nil) ?_
                          refine TE.next ?_
                          refine T.seq ?_
                          refine T.seq ?_
                          refine T.region ?_
                          refine TL.val (OpV.move rfl) rfl ?_
                          refine TL.val (OpV.neq rfl rfl) rfl ?_
                          refine TL.said (t := 110) rfl (show _ = Value.bool false from congrArg Value.bool (rfl)) ?_
                          refine TL.val (OpV.move rfl) rfl ?_
                          refine TL.open rfl rfl ?_
                          refine TL.val (OpV.move rfl) rfl ?_
                          refine TL.open rfl rfl ?_
                          refine TL.val (OpV.len Tryd.underlying43 rfl) rfl ?_
                          refine TL.open rfl rfl ?_
                          refine TL.val (OpV.neq rfl rfl) rfl ?_
                          refine TL.said (t := 114) rfl (show _ = Value.bool false from congrArg Value.bool (by rw [hn9_]; rfl)) ?_
                          refine TL.val ((by first | exact OpV.pick_t rfl rfl | exact OpV.pick_f rfl rfl)) rfl ?_
                          refine TL.nil ?_
                          refine TE.sub (.cons (t := 0) rfl <| .cons (t := 1) rfl <| .cons (t := 6) rfl <| .cons (t := 7) rfl <| .cons (t := 9) rfl <| .cons (t := 11) rfl <| .cons (t := 115) rfl <| .nil) ?_
                          refine TE.next ?_
                          refine T.no rfl ?_
                          refine T.skip ?_
                          refine TE.next ?_
                          refine T.seq ?_
                          refine T.cut [(0, .slice A n c), (1, .int .u8 (m : Int)), (6, .pointer (some ⟨b6, 0, none⟩)), (9, .slice A6 n6 c6), (11, .slice A9 n9 c9)] ([.own ρ, .own ρ9, .blk b6 (anL (k : Int) a2) 24, .fr σ]) ?_ ?_
                          · skip
                            refine T.seq ?_
                            refine T.quiet mix (by kernel_rfl) ?_
                            refine TQ.val (OpV.fieldAddr rfl fo_24_0) rfl ?_
                            refine TQ.val (OpV.load pl_3 rfl (by first | exact Cel.blk P0 rfl | exact Cel.blk P1 rfl | exact Cel.blk P2 rfl | exact Cel.blk P3 rfl | exact Cel.blk P4 rfl | exact Cel.blk P5 rfl | exact Cel.ownA (hatP _ _ rfl) | exact Cel.ownA (hatQ _ _ rfl) | exact Cel.ownA (hatg _ _ rfl) | exact Cel.ownA (hate _ _ rfl) | exact Cel.ownA (hatly _ _ rfl) | exact Cel.ownA (hatyu _ _ rfl) | exact Cel.ownA (hatu _ _ rfl) | exact Cel.frA (hatx _ _ rfl) | exact Cel.frA (hatz _ _ rfl) | exact Cel.frA (hatv _ _ rfl))) rfl ?_
                            refine TQ.val (OpV.fieldAddr rfl fo_24_0) rfl ?_
                            refine TQ.val (OpV.load pl_3 rfl (by first | exact Cel.blk P0 rfl | exact Cel.blk P1 rfl | exact Cel.blk P2 rfl | exact Cel.blk P3 rfl | exact Cel.blk P4 rfl | exact Cel.blk P5 rfl | exact Cel.ownA (hatP _ _ rfl) | exact Cel.ownA (hatQ _ _ rfl) | exact Cel.ownA (hatg _ _ rfl) | exact Cel.ownA (hate _ _ rfl) | exact Cel.ownA (hatly _ _ rfl) | exact Cel.ownA (hatyu _ _ rfl) | exact Cel.ownA (hatu _ _ rfl) | exact Cel.frA (hatx _ _ rfl) | exact Cel.frA (hatz _ _ rfl) | exact Cel.frA (hatv _ _ rfl))) rfl ?_
                            refine TQ.val (OpV.lss rfl rfl) rfl ?_
                            refine TQ.val (OpV.move rfl) rfl ?_
                            refine TQ.part (t := 121) rfl ?_ ?_
                            · intro hg121
                              have hab : ge2 P Q := hmono (.inl (of_decide_eq_true hg121))
                              refine TQ.shut rfl rfl ?_
                              refine TQ.shut rfl rfl ?_
                              refine TQ.shut rfl rfl ?_
                              refine TQ.shut rfl rfl ?_
                              refine TQ.shut rfl rfl ?_
                              refine TQ.shut rfl rfl ?_
                              refine TQ.shutU rfl rfl ?_
                              refine TQ.shutU rfl rfl ?_
                              refine TQ.shutU rfl rfl ?_
                              refine TQ.shutU rfl rfl ?_
                              refine TQ.shutU rfl rfl ?_
                              refine TQ.shut rfl rfl ?_
                              refine TQ.val ((by first | exact OpV.pick_t rfl rfl | exact OpV.pick_f rfl rfl)) rfl ?_
                              refine TQ.val (OpV.move rfl) rfl ?_
                              refine TQ.open rfl rfl ?_
                              refine TQ.val (OpV.move rfl) rfl ?_
                              refine TQ.open rfl rfl ?_
                              refine TQ.val (OpV.indexAddr (j := 0) se_43 rfl hA9 rfl rfl (by omega)) rfl ?_
                              refine TQ.open rfl rfl ?_
                              refine TQ.val (OpV.fieldAddr rfl fo_24_0) rfl ?_
                              refine TQ.open rfl rfl ?_
                              refine TQ.val (OpV.load pl_3 rfl (by first | exact Cel.blk P0 rfl | exact Cel.blk P1 rfl | exact Cel.blk P2 rfl | exact Cel.blk P3 rfl | exact Cel.blk P4 rfl | exact Cel.blk P5 rfl | exact Cel.ownA (hatP _ _ rfl) | exact Cel.ownA (hatQ _ _ rfl) | exact Cel.ownA (hatg _ _ rfl) | exact Cel.ownA (hate _ _ rfl) | exact Cel.ownA (hatly _ _ rfl) | exact Cel.ownA (hatyu _ _ rfl) | exact Cel.ownA (hatu _ _ rfl) | exact Cel.frA (hatx _ _ rfl) | exact Cel.frA (hatz _ _ rfl) | exact Cel.frA (hatv _ _ rfl))) rfl ?_
                              refine TQ.open rfl rfl ?_
                              refine TQ.val (OpV.move rfl) rfl ?_
                              refine TQ.open rfl rfl ?_
                              refine TQ.val (OpV.indexAddr (j := 1) se_43 rfl hA9 rfl rfl (by omega)) rfl ?_
                              refine TQ.open rfl rfl ?_
                              refine TQ.val (OpV.fieldAddr rfl fo_24_0) rfl ?_
                              refine TQ.open rfl rfl ?_
                              refine TQ.val (OpV.load pl_3 rfl (by first | exact Cel.blk P0 rfl | exact Cel.blk P1 rfl | exact Cel.blk P2 rfl | exact Cel.blk P3 rfl | exact Cel.blk P4 rfl | exact Cel.blk P5 rfl | exact Cel.ownA (hatP _ _ rfl) | exact Cel.ownA (hatQ _ _ rfl) | exact Cel.ownA (hatg _ _ rfl) | exact Cel.ownA (hate _ _ rfl) | exact Cel.ownA (hatly _ _ rfl) | exact Cel.ownA (hatyu _ _ rfl) | exact Cel.ownA (hatu _ _ rfl) | exact Cel.frA (hatx _ _ rfl) | exact Cel.frA (hatz _ _ rfl) | exact Cel.frA (hatv _ _ rfl))) rfl ?_
                              refine TQ.open rfl rfl ?_
                              refine TQ.val (OpV.gtr rfl rfl) rfl ?_
                              refine TQ.said (t := 144) rfl (show _ = Value.bool false from congrArg Value.bool (decide_eq_false (by unfold ge2 at hab; omega))) ?_
                              refine TQ.open rfl rfl ?_
                              refine TQ.val (OpV.move rfl) rfl ?_
                              refine TQ.open rfl rfl ?_
                              refine TQ.val (OpV.move rfl) rfl ?_
                              refine TQ.open rfl rfl ?_
                              refine TQ.val (OpV.indexAddr (j := 0) se_43 rfl hA9 rfl rfl (by omega)) rfl ?_
                              refine TQ.open rfl rfl ?_
                              refine TQ.val (OpV.fieldAddr rfl fo_24_0) rfl ?_
                              refine TQ.open rfl rfl ?_
                              refine TQ.val (OpV.load pl_3 rfl (by first | exact Cel.blk P0 rfl | exact Cel.blk P1 rfl | exact Cel.blk P2 rfl | exact Cel.blk P3 rfl | exact Cel.blk P4 rfl | exact Cel.blk P5 rfl | exact Cel.ownA (hatP _ _ rfl) | exact Cel.ownA (hatQ _ _ rfl) | exact Cel.ownA (hatg _ _ rfl) | exact Cel.ownA (hate _ _ rfl) | exact Cel.ownA (hatly _ _ rfl) | exact Cel.ownA (hatyu _ _ rfl) | exact Cel.ownA (hatu _ _ rfl) | exact Cel.frA (hatx _ _ rfl) | exact Cel.frA (hatz _ _ rfl) | exact Cel.frA (hatv _ _ rfl))) rfl ?_
                              refine TQ.open rfl rfl ?_
                              refine TQ.val (OpV.move rfl) rfl ?_
                              refine TQ.open rfl rfl ?_
                              refine TQ.val (OpV.indexAddr (j := 1) se_43 rfl hA9 rfl rfl (by omega)) rfl ?_
                              refine TQ.open rfl rfl ?_
                              refine TQ.val (OpV.fieldAddr rfl fo_24_0) rfl ?_
                              refine TQ.open rfl rfl ?_
                              refine TQ.val (OpV.load pl_3 rfl (by first | exact Cel.blk P0 rfl | exact Cel.blk P1 rfl | exact Cel.blk P2 rfl | exact Cel.blk P3 rfl | exact Cel.blk P4 rfl | exact Cel.blk P5 rfl | exact Cel.ownA (hatP _ _ rfl) | exact Cel.ownA (hatQ _ _ rfl) | exact Cel.ownA (hatg _ _ rfl) | exact Cel.ownA (hate _ _ rfl) | exact Cel.ownA (hatly _ _ rfl) | exact Cel.ownA (hatyu _ _ rfl) | exact Cel.ownA (hatu _ _ rfl) | exact Cel.frA (hatx _ _ rfl) | exact Cel.frA (hatz _ _ rfl) | exact Cel.frA (hatv _ _ rfl))) rfl ?_
                              refine TQ.open rfl rfl ?_
                              refine TQ.val (OpV.eql rfl rfl) rfl ?_
                              refine TQ.open rfl rfl ?_
                              refine TQ.val (OpV.move rfl) rfl ?_
                              refine TQ.part (t := 155) rfl ?_ ?_
                              · intro hg155
                                refine TQ.open rfl rfl ?_
                                refine TQ.val (OpV.move rfl) rfl ?_
                                refine TQ.open rfl rfl ?_
                                refine TQ.val (OpV.indexAddr (j := 0) se_43 rfl hA9 rfl rfl (by omega)) rfl ?_
                                refine TQ.open rfl rfl ?_
                                refine TQ.val (OpV.fieldAddr rfl fo_24_1) rfl ?_
                                refine TQ.open rfl rfl ?_
                                refine TQ.val (OpV.load pl_3 rfl (by first | exact Cel.blk P0 rfl | exact Cel.blk P1 rfl | exact Cel.blk P2 rfl | exact Cel.blk P3 rfl | exact Cel.blk P4 rfl | exact Cel.blk P5 rfl | exact Cel.ownA (hatP _ _ rfl) | exact Cel.ownA (hatQ _ _ rfl) | exact Cel.ownA (hatg _ _ rfl) | exact Cel.ownA (hate _ _ rfl) | exact Cel.ownA (hatly _ _ rfl) | exact Cel.ownA (hatyu _ _ rfl) | exact Cel.ownA (hatu _ _ rfl) | exact Cel.frA (hatx _ _ rfl) | exact Cel.frA (hatz _ _ rfl) | exact Cel.frA (hatv _ _ rfl))) rfl ?_
                                refine TQ.open rfl rfl ?_
                                refine TQ.val (OpV.move rfl) rfl ?_
                                refine TQ.open rfl rfl ?_
                                refine TQ.val (OpV.indexAddr (j := 1) se_43 rfl hA9 rfl rfl (by omega)) rfl ?_
                                refine TQ.open rfl rfl ?_
                                refine TQ.val (OpV.fieldAddr rfl fo_24_1) rfl ?_
                                refine TQ.open rfl rfl ?_
                                refine TQ.val (OpV.load pl_3 rfl (by first | exact Cel.blk P0 rfl | exact Cel.blk P1 rfl | exact Cel.blk P2 rfl | exact Cel.blk P3 rfl | exact Cel.blk P4 rfl | exact Cel.blk P5 rfl | exact Cel.ownA (hatP _ _ rfl) | exact Cel.ownA (hatQ _ _ rfl) | exact Cel.ownA (hatg _ _ rfl) | exact Cel.ownA (hate _ _ rfl) | exact Cel.ownA (hatly _ _ rfl) | exact Cel.ownA (hatyu _ _ rfl) | exact Cel.ownA (hatu _ _ rfl) | exact Cel.frA (hatx _ _ rfl) | exact Cel.frA (hatz _ _ rfl) | exact Cel.frA (hatv _ _ rfl))) rfl ?_
                                refine TQ.open rfl rfl ?_
                                refine TQ.val (OpV.gtr rfl rfl) rfl ?_
                                refine TQ.said (t := 164) rfl (show _ = Value.bool false from congrArg Value.bool (decide_eq_false (by have h8 := eq_of_beq hg155; unfold ge2 at hab; omega))) ?_
                                refine TQ.open rfl rfl ?_
                                refine TQ.val ((by first | exact OpV.pick_t rfl rfl | exact OpV.pick_f rfl rfl)) rfl ?_
                                refine TQ.open rfl rfl ?_
                                refine TQ.val ((by first | exact OpV.pick_t rfl rfl | exact OpV.pick_f rfl rfl)) rfl ?_
                                refine TQ.val ((by first | exact OpV.pick_t rfl rfl | exact OpV.pick_f rfl rfl)) rfl ?_
                                refine TQ.nil ?_
                                refine TE.sub (.cons (t := 0) rfl <| .cons (t := 1) rfl <| .cons (t := 6) rfl <| .cons (t := 9) rfl <| .cons (t := 11) rfl <| .cons (t := 167) rfl <| .nil) ?_
                                refine TE.next ?_
                                refine T.no rfl ?_
                                refine T.skip ?_
                                exact TE.met (.cons (t := 0) rfl <| .cons (t := 1) rfl <| .cons (t := 6) rfl <| .cons (t := 9) rfl <| .cons (t := 11) rfl <| .nil) (Perm.kle (.cons (by first | exact P0 | exact P1 | exact P2 | exact P3 | exact P4 | exact P5 | exact P6 | exact P7 | exact P8) (.cons (by first | exact P0 | exact P1 | exact P2 | exact P3 | exact P4 | exact P5 | exact P6 | exact P7 | exact P8) (.cons (by first | exact P0 | exact P1 | exact P2 | exact P3 | exact P4 | exact P5 | exact P6 | exact P7 | exact P8) (.cons (by first | exact P0 | exact P1 | exact P2 | exact P3 | exact P4 | exact P5 | exact P6 | exact P7 | exact P8) .nil)))))
                              · intro hg155
                                refine TQ.shut rfl rfl ?_
                                refine TQ.shut rfl rfl ?_
                                refine TQ.shut rfl rfl ?_
                                refine TQ.shut rfl rfl ?_
                                refine TQ.shut rfl rfl ?_
                                refine TQ.shut rfl rfl ?_
                                refine TQ.shut rfl rfl ?_
                                refine TQ.shut rfl rfl ?_
                                refine TQ.shut rfl rfl ?_
                                refine TQ.open rfl rfl ?_
                                refine TQ.val ((by first | exact OpV.pick_t rfl rfl | exact OpV.pick_f rfl rfl)) rfl ?_
                                refine TQ.open rfl rfl ?_
                                refine TQ.val ((by first | exact OpV.pick_t rfl rfl | exact OpV.pick_f rfl rfl)) rfl ?_
                                refine TQ.val ((by first | exact OpV.pick_t rfl rfl | exact OpV.pick_f rfl rfl)) rfl ?_
                                refine TQ.nil ?_
                                refine TE.sub (.cons (t := 0) rfl <| .cons (t := 1) rfl <| .cons (t := 6) rfl <| .cons (t := 9) rfl <| .cons (t := 11) rfl <| .cons (t := 167) rfl <| .nil) ?_
                                refine TE.next ?_
                                refine T.no rfl ?_
                                refine T.skip ?_
                                exact TE.met (.cons (t := 0) rfl <| .cons (t := 1) rfl <| .cons (t := 6) rfl <| .cons (t := 9) rfl <| .cons (t := 11) rfl <| .nil) (Perm.kle (.cons (by first | exact P0 | exact P1 | exact P2 | exact P3 | exact P4 | exact P5 | exact P6 | exact P7 | exact P8) (.cons (by first | exact P0 | exact P1 | exact P2 | exact P3 | exact P4 | exact P5 | exact P6 | exact P7 | exact P8) (.cons (by first | exact P0 | exact P1 | exact P2 | exact P3 | exact P4 | exact P5 | exact P6 | exact P7 | exact P8) (.cons (by first | exact P0 | exact P1 | exact P2 | exact P3 | exact P4 | exact P5 | exact P6 | exact P7 | exact P8) .nil)))))
                            · intro hg121
                              refine TQ.open rfl rfl ?_
                              refine TQ.val (OpV.fieldAddr rfl fo_24_0) rfl ?_
                              refine TQ.open rfl rfl ?_
                              refine TQ.val (OpV.load pl_3 rfl (by first | exact Cel.blk P0 rfl | exact Cel.blk P1 rfl | exact Cel.blk P2 rfl | exact Cel.blk P3 rfl | exact Cel.blk P4 rfl | exact Cel.blk P5 rfl | exact Cel.ownA (hatP _ _ rfl) | exact Cel.ownA (hatQ _ _ rfl) | exact Cel.ownA (hatg _ _ rfl) | exact Cel.ownA (hate _ _ rfl) | exact Cel.ownA (hatly _ _ rfl) | exact Cel.ownA (hatyu _ _ rfl) | exact Cel.ownA (hatu _ _ rfl) | exact Cel.frA (hatx _ _ rfl) | exact Cel.frA (hatz _ _ rfl) | exact Cel.frA (hatv _ _ rfl))) rfl ?_
                              refine TQ.open rfl rfl ?_
                              refine TQ.val (OpV.fieldAddr rfl fo_24_0) rfl ?_
                              refine TQ.open rfl rfl ?_
                              refine TQ.val (OpV.load pl_3 rfl (by first | exact Cel.blk P0 rfl | exact Cel.blk P1 rfl | exact Cel.blk P2 rfl | exact Cel.blk P3 rfl | exact Cel.blk P4 rfl | exact Cel.blk P5 rfl | exact Cel.ownA (hatP _ _ rfl) | exact Cel.ownA (hatQ _ _ rfl) | exact Cel.ownA (hatg _ _ rfl) | exact Cel.ownA (hate _ _ rfl) | exact Cel.ownA (hatly _ _ rfl) | exact Cel.ownA (hatyu _ _ rfl) | exact Cel.ownA (hatu _ _ rfl) | exact Cel.frA (hatx _ _ rfl) | exact Cel.frA (hatz _ _ rfl) | exact Cel.frA (hatv _ _ rfl))) rfl ?_
                              refine TQ.open rfl rfl ?_
                              refine TQ.val (OpV.eql rfl rfl) rfl ?_
                              refine TQ.open rfl rfl ?_
                              refine TQ.val (OpV.move rfl) rfl ?_
                              refine TQ.part (t := 127) rfl ?_ ?_
                              · intro hg127
                                refine TQ.open rfl rfl ?_
                                refine TQ.val (OpV.fieldAddr rfl fo_24_1) rfl ?_
                                refine TQ.open rfl rfl ?_
                                refine TQ.val (OpV.load pl_3 rfl (by first | exact Cel.blk P0 rfl | exact Cel.blk P1 rfl | exact Cel.blk P2 rfl | exact Cel.blk P3 rfl | exact Cel.blk P4 rfl | exact Cel.blk P5 rfl | exact Cel.ownA (hatP _ _ rfl) | exact Cel.ownA (hatQ _ _ rfl) | exact Cel.ownA (hatg _ _ rfl) | exact Cel.ownA (hate _ _ rfl) | exact Cel.ownA (hatly _ _ rfl) | exact Cel.ownA (hatyu _ _ rfl) | exact Cel.ownA (hatu _ _ rfl) | exact Cel.frA (hatx _ _ rfl) | exact Cel.frA (hatz _ _ rfl) | exact Cel.frA (hatv _ _ rfl))) rfl ?_
                                refine TQ.open rfl rfl ?_
                                refine TQ.val (OpV.fieldAddr rfl fo_24_1) rfl ?_
                                refine TQ.open rfl rfl ?_
                                refine TQ.val (OpV.load pl_3 rfl (by first | exact Cel.blk P0 rfl | exact Cel.blk P1 rfl | exact Cel.blk P2 rfl | exact Cel.blk P3 rfl | exact Cel.blk P4 rfl | exact Cel.blk P5 rfl | exact Cel.ownA (hatP _ _ rfl) | exact Cel.ownA (hatQ _ _ rfl) | exact Cel.ownA (hatg _ _ rfl) | exact Cel.ownA (hate _ _ rfl) | exact Cel.ownA (hatly _ _ rfl) | exact Cel.ownA (hatyu _ _ rfl) | exact Cel.ownA (hatu _ _ rfl) | exact Cel.frA (hatx _ _ rfl) | exact Cel.frA (hatz _ _ rfl) | exact Cel.frA (hatv _ _ rfl))) rfl ?_
                                refine TQ.open rfl rfl ?_
                                refine TQ.val (OpV.leq rfl rfl) rfl ?_
                                refine TQ.open rfl rfl ?_
                                refine TQ.val ((by first | exact OpV.pick_t rfl rfl | exact OpV.pick_f rfl rfl)) rfl ?_
                                refine TQ.val ((by first | exact OpV.pick_t rfl rfl | exact OpV.pick_f rfl rfl)) rfl ?_
                                refine TQ.val (OpV.move rfl) rfl ?_
                                refine TQ.part (t := 135) rfl ?_ ?_
                                · intro hg135
                                  have hab : ge2 P Q := hmono (.inr ⟨eq_of_beq hg127, of_decide_eq_true hg135⟩)
                                  refine TQ.open rfl rfl ?_
                                  refine TQ.val (OpV.move rfl) rfl ?_
                                  refine TQ.open rfl rfl ?_
                                  refine TQ.val (OpV.indexAddr (j := 0) se_43 rfl hA9 rfl rfl (by omega)) rfl ?_
                                  refine TQ.open rfl rfl ?_
                                  refine TQ.val (OpV.fieldAddr rfl fo_24_0) rfl ?_
                                  refine TQ.open rfl rfl ?_
                                  refine TQ.val (OpV.load pl_3 rfl (by first | exact Cel.blk P0 rfl | exact Cel.blk P1 rfl | exact Cel.blk P2 rfl | exact Cel.blk P3 rfl | exact Cel.blk P4 rfl | exact Cel.blk P5 rfl | exact Cel.ownA (hatP _ _ rfl) | exact Cel.ownA (hatQ _ _ rfl) | exact Cel.ownA (hatg _ _ rfl) | exact Cel.ownA (hate _ _ rfl) | exact Cel.ownA (hatly _ _ rfl) | exact Cel.ownA (hatyu _ _ rfl) | exact Cel.ownA (hatu _ _ rfl) | exact Cel.frA (hatx _ _ rfl) | exact Cel.frA (hatz _ _ rfl) | exact Cel.frA (hatv _ _ rfl))) rfl ?_
                                  refine TQ.open rfl rfl ?_
                                  refine TQ.val (OpV.move rfl) rfl ?_
                                  refine TQ.open rfl rfl ?_
                                  refine TQ.val (OpV.indexAddr (j := 1) se_43 rfl hA9 rfl rfl (by omega)) rfl ?_
                                  refine TQ.open rfl rfl ?_
                                  refine TQ.val (OpV.fieldAddr rfl fo_24_0) rfl ?_
                                  refine TQ.open rfl rfl ?_
                                  refine TQ.val (OpV.load pl_3 rfl (by first | exact Cel.blk P0 rfl | exact Cel.blk P1 rfl | exact Cel.blk P2 rfl | exact Cel.blk P3 rfl | exact Cel.blk P4 rfl | exact Cel.blk P5 rfl | exact Cel.ownA (hatP _ _ rfl) | exact Cel.ownA (hatQ _ _ rfl) | exact Cel.ownA (hatg _ _ rfl) | exact Cel.ownA (hate _ _ rfl) | exact Cel.ownA (hatly _ _ rfl) | exact Cel.ownA (hatyu _ _ rfl) | exact Cel.ownA (hatu _ _ rfl) | exact Cel.frA (hatx _ _ rfl) | exact Cel.frA (hatz _ _ rfl) | exact Cel.frA (hatv _ _ rfl))) rfl ?_
                                  refine TQ.open rfl rfl ?_
                                  refine TQ.val (OpV.gtr rfl rfl) rfl ?_
                                  refine TQ.said (t := 144) rfl (show _ = Value.bool false from congrArg Value.bool (decide_eq_false (by unfold ge2 at hab; omega))) ?_
                                  refine TQ.open rfl rfl ?_
                                  refine TQ.val (OpV.move rfl) rfl ?_
                                  refine TQ.open rfl rfl ?_
                                  refine TQ.val (OpV.move rfl) rfl ?_
                                  refine TQ.open rfl rfl ?_
                                  refine TQ.val (OpV.indexAddr (j := 0) se_43 rfl hA9 rfl rfl (by omega)) rfl ?_
                                  refine TQ.open rfl rfl ?_
                                  refine TQ.val (OpV.fieldAddr rfl fo_24_0) rfl ?_
                                  refine TQ.open rfl rfl ?_
                                  refine TQ.val (OpV.load pl_3 rfl (by first | exact Cel.blk P0 rfl | exact Cel.blk P1 rfl | exact Cel.blk P2 rfl | exact Cel.blk P3 rfl | exact Cel.blk P4 rfl | exact Cel.blk P5 rfl | exact Cel.ownA (hatP _ _ rfl) | exact Cel.ownA (hatQ _ _ rfl) | exact Cel.ownA (hatg _ _ rfl) | exact Cel.ownA (hate _ _ rfl) | exact Cel.ownA (hatly _ _ rfl) | exact Cel.ownA (hatyu _ _ rfl) | exact Cel.ownA (hatu _ _ rfl) | exact Cel.frA (hatx _ _ rfl) | exact Cel.frA (hatz _ _ rfl) | exact Cel.frA (hatv _ _ rfl))) rfl ?_
                                  refine TQ.open rfl rfl ?_
                                  refine TQ.val (OpV.move rfl) rfl ?_
                                  refine TQ.open rfl rfl ?_
                                  refine TQ.val (OpV.indexAddr (j := 1) se_43 rfl hA9 rfl rfl (by omega)) rfl ?_
                                  refine TQ.open rfl rfl ?_
                                  refine TQ.val (OpV.fieldAddr rfl fo_24_0) rfl ?_
                                  refine TQ.open rfl rfl ?_
                                  refine TQ.val (OpV.load pl_3 rfl (by first | exact Cel.blk P0 rfl | exact Cel.blk P1 rfl | exact Cel.blk P2 rfl | exact Cel.blk P3 rfl | exact Cel.blk P4 rfl | exact Cel.blk P5 rfl | exact Cel.ownA (hatP _ _ rfl) | exact Cel.ownA (hatQ _ _ rfl) | exact Cel.ownA (hatg _ _ rfl) | exact Cel.ownA (hate _ _ rfl) | exact Cel.ownA (hatly _ _ rfl) | exact Cel.ownA (hatyu _ _ rfl) | exact Cel.ownA (hatu _ _ rfl) | exact Cel.frA (hatx _ _ rfl) | exact Cel.frA (hatz _ _ rfl) | exact Cel.frA (hatv _ _ rfl))) rfl ?_
                                  refine TQ.open rfl rfl ?_
                                  refine TQ.val (OpV.eql rfl rfl) rfl ?_
                                  refine TQ.open rfl rfl ?_
                                  refine TQ.val (OpV.move rfl) rfl ?_
                                  refine TQ.part (t := 155) rfl ?_ ?_
                                  · intro hg155
                                    refine TQ.open rfl rfl ?_
                                    refine TQ.val (OpV.move rfl) rfl ?_
                                    refine TQ.open rfl rfl ?_
                                    refine TQ.val (OpV.indexAddr (j := 0) se_43 rfl hA9 rfl rfl (by omega)) rfl ?_
                                    refine TQ.open rfl rfl ?_
                                    refine TQ.val (OpV.fieldAddr rfl fo_24_1) rfl ?_
                                    refine TQ.open rfl rfl ?_
                                    refine TQ.val (OpV.load pl_3 rfl (by first | exact Cel.blk P0 rfl | exact Cel.blk P1 rfl | exact Cel.blk P2 rfl | exact Cel.blk P3 rfl | exact Cel.blk P4 rfl | exact Cel.blk P5 rfl | exact Cel.ownA (hatP _ _ rfl) | exact Cel.ownA (hatQ _ _ rfl) | exact Cel.ownA (hatg _ _ rfl) | exact Cel.ownA (hate _ _ rfl) | exact Cel.ownA (hatly _ _ rfl) | exact Cel.ownA (hatyu _ _ rfl) | exact Cel.ownA (hatu _ _ rfl) | exact Cel.frA (hatx _ _ rfl) | exact Cel.frA (hatz _ _ rfl) | exact Cel.frA (hatv _ _ rfl))) rfl ?_
                                    refine TQ.open rfl rfl ?_
                                    refine TQ.val (OpV.move rfl) rfl ?_
                                    refine TQ.open rfl rfl ?_
                                    refine TQ.val (OpV.indexAddr (j := 1) se_43 rfl hA9 rfl rfl (by omega)) rfl ?_
                                    refine TQ.open rfl rfl ?_
                                    refine TQ.val (OpV.fieldAddr rfl fo_24_1) rfl ?_
                                    refine TQ.open rfl rfl ?_
                                    refine TQ.val (OpV.load pl_3 rfl (by first | exact Cel.blk P0 rfl | exact Cel.blk P1 rfl | exact Cel.blk P2 rfl | exact Cel.blk P3 rfl | exact Cel.blk P4 rfl | exact Cel.blk P5 rfl | exact Cel.ownA (hatP _ _ rfl) | exact Cel.ownA (hatQ _ _ rfl) | exact Cel.ownA (hatg _ _ rfl) | exact Cel.ownA (hate _ _ rfl) | exact Cel.ownA (hatly _ _ rfl) | exact Cel.ownA (hatyu _ _ rfl) | exact Cel.ownA (hatu _ _ rfl) | exact Cel.frA (hatx _ _ rfl) | exact Cel.frA (hatz _ _ rfl) | exact Cel.frA (hatv _ _ rfl))) rfl ?_
                                    refine TQ.open rfl rfl ?_
                                    refine TQ.val (OpV.gtr rfl rfl) rfl ?_
                                    refine TQ.said (t := 164) rfl (show _ = Value.bool false from congrArg Value.bool (decide_eq_false (by have h8 := eq_of_beq hg155; unfold ge2 at hab; omega))) ?_
                                    refine TQ.open rfl rfl ?_
                                    refine TQ.val ((by first | exact OpV.pick_t rfl rfl | exact OpV.pick_f rfl rfl)) rfl ?_
                                    refine TQ.open rfl rfl ?_
                                    refine TQ.val ((by first | exact OpV.pick_t rfl rfl | exact OpV.pick_f rfl rfl)) rfl ?_
                                    refine TQ.val ((by first | exact OpV.pick_t rfl rfl | exact OpV.pick_f rfl rfl)) rfl ?_
                                    refine TQ.nil ?_
                                    refine TE.sub (.cons (t := 0) rfl <| .cons (t := 1) rfl <| .cons (t := 6) rfl <| .cons (t := 9) rfl <| .cons (t := 11) rfl <| .cons (t := 167) rfl <| .nil) ?_
                                    refine TE.next ?_
                                    refine T.no rfl ?_
                                    refine T.skip ?_
                                    exact TE.met (.cons (t := 0) rfl <| .cons (t := 1) rfl <| .cons (t := 6) rfl <| .cons (t := 9) rfl <| .cons (t := 11) rfl <| .nil) (Perm.kle (.cons (by first | exact P0 | exact P1 | exact P2 | exact P3 | exact P4 | exact P5 | exact P6 | exact P7 | exact P8) (.cons (by first | exact P0 | exact P1 | exact P2 | exact P3 | exact P4 | exact P5 | exact P6 | exact P7 | exact P8) (.cons (by first | exact P0 | exact P1 | exact P2 | exact P3 | exact P4 | exact P5 | exact P6 | exact P7 | exact P8) (.cons (by first | exact P0 | exact P1 | exact P2 | exact P3 | exact P4 | exact P5 | exact P6 | exact P7 | exact P8) .nil)))))
                                  · intro hg155
                                    refine TQ.shut rfl rfl ?_
                                    refine TQ.shut rfl rfl ?_
                                    refine TQ.shut rfl rfl ?_
                                    refine TQ.shut rfl rfl ?_
                                    refine TQ.shut rfl rfl ?_
                                    refine TQ.shut rfl rfl ?_
                                    refine TQ.shut rfl rfl ?_
                                    refine TQ.shut rfl rfl ?_
                                    refine TQ.shut rfl rfl ?_
                                    refine TQ.open rfl rfl ?_
                                    refine TQ.val ((by first | exact OpV.pick_t rfl rfl | exact OpV.pick_f rfl rfl)) rfl ?_
                                    refine TQ.open rfl rfl ?_
                                    refine TQ.val ((by first | exact OpV.pick_t rfl rfl | exact OpV.pick_f rfl rfl)) rfl ?_
                                    refine TQ.val ((by first | exact OpV.pick_t rfl rfl | exact OpV.pick_f rfl rfl)) rfl ?_
                                    refine TQ.nil ?_
                                    refine TE.sub (.cons (t := 0) rfl <| .cons (t := 1) rfl <| .cons (t := 6) rfl <| .cons (t := 9) rfl <| .cons (t := 11) rfl <| .cons (t := 167) rfl <| .nil) ?_
                                    refine TE.next ?_
                                    refine T.no rfl ?_
                                    refine T.skip ?_
                                    exact TE.met (.cons (t := 0) rfl <| .cons (t := 1) rfl <| .cons (t := 6) rfl <| .cons (t := 9) rfl <| .cons (t := 11) rfl <| .nil) (Perm.kle (.cons (by first | exact P0 | exact P1 | exact P2 | exact P3 | exact P4 | exact P5 | exact P6 | exact P7 | exact P8) (.cons (by first | exact P0 | exact P1 | exact P2 | exact P3 | exact P4 | exact P5 | exact P6 | exact P7 | exact P8) (.cons (by first | exact P0 | exact P1 | exact P2 | exact P3 | exact P4 | exact P5 | exact P6 | exact P7 | exact P8) (.cons (by first | exact P0 | exact P1 | exact P2 | exact P3 | exact P4 | exact P5 | exact P6 | exact P7 | exact P8) .nil)))))
                                · intro hg135
                                  refine TQ.shut rfl rfl ?_
                                  refine TQ.shut rfl rfl ?_
                                  refine TQ.shut rfl rfl ?_
                                  refine TQ.shut rfl rfl ?_
                                  refine TQ.shut rfl rfl ?_
                                  refine TQ.shut rfl rfl ?_
                                  refine TQ.shut rfl rfl ?_
                                  refine TQ.shut rfl rfl ?_
                                  refine TQ.shut rfl rfl ?_
                                  refine TQ.shut rfl rfl ?_
                                  refine TQ.shutU rfl rfl ?_
                                  refine TQ.shutU rfl rfl ?_
                                  refine TQ.shutU rfl rfl ?_
                                  refine TQ.shutU rfl rfl ?_
                                  refine TQ.shutU rfl rfl ?_
                                  refine TQ.shutU rfl rfl ?_
                                  refine TQ.shutU rfl rfl ?_
                                  refine TQ.shutU rfl rfl ?_
                                  refine TQ.shutU rfl rfl ?_
                                  refine TQ.shutU rfl rfl ?_
                                  refine TQ.shutU rfl rfl ?_
                                  refine TQ.shutU rfl rfl ?_
                                  refine TQ.shutU rfl rfl ?_
                                  refine TQ.shutU rfl rfl ?_
                                  refine TQ.shutU rfl rfl ?_
                                  refine TQ.shutU rfl rfl ?_
                                  refine TQ.shutU rfl rfl ?_
                                  refine TQ.shutU rfl rfl ?_
                                  refine TQ.shutU rfl rfl ?_
                                  refine TQ.shutU rfl rfl ?_
                                  refine TQ.shut rfl rfl ?_
                                  refine TQ.val ((by first | exact OpV.pick_t rfl rfl | exact OpV.pick_f rfl rfl)) rfl ?_
                                  refine TQ.nil ?_
                                  refine TE.sub (.cons (t := 0) rfl <| .cons (t := 1) rfl <| .cons (t := 6) rfl <| .cons (t := 9) rfl <| .cons (t := 11) rfl <| .cons (t := 167) rfl <| .nil) ?_
                                  refine TE.next ?_
                                  refine T.no rfl ?_
                                  refine T.skip ?_
                                  exact TE.met (.cons (t := 0) rfl <| .cons (t := 1) rfl <| .cons (t := 6) rfl <| .cons (t := 9) rfl <| .cons (t := 11) rfl <| .nil) (Perm.kle (.cons (by first | exact P0 | exact P1 | exact P2 | exact P3 | exact P4 | exact P5 | exact P6 | exact P7 | exact P8) (.cons (by first | exact P0 | exact P1 | exact P2 | exact P3 | exact P4 | exact P5 | exact P6 | exact P7 | exact P8) (.cons (by first | exact P0 | exact P1 | exact P2 | exact P3 | exact P4 | exact P5 | exact P6 | exact P7 | exact P8) (.cons (by first | exact P0 | exact P1 | exact P2 | exact P3 | exact P4 | exact P5 | exact P6 | exact P7 | exact P8) .nil)))))
                              · intro hg127
                                refine TQ.shut rfl rfl ?_
                                refine TQ.shut rfl rfl ?_
                                refine TQ.shut rfl rfl ?_
                                refine TQ.shut rfl rfl ?_
                                refine TQ.shut rfl rfl ?_
                                refine TQ.open rfl rfl ?_
                                refine TQ.val ((by first | exact OpV.pick_t rfl rfl | exact OpV.pick_f rfl rfl)) rfl ?_
                                refine TQ.val ((by first | exact OpV.pick_t rfl rfl | exact OpV.pick_f rfl rfl)) rfl ?_
                                refine TQ.val (OpV.move rfl) rfl ?_
                                refine TQ.shut rfl rfl ?_
                                refine TQ.shut rfl rfl ?_
                                refine TQ.shut rfl rfl ?_
                                refine TQ.shut rfl rfl ?_
                                refine TQ.shut rfl rfl ?_
                                refine TQ.shut rfl rfl ?_
                                refine TQ.shut rfl rfl ?_
                                refine TQ.shut rfl rfl ?_
                                refine TQ.shut rfl rfl ?_
                                refine TQ.shut rfl rfl ?_
                                refine TQ.shutU rfl rfl ?_
                                refine TQ.shutU rfl rfl ?_
                                refine TQ.shutU rfl rfl ?_
                                refine TQ.shutU rfl rfl ?_
                                refine TQ.shutU rfl rfl ?_
                                refine TQ.shutU rfl rfl ?_
                                refine TQ.shutU rfl rfl ?_
                                refine TQ.shutU rfl rfl ?_
                                refine TQ.shutU rfl rfl ?_
                                refine TQ.shutU rfl rfl ?_
                                refine TQ.shutU rfl rfl ?_
                                refine TQ.shutU rfl rfl ?_
                                refine TQ.shutU rfl rfl ?_
                                refine TQ.shutU rfl rfl ?_
                                refine TQ.shutU rfl rfl ?_
                                refine TQ.shutU rfl rfl ?_
                                refine TQ.shutU rfl rfl ?_
                                refine TQ.shutU rfl rfl ?_
                                refine TQ.shutU rfl rfl ?_
                                refine TQ.shutU rfl rfl ?_
                                refine TQ.shut rfl rfl ?_
                                refine TQ.val ((by first | exact OpV.pick_t rfl rfl | exact OpV.pick_f rfl rfl)) rfl ?_
                                refine TQ.nil ?_
                                refine TE.sub (.cons (t := 0) rfl <| .cons (t := 1) rfl <| .cons (t := 6) rfl <| .cons (t := 9) rfl <| .cons (t := 11) rfl <| .cons (t := 167) rfl <| .nil) ?_
                                refine TE.next ?_
                                refine T.no rfl ?_
                                refine T.skip ?_
                                exact TE.met (.cons (t := 0) rfl <| .cons (t := 1) rfl <| .cons (t := 6) rfl <| .cons (t := 9) rfl <| .cons (t := 11) rfl <| .nil) (Perm.kle (.cons (by first | exact P0 | exact P1 | exact P2 | exact P3 | exact P4 | exact P5 | exact P6 | exact P7 | exact P8) (.cons (by first | exact P0 | exact P1 | exact P2 | exact P3 | exact P4 | exact P5 | exact P6 | exact P7 | exact P8) (.cons (by first | exact P0 | exact P1 | exact P2 | exact P3 | exact P4 | exact P5 | exact P6 | exact P7 | exact P8) (.cons (by first | exact P0 | exact P1 | exact P2 | exact P3 | exact P4 | exact P5 | exact P6 | exact P7 | exact P8) .nil)))))
                          refine TE.next ?_
                          refine T.seq ?_
                          refine T.region ?_
                          refine TL.val (OpV.move rfl) rfl ?_
                          refine TL.val (OpV.loadA ag_24 rfl (Cels.blkAt (anL (k : Int) a2) (by first | exact P0 | exact P1 | exact P2 | exact P3 | exact P4 | exact P5 | exact P6 | exact P7) rfl rfl)) rfl ?_
                          refine TL.call (g := 34) rfl go_34 rfl (fun w1 k1 => ato_c (k : Int) a2 w1 (L.below k1.bel) h (by omega) (k1.get (e := .fr σ) (by first | exact P0 | exact P1 | exact P2 | exact P3 | exact P4 | exact P5 | exact P6 | exact P7 | exact P8))) rfl ?_
                          refine TL.said (t := 171) rfl (show _ = Value.tuple #[.int .i64 (i : Int), .int .i64 nn, .int .i64 0] by rw [htoa, htoe]) ?_
                          refine TL.val (OpV.move rfl) rfl ?_
                          refine TL.val (OpV.extract rfl rfl) rfl ?_
                          refine TL.val (OpV.extract rfl rfl) rfl ?_
                          refine TL.val (OpV.extract rfl rfl) rfl ?_
                          refine TL.val (OpV.assign rfl) rfl ?_
                          refine TL.val (OpV.assign rfl) rfl ?_
                          refine TL.val (OpV.assign rfl) rfl ?_
                          refine TL.nil ?_
                          refine TE.sub (.cons (t := 0) rfl <| .cons (t := 1) rfl <| .cons (t := 6) rfl <| .cons (t := 9) rfl <| .cons (t := 10) rfl <| .cons (t := 11) rfl <| .cons (t := 12) rfl <| .cons (t := 13) rfl <| .nil) ?_
                          refine TE.next ?_
                          refine T.seq ?_
                          refine T.seq ?_
                          refine T.region ?_
                          refine TL.val (OpV.move rfl) rfl ?_
                          refine TL.val (OpV.neq rfl rfl) rfl ?_
                          refine TL.said (t := 176) rfl (show _ = Value.bool false from congrArg Value.bool (rfl)) ?_
                          refine TL.val (OpV.move rfl) rfl ?_
                          refine TL.open rfl rfl ?_
                          refine TL.val (OpV.move rfl) rfl ?_
                          refine TL.open rfl rfl ?_
                          refine TL.val (OpV.lss rfl rfl) rfl ?_
                          refine TL.said (t := 179) rfl (show _ = Value.bool false from congrArg Value.bool (decide_eq_false (by omega))) ?_
                          refine TL.val ((by first | exact OpV.pick_t rfl rfl | exact OpV.pick_f rfl rfl)) rfl ?_
                          refine TL.val (OpV.move rfl) rfl ?_
                          refine TL.open rfl rfl ?_
                          refine TL.val (OpV.move rfl) rfl ?_
                          refine TL.open rfl rfl ?_
                          refine TL.val (OpV.move rfl) rfl ?_
                          refine TL.open rfl rfl ?_
                          refine TL.val (OpV.len Tryd.underlying34 rfl) rfl ?_
                          refine TL.open rfl rfl ?_
                          refine TL.val (OpV.geq rfl rfl) rfl ?_
                          refine TL.said (t := 185) rfl (show _ = Value.bool false from congrArg Value.bool (decide_eq_false (by omega))) ?_
                          refine TL.val ((by first | exact OpV.pick_t rfl rfl | exact OpV.pick_f rfl rfl)) rfl ?_
                          refine TL.nil ?_
                          refine TE.sub (.cons (t := 0) rfl <| .cons (t := 1) rfl <| .cons (t := 6) rfl <| .cons (t := 9) rfl <| .cons (t := 11) rfl <| .cons (t := 12) rfl <| .cons (t := 13) rfl <| .cons (t := 186) rfl <| .nil) ?_
                          refine TE.next ?_
                          refine T.no rfl ?_
                          refine T.skip ?_
                          refine TE.next ?_
                          refine T.seq ?_
                          refine T.seq ?_
                          refine T.region ?_
                          refine TL.val (OpV.move rfl) rfl ?_
                          refine TL.val (OpV.move rfl) rfl ?_
                          refine TL.val (OpV.move rfl) rfl ?_
                          refine TL.val (OpV.indexAddr (j := i) se_34 rfl hA3 rfl rfl (by omega)) rfl ?_
                          refine TL.val (OpV.fieldAddr rfl fo_37_0) rfl ?_
                          refine TL.val (OpV.load pl_35 rfl (by first | exact Cel.blk P0 rfl | exact Cel.blk P1 rfl | exact Cel.blk P2 rfl | exact Cel.blk P3 rfl | exact Cel.blk P4 rfl | exact Cel.blk P5 rfl | exact Cel.ownA (hatP _ _ rfl) | exact Cel.ownA (hatQ _ _ rfl) | exact Cel.ownA (hatg _ _ rfl) | exact Cel.ownA (hate _ _ rfl) | exact Cel.ownA (hatly _ _ rfl) | exact Cel.ownA (hatyu _ _ rfl) | exact Cel.ownA (hatu _ _ rfl) | exact Cel.frA (hatx _ _ rfl) | exact Cel.frA (hatz _ _ rfl) | exact Cel.frA (hatv _ _ rfl))) rfl ?_
                          refine TL.val (OpV.len Tryd.underlying35 rfl) rfl ?_
                          refine TL.val (OpV.geq rfl rfl) rfl ?_
                          refine TL.nil ?_
                          refine TE.sub (.cons (t := 0) rfl <| .cons (t := 1) rfl <| .cons (t := 6) rfl <| .cons (t := 9) rfl <| .cons (t := 11) rfl <| .cons (t := 12) rfl <| .cons (t := 13) rfl <| .cons (t := 194) rfl <| .nil) ?_
                          refine TE.next ?_
                          refine T.cond rfl ?_ ?_
                          · intro ht194
                            refine T.seq ?_
                            refine T.region ?_
                            refine TL.call (g := 14) rfl go_14 rfl (fun w1 k1 => known29_law w1 (L.below k1.bel)) rfl ?_
                            refine TL.val (OpV.assign rfl) rfl ?_
                            refine TL.nil ?_
                            refine TE.sub (.cons (t := 8) rfl <| .nil) ?_
                            refine TE.next ?_
                            refine T.ret ?_
                            refine TE.pass_ret ?_
                            refine TE.ret1 rfl (ResV.tmp rfl) ?_
                            exact fun w1 k1 => ⟨rfl, k1.bel⟩
                          · intro ht194
                            have hn9 := of_decide_eq_false ht194
                            obtain ⟨v, hvx⟩ := get_of_lt hcx.1 (show a2.toNat < x.n by omega)
                            obtain ⟨bx, ox, hAx, hatx0⟩ := hcx.pos (by omega)
                            have hatv := hatx0 _ v hvx
                            obtain ⟨⟨y, u, hr0, hy, hyu, hgu, hall⟩, hp2⟩ := hold_carry (a := ((k : Int), a2)) hv hf (by omega) hPa rfl hXx hvx hto hgl (by rw [← hgg]; show nn < (g.cells.length : Int); omega)
                            rw [← hPe] at hr0 hy hyu hp2
                            rw [show gl.cells = g.cells from by rw [← hgg]; rfl] at hr0 hy hgu
                            obtain ⟨rr, hrr⟩ : ∃ rr : Nat, P.1 - rwS (m : Int) ((lgG [] 0 (ls.map LnA.ln)).take i) = (rr : Int) := ⟨(P.1 - rwS (m : Int) ((lgG [] 0 (ls.map LnA.ln)).take i)).toNat, by omega⟩
                            rw [hrr] at hr0 hy
                            rw [Int.toNat_natCast] at hy
                            obtain ⟨bg, og, hAg, hatg0⟩ := hcg.pos (by omega)
                            have hatu := hatg0 _ u hgu
                            have hrwb := rwS_bd (cols := (m : Int)) ((lgG [] 0 (ls.map LnA.ln)).take i)
                            have hrwl : ((lgG [] 0 (ls.map LnA.ln)).take i).length ≤ 12 := by rw [List.length_take]; omega
                            have hP1 : P.1 ≤ 20000000000 := by have h9 := rowsV_bd (xs := g.cells) (cols := (m : Int)); have h8 := fine_at hf hgl; rw [show gl.cells = g.cells from by rw [← hgg]; rfl] at h8; have h7 := rows_eq h8; have h6 := hr0.2; rw [wrapV_ref h8, refW_length, rowsN] at h6; omega
                            refine T.skip ?_
                            refine TE.next ?_
                            refine T.seq ?_
                            refine T.region ?_
                            refine TL.val (OpV.assign rfl) rfl ?_
                            refine TL.nil ?_
                            refine TE.next ?_
                            refine T.seq ?_
                            refine T.seq ?_
                            refine T.region ?_
                            refine TL.val (OpV.assign rfl) rfl ?_
                            refine TL.nil ?_
                            refine TE.next ?_
                            refine T.block ?_
                            refine T.loop (ι := Nat) (fun q => q ≤ i) (fun q => (i - q)) (fun q => [(0, .slice A n c), (1, .int .u8 (m : Int)), (6, .pointer (some ⟨b6, 0, none⟩)), (9, .slice A6 n6 c6), (11, .slice A9 n9 c9), (12, .int .i64 (i : Int)), (13, .int .i64 nn), (14, .int .i64 (rwS (m : Int) ((lgG [] 0 (ls.map LnA.ln)).take q))), (15, .int .i64 (q : Int))]) (fun q => [.own ρ, .own ρ9, .blk b6 (anL (k : Int) a2) 24, .fr σ]) 0 (Nat.zero_le _) (.cons (t := 0) rfl <| .cons (t := 1) rfl <| .cons (t := 6) rfl <| .cons (t := 9) rfl <| .cons (t := 11) rfl <| .cons (t := 12) rfl <| .cons (t := 13) rfl <| .cons (t := 14) rfl <| .cons (t := 15) rfl <| .nil) (Perm.kle (.cons (by first | exact P0 | exact P1 | exact P2 | exact P3 | exact P4 | exact P5 | exact P6 | exact P7 | exact P8) (.cons (by first | exact P0 | exact P1 | exact P2 | exact P3 | exact P4 | exact P5 | exact P6 | exact P7 | exact P8) (.cons (by first | exact P0 | exact P1 | exact P2 | exact P3 | exact P4 | exact P5 | exact P6 | exact P7 | exact P8) (.cons (by first | exact P0 | exact P1 | exact P2 | exact P3 | exact P4 | exact P5 | exact P6 | exact P7 | exact P8) .nil))))) ?_
                            rintro q hR
                            refine T.seq ?_
                            refine T.seq ?_
                            refine T.region ?_
                            refine TL.val (OpV.move rfl) rfl ?_
                            refine TL.val (OpV.move rfl) rfl ?_
                            refine TL.val (OpV.lss rfl rfl) rfl ?_
                            refine TL.nil ?_
                            refine TE.next ?_
                            refine T.cond rfl ?_ ?_
                            · intro ht198
                              have hq : q < i := by have h9 := of_decide_eq_true ht198; omega
                              obtain ⟨e, he⟩ := get_of_lt hgs.1.1 (show q < n6 by omega)
                              obtain ⟨b7_, o7_, hA7_, hat7_⟩ := hgs.1.2.2.2.2 (by omega)
                              obtain ⟨_, rfl, _, hate⟩ := hat7_ _ e he
                              have hce_ := hgs.2 e (List.mem_of_getElem? he)
                              have hGe : (lgG [] 0 (ls.map LnA.ln))[q]? = some e.lg := by rw [← hge, List.getElem?_map, he]; rfl
                              have hve : vW e.cells (m : Int) = true := fine_at hf hGe
                              have hsq : rwS (m : Int) ((lgG [] 0 (ls.map LnA.ln)).take (q + 1)) = rwS (m : Int) ((lgG [] 0 (ls.map LnA.ln)).take q) + rowsV e.cells (m : Int) := rwS_snoc hGe
                              have hb1_ := rwS_bd (cols := (m : Int)) ((lgG [] 0 (ls.map LnA.ln)).take q)
                              have hb2_ : ((lgG [] 0 (ls.map LnA.ln)).take q).length ≤ 12 := by rw [List.length_take]; omega
                              have hb3_ := rowsV_bd (xs := e.cells) (cols := (m : Int))
                              refine T.skip ?_
                              refine TE.next ?_
                              refine T.seq ?_
                              refine T.block ?_
                              refine T.seq ?_
                              refine T.region ?_
                              refine TL.val (OpV.move rfl) rfl ?_
                              refine TL.val (OpV.move rfl) rfl ?_
                              refine TL.val (OpV.indexAddr (j := q) se_34 rfl hA7_ rfl rfl (by omega)) rfl ?_
                              refine TL.val (OpV.fieldAddr rfl fo_37_0) rfl ?_
                              refine TL.val (OpV.load pl_35 rfl (by first | exact Cel.blk P0 rfl | exact Cel.blk P1 rfl | exact Cel.blk P2 rfl | exact Cel.blk P3 rfl | exact Cel.blk P4 rfl | exact Cel.blk P5 rfl | exact Cel.ownA (hatP _ _ rfl) | exact Cel.ownA (hatQ _ _ rfl) | exact Cel.ownA (hatg _ _ rfl) | exact Cel.ownA (hate _ _ rfl) | exact Cel.ownA (hatly _ _ rfl) | exact Cel.ownA (hatyu _ _ rfl) | exact Cel.ownA (hatu _ _ rfl) | exact Cel.frA (hatx _ _ rfl) | exact Cel.frA (hatz _ _ rfl) | exact Cel.frA (hatv _ _ rfl))) rfl ?_
                              refine TL.val (OpV.move rfl) rfl ?_
                              refine TL.val (OpV.conv Tryd.underlying5 Tryd.underlying3 rfl (by first | exact IntWalk.i64_in _ ⟨by omega, by omega⟩ | rfl)) rfl ?_
                              refine TL.call (g := 35) rfl go_35 rfl (fun w1 k1 => rows_c w1 (m : Int) (L.below k1.bel) hce_ (fun b o hb => (k1.get (e := .own ρ) (by first | exact P0 | exact P1 | exact P2 | exact P3 | exact P4 | exact P5 | exact P6 | exact P7 | exact P8) b o hb).2)) rfl ?_
                              refine TL.said (t := 209) rfl (show _ = Value.tuple #[.int .i64 (rowsV e.cells (m : Int)), .int .i64 0] by rw [rowsE, hve]; rfl) ?_
                              refine TL.val (OpV.move rfl) rfl ?_
                              refine TL.val (OpV.extract rfl rfl) rfl ?_
                              refine TL.val (OpV.extract rfl rfl) rfl ?_
                              refine TL.val (OpV.assign rfl) rfl ?_
                              refine TL.val (OpV.assign rfl) rfl ?_
                              refine TL.nil ?_
                              refine TE.sub (.cons (t := 0) rfl <| .cons (t := 1) rfl <| .cons (t := 6) rfl <| .cons (t := 9) rfl <| .cons (t := 11) rfl <| .cons (t := 12) rfl <| .cons (t := 13) rfl <| .cons (t := 14) rfl <| .cons (t := 15) rfl <| .cons (t := 16) rfl <| .cons (t := 17) rfl <| .nil) ?_
                              refine TE.next ?_
                              refine T.seq ?_
                              refine T.seq ?_
                              refine T.region ?_
                              refine TL.val (OpV.move rfl) rfl ?_
                              refine TL.val (OpV.neq rfl rfl) rfl ?_
                              refine TL.said (t := 213) rfl (show _ = Value.bool false from congrArg Value.bool (rfl)) ?_
                              refine TL.nil ?_
                              refine TE.next ?_
                              refine T.no rfl ?_
                              refine T.skip ?_
                              refine TE.next ?_
                              refine T.region ?_
                              refine TL.val (OpV.move rfl) rfl ?_
                              refine TL.val (OpV.move rfl) rfl ?_
                              refine TL.val (OpV.add rfl rfl (by first | exact IntWalk.i64_in _ ⟨by omega, by omega⟩ | rfl)) rfl ?_
                              refine TL.said (t := 216) rfl (show _ = Value.int .i64 (rwS (m : Int) ((lgG [] 0 (ls.map LnA.ln)).take (q + 1))) by rw [hsq]) ?_
                              refine TL.val (OpV.assign rfl) rfl ?_
                              refine TL.nil ?_
                              refine TE.out ?_
                              refine TE.sub (.cons (t := 0) rfl <| .cons (t := 1) rfl <| .cons (t := 6) rfl <| .cons (t := 9) rfl <| .cons (t := 11) rfl <| .cons (t := 12) rfl <| .cons (t := 13) rfl <| .cons (t := 14) rfl <| .cons (t := 15) rfl <| .nil) ?_
                              refine TE.next ?_
                              refine T.region ?_
                              refine TL.val (OpV.move rfl) rfl ?_
                              refine TL.val (OpV.add rfl rfl (by first | exact IntWalk.i64_in _ ⟨by omega, by omega⟩ | rfl)) rfl ?_
                              refine TL.val (OpV.assign rfl) rfl ?_
                              refine TL.nil ?_
                              exact TE.meet (q + 1) ⟨by omega, by omega⟩ (.cons (t := 0) (by first | rfl | (simp [lk]; done)) <| .cons (t := 1) (by first | rfl | (simp [lk]; done)) <| .cons (t := 6) (by first | rfl | (simp [lk]; done)) <| .cons (t := 9) (by first | rfl | (simp [lk]; done)) <| .cons (t := 11) (by first | rfl | (simp [lk]; done)) <| .cons (t := 12) (by first | rfl | (simp [lk]; done)) <| .cons (t := 13) (by first | rfl | (simp [lk]; done)) <| .cons (t := 14) (by first | rfl | (simp [lk]; done)) <| .cons (t := 15) (by first | rfl | (simp [lk]; done)) <| .nil) (Perm.kle (.cons (by first | exact P0 | exact P1 | exact P2 | exact P3 | exact P4 | exact P5 | exact P6 | exact P7 | exact P8) (.cons (by first | exact P0 | exact P1 | exact P2 | exact P3 | exact P4 | exact P5 | exact P6 | exact P7 | exact P8) (.cons (by first | exact P0 | exact P1 | exact P2 | exact P3 | exact P4 | exact P5 | exact P6 | exact P7 | exact P8) (.cons (by first | exact P0 | exact P1 | exact P2 | exact P3 | exact P4 | exact P5 | exact P6 | exact P7 | exact P8) .nil)))))
                            · intro ht198
                              have hq : i = q := by have h9 := of_decide_eq_false ht198; omega
                              subst hq
                              have hvg : vW g.cells (m : Int) = true := by have h8 := fine_at hf hgl; rwa [show gl.cells = g.cells from by rw [← hgg]; rfl] at h8
                              refine T.exit ?_
                              refine TE.pass_exit ?_
                              refine TE.pass_exit ?_
                              refine TE.here ?_
                              refine TE.next ?_
                              refine T.seq ?_
                              refine T.region ?_
                              refine TL.val (OpV.move rfl) rfl ?_
                              refine TL.val (OpV.move rfl) rfl ?_
                              refine TL.val (OpV.indexAddr (j := i) se_34 rfl hA3 rfl rfl (by omega)) rfl ?_
                              refine TL.val (OpV.fieldAddr rfl fo_37_0) rfl ?_
                              refine TL.val (OpV.load pl_35 rfl (by first | exact Cel.blk P0 rfl | exact Cel.blk P1 rfl | exact Cel.blk P2 rfl | exact Cel.blk P3 rfl | exact Cel.blk P4 rfl | exact Cel.blk P5 rfl | exact Cel.ownA (hatP _ _ rfl) | exact Cel.ownA (hatQ _ _ rfl) | exact Cel.ownA (hatg _ _ rfl) | exact Cel.ownA (hate _ _ rfl) | exact Cel.ownA (hatly _ _ rfl) | exact Cel.ownA (hatyu _ _ rfl) | exact Cel.ownA (hatu _ _ rfl) | exact Cel.frA (hatx _ _ rfl) | exact Cel.frA (hatz _ _ rfl) | exact Cel.frA (hatv _ _ rfl))) rfl ?_
                              refine TL.val (OpV.move rfl) rfl ?_
                              refine TL.val (OpV.conv Tryd.underlying5 Tryd.underlying3 rfl (by first | exact IntWalk.i64_in _ ⟨by omega, by omega⟩ | rfl)) rfl ?_
                              refine TL.callx (g := 36) rfl go_36 rfl (fun wz k1 => own_x k1 (wrap_c wz (m : Int) (L.below k1.bel) hcg (fun b o hb => (k1.get (e := .own ρ) (by first | exact P0 | exact P1 | exact P2 | exact P3 | exact P4 | exact P5 | exact P6 | exact P7 | exact P8) b o hb).2))) rfl ?_
                              rintro ⟨A8, n8, c8, ρ8⟩ ⟨l8, h8, h8e⟩
                              replace h8 : LsA ρ8 A8 n8 c8 l8 := h8
                              replace h8e : l8.map LnA.ln = wrapV g.cells (m : Int) := h8e
                              refine TL.said (t := 225) rfl (show _ = Value.tuple #[.slice A8 n8 c8, .int .i64 0] by rw [rowsE, hvg]; rfl) ?_
                              have h8l := h8.1.1
                              have h8c := h8.1.2.1
                              have h8d := h8.1.2.2.1
                              rw [← h8e, List.length_map, h8l] at hr0
                              obtain ⟨ly, hly, hlyy⟩ : ∃ l, l8[rr]? = some l ∧ l.ln = y := by rw [← h8e, List.getElem?_map, Option.map_eq_some_iff] at hy; exact hy
                              obtain ⟨b8, o8, hA8, hat8⟩ := h8.1.2.2.2.2 (by omega)
                              obtain ⟨_, rfl, _, hatly⟩ := hat8 _ ly hly
                              have hcly := h8.2 ly (List.mem_of_getElem? hly)
                              have hcl1 := hcly.1
                              have hcl2 := hcly.2.1
                              have hcl3 := hcly.2.2.1
                              rw [← hlyy] at hyu
                              replace hyu : ly.cells[P.2.toNat]? = some u := hyu
                              have hp3 : P.2.toNat < ly.n := by have h9 := (List.getElem?_eq_some_iff.1 hyu).1; omega
                              obtain ⟨by_, oy, hAy, haty0⟩ := hcly.pos (by omega)
                              have hatyu := haty0 _ u hyu
                              refine TL.val (OpV.move rfl) rfl ?_
                              refine TL.val (OpV.extract rfl rfl) rfl ?_
                              refine TL.val (OpV.extract rfl rfl) rfl ?_
                              refine TL.val (OpV.assign rfl) rfl ?_
                              refine TL.val (OpV.assign rfl) rfl ?_
                              refine TL.nil ?_
                              refine TE.sub (.cons (t := 0) rfl <| .cons (t := 6) rfl <| .cons (t := 9) rfl <| .cons (t := 10) rfl <| .cons (t := 11) rfl <| .cons (t := 12) rfl <| .cons (t := 13) rfl <| .cons (t := 14) rfl <| .cons (t := 18) rfl <| .nil) ?_
                              refine TE.next ?_
                              refine T.seq ?_
                              refine T.region ?_
                              refine TL.val (OpV.move rfl) rfl ?_
                              refine TL.val (OpV.indexAddr (j := 0) se_43 rfl hA9 rfl rfl (by omega)) rfl ?_
                              refine TL.val (OpV.fieldAddr rfl fo_24_0) rfl ?_
                              refine TL.val (OpV.load pl_3 rfl (by first | exact Cel.blk P0 rfl | exact Cel.blk P1 rfl | exact Cel.blk P2 rfl | exact Cel.blk P3 rfl | exact Cel.blk P4 rfl | exact Cel.blk P5 rfl | exact Cel.ownA (hatP _ _ rfl) | exact Cel.ownA (hatQ _ _ rfl) | exact Cel.ownA (hatg _ _ rfl) | exact Cel.ownA (hate _ _ rfl) | exact Cel.ownA (hatly _ _ rfl) | exact Cel.ownA (hatyu _ _ rfl) | exact Cel.ownA (hatu _ _ rfl) | exact Cel.frA (hatx _ _ rfl) | exact Cel.frA (hatz _ _ rfl) | exact Cel.frA (hatv _ _ rfl))) rfl ?_
                              refine TL.val (OpV.move rfl) rfl ?_
                              refine TL.val (OpV.sub rfl rfl (by first | exact IntWalk.i64_in _ ⟨by omega, by omega⟩ | rfl)) rfl ?_
                              refine TL.said (t := 233) rfl (show _ = Value.int .i64 (rr : Int) from congrArg _ hrr) ?_
                              refine TL.val (OpV.assign rfl) rfl ?_
                              refine TL.nil ?_
                              refine TE.sub (.cons (t := 0) rfl <| .cons (t := 6) rfl <| .cons (t := 9) rfl <| .cons (t := 10) rfl <| .cons (t := 11) rfl <| .cons (t := 12) rfl <| .cons (t := 13) rfl <| .cons (t := 18) rfl <| .cons (t := 19) rfl <| .nil) ?_
                              refine TE.next ?_
                              refine T.seq ?_
                              refine T.seq ?_
                              refine T.quiet mix (by kernel_rfl) ?_
                              refine TQ.val (OpV.move rfl) rfl ?_
                              refine TQ.val (OpV.neq rfl rfl) rfl ?_
                              refine TQ.said (t := 235) rfl (show _ = Value.bool false from congrArg Value.bool (rfl)) ?_
                              refine TQ.val (OpV.move rfl) rfl ?_
                              refine TQ.open rfl rfl ?_
                              refine TQ.val (OpV.move rfl) rfl ?_
                              refine TQ.open rfl rfl ?_
                              refine TQ.val (OpV.lss rfl rfl) rfl ?_
                              refine TQ.said (t := 238) rfl (show _ = Value.bool false from congrArg Value.bool (decide_eq_false (by omega))) ?_
                              refine TQ.val ((by first | exact OpV.pick_t rfl rfl | exact OpV.pick_f rfl rfl)) rfl ?_
                              refine TQ.val (OpV.move rfl) rfl ?_
                              refine TQ.open rfl rfl ?_
                              refine TQ.val (OpV.move rfl) rfl ?_
                              refine TQ.open rfl rfl ?_
                              refine TQ.val (OpV.move rfl) rfl ?_
                              refine TQ.open rfl rfl ?_
                              refine TQ.val (OpV.len Tryd.underlying22 rfl) rfl ?_
                              refine TQ.open rfl rfl ?_
                              refine TQ.val (OpV.geq rfl rfl) rfl ?_
                              refine TQ.said (t := 244) rfl (show _ = Value.bool false from congrArg Value.bool (decide_eq_false (by omega))) ?_
                              refine TQ.val ((by first | exact OpV.pick_t rfl rfl | exact OpV.pick_f rfl rfl)) rfl ?_
                              refine TQ.val (OpV.move rfl) rfl ?_
                              refine TQ.open rfl rfl ?_
                              refine TQ.val (OpV.move rfl) rfl ?_
                              refine TQ.open rfl rfl ?_
                              refine TQ.val (OpV.indexAddr (j := 0) se_43 rfl hA9 rfl rfl (by omega)) rfl ?_
                              refine TQ.open rfl rfl ?_
                              refine TQ.val (OpV.fieldAddr rfl fo_24_1) rfl ?_
                              refine TQ.open rfl rfl ?_
                              refine TQ.val (OpV.load pl_3 rfl (by first | exact Cel.blk P0 rfl | exact Cel.blk P1 rfl | exact Cel.blk P2 rfl | exact Cel.blk P3 rfl | exact Cel.blk P4 rfl | exact Cel.blk P5 rfl | exact Cel.ownA (hatP _ _ rfl) | exact Cel.ownA (hatQ _ _ rfl) | exact Cel.ownA (hatg _ _ rfl) | exact Cel.ownA (hate _ _ rfl) | exact Cel.ownA (hatly _ _ rfl) | exact Cel.ownA (hatyu _ _ rfl) | exact Cel.ownA (hatu _ _ rfl) | exact Cel.frA (hatx _ _ rfl) | exact Cel.frA (hatz _ _ rfl) | exact Cel.frA (hatv _ _ rfl))) rfl ?_
                              refine TQ.open rfl rfl ?_
                              refine TQ.val (OpV.lss rfl rfl) rfl ?_
                              refine TQ.said (t := 251) rfl (show _ = Value.bool false from congrArg Value.bool (decide_eq_false (by omega))) ?_
                              refine TQ.val ((by first | exact OpV.pick_t rfl rfl | exact OpV.pick_f rfl rfl)) rfl ?_
                              refine TQ.val (OpV.move rfl) rfl ?_
                              refine TQ.open rfl rfl ?_
                              refine TQ.val (OpV.move rfl) rfl ?_
                              refine TQ.open rfl rfl ?_
                              refine TQ.val (OpV.indexAddr (j := 0) se_43 rfl hA9 rfl rfl (by omega)) rfl ?_
                              refine TQ.open rfl rfl ?_
                              refine TQ.val (OpV.fieldAddr rfl fo_24_1) rfl ?_
                              refine TQ.open rfl rfl ?_
                              refine TQ.val (OpV.load pl_3 rfl (by first | exact Cel.blk P0 rfl | exact Cel.blk P1 rfl | exact Cel.blk P2 rfl | exact Cel.blk P3 rfl | exact Cel.blk P4 rfl | exact Cel.blk P5 rfl | exact Cel.ownA (hatP _ _ rfl) | exact Cel.ownA (hatQ _ _ rfl) | exact Cel.ownA (hatg _ _ rfl) | exact Cel.ownA (hate _ _ rfl) | exact Cel.ownA (hatly _ _ rfl) | exact Cel.ownA (hatyu _ _ rfl) | exact Cel.ownA (hatu _ _ rfl) | exact Cel.frA (hatx _ _ rfl) | exact Cel.frA (hatz _ _ rfl) | exact Cel.frA (hatv _ _ rfl))) rfl ?_
                              refine TQ.open rfl rfl ?_
                              refine TQ.val (OpV.move rfl) rfl ?_
                              refine TQ.open rfl rfl ?_
                              refine TQ.val (OpV.move rfl) rfl ?_
                              refine TQ.open rfl rfl ?_
                              refine TQ.val (OpV.indexAddr (j := rr) se_22 rfl hA8 rfl rfl (by omega)) rfl ?_
                              refine TQ.open rfl rfl ?_
                              refine TQ.val (OpV.fieldAddr rfl fo_65_0) rfl ?_
                              refine TQ.open rfl rfl ?_
                              refine TQ.val (OpV.load pl_35 rfl (by first | exact Cel.blk P0 rfl | exact Cel.blk P1 rfl | exact Cel.blk P2 rfl | exact Cel.blk P3 rfl | exact Cel.blk P4 rfl | exact Cel.blk P5 rfl | exact Cel.ownA (hatP _ _ rfl) | exact Cel.ownA (hatQ _ _ rfl) | exact Cel.ownA (hatg _ _ rfl) | exact Cel.ownA (hate _ _ rfl) | exact Cel.ownA (hatly _ _ rfl) | exact Cel.ownA (hatyu _ _ rfl) | exact Cel.ownA (hatu _ _ rfl) | exact Cel.frA (hatx _ _ rfl) | exact Cel.frA (hatz _ _ rfl) | exact Cel.frA (hatv _ _ rfl))) rfl ?_
                              refine TQ.open rfl rfl ?_
                              refine TQ.val (OpV.len Tryd.underlying35 rfl) rfl ?_
                              refine TQ.open rfl rfl ?_
                              refine TQ.val (OpV.geq rfl rfl) rfl ?_
                              refine TQ.said (t := 264) rfl (show _ = Value.bool false from congrArg Value.bool (decide_eq_false (by omega))) ?_
                              refine TQ.val ((by first | exact OpV.pick_t rfl rfl | exact OpV.pick_f rfl rfl)) rfl ?_
                              refine TQ.nil ?_
                              refine TE.sub (.cons (t := 0) rfl <| .cons (t := 6) rfl <| .cons (t := 9) rfl <| .cons (t := 11) rfl <| .cons (t := 12) rfl <| .cons (t := 13) rfl <| .cons (t := 18) rfl <| .cons (t := 19) rfl <| .cons (t := 265) rfl <| .nil) ?_
                              refine TE.next ?_
                              refine T.no rfl ?_
                              refine T.skip ?_
                              refine TE.next ?_
                              refine T.seq ?_
                              refine T.quiet mix (by kernel_rfl) ?_
                              refine TQ.val (OpV.move rfl) rfl ?_
                              refine TQ.val (OpV.move rfl) rfl ?_
                              refine TQ.val (OpV.indexAddr (j := i) se_34 rfl hA3 rfl rfl (by omega)) rfl ?_
                              refine TQ.val (OpV.fieldAddr rfl fo_37_0) rfl ?_
                              refine TQ.val (OpV.load pl_35 rfl (by first | exact Cel.blk P0 rfl | exact Cel.blk P1 rfl | exact Cel.blk P2 rfl | exact Cel.blk P3 rfl | exact Cel.blk P4 rfl | exact Cel.blk P5 rfl | exact Cel.ownA (hatP _ _ rfl) | exact Cel.ownA (hatQ _ _ rfl) | exact Cel.ownA (hatg _ _ rfl) | exact Cel.ownA (hate _ _ rfl) | exact Cel.ownA (hatly _ _ rfl) | exact Cel.ownA (hatyu _ _ rfl) | exact Cel.ownA (hatu _ _ rfl) | exact Cel.frA (hatx _ _ rfl) | exact Cel.frA (hatz _ _ rfl) | exact Cel.frA (hatv _ _ rfl))) rfl ?_
                              refine TQ.val (OpV.move rfl) rfl ?_
                              refine TQ.val (OpV.indexAddr (j := nn.toNat) se_35 rfl hAg rfl (by omega) (by omega)) rfl ?_
                              refine TQ.val (OpV.fieldAddr rfl fo_58_2) rfl ?_
                              refine TQ.val (OpV.load pl_3 rfl (by first | exact Cel.blk P0 rfl | exact Cel.blk P1 rfl | exact Cel.blk P2 rfl | exact Cel.blk P3 rfl | exact Cel.blk P4 rfl | exact Cel.blk P5 rfl | exact Cel.ownA (hatP _ _ rfl) | exact Cel.ownA (hatQ _ _ rfl) | exact Cel.ownA (hatg _ _ rfl) | exact Cel.ownA (hate _ _ rfl) | exact Cel.ownA (hatly _ _ rfl) | exact Cel.ownA (hatyu _ _ rfl) | exact Cel.ownA (hatu _ _ rfl) | exact Cel.frA (hatx _ _ rfl) | exact Cel.frA (hatz _ _ rfl) | exact Cel.frA (hatv _ _ rfl))) rfl ?_
                              refine TQ.val (OpV.eql rfl rfl) rfl ?_
                              refine TQ.val (OpV.move rfl) rfl ?_
                              refine TQ.part (t := 276) rfl ?_ ?_
                              · intro hg276
                                refine TQ.open rfl rfl ?_
                                refine TQ.val (OpV.move rfl) rfl ?_
                                refine TQ.open rfl rfl ?_
                                refine TQ.val (OpV.fieldAddr rfl fo_24_0) rfl ?_
                                refine TQ.open rfl rfl ?_
                                refine TQ.val (OpV.load pl_3 rfl (by first | exact Cel.blk P0 rfl | exact Cel.blk P1 rfl | exact Cel.blk P2 rfl | exact Cel.blk P3 rfl | exact Cel.blk P4 rfl | exact Cel.blk P5 rfl | exact Cel.ownA (hatP _ _ rfl) | exact Cel.ownA (hatQ _ _ rfl) | exact Cel.ownA (hatg _ _ rfl) | exact Cel.ownA (hate _ _ rfl) | exact Cel.ownA (hatly _ _ rfl) | exact Cel.ownA (hatyu _ _ rfl) | exact Cel.ownA (hatu _ _ rfl) | exact Cel.frA (hatx _ _ rfl) | exact Cel.frA (hatz _ _ rfl) | exact Cel.frA (hatv _ _ rfl))) rfl ?_
                                refine TQ.open rfl rfl ?_
                                refine TQ.val (OpV.indexAddr (j := k) se_22 rfl hA rfl rfl (by omega)) rfl ?_
                                refine TQ.open rfl rfl ?_
                                refine TQ.val (OpV.fieldAddr rfl fo_65_0) rfl ?_
                                refine TQ.open rfl rfl ?_
                                refine TQ.val (OpV.load pl_35 rfl (by first | exact Cel.blk P0 rfl | exact Cel.blk P1 rfl | exact Cel.blk P2 rfl | exact Cel.blk P3 rfl | exact Cel.blk P4 rfl | exact Cel.blk P5 rfl | exact Cel.ownA (hatP _ _ rfl) | exact Cel.ownA (hatQ _ _ rfl) | exact Cel.ownA (hatg _ _ rfl) | exact Cel.ownA (hate _ _ rfl) | exact Cel.ownA (hatly _ _ rfl) | exact Cel.ownA (hatyu _ _ rfl) | exact Cel.ownA (hatu _ _ rfl) | exact Cel.frA (hatx _ _ rfl) | exact Cel.frA (hatz _ _ rfl) | exact Cel.frA (hatv _ _ rfl))) rfl ?_
                                refine TQ.open rfl rfl ?_
                                refine TQ.val (OpV.fieldAddr rfl fo_24_1) rfl ?_
                                refine TQ.open rfl rfl ?_
                                refine TQ.val (OpV.load pl_3 rfl (by first | exact Cel.blk P0 rfl | exact Cel.blk P1 rfl | exact Cel.blk P2 rfl | exact Cel.blk P3 rfl | exact Cel.blk P4 rfl | exact Cel.blk P5 rfl | exact Cel.ownA (hatP _ _ rfl) | exact Cel.ownA (hatQ _ _ rfl) | exact Cel.ownA (hatg _ _ rfl) | exact Cel.ownA (hate _ _ rfl) | exact Cel.ownA (hatly _ _ rfl) | exact Cel.ownA (hatyu _ _ rfl) | exact Cel.ownA (hatu _ _ rfl) | exact Cel.frA (hatx _ _ rfl) | exact Cel.frA (hatz _ _ rfl) | exact Cel.frA (hatv _ _ rfl))) rfl ?_
                                refine TQ.open rfl rfl ?_
                                refine TQ.val (OpV.indexAddr (j := a2.toNat) se_35 rfl hAx rfl (by omega) (by omega)) rfl ?_
                                refine TQ.open rfl rfl ?_
                                refine TQ.val (OpV.loadA ag_58 rfl (by first | exact Cels.blk P0 rfl | exact Cels.blk P1 rfl | exact Cels.blk P2 rfl | exact Cels.blk P3 rfl | exact Cels.blk P4 rfl | exact Cels.blk P5 rfl | exact Cels.ownA (hatP) rfl | exact Cels.ownA (hatQ) rfl | exact Cels.ownA (hatg) rfl | exact Cels.ownA (hate) rfl | exact Cels.ownA (hatly) rfl | exact Cels.ownA (hatyu) rfl | exact Cels.ownA (hatu) rfl | exact Cels.frA hatx rfl | exact Cels.frA hatz rfl | exact Cels.frA hatv rfl)) rfl ?_
                                refine TQ.open rfl rfl ?_
                                refine TQ.val (OpV.build (qs := #[(2, _)]) (fun _ f => by simp only [List.map_toArray, List.map_cons, List.map_nil]; rw [f.ev (x := .const (.int .i64 1)) rfl]) (bld_58_2 1 )) rfl ?_
                                refine TQ.open rfl rfl ?_
                                refine TQ.val (OpV.aeql rfl rfl eg_58 (eq_58 v (blank Pen.zero))) rfl ?_
                                refine TQ.val ((by first | exact OpV.pick_t rfl rfl | exact OpV.pick_f rfl rfl)) rfl ?_
                                refine TQ.val (OpV.assign rfl) rfl ?_
                                refine TQ.nil ?_
                                refine TE.sub (.cons (t := 0) rfl <| .cons (t := 6) rfl <| .cons (t := 11) rfl <| .cons (t := 18) rfl <| .cons (t := 19) rfl <| .cons (t := 20) rfl <| .nil) ?_
                                refine TE.next ?_
                                refine T.seq ?_
                                refine T.quiet mix (by kernel_rfl) ?_
                                refine TQ.val (OpV.move rfl) rfl ?_
                                refine TQ.val (OpV.move rfl) rfl ?_
                                refine TQ.part (t := 291) rfl ?_ ?_
                                · intro hg291
                                  refine TQ.shut rfl rfl ?_
                                  refine TQ.shut rfl rfl ?_
                                  refine TQ.shut rfl rfl ?_
                                  refine TQ.shut rfl rfl ?_
                                  refine TQ.shut rfl rfl ?_
                                  refine TQ.shut rfl rfl ?_
                                  refine TQ.shut rfl rfl ?_
                                  refine TQ.shut rfl rfl ?_
                                  refine TQ.shut rfl rfl ?_
                                  refine TQ.shut rfl rfl ?_
                                  refine TQ.shut rfl rfl ?_
                                  refine TQ.shut rfl rfl ?_
                                  refine TQ.shut rfl rfl ?_
                                  refine TQ.shut rfl rfl ?_
                                  refine TQ.shut rfl rfl ?_
                                  refine TQ.shut rfl rfl ?_
                                  refine TQ.shut rfl rfl ?_
                                  refine TQ.shut rfl rfl ?_
                                  refine TQ.shut rfl rfl ?_
                                  refine TQ.shut rfl rfl ?_
                                  refine TQ.shut rfl rfl ?_
                                  refine TQ.shut rfl rfl ?_
                                  refine TQ.val ((by first | exact OpV.pick_t rfl rfl | exact OpV.pick_f rfl rfl)) rfl ?_
                                  refine TQ.val (OpV.move rfl) rfl ?_
                                  refine TQ.open rfl rfl ?_
                                  refine TQ.call (g := 14) rfl go_14 rfl (fun w1 k1 => known29_law w1 (L.below k1.bel)) rfl ?_
                                  refine TQ.val ((by first | exact OpV.pick_t rfl rfl | exact OpV.pick_f rfl rfl)) rfl ?_
                                  refine TQ.val (OpV.assign rfl) rfl ?_
                                  refine TQ.nil ?_
                                  refine TE.sub (.cons (t := 8) rfl <| .nil) ?_
                                  refine TE.next ?_
                                  refine T.ret ?_
                                  refine TE.ret1 rfl (ResV.tmp rfl) ?_
                                  exact fun w1 k1 => ⟨rfl, k1.bel⟩
                                · intro hg291
                                  have huv : u = v := by rcases hall with h9 | h9; exact h9; exact absurd h9.1 (by rw [isB, hg291]; decide)
                                  refine TQ.open rfl rfl ?_
                                  refine TQ.val (OpV.move rfl) rfl ?_
                                  refine TQ.open rfl rfl ?_
                                  refine TQ.val (OpV.move rfl) rfl ?_
                                  refine TQ.open rfl rfl ?_
                                  refine TQ.val (OpV.indexAddr (j := rr) se_22 rfl hA8 rfl rfl (by omega)) rfl ?_
                                  refine TQ.open rfl rfl ?_
                                  refine TQ.val (OpV.fieldAddr rfl fo_65_0) rfl ?_
                                  refine TQ.open rfl rfl ?_
                                  refine TQ.val (OpV.load pl_35 rfl (by first | exact Cel.blk P0 rfl | exact Cel.blk P1 rfl | exact Cel.blk P2 rfl | exact Cel.blk P3 rfl | exact Cel.blk P4 rfl | exact Cel.blk P5 rfl | exact Cel.ownA (hatP _ _ rfl) | exact Cel.ownA (hatQ _ _ rfl) | exact Cel.ownA (hatg _ _ rfl) | exact Cel.ownA (hate _ _ rfl) | exact Cel.ownA (hatly _ _ rfl) | exact Cel.ownA (hatyu _ _ rfl) | exact Cel.ownA (hatu _ _ rfl) | exact Cel.frA (hatx _ _ rfl) | exact Cel.frA (hatz _ _ rfl) | exact Cel.frA (hatv _ _ rfl))) rfl ?_
                                  refine TQ.open rfl rfl ?_
                                  refine TQ.val (OpV.move rfl) rfl ?_
                                  refine TQ.open rfl rfl ?_
                                  refine TQ.val (OpV.indexAddr (j := 0) se_43 rfl hA9 rfl rfl (by omega)) rfl ?_
                                  refine TQ.open rfl rfl ?_
                                  refine TQ.val (OpV.fieldAddr rfl fo_24_1) rfl ?_
                                  refine TQ.open rfl rfl ?_
                                  refine TQ.val (OpV.load pl_3 rfl (by first | exact Cel.blk P0 rfl | exact Cel.blk P1 rfl | exact Cel.blk P2 rfl | exact Cel.blk P3 rfl | exact Cel.blk P4 rfl | exact Cel.blk P5 rfl | exact Cel.ownA (hatP _ _ rfl) | exact Cel.ownA (hatQ _ _ rfl) | exact Cel.ownA (hatg _ _ rfl) | exact Cel.ownA (hate _ _ rfl) | exact Cel.ownA (hatly _ _ rfl) | exact Cel.ownA (hatyu _ _ rfl) | exact Cel.ownA (hatu _ _ rfl) | exact Cel.frA (hatx _ _ rfl) | exact Cel.frA (hatz _ _ rfl) | exact Cel.frA (hatv _ _ rfl))) rfl ?_
                                  refine TQ.open rfl rfl ?_
                                  refine TQ.val (OpV.indexAddr (j := P.2.toNat) se_35 rfl hAy rfl (by omega) (by omega)) rfl ?_
                                  refine TQ.open rfl rfl ?_
                                  refine TQ.val (OpV.loadA ag_58 rfl (by first | exact Cels.blk P0 rfl | exact Cels.blk P1 rfl | exact Cels.blk P2 rfl | exact Cels.blk P3 rfl | exact Cels.blk P4 rfl | exact Cels.blk P5 rfl | exact Cels.ownA (hatP) rfl | exact Cels.ownA (hatQ) rfl | exact Cels.ownA (hatg) rfl | exact Cels.ownA (hate) rfl | exact Cels.ownA (hatly) rfl | exact Cels.ownA (hatyu) rfl | exact Cels.ownA (hatu) rfl | exact Cels.frA hatx rfl | exact Cels.frA hatz rfl | exact Cels.frA hatv rfl)) rfl ?_
                                  refine TQ.open rfl rfl ?_
                                  refine TQ.val (OpV.move rfl) rfl ?_
                                  refine TQ.open rfl rfl ?_
                                  refine TQ.val (OpV.fieldAddr rfl fo_24_0) rfl ?_
                                  refine TQ.open rfl rfl ?_
                                  refine TQ.val (OpV.load pl_3 rfl (by first | exact Cel.blk P0 rfl | exact Cel.blk P1 rfl | exact Cel.blk P2 rfl | exact Cel.blk P3 rfl | exact Cel.blk P4 rfl | exact Cel.blk P5 rfl | exact Cel.ownA (hatP _ _ rfl) | exact Cel.ownA (hatQ _ _ rfl) | exact Cel.ownA (hatg _ _ rfl) | exact Cel.ownA (hate _ _ rfl) | exact Cel.ownA (hatly _ _ rfl) | exact Cel.ownA (hatyu _ _ rfl) | exact Cel.ownA (hatu _ _ rfl) | exact Cel.frA (hatx _ _ rfl) | exact Cel.frA (hatz _ _ rfl) | exact Cel.frA (hatv _ _ rfl))) rfl ?_
                                  refine TQ.open rfl rfl ?_
                                  refine TQ.val (OpV.indexAddr (j := k) se_22 rfl hA rfl rfl (by omega)) rfl ?_
                                  refine TQ.open rfl rfl ?_
                                  refine TQ.val (OpV.fieldAddr rfl fo_65_0) rfl ?_
                                  refine TQ.open rfl rfl ?_
                                  refine TQ.val (OpV.load pl_35 rfl (by first | exact Cel.blk P0 rfl | exact Cel.blk P1 rfl | exact Cel.blk P2 rfl | exact Cel.blk P3 rfl | exact Cel.blk P4 rfl | exact Cel.blk P5 rfl | exact Cel.ownA (hatP _ _ rfl) | exact Cel.ownA (hatQ _ _ rfl) | exact Cel.ownA (hatg _ _ rfl) | exact Cel.ownA (hate _ _ rfl) | exact Cel.ownA (hatly _ _ rfl) | exact Cel.ownA (hatyu _ _ rfl) | exact Cel.ownA (hatu _ _ rfl) | exact Cel.frA (hatx _ _ rfl) | exact Cel.frA (hatz _ _ rfl) | exact Cel.frA (hatv _ _ rfl))) rfl ?_
                                  refine TQ.open rfl rfl ?_
                                  refine TQ.val (OpV.fieldAddr rfl fo_24_1) rfl ?_
                                  refine TQ.open rfl rfl ?_
                                  refine TQ.val (OpV.load pl_3 rfl (by first | exact Cel.blk P0 rfl | exact Cel.blk P1 rfl | exact Cel.blk P2 rfl | exact Cel.blk P3 rfl | exact Cel.blk P4 rfl | exact Cel.blk P5 rfl | exact Cel.ownA (hatP _ _ rfl) | exact Cel.ownA (hatQ _ _ rfl) | exact Cel.ownA (hatg _ _ rfl) | exact Cel.ownA (hate _ _ rfl) | exact Cel.ownA (hatly _ _ rfl) | exact Cel.ownA (hatyu _ _ rfl) | exact Cel.ownA (hatu _ _ rfl) | exact Cel.frA (hatx _ _ rfl) | exact Cel.frA (hatz _ _ rfl) | exact Cel.frA (hatv _ _ rfl))) rfl ?_
                                  refine TQ.open rfl rfl ?_
                                  refine TQ.val (OpV.indexAddr (j := a2.toNat) se_35 rfl hAx rfl (by omega) (by omega)) rfl ?_
                                  refine TQ.open rfl rfl ?_
                                  refine TQ.val (OpV.loadA ag_58 rfl (by first | exact Cels.blk P0 rfl | exact Cels.blk P1 rfl | exact Cels.blk P2 rfl | exact Cels.blk P3 rfl | exact Cels.blk P4 rfl | exact Cels.blk P5 rfl | exact Cels.ownA (hatP) rfl | exact Cels.ownA (hatQ) rfl | exact Cels.ownA (hatg) rfl | exact Cels.ownA (hate) rfl | exact Cels.ownA (hatly) rfl | exact Cels.ownA (hatyu) rfl | exact Cels.ownA (hatu) rfl | exact Cels.frA hatx rfl | exact Cels.frA hatz rfl | exact Cels.frA hatv rfl)) rfl ?_
                                  refine TQ.open rfl rfl ?_
                                  refine TQ.val (OpV.aeql rfl rfl eg_58 (eq_58 u v)) rfl ?_
                                  refine TQ.said (t := 313) rfl (show _ = Value.bool true from congrArg Value.bool (decide_eq_true huv)) ?_
                                  refine TQ.val ((by first | exact OpV.pick_t rfl rfl | exact OpV.pick_f rfl rfl)) rfl ?_
                                  refine TQ.val (OpV.move rfl) rfl ?_
                                  refine TQ.open rfl rfl ?_
                                  refine TQ.call (g := 14) rfl go_14 rfl (fun w1 k1 => known29_law w1 (L.below k1.bel)) rfl ?_
                                  refine TQ.val ((by first | exact OpV.pick_t rfl rfl | exact OpV.pick_f rfl rfl)) rfl ?_
                                  refine TQ.val (OpV.assign rfl) rfl ?_
                                  refine TQ.nil ?_
                                  refine TE.sub (.cons (t := 8) rfl <| .nil) ?_
                                  refine TE.next ?_
                                  refine T.ret ?_
                                  refine TE.ret1 rfl (ResV.tmp rfl) ?_
                                  exact fun w1 k1 => ⟨rfl, k1.bel⟩
                              · intro hg276
                                have huv : u = v := by rcases hall with h9 | h9; exact h9; exact absurd h9.2 (beq_eq_false_iff_ne.1 hg276)
                                refine TQ.shut rfl rfl ?_
                                refine TQ.shut rfl rfl ?_
                                refine TQ.shut rfl rfl ?_
                                refine TQ.shut rfl rfl ?_
                                refine TQ.shut rfl rfl ?_
                                refine TQ.shut rfl rfl ?_
                                refine TQ.shut rfl rfl ?_
                                refine TQ.shut rfl rfl ?_
                                refine TQ.shut rfl rfl ?_
                                refine TQ.shut rfl rfl ?_
                                refine TQ.shut rfl rfl ?_
                                refine TQ.shut rfl rfl ?_
                                refine TQ.val ((by first | exact OpV.pick_t rfl rfl | exact OpV.pick_f rfl rfl)) rfl ?_
                                refine TQ.val (OpV.assign rfl) rfl ?_
                                refine TQ.nil ?_
                                refine TE.sub (.cons (t := 0) rfl <| .cons (t := 6) rfl <| .cons (t := 11) rfl <| .cons (t := 18) rfl <| .cons (t := 19) rfl <| .cons (t := 20) rfl <| .nil) ?_
                                refine TE.next ?_
                                refine T.seq ?_
                                refine T.quiet mix (by kernel_rfl) ?_
                                refine TQ.val (OpV.move rfl) rfl ?_
                                refine TQ.val (OpV.move rfl) rfl ?_
                                refine TQ.open rfl rfl ?_
                                refine TQ.val (OpV.move rfl) rfl ?_
                                refine TQ.open rfl rfl ?_
                                refine TQ.val (OpV.move rfl) rfl ?_
                                refine TQ.open rfl rfl ?_
                                refine TQ.val (OpV.indexAddr (j := rr) se_22 rfl hA8 rfl rfl (by omega)) rfl ?_
                                refine TQ.open rfl rfl ?_
                                refine TQ.val (OpV.fieldAddr rfl fo_65_0) rfl ?_
                                refine TQ.open rfl rfl ?_
                                refine TQ.val (OpV.load pl_35 rfl (by first | exact Cel.blk P0 rfl | exact Cel.blk P1 rfl | exact Cel.blk P2 rfl | exact Cel.blk P3 rfl | exact Cel.blk P4 rfl | exact Cel.blk P5 rfl | exact Cel.ownA (hatP _ _ rfl) | exact Cel.ownA (hatQ _ _ rfl) | exact Cel.ownA (hatg _ _ rfl) | exact Cel.ownA (hate _ _ rfl) | exact Cel.ownA (hatly _ _ rfl) | exact Cel.ownA (hatyu _ _ rfl) | exact Cel.ownA (hatu _ _ rfl) | exact Cel.frA (hatx _ _ rfl) | exact Cel.frA (hatz _ _ rfl) | exact Cel.frA (hatv _ _ rfl))) rfl ?_
                                refine TQ.open rfl rfl ?_
                                refine TQ.val (OpV.move rfl) rfl ?_
                                refine TQ.open rfl rfl ?_
                                refine TQ.val (OpV.indexAddr (j := 0) se_43 rfl hA9 rfl rfl (by omega)) rfl ?_
                                refine TQ.open rfl rfl ?_
                                refine TQ.val (OpV.fieldAddr rfl fo_24_1) rfl ?_
                                refine TQ.open rfl rfl ?_
                                refine TQ.val (OpV.load pl_3 rfl (by first | exact Cel.blk P0 rfl | exact Cel.blk P1 rfl | exact Cel.blk P2 rfl | exact Cel.blk P3 rfl | exact Cel.blk P4 rfl | exact Cel.blk P5 rfl | exact Cel.ownA (hatP _ _ rfl) | exact Cel.ownA (hatQ _ _ rfl) | exact Cel.ownA (hatg _ _ rfl) | exact Cel.ownA (hate _ _ rfl) | exact Cel.ownA (hatly _ _ rfl) | exact Cel.ownA (hatyu _ _ rfl) | exact Cel.ownA (hatu _ _ rfl) | exact Cel.frA (hatx _ _ rfl) | exact Cel.frA (hatz _ _ rfl) | exact Cel.frA (hatv _ _ rfl))) rfl ?_
                                refine TQ.open rfl rfl ?_
                                refine TQ.val (OpV.indexAddr (j := P.2.toNat) se_35 rfl hAy rfl (by omega) (by omega)) rfl ?_
                                refine TQ.open rfl rfl ?_
                                refine TQ.val (OpV.loadA ag_58 rfl (by first | exact Cels.blk P0 rfl | exact Cels.blk P1 rfl | exact Cels.blk P2 rfl | exact Cels.blk P3 rfl | exact Cels.blk P4 rfl | exact Cels.blk P5 rfl | exact Cels.ownA (hatP) rfl | exact Cels.ownA (hatQ) rfl | exact Cels.ownA (hatg) rfl | exact Cels.ownA (hate) rfl | exact Cels.ownA (hatly) rfl | exact Cels.ownA (hatyu) rfl | exact Cels.ownA (hatu) rfl | exact Cels.frA hatx rfl | exact Cels.frA hatz rfl | exact Cels.frA hatv rfl)) rfl ?_
                                refine TQ.open rfl rfl ?_
                                refine TQ.val (OpV.move rfl) rfl ?_
                                refine TQ.open rfl rfl ?_
                                refine TQ.val (OpV.fieldAddr rfl fo_24_0) rfl ?_
                                refine TQ.open rfl rfl ?_
                                refine TQ.val (OpV.load pl_3 rfl (by first | exact Cel.blk P0 rfl | exact Cel.blk P1 rfl | exact Cel.blk P2 rfl | exact Cel.blk P3 rfl | exact Cel.blk P4 rfl | exact Cel.blk P5 rfl | exact Cel.ownA (hatP _ _ rfl) | exact Cel.ownA (hatQ _ _ rfl) | exact Cel.ownA (hatg _ _ rfl) | exact Cel.ownA (hate _ _ rfl) | exact Cel.ownA (hatly _ _ rfl) | exact Cel.ownA (hatyu _ _ rfl) | exact Cel.ownA (hatu _ _ rfl) | exact Cel.frA (hatx _ _ rfl) | exact Cel.frA (hatz _ _ rfl) | exact Cel.frA (hatv _ _ rfl))) rfl ?_
                                refine TQ.open rfl rfl ?_
                                refine TQ.val (OpV.indexAddr (j := k) se_22 rfl hA rfl rfl (by omega)) rfl ?_
                                refine TQ.open rfl rfl ?_
                                refine TQ.val (OpV.fieldAddr rfl fo_65_0) rfl ?_
                                refine TQ.open rfl rfl ?_
                                refine TQ.val (OpV.load pl_35 rfl (by first | exact Cel.blk P0 rfl | exact Cel.blk P1 rfl | exact Cel.blk P2 rfl | exact Cel.blk P3 rfl | exact Cel.blk P4 rfl | exact Cel.blk P5 rfl | exact Cel.ownA (hatP _ _ rfl) | exact Cel.ownA (hatQ _ _ rfl) | exact Cel.ownA (hatg _ _ rfl) | exact Cel.ownA (hate _ _ rfl) | exact Cel.ownA (hatly _ _ rfl) | exact Cel.ownA (hatyu _ _ rfl) | exact Cel.ownA (hatu _ _ rfl) | exact Cel.frA (hatx _ _ rfl) | exact Cel.frA (hatz _ _ rfl) | exact Cel.frA (hatv _ _ rfl))) rfl ?_
                                refine TQ.open rfl rfl ?_
                                refine TQ.val (OpV.fieldAddr rfl fo_24_1) rfl ?_
                                refine TQ.open rfl rfl ?_
                                refine TQ.val (OpV.load pl_3 rfl (by first | exact Cel.blk P0 rfl | exact Cel.blk P1 rfl | exact Cel.blk P2 rfl | exact Cel.blk P3 rfl | exact Cel.blk P4 rfl | exact Cel.blk P5 rfl | exact Cel.ownA (hatP _ _ rfl) | exact Cel.ownA (hatQ _ _ rfl) | exact Cel.ownA (hatg _ _ rfl) | exact Cel.ownA (hate _ _ rfl) | exact Cel.ownA (hatly _ _ rfl) | exact Cel.ownA (hatyu _ _ rfl) | exact Cel.ownA (hatu _ _ rfl) | exact Cel.frA (hatx _ _ rfl) | exact Cel.frA (hatz _ _ rfl) | exact Cel.frA (hatv _ _ rfl))) rfl ?_
                                refine TQ.open rfl rfl ?_
                                refine TQ.val (OpV.indexAddr (j := a2.toNat) se_35 rfl hAx rfl (by omega) (by omega)) rfl ?_
                                refine TQ.open rfl rfl ?_
                                refine TQ.val (OpV.loadA ag_58 rfl (by first | exact Cels.blk P0 rfl | exact Cels.blk P1 rfl | exact Cels.blk P2 rfl | exact Cels.blk P3 rfl | exact Cels.blk P4 rfl | exact Cels.blk P5 rfl | exact Cels.ownA (hatP) rfl | exact Cels.ownA (hatQ) rfl | exact Cels.ownA (hatg) rfl | exact Cels.ownA (hate) rfl | exact Cels.ownA (hatly) rfl | exact Cels.ownA (hatyu) rfl | exact Cels.ownA (hatu) rfl | exact Cels.frA hatx rfl | exact Cels.frA hatz rfl | exact Cels.frA hatv rfl)) rfl ?_
                                refine TQ.open rfl rfl ?_
                                refine TQ.val (OpV.aeql rfl rfl eg_58 (eq_58 u v)) rfl ?_
                                refine TQ.said (t := 313) rfl (show _ = Value.bool true from congrArg Value.bool (decide_eq_true huv)) ?_
                                refine TQ.val ((by first | exact OpV.pick_t rfl rfl | exact OpV.pick_f rfl rfl)) rfl ?_
                                refine TQ.val (OpV.move rfl) rfl ?_
                                refine TQ.open rfl rfl ?_
                                refine TQ.call (g := 14) rfl go_14 rfl (fun w1 k1 => known29_law w1 (L.below k1.bel)) rfl ?_
                                refine TQ.val ((by first | exact OpV.pick_t rfl rfl | exact OpV.pick_f rfl rfl)) rfl ?_
                                refine TQ.val (OpV.assign rfl) rfl ?_
                                refine TQ.nil ?_
                                refine TE.sub (.cons (t := 8) rfl <| .nil) ?_
                                refine TE.next ?_
                                refine T.ret ?_
                                refine TE.ret1 rfl (ResV.tmp rfl) ?_
                                exact fun w1 k1 => ⟨rfl, k1.bel⟩
end Go.Proofs.YtdmpodpdpncobaaDoor
