/-
  The walk of the law UnwrapHolds. Condition: the package-level tables hold what they were laid with.
-/
import Derived.Test.YtblpfelhgcggfaaDoorUf
import Derived.Test.YtblpfelhgcggfaaDoorUnp
namespace Go.Proofs.YtblpfelhgcggfaaDoor
open Go.RowKit
set_option linter.unusedSimpArgs false
set_option linter.unusedVariables false
set_option maxRecDepth 100000 in
set_option maxHeartbeats 1000000 in
theorem unwrapHolds_law {σ : Nat → Option Obj} {A : Option Addr} {n c : Nat} {ls : List LnA} (w : World) (L : LaidW w) (h : LsA σ A n c ls) (hs : ∀ b o, σ b = some o → w.heap[b]? = some o) : Calls Tryd.prog 10 #[.slice A n c] w (Ret (.bool true) w) := by
  have hn63 := h.1.2.1
  have hc63 := h.1.2.2.1
  have hl1 := h.1.1
  have hXl : (ls.map LnA.ln).length = n := by rw [List.length_map]; exact hl1
  refine calls_T (vs := [.slice A n c]) (L0 := [(0, .slice A n c)]) Tryd.func10 rfl rfl rfl rfl (KOk.fr1 hs) ?_
  refine T.seq ?_
  refine T.region ?_
  refine TL.val (OpV.assign rfl) rfl ?_
  refine TL.nil ?_
  refine TE.next ?_
  refine T.seq ?_
  refine T.seq ?_
  refine T.region ?_
  refine TL.val (OpV.move rfl) rfl ?_
  refine TL.call (g := 29) rfl go_29 rfl (fun w1 k1 => few_c w1 h (k1.get (e := .fr σ) (by first | exact P0 | exact P1 | exact P2 | exact P3 | exact P4 | exact P5 | exact P6))) rfl ?_
  refine TL.val (OpV.not rfl) rfl ?_
  refine TL.nil ?_
  refine TE.next ?_
  refine T.cond rfl ?_ ?_
  · intro ht11
    refine T.seq ?_
    refine T.region ?_
    refine TL.call (g := 30) rfl go_30 rfl (fun w1 k1 => known28_law w1 (L.below k1.bel)) rfl ?_
    refine TL.val (OpV.assign rfl) rfl ?_
    refine TL.nil ?_
    refine TE.next ?_
    refine T.ret ?_
    refine TE.pass_ret ?_
    refine TE.ret1 rfl (ResV.tmp rfl) ?_
    exact fun w1 k1 => ⟨rfl, k1.bel⟩
  · intro ht11
    have hfew : fewV (ls.map LnA.ln) = true := by simpa using ht11
    have hfb := few_bd hfew
    have hn16 : n ≤ 16 := by rw [hXl] at hfb; exact hfb.1
    have hb24 : ∀ x ∈ (ls.map LnA.ln), x.cells.length ≤ 1000 := fun x hx => by have h9 := hfb.2 x hx; omega
    refine T.skip ?_
    refine TE.next ?_
    refine T.seq ?_
    refine T.region ?_
    refine TL.val (OpV.move rfl) rfl ?_
    refine TL.callx (g := 36) rfl go_36 rfl (fun wz k1 => own_x k1 (ulines_c wz (L.below k1.bel) h (k1.get (e := .fr σ) (by first | exact P0 | exact P1 | exact P2 | exact P3 | exact P4 | exact P5 | exact P6)) (by omega))) rfl ?_
    rintro ⟨A6, n6, c6, ρ⟩ ⟨gs, hgs, hge⟩
    replace hgs : GsA ρ A6 n6 c6 gs := GsW.gsA hgs
    refine TL.kle Kle.ownFr ?_
    refine TL.said (t := 15) rfl (show Value.tuple #[SV.v ⟨A6, n6, c6, ρ⟩, _] = Value.tuple #[.slice A6 n6 c6, .int .i64 (linesE (ls.map LnA.ln))] from rfl) ?_
    refine TL.val (OpV.move rfl) rfl ?_
    refine TL.val (OpV.extract rfl rfl) rfl ?_
    refine TL.val (OpV.extract rfl rfl) rfl ?_
    refine TL.val (OpV.assign rfl) rfl ?_
    refine TL.val (OpV.assign rfl) rfl ?_
    refine TL.nil ?_
    refine TE.sub (.cons (t := 0) rfl <| .cons (t := 3) rfl <| .cons (t := 4) rfl <| .nil) ?_
    refine TE.next ?_
    refine T.seq ?_
    refine T.seq ?_
    refine T.region ?_
    refine TL.val (OpV.move rfl) rfl ?_
    refine TL.val (OpV.neq rfl rfl) rfl ?_
    refine TL.nil ?_
    refine TE.next ?_
    refine T.cond rfl ?_ ?_
    · intro ht19
      have hE9 : vLs (ls.map LnA.ln) = false := by cases hv : vLs (ls.map LnA.ln) <;> simp_all [linesE]
      refine T.seq ?_
      refine T.region ?_
      refine TL.val (OpV.move rfl) rfl ?_
      refine TL.val (OpV.len Tryd.underlying69 rfl) rfl ?_
      refine TL.val (OpV.eql rfl rfl) rfl ?_
      refine TL.said (t := 22) rfl (show _ = Value.bool true from congrArg Value.bool (by have h9 := congrArg List.length hge; rw [List.length_map, hgs.1.1, linesV, hE9] at h9; simp at h9; rw [h9]; rfl)) ?_
      refine TL.val (OpV.move rfl) rfl ?_
      refine TL.open rfl rfl ?_
      refine TL.val (OpV.move rfl) rfl ?_
      refine TL.open rfl rfl ?_
      refine TL.val (OpV.eql rfl rfl) rfl ?_
      refine TL.said (t := 25) rfl (show _ = Value.bool true from congrArg Value.bool (by rw [linesE, hE9]; rfl)) ?_
      refine TL.val ((by first | exact OpV.pick_t rfl rfl | exact OpV.pick_f rfl rfl)) rfl ?_
      refine TL.val (OpV.move rfl) rfl ?_
      refine TL.open rfl rfl ?_
      refine TL.call (g := 30) rfl go_30 rfl (fun w1 k1 => known28_law w1 (L.below k1.bel)) rfl ?_
      refine TL.val ((by first | exact OpV.pick_t rfl rfl | exact OpV.pick_f rfl rfl)) rfl ?_
      refine TL.val (OpV.assign rfl) rfl ?_
      refine TL.nil ?_
      refine TE.sub (.cons (t := 2) rfl <| .nil) ?_
      refine TE.next ?_
      refine T.ret ?_
      refine TE.pass_ret ?_
      refine TE.ret1 rfl (ResV.tmp rfl) ?_
      exact fun w1 k1 => ⟨rfl, k1.bel⟩
    · intro ht19
      have hE : vLs (ls.map LnA.ln) = true := by cases hv : vLs (ls.map LnA.ln) <;> simp_all [linesE]
      have hok := ok_lines hE
      have hlv : linesV (ls.map LnA.ln) = lgG [] 0 (ls.map LnA.ln) := by rw [linesV, hE, if_pos rfl]
      rw [hlv] at hge
      rw [← hge] at hok
      have hgb : ∀ g ∈ gs, (0 ≤ g.frm ∧ g.frm ≤ 1099511627776) ∧ (0 ≤ g.rows ∧ g.rows ≤ 1099511627776) := fun g hg => by have h9 := linesV_bd hb24 g.lg (by rw [← hge]; exact List.mem_map_of_mem hg); have h8 : g.lg.frm = g.frm := rfl; have h7 : g.lg.rows = g.rows := rfl; omega
      have hn6b : n6 ≤ 16 := by have h9 := lgG_count (ls.map LnA.ln) [] 0; rw [← hge, List.length_map, hgs.1.1] at h9; omega
      have hn6c := hgs.1.2.1
      have hn6d := hgs.1.2.2.1
      refine T.skip ?_
      refine TE.next ?_
      refine T.seq ?_
      refine T.region ?_
      refine TL.val (OpV.assign rfl) rfl ?_
      refine TL.nil ?_
      refine TE.next ?_
      refine T.seq ?_
      refine T.seq ?_
      refine T.region ?_
      refine TL.val (OpV.assign rfl) rfl ?_
      refine TL.nil ?_
      refine TE.next ?_
      refine T.block ?_
      refine T.loop (ι := Nat × Nat) (fun ⟨i, nn⟩ => i ≤ n6 ∧ OkG (ls.map LnA.ln) nn ((gs.map LgA.lg).drop i) ∧ ∀ (j : Nat) y, j < i → (gs.map LgA.lg)[j]? = some y → y.frm + y.rows ≤ (nn : Int)) (fun ⟨i, nn⟩ => (n6 - i)) (fun ⟨i, nn⟩ => [(0, .slice A n c), (3, .slice A6 n6 c6), (5, .int .i64 (nn : Int)), (6, .int .i64 (i : Int))]) (fun ⟨i, nn⟩ => [.fr ρ, .fr σ]) (0, 0) ⟨Nat.zero_le _, hok, fun j y hj => absurd hj (Nat.not_lt_zero _)⟩ (.cons (t := 0) rfl <| .cons (t := 3) rfl <| .cons (t := 5) rfl <| .cons (t := 6) rfl <| .nil) (Perm.kle (.cons (by first | exact P0 | exact P1 | exact P2 | exact P3 | exact P4 | exact P5 | exact P6) (.cons (by first | exact P0 | exact P1 | exact P2 | exact P3 | exact P4 | exact P5 | exact P6) .nil))) ?_
      rintro ⟨i, nn⟩ hR
      refine T.seq ?_
      refine T.seq ?_
      refine T.region ?_
      refine TL.val (OpV.move rfl) rfl ?_
      refine TL.val (OpV.move rfl) rfl ?_
      refine TL.val (OpV.len Tryd.underlying69 rfl) rfl ?_
      refine TL.val (OpV.lss rfl rfl) rfl ?_
      refine TL.nil ?_
      refine TE.next ?_
      refine T.cond rfl ?_ ?_
      · intro ht33
        obtain ⟨q1, q2, q3⟩ := hR
        have hi : i < n6 := by have h9 := of_decide_eq_true ht33; omega
        obtain ⟨g, hg⟩ := get_of_lt hgs.1.1 hi
        obtain ⟨b6, o6, hA6, hat6⟩ := hgs.1.2.2.2.2 (by omega)
        obtain ⟨_, rfl, _, hatg⟩ := hat6 _ g hg
        have hcg := hgs.2 g (List.mem_of_getElem? hg)
        have hgc := hcg.2.1
        have hgd := hcg.2.2.1
        have hG : (gs.map LgA.lg)[i]? = some g.lg := by rw [List.getElem?_map, hg]; rfl
        rw [drop_get hG, OkG] at q2
        obtain ⟨r, r1, r2, r3, r4, r5, r6, r7, r8⟩ := q2
        replace r1 : g.rows = (r : Int) := r1
        replace r2 : g.frm = (nn : Int) := r2
        replace r5 : rowR g.cells = true := r5
        rw [hXl] at r4
        refine T.skip ?_
        refine TE.next ?_
        refine T.seq ?_
        refine T.block ?_
        refine T.seq ?_
        refine T.region ?_
        refine TL.val (OpV.move rfl) rfl ?_
        refine TL.val (OpV.move rfl) rfl ?_
        refine TL.val (OpV.indexAddr se_69 rfl hA6 rfl (by rfl) (by first | omega | simp)) rfl ?_
        refine TL.val (OpV.fieldAddr rfl fo_72_0) rfl ?_
        refine TL.val (OpV.load pl_22 rfl (by first | exact Cel.blk P0 rfl | exact Cel.blk P1 rfl | exact Cel.blk P2 rfl | exact Cel.blk P3 rfl | exact Cel.blk P4 rfl | exact Cel.frA (hatg _ _ rfl) | exact Cel.frA (hatq _ _ rfl) | exact Cel.frA (hatl _ _ rfl))) rfl ?_
        refine TL.val (OpV.assign rfl) rfl ?_
        refine TL.nil ?_
        refine TE.sub (.cons (t := 0) rfl <| .cons (t := 3) rfl <| .cons (t := 5) rfl <| .cons (t := 6) rfl <| .cons (t := 7) rfl <| .nil) ?_
        refine TE.next ?_
        refine T.seq ?_
        refine T.seq ?_
        refine T.region ?_
        refine TL.val (OpV.move rfl) rfl ?_
        refine TL.val (OpV.move rfl) rfl ?_
        refine TL.val (OpV.indexAddr se_69 rfl hA6 rfl (by rfl) (by first | omega | simp)) rfl ?_
        refine TL.val (OpV.fieldAddr rfl fo_72_1) rfl ?_
        refine TL.val (OpV.load pl_3 rfl (by first | exact Cel.blk P0 rfl | exact Cel.blk P1 rfl | exact Cel.blk P2 rfl | exact Cel.blk P3 rfl | exact Cel.blk P4 rfl | exact Cel.frA (hatg _ _ rfl) | exact Cel.frA (hatq _ _ rfl) | exact Cel.frA (hatl _ _ rfl))) rfl ?_
        refine TL.val (OpV.move rfl) rfl ?_
        refine TL.val (OpV.neq rfl rfl) rfl ?_
        refine TL.said (t := 47) rfl (show _ = Value.bool false from congrArg Value.bool (by rw [r2]; simp)) ?_
        refine TL.val (OpV.move rfl) rfl ?_
        refine TL.open rfl rfl ?_
        refine TL.val (OpV.move rfl) rfl ?_
        refine TL.open rfl rfl ?_
        refine TL.val (OpV.move rfl) rfl ?_
        refine TL.open rfl rfl ?_
        refine TL.val (OpV.indexAddr se_69 rfl hA6 rfl (by rfl) (by first | omega | simp)) rfl ?_
        refine TL.open rfl rfl ?_
        refine TL.val (OpV.fieldAddr rfl fo_72_2) rfl ?_
        refine TL.open rfl rfl ?_
        refine TL.val (OpV.load pl_3 rfl (by first | exact Cel.blk P0 rfl | exact Cel.blk P1 rfl | exact Cel.blk P2 rfl | exact Cel.blk P3 rfl | exact Cel.blk P4 rfl | exact Cel.frA (hatg _ _ rfl) | exact Cel.frA (hatq _ _ rfl) | exact Cel.frA (hatl _ _ rfl))) rfl ?_
        refine TL.open rfl rfl ?_
        refine TL.val (OpV.lss rfl rfl) rfl ?_
        refine TL.said (t := 54) rfl (show _ = Value.bool false from congrArg Value.bool (decide_eq_false (by omega))) ?_
        refine TL.val ((by first | exact OpV.pick_t rfl rfl | exact OpV.pick_f rfl rfl)) rfl ?_
        refine TL.val (OpV.move rfl) rfl ?_
        refine TL.open rfl rfl ?_
        refine TL.val (OpV.move rfl) rfl ?_
        refine TL.open rfl rfl ?_
        refine TL.val (OpV.move rfl) rfl ?_
        refine TL.open rfl rfl ?_
        refine TL.val (OpV.move rfl) rfl ?_
        refine TL.open rfl rfl ?_
        refine TL.val (OpV.indexAddr se_69 rfl hA6 rfl (by rfl) (by first | omega | simp)) rfl ?_
        refine TL.open rfl rfl ?_
        refine TL.val (OpV.fieldAddr rfl fo_72_2) rfl ?_
        refine TL.open rfl rfl ?_
        refine TL.val (OpV.load pl_3 rfl (by first | exact Cel.blk P0 rfl | exact Cel.blk P1 rfl | exact Cel.blk P2 rfl | exact Cel.blk P3 rfl | exact Cel.blk P4 rfl | exact Cel.frA (hatg _ _ rfl) | exact Cel.frA (hatq _ _ rfl) | exact Cel.frA (hatl _ _ rfl))) rfl ?_
        refine TL.open rfl rfl ?_
        refine TL.val (OpV.add rfl rfl (by first | exact IntWalk.i64_in _ ⟨by omega, by omega⟩ | rfl)) rfl ?_
        refine TL.open rfl rfl ?_
        refine TL.val (OpV.move rfl) rfl ?_
        refine TL.open rfl rfl ?_
        refine TL.val (OpV.len Tryd.underlying28 rfl) rfl ?_
        refine TL.open rfl rfl ?_
        refine TL.val (OpV.gtr rfl rfl) rfl ?_
        refine TL.said (t := 66) rfl (show _ = Value.bool false from congrArg Value.bool (decide_eq_false (by omega))) ?_
        refine TL.val ((by first | exact OpV.pick_t rfl rfl | exact OpV.pick_f rfl rfl)) rfl ?_
        refine TL.val (OpV.move rfl) rfl ?_
        refine TL.open rfl rfl ?_
        refine TL.val (OpV.move rfl) rfl ?_
        refine TL.open rfl rfl ?_
        refine TL.call (g := 26) rfl go_26 rfl (fun w1 k1 => rrow_c w1 hcg (k1.get (e := .fr ρ) (by first | exact P0 | exact P1 | exact P2 | exact P3 | exact P4 | exact P5 | exact P6))) rfl ?_
        refine TL.open rfl rfl ?_
        refine TL.val (OpV.not rfl) rfl ?_
        refine TL.said (t := 71) rfl (show _ = Value.bool false from congrArg Value.bool (by rw [r5]; rfl)) ?_
        refine TL.val ((by first | exact OpV.pick_t rfl rfl | exact OpV.pick_f rfl rfl)) rfl ?_
        refine TL.val (OpV.move rfl) rfl ?_
        refine TL.open rfl rfl ?_
        refine TL.val (OpV.move rfl) rfl ?_
        refine TL.open rfl rfl ?_
        refine TL.val (OpV.len Tryd.underlying22 rfl) rfl ?_
        refine TL.open rfl rfl ?_
        refine TL.val (OpV.gtr rfl rfl) rfl ?_
        refine TL.open rfl rfl ?_
        refine TL.val (OpV.move rfl) rfl ?_
        refine TL.part (t := 77) rfl ?_ ?_
        · intro hg77
          have h0 : 0 < g.n := by have h9 := of_decide_eq_true hg77; omega
          obtain ⟨q, hq⟩ := get_of_lt hcg.1 (show g.n - 1 < g.n by omega)
          obtain ⟨bq, oq, hAq, hatq0⟩ := hcg.pos h0
          have hatq := hatq0 _ q hq
          have hqb : isB q = false := r6 q (by show g.cells[g.cells.length - 1]? = some q; rw [hcg.1]; exact hq)
          refine TL.open rfl rfl ?_
          refine TL.val (OpV.move rfl) rfl ?_
          refine TL.open rfl rfl ?_
          refine TL.val (OpV.move rfl) rfl ?_
          refine TL.open rfl rfl ?_
          refine TL.val (OpV.len Tryd.underlying22 rfl) rfl ?_
          refine TL.open rfl rfl ?_
          refine TL.val (OpV.sub rfl rfl (by first | exact IntWalk.i64_in _ ⟨by omega, by omega⟩ | rfl)) rfl ?_
          refine TL.open rfl rfl ?_
          refine TL.val (OpV.indexAddr (j := (g.n - 1)) se_22 rfl hAq rfl (by omega) (by omega)) rfl ?_
          refine TL.open rfl rfl ?_
          refine TL.val (OpV.loadA ag_59 rfl (by first | exact Cels.blk P0 rfl | exact Cels.blk P1 rfl | exact Cels.blk P2 rfl | exact Cels.blk P3 rfl | exact Cels.blk P4 rfl | exact Cels.frA hatg rfl | exact Cels.frA hatq rfl | exact Cels.frA hatl rfl)) rfl ?_
          refine TL.open rfl rfl ?_
          refine TL.val (OpV.build (qs := #[(2, _)]) (fun _ f => by simp only [List.map_toArray, List.map_cons, List.map_nil]; rw [f.ev (x := .const (.int .i64 1)) rfl]) (bld_59_2 1 )) rfl ?_
          refine TL.open rfl rfl ?_
          refine TL.val (OpV.aeql rfl rfl eg_59 (eq_59 q (blank Pen.zero))) rfl ?_
          refine TL.said (t := 85) rfl (show _ = Value.bool false from congrArg Value.bool (hqb)) ?_
          refine TL.open rfl rfl ?_
          refine TL.val ((by first | exact OpV.pick_t rfl rfl | exact OpV.pick_f rfl rfl)) rfl ?_
          refine TL.val ((by first | exact OpV.pick_t rfl rfl | exact OpV.pick_f rfl rfl)) rfl ?_
          refine TL.nil ?_
          refine TE.sub (.cons (t := 0) rfl <| .cons (t := 3) rfl <| .cons (t := 5) rfl <| .cons (t := 6) rfl <| .cons (t := 87) rfl <| .nil) ?_
          refine TE.next ?_
          refine T.no rfl ?_
          refine T.skip ?_
          refine TE.next ?_
          refine T.seq ?_
          refine T.seq ?_
          refine T.region ?_
          refine TL.val (OpV.assign rfl) rfl ?_
          refine TL.nil ?_
          refine TE.next ?_
          refine T.block ?_
          refine T.loop (ι := Nat) (fun k => k ≤ r) (fun k => (r - k)) (fun k => [(0, .slice A n c), (3, .slice A6 n6 c6), (5, .int .i64 (nn : Int)), (6, .int .i64 (i : Int)), (8, .int .i64 (k : Int))]) (fun k => [.fr ρ, .fr σ]) 0 (Nat.zero_le _) (.cons (t := 0) rfl <| .cons (t := 3) rfl <| .cons (t := 5) rfl <| .cons (t := 6) rfl <| .cons (t := 8) rfl <| .nil) (Perm.kle (.cons (by first | exact P0 | exact P1 | exact P2 | exact P3 | exact P4 | exact P5 | exact P6) (.cons (by first | exact P0 | exact P1 | exact P2 | exact P3 | exact P4 | exact P5 | exact P6) .nil))) ?_
          rintro k hR1
          refine T.seq ?_
          refine T.seq ?_
          refine T.region ?_
          refine TL.val (OpV.move rfl) rfl ?_
          refine TL.val (OpV.move rfl) rfl ?_
          refine TL.val (OpV.move rfl) rfl ?_
          refine TL.val (OpV.indexAddr se_69 rfl hA6 rfl (by rfl) (by first | omega | simp)) rfl ?_
          refine TL.val (OpV.fieldAddr rfl fo_72_2) rfl ?_
          refine TL.val (OpV.load pl_3 rfl (by first | exact Cel.blk P0 rfl | exact Cel.blk P1 rfl | exact Cel.blk P2 rfl | exact Cel.blk P3 rfl | exact Cel.blk P4 rfl | exact Cel.frA (hatg _ _ rfl) | exact Cel.frA (hatq _ _ rfl) | exact Cel.frA (hatl _ _ rfl))) rfl ?_
          refine TL.val (OpV.lss rfl rfl) rfl ?_
          refine TL.nil ?_
          refine TE.next ?_
          refine T.cond rfl ?_ ?_
          · intro ht94
            have hk : k < r := by have h9 := of_decide_eq_true ht94; omega
            obtain ⟨x, hx⟩ := get_of_lt h.1.1 (show (nn + k) < n by omega)
            obtain ⟨br, or, hA62, hat62⟩ := h.1.2.2.2.2 (by omega)
            obtain ⟨_, rfl, _, hatl⟩ := hat62 _ x hx
            have hcx := h.2 x (List.mem_of_getElem? hx)
            have hX : (ls.map LnA.ln)[nn + k]? = some x.ln := by rw [List.getElem?_map, hx]; rfl
            have hsf := r7 k x.ln hk hX
            rw [hXl] at hsf
            replace hsf : x.soft = decide (k + 1 < r) ∨ n ≤ nn + k + 1 := hsf
            have hfi : findsLawV (gs.map LgA.lg) ((nn + k : Nat) : Int) (i : Int) 0 = true := by rw [findsLawV, find_some (fun j hj y hy => hasR_not (by have h9 := q3 j y hj hy; omega)) hG (hasR_yes (by show g.frm ≤ _ ∧ 0 < g.rows ∧ _ - g.frm < g.rows; omega))]; simp
            refine T.skip ?_
            refine TE.sub (.cons (t := 0) rfl <| .cons (t := 3) rfl <| .cons (t := 5) rfl <| .cons (t := 6) rfl <| .cons (t := 8) rfl <| .nil) ?_
            refine TE.next ?_
            refine T.seq ?_
            refine T.block ?_
            refine T.seq ?_
            refine T.quiet mix (by kernel_rfl) ?_
            refine TQ.val (OpV.move rfl) rfl ?_
            refine TQ.val (OpV.move rfl) rfl ?_
            refine TQ.val (OpV.move rfl) rfl ?_
            refine TQ.val (OpV.add rfl rfl (by first | exact IntWalk.i64_in _ ⟨by omega, by omega⟩ | rfl)) rfl ?_
            refine TQ.val (OpV.indexAddr (j := (nn + k)) se_28 rfl hA62 rfl (by omega) (by omega)) rfl ?_
            refine TQ.val (OpV.fieldAddr rfl fo_34_1) rfl ?_
            refine TQ.val (OpV.load pl_4 rfl (by first | exact Cel.blk P0 rfl | exact Cel.blk P1 rfl | exact Cel.blk P2 rfl | exact Cel.blk P3 rfl | exact Cel.blk P4 rfl | exact Cel.frA (hatg _ _ rfl) | exact Cel.frA (hatq _ _ rfl) | exact Cel.frA (hatl _ _ rfl))) rfl ?_
            refine TQ.val (OpV.move rfl) rfl ?_
            refine TQ.val (OpV.move rfl) rfl ?_
            refine TQ.val (OpV.move rfl) rfl ?_
            refine TQ.val (OpV.indexAddr se_69 rfl hA6 rfl (by rfl) (by first | omega | simp)) rfl ?_
            refine TQ.val (OpV.fieldAddr rfl fo_72_2) rfl ?_
            refine TQ.val (OpV.load pl_3 rfl (by first | exact Cel.blk P0 rfl | exact Cel.blk P1 rfl | exact Cel.blk P2 rfl | exact Cel.blk P3 rfl | exact Cel.blk P4 rfl | exact Cel.frA (hatg _ _ rfl) | exact Cel.frA (hatq _ _ rfl) | exact Cel.frA (hatl _ _ rfl))) rfl ?_
            refine TQ.val (OpV.sub rfl rfl (by first | exact IntWalk.i64_in _ ⟨by omega, by omega⟩ | rfl)) rfl ?_
            refine TQ.val (OpV.lss rfl rfl) rfl ?_
            refine TQ.val (OpV.bneq Tryd.underlying4 rfl rfl) rfl ?_
            refine TQ.val (OpV.move rfl) rfl ?_
            refine TQ.part (t := 113) rfl ?_ ?_
            · intro hg113
              refine TQ.open rfl rfl ?_
              refine TQ.val (OpV.move rfl) rfl ?_
              refine TQ.open rfl rfl ?_
              refine TQ.val (OpV.move rfl) rfl ?_
              refine TQ.open rfl rfl ?_
              refine TQ.val (OpV.add rfl rfl (by first | exact IntWalk.i64_in _ ⟨by omega, by omega⟩ | rfl)) rfl ?_
              refine TQ.open rfl rfl ?_
              refine TQ.val (OpV.move rfl) rfl ?_
              refine TQ.open rfl rfl ?_
              refine TQ.val (OpV.len Tryd.underlying28 rfl) rfl ?_
              refine TQ.open rfl rfl ?_
              refine TQ.val (OpV.sub rfl rfl (by first | exact IntWalk.i64_in _ ⟨by omega, by omega⟩ | rfl)) rfl ?_
              refine TQ.open rfl rfl ?_
              refine TQ.val (OpV.lss rfl rfl) rfl ?_
              refine TQ.said (t := 120) rfl (show _ = Value.bool false from congrArg Value.bool (by rcases hsf with hsf | hsf; exact absurd hg113 (by rw [hsf, show decide ((k : Int) < g.rows - 1) = decide (k + 1 < r) by rw [decide_eq_decide]; omega]; simp); exact decide_eq_false (by omega))) ?_
              refine TQ.val ((by first | exact OpV.pick_t rfl rfl | exact OpV.pick_f rfl rfl)) rfl ?_
              refine TQ.val (OpV.move rfl) rfl ?_
              refine TQ.open rfl rfl ?_
              refine TQ.val (OpV.move rfl) rfl ?_
              refine TQ.open rfl rfl ?_
              refine TQ.val (OpV.move rfl) rfl ?_
              refine TQ.open rfl rfl ?_
              refine TQ.val (OpV.move rfl) rfl ?_
              refine TQ.open rfl rfl ?_
              refine TQ.val (OpV.add rfl rfl (by first | exact IntWalk.i64_in _ ⟨by omega, by omega⟩ | rfl)) rfl ?_
              refine TQ.open rfl rfl ?_
              refine TQ.val (OpV.move rfl) rfl ?_
              refine TQ.open rfl rfl ?_
              refine TQ.said (t := 126) rfl (show _ = Value.int .i64 ((nn + k : Nat) : Int) from congrArg _ (by omega)) ?_
              refine TQ.call (g := 40) rfl go_40 rfl (fun w1 k1 => finds_t ((nn + k : Nat) : Int) (i : Int) 0 w1 hgs (k1.get (e := .fr ρ) (by first | exact P0 | exact P1 | exact P2 | exact P3 | exact P4 | exact P5 | exact P6)) (by omega) hgb hfi) rfl ?_
              refine TQ.open rfl rfl ?_
              refine TQ.val (OpV.not rfl) rfl ?_
              refine TQ.said (t := 129) rfl (show _ = Value.bool false from congrArg Value.bool (rfl)) ?_
              refine TQ.val ((by first | exact OpV.pick_t rfl rfl | exact OpV.pick_f rfl rfl)) rfl ?_
              refine TQ.nil ?_
              refine TE.sub (.cons (t := 0) rfl <| .cons (t := 3) rfl <| .cons (t := 5) rfl <| .cons (t := 6) rfl <| .cons (t := 8) rfl <| .cons (t := 130) rfl <| .nil) ?_
              refine TE.next ?_
              refine T.no rfl ?_
              refine T.skip ?_
              refine TE.out ?_
              refine TE.next ?_
              refine T.region ?_
              refine TL.val (OpV.move rfl) rfl ?_
              refine TL.val (OpV.add rfl rfl (by first | exact IntWalk.i64_in _ ⟨by omega, by omega⟩ | rfl)) rfl ?_
              refine TL.val (OpV.assign rfl) rfl ?_
              refine TL.nil ?_
              exact TE.meet (k + 1) ⟨by omega, by omega⟩ (.cons (t := 0) (by first | rfl | (simp [lk]; done)) <| .cons (t := 3) (by first | rfl | (simp [lk]; done)) <| .cons (t := 5) (by first | rfl | (simp [lk]; done)) <| .cons (t := 6) (by first | rfl | (simp [lk]; done)) <| .cons (t := 8) (by first | rfl | (simp [lk]; done)) <| .nil) (Perm.kle (.cons (by first | exact P0 | exact P1 | exact P2 | exact P3 | exact P4 | exact P5 | exact P6) (.cons (by first | exact P0 | exact P1 | exact P2 | exact P3 | exact P4 | exact P5 | exact P6) .nil)))
            · intro hg113
              refine TQ.shut rfl rfl ?_
              refine TQ.shut rfl rfl ?_
              refine TQ.shut rfl rfl ?_
              refine TQ.shut rfl rfl ?_
              refine TQ.shut rfl rfl ?_
              refine TQ.shut rfl rfl ?_
              refine TQ.shut rfl rfl ?_
              refine TQ.val ((by first | exact OpV.pick_t rfl rfl | exact OpV.pick_f rfl rfl)) rfl ?_
              refine TQ.val (OpV.move rfl) rfl ?_
              refine TQ.open rfl rfl ?_
              refine TQ.val (OpV.move rfl) rfl ?_
              refine TQ.open rfl rfl ?_
              refine TQ.val (OpV.move rfl) rfl ?_
              refine TQ.open rfl rfl ?_
              refine TQ.val (OpV.move rfl) rfl ?_
              refine TQ.open rfl rfl ?_
              refine TQ.val (OpV.add rfl rfl (by first | exact IntWalk.i64_in _ ⟨by omega, by omega⟩ | rfl)) rfl ?_
              refine TQ.open rfl rfl ?_
              refine TQ.val (OpV.move rfl) rfl ?_
              refine TQ.open rfl rfl ?_
              refine TQ.said (t := 126) rfl (show _ = Value.int .i64 ((nn + k : Nat) : Int) from congrArg _ (by omega)) ?_
              refine TQ.call (g := 40) rfl go_40 rfl (fun w1 k1 => finds_t ((nn + k : Nat) : Int) (i : Int) 0 w1 hgs (k1.get (e := .fr ρ) (by first | exact P0 | exact P1 | exact P2 | exact P3 | exact P4 | exact P5 | exact P6)) (by omega) hgb hfi) rfl ?_
              refine TQ.open rfl rfl ?_
              refine TQ.val (OpV.not rfl) rfl ?_
              refine TQ.said (t := 129) rfl (show _ = Value.bool false from congrArg Value.bool (rfl)) ?_
              refine TQ.val ((by first | exact OpV.pick_t rfl rfl | exact OpV.pick_f rfl rfl)) rfl ?_
              refine TQ.nil ?_
              refine TE.sub (.cons (t := 0) rfl <| .cons (t := 3) rfl <| .cons (t := 5) rfl <| .cons (t := 6) rfl <| .cons (t := 8) rfl <| .cons (t := 130) rfl <| .nil) ?_
              refine TE.next ?_
              refine T.no rfl ?_
              refine T.skip ?_
              refine TE.out ?_
              refine TE.next ?_
              refine T.region ?_
              refine TL.val (OpV.move rfl) rfl ?_
              refine TL.val (OpV.add rfl rfl (by first | exact IntWalk.i64_in _ ⟨by omega, by omega⟩ | rfl)) rfl ?_
              refine TL.val (OpV.assign rfl) rfl ?_
              refine TL.nil ?_
              exact TE.meet (k + 1) ⟨by omega, by omega⟩ (.cons (t := 0) (by first | rfl | (simp [lk]; done)) <| .cons (t := 3) (by first | rfl | (simp [lk]; done)) <| .cons (t := 5) (by first | rfl | (simp [lk]; done)) <| .cons (t := 6) (by first | rfl | (simp [lk]; done)) <| .cons (t := 8) (by first | rfl | (simp [lk]; done)) <| .nil) (Perm.kle (.cons (by first | exact P0 | exact P1 | exact P2 | exact P3 | exact P4 | exact P5 | exact P6) (.cons (by first | exact P0 | exact P1 | exact P2 | exact P3 | exact P4 | exact P5 | exact P6) .nil)))
          · intro ht94
            have hk : ¬ k < r := by have h9 := of_decide_eq_false ht94; omega
            refine T.exit ?_
            refine TE.pass_exit ?_
            refine TE.pass_exit ?_
            refine TE.here ?_
            refine TE.sub (.cons (t := 0) rfl <| .cons (t := 3) rfl <| .cons (t := 5) rfl <| .cons (t := 6) rfl <| .cons (t := 8) rfl <| .nil) ?_
            refine TE.next ?_
            refine T.region ?_
            refine TL.val (OpV.move rfl) rfl ?_
            refine TL.val (OpV.move rfl) rfl ?_
            refine TL.val (OpV.move rfl) rfl ?_
            refine TL.val (OpV.indexAddr se_69 rfl hA6 rfl (by rfl) (by first | omega | simp)) rfl ?_
            refine TL.val (OpV.fieldAddr rfl fo_72_2) rfl ?_
            refine TL.val (OpV.load pl_3 rfl (by first | exact Cel.blk P0 rfl | exact Cel.blk P1 rfl | exact Cel.blk P2 rfl | exact Cel.blk P3 rfl | exact Cel.blk P4 rfl | exact Cel.frA (hatg _ _ rfl) | exact Cel.frA (hatq _ _ rfl) | exact Cel.frA (hatl _ _ rfl))) rfl ?_
            refine TL.val (OpV.add rfl rfl (by first | exact IntWalk.i64_in _ ⟨by omega, by omega⟩ | rfl)) rfl ?_
            refine TL.val (OpV.assign rfl) rfl ?_
            refine TL.nil ?_
            refine TE.out ?_
            refine TE.sub (.cons (t := 0) rfl <| .cons (t := 3) rfl <| .cons (t := 5) rfl <| .cons (t := 6) rfl <| .nil) ?_
            refine TE.next ?_
            refine T.region ?_
            refine TL.val (OpV.move rfl) rfl ?_
            refine TL.val (OpV.add rfl rfl (by first | exact IntWalk.i64_in _ ⟨by omega, by omega⟩ | rfl)) rfl ?_
            refine TL.val (OpV.assign rfl) rfl ?_
            refine TL.nil ?_
            exact TE.meet (i + 1, nn + r) ⟨⟨by omega, r8, fun j y hj hy => by rcases Nat.lt_succ_iff_lt_or_eq.1 hj with hj | rfl; have h9 := q3 j y hj hy; omega; rw [hG] at hy; cases hy; show g.frm + g.rows ≤ _; omega⟩, by simp only; omega⟩ (.cons (t := 0) (by first | rfl | (simp [lk]; done)) <| .cons (t := 3) (by first | rfl | (simp [lk]; done)) <| .cons (t := 5) (congrArg (fun z => some (Value.int .i64 z)) (by omega)) <| .cons (t := 6) (by first | rfl | (simp [lk]; done)) <| .nil) (Perm.kle (.cons (by first | exact P0 | exact P1 | exact P2 | exact P3 | exact P4 | exact P5 | exact P6) (.cons (by first | exact P0 | exact P1 | exact P2 | exact P3 | exact P4 | exact P5 | exact P6) .nil)))
        · intro hg77
          refine TL.shut rfl rfl ?_
          refine TL.shut rfl rfl ?_
          refine TL.shut rfl rfl ?_
          refine TL.shut rfl rfl ?_
          refine TL.shut rfl rfl ?_
          refine TL.shut rfl rfl ?_
          refine TL.shut rfl rfl ?_
          refine TL.shut rfl rfl ?_
          refine TL.open rfl rfl ?_
          refine TL.val ((by first | exact OpV.pick_t rfl rfl | exact OpV.pick_f rfl rfl)) rfl ?_
          refine TL.val ((by first | exact OpV.pick_t rfl rfl | exact OpV.pick_f rfl rfl)) rfl ?_
          refine TL.nil ?_
          refine TE.sub (.cons (t := 0) rfl <| .cons (t := 3) rfl <| .cons (t := 5) rfl <| .cons (t := 6) rfl <| .cons (t := 87) rfl <| .nil) ?_
          refine TE.next ?_
          refine T.no rfl ?_
          refine T.skip ?_
          refine TE.next ?_
          refine T.seq ?_
          refine T.seq ?_
          refine T.region ?_
          refine TL.val (OpV.assign rfl) rfl ?_
          refine TL.nil ?_
          refine TE.next ?_
          refine T.block ?_
          refine T.loop (ι := Nat) (fun k => k ≤ r) (fun k => (r - k)) (fun k => [(0, .slice A n c), (3, .slice A6 n6 c6), (5, .int .i64 (nn : Int)), (6, .int .i64 (i : Int)), (8, .int .i64 (k : Int))]) (fun k => [.fr ρ, .fr σ]) 0 (Nat.zero_le _) (.cons (t := 0) rfl <| .cons (t := 3) rfl <| .cons (t := 5) rfl <| .cons (t := 6) rfl <| .cons (t := 8) rfl <| .nil) (Perm.kle (.cons (by first | exact P0 | exact P1 | exact P2 | exact P3 | exact P4 | exact P5 | exact P6) (.cons (by first | exact P0 | exact P1 | exact P2 | exact P3 | exact P4 | exact P5 | exact P6) .nil))) ?_
          rintro k hR1
          refine T.seq ?_
          refine T.seq ?_
          refine T.region ?_
          refine TL.val (OpV.move rfl) rfl ?_
          refine TL.val (OpV.move rfl) rfl ?_
          refine TL.val (OpV.move rfl) rfl ?_
          refine TL.val (OpV.indexAddr se_69 rfl hA6 rfl (by rfl) (by first | omega | simp)) rfl ?_
          refine TL.val (OpV.fieldAddr rfl fo_72_2) rfl ?_
          refine TL.val (OpV.load pl_3 rfl (by first | exact Cel.blk P0 rfl | exact Cel.blk P1 rfl | exact Cel.blk P2 rfl | exact Cel.blk P3 rfl | exact Cel.blk P4 rfl | exact Cel.frA (hatg _ _ rfl) | exact Cel.frA (hatq _ _ rfl) | exact Cel.frA (hatl _ _ rfl))) rfl ?_
          refine TL.val (OpV.lss rfl rfl) rfl ?_
          refine TL.nil ?_
          refine TE.next ?_
          refine T.cond rfl ?_ ?_
          · intro ht94
            have hk : k < r := by have h9 := of_decide_eq_true ht94; omega
            obtain ⟨x, hx⟩ := get_of_lt h.1.1 (show (nn + k) < n by omega)
            obtain ⟨br, or, hA62, hat62⟩ := h.1.2.2.2.2 (by omega)
            obtain ⟨_, rfl, _, hatl⟩ := hat62 _ x hx
            have hcx := h.2 x (List.mem_of_getElem? hx)
            have hX : (ls.map LnA.ln)[nn + k]? = some x.ln := by rw [List.getElem?_map, hx]; rfl
            have hsf := r7 k x.ln hk hX
            rw [hXl] at hsf
            replace hsf : x.soft = decide (k + 1 < r) ∨ n ≤ nn + k + 1 := hsf
            have hfi : findsLawV (gs.map LgA.lg) ((nn + k : Nat) : Int) (i : Int) 0 = true := by rw [findsLawV, find_some (fun j hj y hy => hasR_not (by have h9 := q3 j y hj hy; omega)) hG (hasR_yes (by show g.frm ≤ _ ∧ 0 < g.rows ∧ _ - g.frm < g.rows; omega))]; simp
            refine T.skip ?_
            refine TE.sub (.cons (t := 0) rfl <| .cons (t := 3) rfl <| .cons (t := 5) rfl <| .cons (t := 6) rfl <| .cons (t := 8) rfl <| .nil) ?_
            refine TE.next ?_
            refine T.seq ?_
            refine T.block ?_
            refine T.seq ?_
            refine T.quiet mix (by kernel_rfl) ?_
            refine TQ.val (OpV.move rfl) rfl ?_
            refine TQ.val (OpV.move rfl) rfl ?_
            refine TQ.val (OpV.move rfl) rfl ?_
            refine TQ.val (OpV.add rfl rfl (by first | exact IntWalk.i64_in _ ⟨by omega, by omega⟩ | rfl)) rfl ?_
            refine TQ.val (OpV.indexAddr (j := (nn + k)) se_28 rfl hA62 rfl (by omega) (by omega)) rfl ?_
            refine TQ.val (OpV.fieldAddr rfl fo_34_1) rfl ?_
            refine TQ.val (OpV.load pl_4 rfl (by first | exact Cel.blk P0 rfl | exact Cel.blk P1 rfl | exact Cel.blk P2 rfl | exact Cel.blk P3 rfl | exact Cel.blk P4 rfl | exact Cel.frA (hatg _ _ rfl) | exact Cel.frA (hatq _ _ rfl) | exact Cel.frA (hatl _ _ rfl))) rfl ?_
            refine TQ.val (OpV.move rfl) rfl ?_
            refine TQ.val (OpV.move rfl) rfl ?_
            refine TQ.val (OpV.move rfl) rfl ?_
            refine TQ.val (OpV.indexAddr se_69 rfl hA6 rfl (by rfl) (by first | omega | simp)) rfl ?_
            refine TQ.val (OpV.fieldAddr rfl fo_72_2) rfl ?_
            refine TQ.val (OpV.load pl_3 rfl (by first | exact Cel.blk P0 rfl | exact Cel.blk P1 rfl | exact Cel.blk P2 rfl | exact Cel.blk P3 rfl | exact Cel.blk P4 rfl | exact Cel.frA (hatg _ _ rfl) | exact Cel.frA (hatq _ _ rfl) | exact Cel.frA (hatl _ _ rfl))) rfl ?_
            refine TQ.val (OpV.sub rfl rfl (by first | exact IntWalk.i64_in _ ⟨by omega, by omega⟩ | rfl)) rfl ?_
            refine TQ.val (OpV.lss rfl rfl) rfl ?_
            refine TQ.val (OpV.bneq Tryd.underlying4 rfl rfl) rfl ?_
            refine TQ.val (OpV.move rfl) rfl ?_
            refine TQ.part (t := 113) rfl ?_ ?_
            · intro hg113
              refine TQ.open rfl rfl ?_
              refine TQ.val (OpV.move rfl) rfl ?_
              refine TQ.open rfl rfl ?_
              refine TQ.val (OpV.move rfl) rfl ?_
              refine TQ.open rfl rfl ?_
              refine TQ.val (OpV.add rfl rfl (by first | exact IntWalk.i64_in _ ⟨by omega, by omega⟩ | rfl)) rfl ?_
              refine TQ.open rfl rfl ?_
              refine TQ.val (OpV.move rfl) rfl ?_
              refine TQ.open rfl rfl ?_
              refine TQ.val (OpV.len Tryd.underlying28 rfl) rfl ?_
              refine TQ.open rfl rfl ?_
              refine TQ.val (OpV.sub rfl rfl (by first | exact IntWalk.i64_in _ ⟨by omega, by omega⟩ | rfl)) rfl ?_
              refine TQ.open rfl rfl ?_
              refine TQ.val (OpV.lss rfl rfl) rfl ?_
              refine TQ.said (t := 120) rfl (show _ = Value.bool false from congrArg Value.bool (by rcases hsf with hsf | hsf; exact absurd hg113 (by rw [hsf, show decide ((k : Int) < g.rows - 1) = decide (k + 1 < r) by rw [decide_eq_decide]; omega]; simp); exact decide_eq_false (by omega))) ?_
              refine TQ.val ((by first | exact OpV.pick_t rfl rfl | exact OpV.pick_f rfl rfl)) rfl ?_
              refine TQ.val (OpV.move rfl) rfl ?_
              refine TQ.open rfl rfl ?_
              refine TQ.val (OpV.move rfl) rfl ?_
              refine TQ.open rfl rfl ?_
              refine TQ.val (OpV.move rfl) rfl ?_
              refine TQ.open rfl rfl ?_
              refine TQ.val (OpV.move rfl) rfl ?_
              refine TQ.open rfl rfl ?_
              refine TQ.val (OpV.add rfl rfl (by first | exact IntWalk.i64_in _ ⟨by omega, by omega⟩ | rfl)) rfl ?_
              refine TQ.open rfl rfl ?_
              refine TQ.val (OpV.move rfl) rfl ?_
              refine TQ.open rfl rfl ?_
              refine TQ.said (t := 126) rfl (show _ = Value.int .i64 ((nn + k : Nat) : Int) from congrArg _ (by omega)) ?_
              refine TQ.call (g := 40) rfl go_40 rfl (fun w1 k1 => finds_t ((nn + k : Nat) : Int) (i : Int) 0 w1 hgs (k1.get (e := .fr ρ) (by first | exact P0 | exact P1 | exact P2 | exact P3 | exact P4 | exact P5 | exact P6)) (by omega) hgb hfi) rfl ?_
              refine TQ.open rfl rfl ?_
              refine TQ.val (OpV.not rfl) rfl ?_
              refine TQ.said (t := 129) rfl (show _ = Value.bool false from congrArg Value.bool (rfl)) ?_
              refine TQ.val ((by first | exact OpV.pick_t rfl rfl | exact OpV.pick_f rfl rfl)) rfl ?_
              refine TQ.nil ?_
              refine TE.sub (.cons (t := 0) rfl <| .cons (t := 3) rfl <| .cons (t := 5) rfl <| .cons (t := 6) rfl <| .cons (t := 8) rfl <| .cons (t := 130) rfl <| .nil) ?_
              refine TE.next ?_
              refine T.no rfl ?_
              refine T.skip ?_
              refine TE.out ?_
              refine TE.next ?_
              refine T.region ?_
              refine TL.val (OpV.move rfl) rfl ?_
              refine TL.val (OpV.add rfl rfl (by first | exact IntWalk.i64_in _ ⟨by omega, by omega⟩ | rfl)) rfl ?_
              refine TL.val (OpV.assign rfl) rfl ?_
              refine TL.nil ?_
              exact TE.meet (k + 1) ⟨by omega, by omega⟩ (.cons (t := 0) (by first | rfl | (simp [lk]; done)) <| .cons (t := 3) (by first | rfl | (simp [lk]; done)) <| .cons (t := 5) (by first | rfl | (simp [lk]; done)) <| .cons (t := 6) (by first | rfl | (simp [lk]; done)) <| .cons (t := 8) (by first | rfl | (simp [lk]; done)) <| .nil) (Perm.kle (.cons (by first | exact P0 | exact P1 | exact P2 | exact P3 | exact P4 | exact P5 | exact P6) (.cons (by first | exact P0 | exact P1 | exact P2 | exact P3 | exact P4 | exact P5 | exact P6) .nil)))
            · intro hg113
              refine TQ.shut rfl rfl ?_
              refine TQ.shut rfl rfl ?_
              refine TQ.shut rfl rfl ?_
              refine TQ.shut rfl rfl ?_
              refine TQ.shut rfl rfl ?_
              refine TQ.shut rfl rfl ?_
              refine TQ.shut rfl rfl ?_
              refine TQ.val ((by first | exact OpV.pick_t rfl rfl | exact OpV.pick_f rfl rfl)) rfl ?_
              refine TQ.val (OpV.move rfl) rfl ?_
              refine TQ.open rfl rfl ?_
              refine TQ.val (OpV.move rfl) rfl ?_
              refine TQ.open rfl rfl ?_
              refine TQ.val (OpV.move rfl) rfl ?_
              refine TQ.open rfl rfl ?_
              refine TQ.val (OpV.move rfl) rfl ?_
              refine TQ.open rfl rfl ?_
              refine TQ.val (OpV.add rfl rfl (by first | exact IntWalk.i64_in _ ⟨by omega, by omega⟩ | rfl)) rfl ?_
              refine TQ.open rfl rfl ?_
              refine TQ.val (OpV.move rfl) rfl ?_
              refine TQ.open rfl rfl ?_
              refine TQ.said (t := 126) rfl (show _ = Value.int .i64 ((nn + k : Nat) : Int) from congrArg _ (by omega)) ?_
              refine TQ.call (g := 40) rfl go_40 rfl (fun w1 k1 => finds_t ((nn + k : Nat) : Int) (i : Int) 0 w1 hgs (k1.get (e := .fr ρ) (by first | exact P0 | exact P1 | exact P2 | exact P3 | exact P4 | exact P5 | exact P6)) (by omega) hgb hfi) rfl ?_
              refine TQ.open rfl rfl ?_
              refine TQ.val (OpV.not rfl) rfl ?_
              refine TQ.said (t := 129) rfl (show _ = Value.bool false from congrArg Value.bool (rfl)) ?_
              refine TQ.val ((by first | exact OpV.pick_t rfl rfl | exact OpV.pick_f rfl rfl)) rfl ?_
              refine TQ.nil ?_
              refine TE.sub (.cons (t := 0) rfl <| .cons (t := 3) rfl <| .cons (t := 5) rfl <| .cons (t := 6) rfl <| .cons (t := 8) rfl <| .cons (t := 130) rfl <| .nil) ?_
              refine TE.next ?_
              refine T.no rfl ?_
              refine T.skip ?_
              refine TE.out ?_
              refine TE.next ?_
              refine T.region ?_
              refine TL.val (OpV.move rfl) rfl ?_
              refine TL.val (OpV.add rfl rfl (by first | exact IntWalk.i64_in _ ⟨by omega, by omega⟩ | rfl)) rfl ?_
              refine TL.val (OpV.assign rfl) rfl ?_
              refine TL.nil ?_
              exact TE.meet (k + 1) ⟨by omega, by omega⟩ (.cons (t := 0) (by first | rfl | (simp [lk]; done)) <| .cons (t := 3) (by first | rfl | (simp [lk]; done)) <| .cons (t := 5) (by first | rfl | (simp [lk]; done)) <| .cons (t := 6) (by first | rfl | (simp [lk]; done)) <| .cons (t := 8) (by first | rfl | (simp [lk]; done)) <| .nil) (Perm.kle (.cons (by first | exact P0 | exact P1 | exact P2 | exact P3 | exact P4 | exact P5 | exact P6) (.cons (by first | exact P0 | exact P1 | exact P2 | exact P3 | exact P4 | exact P5 | exact P6) .nil)))
          · intro ht94
            have hk : ¬ k < r := by have h9 := of_decide_eq_false ht94; omega
            refine T.exit ?_
            refine TE.pass_exit ?_
            refine TE.pass_exit ?_
            refine TE.here ?_
            refine TE.sub (.cons (t := 0) rfl <| .cons (t := 3) rfl <| .cons (t := 5) rfl <| .cons (t := 6) rfl <| .cons (t := 8) rfl <| .nil) ?_
            refine TE.next ?_
            refine T.region ?_
            refine TL.val (OpV.move rfl) rfl ?_
            refine TL.val (OpV.move rfl) rfl ?_
            refine TL.val (OpV.move rfl) rfl ?_
            refine TL.val (OpV.indexAddr se_69 rfl hA6 rfl (by rfl) (by first | omega | simp)) rfl ?_
            refine TL.val (OpV.fieldAddr rfl fo_72_2) rfl ?_
            refine TL.val (OpV.load pl_3 rfl (by first | exact Cel.blk P0 rfl | exact Cel.blk P1 rfl | exact Cel.blk P2 rfl | exact Cel.blk P3 rfl | exact Cel.blk P4 rfl | exact Cel.frA (hatg _ _ rfl) | exact Cel.frA (hatq _ _ rfl) | exact Cel.frA (hatl _ _ rfl))) rfl ?_
            refine TL.val (OpV.add rfl rfl (by first | exact IntWalk.i64_in _ ⟨by omega, by omega⟩ | rfl)) rfl ?_
            refine TL.val (OpV.assign rfl) rfl ?_
            refine TL.nil ?_
            refine TE.out ?_
            refine TE.sub (.cons (t := 0) rfl <| .cons (t := 3) rfl <| .cons (t := 5) rfl <| .cons (t := 6) rfl <| .nil) ?_
            refine TE.next ?_
            refine T.region ?_
            refine TL.val (OpV.move rfl) rfl ?_
            refine TL.val (OpV.add rfl rfl (by first | exact IntWalk.i64_in _ ⟨by omega, by omega⟩ | rfl)) rfl ?_
            refine TL.val (OpV.assign rfl) rfl ?_
            refine TL.nil ?_
            exact TE.meet (i + 1, nn + r) ⟨⟨by omega, r8, fun j y hj hy => by rcases Nat.lt_succ_iff_lt_or_eq.1 hj with hj | rfl; have h9 := q3 j y hj hy; omega; rw [hG] at hy; cases hy; show g.frm + g.rows ≤ _; omega⟩, by simp only; omega⟩ (.cons (t := 0) (by first | rfl | (simp [lk]; done)) <| .cons (t := 3) (by first | rfl | (simp [lk]; done)) <| .cons (t := 5) (congrArg (fun z => some (Value.int .i64 z)) (by omega)) <| .cons (t := 6) (by first | rfl | (simp [lk]; done)) <| .nil) (Perm.kle (.cons (by first | exact P0 | exact P1 | exact P2 | exact P3 | exact P4 | exact P5 | exact P6) (.cons (by first | exact P0 | exact P1 | exact P2 | exact P3 | exact P4 | exact P5 | exact P6) .nil)))
      · intro ht33
        obtain ⟨q1, q2, q3⟩ := hR
        have hin : i = n6 := by have h9 := of_decide_eq_false ht33; omega
        have hgl := hgs.1.1
        rw [List.drop_of_length_le (by rw [List.length_map]; omega), OkG, hXl] at q2
        refine T.exit ?_
        refine TE.pass_exit ?_
        refine TE.pass_exit ?_
        refine TE.here ?_
        refine TE.next ?_
        refine T.seq ?_
        refine T.region ?_
        refine TL.val (OpV.move rfl) rfl ?_
        refine TL.val (OpV.move rfl) rfl ?_
        refine TL.val (OpV.len Tryd.underlying28 rfl) rfl ?_
        refine TL.val (OpV.eql rfl rfl) rfl ?_
        refine TL.said (t := 141) rfl (show _ = Value.bool true from congrArg Value.bool (by rw [q2]; simp)) ?_
        refine TL.val (OpV.move rfl) rfl ?_
        refine TL.open rfl rfl ?_
        refine TL.call (g := 30) rfl go_30 rfl (fun w1 k1 => known28_law w1 (L.below k1.bel)) rfl ?_
        refine TL.val ((by first | exact OpV.pick_t rfl rfl | exact OpV.pick_f rfl rfl)) rfl ?_
        refine TL.val (OpV.assign rfl) rfl ?_
        refine TL.nil ?_
        refine TE.sub (.cons (t := 2) rfl <| .nil) ?_
        refine TE.next ?_
        refine T.ret ?_
        refine TE.ret1 rfl (ResV.tmp rfl) ?_
        exact fun w1 k1 => ⟨rfl, k1.bel⟩
end Go.Proofs.YtblpfelhgcggfaaDoor
