/-
  The walk of the law AnchorFrom. Condition: the package-level tables hold what they were laid with.
-/
import Derived.Test.YtdmpodpdpncobaaDoorVg
namespace Go.Proofs.YtdmpodpdpncobaaDoor
open Go.RowKit
set_option linter.unusedSimpArgs false
set_option linter.unusedVariables false
set_option maxRecDepth 100000 in
set_option maxHeartbeats 1000000 in
theorem anchorFrom_law {σ : Nat → Option Obj} {A : Option Addr} {n c : Nat} {gs : List LgA} (cols line cell : Int) (w : World) (L : LaidW w) (h : GsA σ A n c gs) (hs : ∀ b o, σ b = some o → w.heap[b]? = some o) : Calls Tryd.prog 4 #[.slice A n c, .int .i64 cols, .int .i64 line, .int .i64 cell] w (Ret (.bool true) w) := by
  have hn63 := h.1.2.1
  have hc63 := h.1.2.2.1
  have hl1 := h.1.1
  refine calls_T (vs := [.slice A n c, .int .i64 cols, .int .i64 line, .int .i64 cell]) (L0 := [(0, .slice A n c), (1, .int .i64 cols), (2, .int .i64 line), (3, .int .i64 cell)]) Tryd.func4 rfl rfl rfl rfl (KOk.fr1 hs) ?_
  refine T.seq ?_
  refine T.region ?_
  refine TL.val (OpV.assign rfl) rfl ?_
  refine TL.nil ?_
  refine TE.next ?_
  refine T.seq ?_
  refine T.seq ?_
  refine T.region ?_
  refine TL.val (OpV.move rfl) rfl ?_
  refine TL.val (OpV.len Tryd.underlying34 rfl) rfl ?_
  refine TL.val (OpV.gtr rfl rfl) rfl ?_
  refine TL.val (OpV.move rfl) rfl ?_
  refine TL.part (t := 13) rfl ?_ ?_
  · intro hg13
    refine TL.shut rfl rfl ?_
    refine TL.shut rfl rfl ?_
    refine TL.val ((by first | exact OpV.pick_t rfl rfl | exact OpV.pick_f rfl rfl)) rfl ?_
    refine TL.nil ?_
    refine TE.sub (.cons (t := 0) rfl <| .cons (t := 1) rfl <| .cons (t := 2) rfl <| .cons (t := 3) rfl <| .cons (t := 16) rfl <| .nil) ?_
    refine TE.next ?_
    refine T.yes rfl ?_
    refine T.seq ?_
    refine T.region ?_
    refine TL.call (g := 14) rfl go_14 rfl (fun w1 k1 => known29_law w1 (L.below k1.bel)) rfl ?_
    refine TL.val (OpV.assign rfl) rfl ?_
    refine TL.nil ?_
    refine TE.next ?_
    refine T.ret ?_
    refine TE.pass_ret ?_
    refine TE.ret1 rfl (ResV.tmp rfl) ?_
    exact fun w1 k1 => ⟨rfl, k1.bel⟩
  · intro hg13
    have hn8 := of_decide_eq_false hg13
    refine TL.open rfl rfl ?_
    refine TL.val (OpV.move rfl) rfl ?_
    refine TL.open rfl rfl ?_
    refine TL.val (OpV.gtr rfl rfl) rfl ?_
    refine TL.val ((by first | exact OpV.pick_t rfl rfl | exact OpV.pick_f rfl rfl)) rfl ?_
    refine TL.nil ?_
    refine TE.sub (.cons (t := 0) rfl <| .cons (t := 1) rfl <| .cons (t := 2) rfl <| .cons (t := 3) rfl <| .cons (t := 16) rfl <| .nil) ?_
    refine TE.next ?_
    refine T.cond rfl ?_ ?_
    · intro ht16
      refine T.seq ?_
      refine T.region ?_
      refine TL.call (g := 14) rfl go_14 rfl (fun w1 k1 => known29_law w1 (L.below k1.bel)) rfl ?_
      refine TL.val (OpV.assign rfl) rfl ?_
      refine TL.nil ?_
      refine TE.next ?_
      refine T.ret ?_
      refine TE.pass_ret ?_
      refine TE.ret1 rfl (ResV.tmp rfl) ?_
      exact fun w1 k1 => ⟨rfl, k1.bel⟩
    · intro ht16
      have hc40 := of_decide_eq_false ht16
      refine T.skip ?_
      refine TE.next ?_
      refine T.seq ?_
      refine T.seq ?_
      refine T.region ?_
      refine TL.val (OpV.assign rfl) rfl ?_
      refine TL.nil ?_
      refine TE.next ?_
      refine T.block ?_
      refine T.loop (ι := Nat) (fun i => i ≤ n) (fun i => (n - i)) (fun i => [(0, .slice A n c), (1, .int .i64 cols), (2, .int .i64 line), (3, .int .i64 cell), (9, .int .i64 (i : Int))]) (fun i => [.fr σ]) 0 (Nat.zero_le _) (.cons (t := 0) rfl <| .cons (t := 1) rfl <| .cons (t := 2) rfl <| .cons (t := 3) rfl <| .cons (t := 9) rfl <| .nil) (Kle.refl) ?_
      rintro i hR
      refine T.seq ?_
      refine T.seq ?_
      refine T.region ?_
      refine TL.val (OpV.move rfl) rfl ?_
      refine TL.val (OpV.move rfl) rfl ?_
      refine TL.val (OpV.len Tryd.underlying34 rfl) rfl ?_
      refine TL.val (OpV.lss rfl rfl) rfl ?_
      refine TL.nil ?_
      refine TE.next ?_
      refine T.cond rfl ?_ ?_
      · intro ht21
        have hi : i < n := by have h9 := of_decide_eq_true ht21; omega
        obtain ⟨g, hg⟩ := get_of_lt h.1.1 hi
        obtain ⟨b, o, hA, hat⟩ := h.1.2.2.2.2 (by omega)
        obtain ⟨_, rfl, _, hatg⟩ := hat _ g hg
        refine T.skip ?_
        refine TE.next ?_
        refine T.seq ?_
        refine T.block ?_
        refine T.seq ?_
        refine T.region ?_
        refine TL.val (OpV.move rfl) rfl ?_
        refine TL.val (OpV.move rfl) rfl ?_
        refine TL.val (OpV.indexAddr se_34 rfl hA rfl (by rfl) (by first | omega | simp)) rfl ?_
        refine TL.val (OpV.fieldAddr rfl fo_37_0) rfl ?_
        refine TL.val (OpV.load pl_35 rfl (by first | exact Cel.blk P0 rfl | exact Cel.blk P1 rfl | exact Cel.blk P2 rfl | exact Cel.blk P3 rfl | exact Cel.frA (hatg _ _ rfl))) rfl ?_
        refine TL.val (OpV.len Tryd.underlying35 rfl) rfl ?_
        refine TL.val (OpV.gtr rfl rfl) rfl ?_
        refine TL.nil ?_
        refine TE.sub (.cons (t := 0) rfl <| .cons (t := 1) rfl <| .cons (t := 2) rfl <| .cons (t := 3) rfl <| .cons (t := 9) rfl <| .cons (t := 30) rfl <| .nil) ?_
        refine TE.next ?_
        refine T.cond rfl ?_ ?_
        · intro ht30
          refine T.seq ?_
          refine T.region ?_
          refine TL.call (g := 14) rfl go_14 rfl (fun w1 k1 => known29_law w1 (L.below k1.bel)) rfl ?_
          refine TL.val (OpV.assign rfl) rfl ?_
          refine TL.nil ?_
          refine TE.sub (.cons (t := 8) rfl <| .nil) ?_
          refine TE.next ?_
          refine T.ret ?_
          refine TE.out_ret ?_
          refine TE.pass_ret ?_
          refine TE.pass_ret ?_
          refine TE.out_ret ?_
          refine TE.pass_ret ?_
          refine TE.ret1 rfl (ResV.tmp rfl) ?_
          exact fun w1 k1 => ⟨rfl, k1.bel⟩
        · intro ht30
          refine T.skip ?_
          refine TE.out ?_
          refine TE.next ?_
          refine T.region ?_
          refine TL.val (OpV.move rfl) rfl ?_
          refine TL.val (OpV.add rfl rfl (by first | exact IntWalk.i64_in _ ⟨by omega, by omega⟩ | rfl)) rfl ?_
          refine TL.val (OpV.assign rfl) rfl ?_
          refine TL.nil ?_
          exact TE.meet (i + 1) ⟨by omega, by omega⟩ (.cons (t := 0) (by first | rfl | (simp [lk]; done)) <| .cons (t := 1) (by first | rfl | (simp [lk]; done)) <| .cons (t := 2) (by first | rfl | (simp [lk]; done)) <| .cons (t := 3) (by first | rfl | (simp [lk]; done)) <| .cons (t := 9) (by first | rfl | (simp [lk]; done)) <| .nil) (Perm.kle (.cons (by first | exact P0 | exact P1 | exact P2 | exact P3 | exact P4 | exact P5 | exact P6 | exact P7) .nil))
      · intro ht21
        refine T.exit ?_
        refine TE.pass_exit ?_
        refine TE.pass_exit ?_
        refine TE.here ?_
        refine TE.next ?_
        refine T.seq ?_
        refine T.seq ?_
        refine T.region ?_
        refine TL.val (OpV.move rfl) rfl ?_
        refine TL.val (OpV.move rfl) rfl ?_
        refine TL.call (g := 21) rfl go_21 rfl (fun w1 k1 => rfine_c cols w1 h (k1.get (e := .fr σ) (by first | exact P0 | exact P1 | exact P2 | exact P3 | exact P4 | exact P5 | exact P6 | exact P7))) rfl ?_
        refine TL.val (OpV.not rfl) rfl ?_
        refine TL.nil ?_
        refine TE.sub (.cons (t := 0) rfl <| .cons (t := 1) rfl <| .cons (t := 2) rfl <| .cons (t := 3) rfl <| .cons (t := 35) rfl <| .nil) ?_
        refine TE.next ?_
        refine T.cond rfl ?_ ?_
        · intro ht35
          have hf : fineB (gs.map LgA.lg) cols = false := by simpa using ht35
          refine T.seq ?_
          refine T.region ?_
          refine TL.val (OpV.move rfl) rfl ?_
          refine TL.val (OpV.move rfl) rfl ?_
          refine TL.val (OpV.move rfl) rfl ?_
          refine TL.val (OpV.move rfl) rfl ?_
          refine TL.call (g := 23) rfl go_23 rfl (fun w1 k1 => at29_c 0 0 w1) rfl ?_
          refine TL.call (g := 22) rfl go_22 rfl (fun w1 k1 => froml_c cols line cell 0 0 2 w1 (L.below k1.bel) h (by omega) (by omega) (k1.get (e := .fr σ) (by first | exact P0 | exact P1 | exact P2 | exact P3 | exact P4 | exact P5 | exact P6 | exact P7))) rfl ?_
          refine TL.said (t := 41) rfl (show _ = Value.bool true from congrArg Value.bool (from_bad hf)) ?_
          refine TL.val (OpV.move rfl) rfl ?_
          refine TL.open rfl rfl ?_
          refine TL.call (g := 14) rfl go_14 rfl (fun w1 k1 => known29_law w1 (L.below k1.bel)) rfl ?_
          refine TL.val ((by first | exact OpV.pick_t rfl rfl | exact OpV.pick_f rfl rfl)) rfl ?_
          refine TL.val (OpV.assign rfl) rfl ?_
          refine TL.nil ?_
          refine TE.sub (.cons (t := 8) rfl <| .nil) ?_
          refine TE.next ?_
          refine T.ret ?_
          refine TE.pass_ret ?_
          refine TE.ret1 rfl (ResV.tmp rfl) ?_
          exact fun w1 k1 => ⟨rfl, k1.bel⟩
        · intro ht35
          have hf : fineB (gs.map LgA.lg) cols = true := by simpa using ht35
          refine T.skip ?_
          refine TE.next ?_
          refine T.seq ?_
          refine T.seq ?_
          refine T.region ?_
          refine TL.val (OpV.move rfl) rfl ?_
          refine TL.val (OpV.lss rfl rfl) rfl ?_
          refine TL.val (OpV.move rfl) rfl ?_
          refine TL.part (t := 47) rfl ?_ ?_
          · intro hg47
            have hin : inG (gs.map LgA.lg) line cell = false := by rw [inG, decide_eq_false (by have h9 := of_decide_eq_true hg47; omega), Bool.false_and]
            refine TL.shut rfl rfl ?_
            refine TL.shut rfl rfl ?_
            refine TL.shut rfl rfl ?_
            refine TL.shut rfl rfl ?_
            refine TL.val ((by first | exact OpV.pick_t rfl rfl | exact OpV.pick_f rfl rfl)) rfl ?_
            refine TL.val (OpV.move rfl) rfl ?_
            refine TL.shut rfl rfl ?_
            refine TL.shut rfl rfl ?_
            refine TL.val ((by first | exact OpV.pick_t rfl rfl | exact OpV.pick_f rfl rfl)) rfl ?_
            refine TL.nil ?_
            refine TE.sub (.cons (t := 0) rfl <| .cons (t := 1) rfl <| .cons (t := 2) rfl <| .cons (t := 3) rfl <| .cons (t := 56) rfl <| .nil) ?_
            refine TE.next ?_
            refine T.yes rfl ?_
            refine T.seq ?_
            refine T.region ?_
            refine TL.val (OpV.move rfl) rfl ?_
            refine TL.val (OpV.move rfl) rfl ?_
            refine TL.val (OpV.move rfl) rfl ?_
            refine TL.val (OpV.move rfl) rfl ?_
            refine TL.call (g := 23) rfl go_23 rfl (fun w1 k1 => at29_c 0 0 w1) rfl ?_
            refine TL.call (g := 22) rfl go_22 rfl (fun w1 k1 => froml_c cols line cell 0 0 3 w1 (L.below k1.bel) h (by omega) (by omega) (k1.get (e := .fr σ) (by first | exact P0 | exact P1 | exact P2 | exact P3 | exact P4 | exact P5 | exact P6 | exact P7))) rfl ?_
            refine TL.said (t := 62) rfl (show _ = Value.bool true from congrArg Value.bool (from_out hf hin)) ?_
            refine TL.val (OpV.move rfl) rfl ?_
            refine TL.open rfl rfl ?_
            refine TL.call (g := 14) rfl go_14 rfl (fun w1 k1 => known29_law w1 (L.below k1.bel)) rfl ?_
            refine TL.val ((by first | exact OpV.pick_t rfl rfl | exact OpV.pick_f rfl rfl)) rfl ?_
            refine TL.val (OpV.assign rfl) rfl ?_
            refine TL.nil ?_
            refine TE.sub (.cons (t := 8) rfl <| .nil) ?_
            refine TE.next ?_
            refine T.ret ?_
            refine TE.pass_ret ?_
            refine TE.ret1 rfl (ResV.tmp rfl) ?_
            exact fun w1 k1 => ⟨rfl, k1.bel⟩
          · intro hg47
            have hl0 := of_decide_eq_false hg47
            refine TL.open rfl rfl ?_
            refine TL.val (OpV.move rfl) rfl ?_
            refine TL.open rfl rfl ?_
            refine TL.val (OpV.move rfl) rfl ?_
            refine TL.open rfl rfl ?_
            refine TL.val (OpV.len Tryd.underlying34 rfl) rfl ?_
            refine TL.open rfl rfl ?_
            refine TL.val (OpV.geq rfl rfl) rfl ?_
            refine TL.val ((by first | exact OpV.pick_t rfl rfl | exact OpV.pick_f rfl rfl)) rfl ?_
            refine TL.val (OpV.move rfl) rfl ?_
            refine TL.part (t := 53) rfl ?_ ?_
            · intro hg53
              have hin : inG (gs.map LgA.lg) line cell = false := by rw [inG, decide_eq_false (show ¬ line < _ by rw [List.length_map, hl1]; have h9 := of_decide_eq_true hg53; omega), Bool.false_and, Bool.and_false]
              refine TL.shut rfl rfl ?_
              refine TL.shut rfl rfl ?_
              refine TL.val ((by first | exact OpV.pick_t rfl rfl | exact OpV.pick_f rfl rfl)) rfl ?_
              refine TL.nil ?_
              refine TE.sub (.cons (t := 0) rfl <| .cons (t := 1) rfl <| .cons (t := 2) rfl <| .cons (t := 3) rfl <| .cons (t := 56) rfl <| .nil) ?_
              refine TE.next ?_
              refine T.yes rfl ?_
              refine T.seq ?_
              refine T.region ?_
              refine TL.val (OpV.move rfl) rfl ?_
              refine TL.val (OpV.move rfl) rfl ?_
              refine TL.val (OpV.move rfl) rfl ?_
              refine TL.val (OpV.move rfl) rfl ?_
              refine TL.call (g := 23) rfl go_23 rfl (fun w1 k1 => at29_c 0 0 w1) rfl ?_
              refine TL.call (g := 22) rfl go_22 rfl (fun w1 k1 => froml_c cols line cell 0 0 3 w1 (L.below k1.bel) h (by omega) (by omega) (k1.get (e := .fr σ) (by first | exact P0 | exact P1 | exact P2 | exact P3 | exact P4 | exact P5 | exact P6 | exact P7))) rfl ?_
              refine TL.said (t := 62) rfl (show _ = Value.bool true from congrArg Value.bool (from_out hf hin)) ?_
              refine TL.val (OpV.move rfl) rfl ?_
              refine TL.open rfl rfl ?_
              refine TL.call (g := 14) rfl go_14 rfl (fun w1 k1 => known29_law w1 (L.below k1.bel)) rfl ?_
              refine TL.val ((by first | exact OpV.pick_t rfl rfl | exact OpV.pick_f rfl rfl)) rfl ?_
              refine TL.val (OpV.assign rfl) rfl ?_
              refine TL.nil ?_
              refine TE.sub (.cons (t := 8) rfl <| .nil) ?_
              refine TE.next ?_
              refine T.ret ?_
              refine TE.pass_ret ?_
              refine TE.ret1 rfl (ResV.tmp rfl) ?_
              exact fun w1 k1 => ⟨rfl, k1.bel⟩
            · intro hg53
              have hl9 := of_decide_eq_false hg53
              refine TL.open rfl rfl ?_
              refine TL.val (OpV.move rfl) rfl ?_
              refine TL.open rfl rfl ?_
              refine TL.val (OpV.lss rfl rfl) rfl ?_
              refine TL.val ((by first | exact OpV.pick_t rfl rfl | exact OpV.pick_f rfl rfl)) rfl ?_
              refine TL.nil ?_
              refine TE.sub (.cons (t := 0) rfl <| .cons (t := 1) rfl <| .cons (t := 2) rfl <| .cons (t := 3) rfl <| .cons (t := 56) rfl <| .nil) ?_
              refine TE.next ?_
              refine T.cond rfl ?_ ?_
              · intro ht56
                have hin : inG (gs.map LgA.lg) line cell = false := by rw [inG, decide_eq_false (show ¬ 0 ≤ cell by have h9 := of_decide_eq_true ht56; omega), Bool.and_false, Bool.and_false]
                refine T.seq ?_
                refine T.region ?_
                refine TL.val (OpV.move rfl) rfl ?_
                refine TL.val (OpV.move rfl) rfl ?_
                refine TL.val (OpV.move rfl) rfl ?_
                refine TL.val (OpV.move rfl) rfl ?_
                refine TL.call (g := 23) rfl go_23 rfl (fun w1 k1 => at29_c 0 0 w1) rfl ?_
                refine TL.call (g := 22) rfl go_22 rfl (fun w1 k1 => froml_c cols line cell 0 0 3 w1 (L.below k1.bel) h (by omega) (by omega) (k1.get (e := .fr σ) (by first | exact P0 | exact P1 | exact P2 | exact P3 | exact P4 | exact P5 | exact P6 | exact P7))) rfl ?_
                refine TL.said (t := 62) rfl (show _ = Value.bool true from congrArg Value.bool (from_out hf hin)) ?_
                refine TL.val (OpV.move rfl) rfl ?_
                refine TL.open rfl rfl ?_
                refine TL.call (g := 14) rfl go_14 rfl (fun w1 k1 => known29_law w1 (L.below k1.bel)) rfl ?_
                refine TL.val ((by first | exact OpV.pick_t rfl rfl | exact OpV.pick_f rfl rfl)) rfl ?_
                refine TL.val (OpV.assign rfl) rfl ?_
                refine TL.nil ?_
                refine TE.sub (.cons (t := 8) rfl <| .nil) ?_
                refine TE.next ?_
                refine T.ret ?_
                refine TE.pass_ret ?_
                refine TE.ret1 rfl (ResV.tmp rfl) ?_
                exact fun w1 k1 => ⟨rfl, k1.bel⟩
              · intro ht56
                have hc0 := of_decide_eq_false ht56
                obtain ⟨i, rfl⟩ : ∃ i : Nat, line = (i : Int) := ⟨line.toNat, by omega⟩
                have hin : inG (gs.map LgA.lg) (i : Int) cell = true := by rw [inG, decide_eq_true (show (0 : Int) ≤ i by omega), decide_eq_true (show (i : Int) < _ by rw [List.length_map, hl1]; omega), decide_eq_true (show 0 ≤ cell by omega)]; rfl
                refine T.skip ?_
                refine TE.next ?_
                refine T.seq ?_
                refine T.region ?_
                refine TL.val (OpV.move rfl) rfl ?_
                refine TL.val (OpV.move rfl) rfl ?_
                refine TL.val (OpV.move rfl) rfl ?_
                refine TL.val (OpV.move rfl) rfl ?_
                refine TL.val (OpV.move rfl) rfl ?_
                refine TL.val (OpV.move rfl) rfl ?_
                refine TL.val (OpV.move rfl) rfl ?_
                refine TL.val (OpV.move rfl) rfl ?_
                refine TL.call (g := 24) rfl go_24 rfl (fun w1 k1 => rfrom_c cols cell i w1 h hf (by omega) (by omega) (by omega) (k1.get (e := .fr σ) (by first | exact P0 | exact P1 | exact P2 | exact P3 | exact P4 | exact P5 | exact P6 | exact P7))) rfl ?_
                refine TL.call (g := 22) rfl go_22 rfl (fun w1 k1 => froml_c cols (i : Int) cell (frV (gs.map LgA.lg) cols (i : Int) cell).1 (frV (gs.map LgA.lg) cols (i : Int) cell).2 0 w1 (L.below k1.bel) h (by omega) (by omega) (k1.get (e := .fr σ) (by first | exact P0 | exact P1 | exact P2 | exact P3 | exact P4 | exact P5 | exact P6 | exact P7))) rfl ?_
                refine TL.said (t := 75) rfl (show _ = Value.bool true from congrArg Value.bool (from_ok hf hin)) ?_
                refine TL.val (OpV.move rfl) rfl ?_
                refine TL.open rfl rfl ?_
                refine TL.call (g := 14) rfl go_14 rfl (fun w1 k1 => known29_law w1 (L.below k1.bel)) rfl ?_
                refine TL.val ((by first | exact OpV.pick_t rfl rfl | exact OpV.pick_f rfl rfl)) rfl ?_
                refine TL.val (OpV.assign rfl) rfl ?_
                refine TL.nil ?_
                refine TE.sub (.cons (t := 8) rfl <| .nil) ?_
                refine TE.next ?_
                refine T.ret ?_
                refine TE.ret1 rfl (ResV.tmp rfl) ?_
                exact fun w1 k1 => ⟨rfl, k1.bel⟩
end Go.Proofs.YtdmpodpdpncobaaDoor
