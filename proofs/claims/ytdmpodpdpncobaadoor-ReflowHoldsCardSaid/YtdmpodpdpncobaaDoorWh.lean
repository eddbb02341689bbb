/-
  The walks of what compares rows. No condition.
-/
import Derived.Test.YtdmpodpdpncobaaDoorWd
import Derived.Test.YtdmpodpdpncobaaDoorEng5
import Derived.Test.YtdmpodpdpncobaaDoorWrp
namespace Go.Proofs.YtdmpodpdpncobaaDoor
open Go.RowKit
set_option linter.unusedSimpArgs false
set_option linter.unusedVariables false
set_option maxRecDepth 100000 in
set_option maxHeartbeats 1000000 in
theorem cells_c {σ τ : Nat → Option Obj} {A A2 : Option Addr} {n c n2 c2 : Nat} {xs ys : List Cl} (w : World) (h : CsR σ A n c xs) (h2 : CsR τ A2 n2 c2 ys) (hs : ∀ b o, σ b = some o → w.heap[b]? = some o) (ht : ∀ b o, τ b = some o → w.heap[b]? = some o) : Calls Tryd.prog 43 #[.slice A n c, .slice A2 n2 c2] w (Ret (.bool (decide (xs = ys))) w) := by
 have hn63 := h.2.1
 have hc63 := h.2.2.1
 have hn64 := h2.2.1
 have hc64 := h2.2.2.1
 have hl1 := h.1
 have hl2 := h2.1
 refine calls_T (vs := [.slice A n c, .slice A2 n2 c2]) (L0 := [(0, .slice A n c), (1, .slice A2 n2 c2)]) Tryd.func43 rfl rfl rfl rfl (KOk.frs hs ht) ?_
 refine T.seq ?_
 refine T.region ?_
 refine TL.val (OpV.assign rfl) rfl ?_
 refine TL.nil ?_
 refine TE.next ?_
 refine T.seq ?_
 refine T.seq ?_
 refine T.region ?_
 refine TL.val (OpV.move rfl) rfl ?_
 refine TL.val (OpV.len Tryd.underlying35 rfl) rfl ?_
 refine TL.val (OpV.move rfl) rfl ?_
 refine TL.val (OpV.len Tryd.underlying35 rfl) rfl ?_
 refine TL.val (OpV.neq rfl rfl) rfl ?_
 refine TL.nil ?_
 refine TE.next ?_
 refine T.cond rfl ?_ ?_
 ·
  intro ht10
  have hnn : n ≠ n2 := by have h9 : ((n : Int) != (n2 : Int)) = true := ht10; simp at h9; omega
  refine T.seq ?_
  refine T.region ?_
  refine TL.val (OpV.assign rfl) rfl ?_
  refine TL.nil ?_
  refine TE.sub (.cons (t := 4) rfl <| .nil) ?_
  refine TE.next ?_
  refine T.ret ?_
  refine TE.pass_ret ?_
  refine TE.ret1 rfl (ResV.tmp rfl) ?_
  exact fun w1 k1 => ⟨ret_bool (by symm; rw [decide_eq_false_iff_not]; intro e; rw [e] at hl1; omega), k1.bel⟩
 ·
  intro ht10
  have hnn : n = n2 := by have h9 : ((n : Int) != (n2 : Int)) = false := ht10; simp at h9; omega
  refine T.skip ?_
  refine TE.next ?_
  refine T.seq ?_
  refine T.seq ?_
  refine T.region ?_
  refine TL.val (OpV.assign rfl) rfl ?_
  refine TL.nil ?_
  refine TE.next ?_
  refine T.block ?_
  refine T.loop (ι := Nat) (fun i => i ≤ n ∧ xs.take i = ys.take i) (fun i => n - i) (fun i => [(0, .slice A n c), (1, .slice A2 n2 c2), (5, .int .i64 (i : Int))]) (fun i => [.fr σ, .fr τ]) 0 ⟨Nat.zero_le _, rfl⟩ (.cons (t := 0) rfl <| .cons (t := 1) rfl <| .cons (t := 5) rfl <| .nil) (Kle.refl) ?_
  rintro i hR
  refine T.seq ?_
  refine T.seq ?_
  refine T.region ?_
  refine TL.val (OpV.move rfl) rfl ?_
  refine TL.val (OpV.move rfl) rfl ?_
  refine TL.val (OpV.len Tryd.underlying35 rfl) rfl ?_
  refine TL.val (OpV.lss rfl rfl) rfl ?_
  refine TL.nil ?_
  refine TE.next ?_
  refine T.cond rfl ?_ ?_
  ·
   intro ht14
   have hi : i < n := by have h9 := of_decide_eq_true ht14; omega
   obtain ⟨x, hx⟩ := get_of_lt hl1 hi
   obtain ⟨y, hy⟩ := get_of_lt hl2 (show i < n2 by omega)
   obtain ⟨b, o, hA, hat⟩ := h.pos (by omega)
   obtain ⟨b2, o2, hA2, hat2⟩ := h2.pos (by omega)
   have hatx := hat i x hx
   have haty := hat2 i y hy
   refine T.skip ?_
   refine TE.next ?_
   refine T.seq ?_
   refine T.block ?_
   refine T.seq ?_
   refine T.quiet mix (by kernel_rfl) ?_
   refine TQ.val (OpV.move rfl) rfl ?_
   refine TQ.val (OpV.move rfl) rfl ?_
   refine TQ.val (OpV.indexAddr se_35 rfl hA rfl (by rfl) (by first | omega | simp)) rfl ?_
   refine TQ.val (OpV.loadA ag_58 rfl (by first | exact Cels.blk P0 rfl | exact Cels.blk P1 rfl | exact Cels.blk P2 rfl | exact Cels.blk P3 rfl | exact Cels.frA hatx rfl | exact Cels.frA haty rfl)) rfl ?_
   refine TQ.val (OpV.move rfl) rfl ?_
   refine TQ.val (OpV.move rfl) rfl ?_
   refine TQ.val (OpV.indexAddr se_35 rfl hA2 rfl (by rfl) (by first | omega | simp)) rfl ?_
   refine TQ.val (OpV.loadA ag_58 rfl (by first | exact Cels.blk P0 rfl | exact Cels.blk P1 rfl | exact Cels.blk P2 rfl | exact Cels.blk P3 rfl | exact Cels.frA hatx rfl | exact Cels.frA haty rfl)) rfl ?_
   refine TQ.val (OpV.aneq rfl rfl eg_58 (eq_58 _ _)) rfl ?_
   refine TQ.nil ?_
   refine TE.sub (.cons (t := 0) rfl <| .cons (t := 1) rfl <| .cons (t := 5) rfl <| .cons (t := 25) rfl <| .nil) ?_
   refine TE.next ?_
   refine T.cond rfl ?_ ?_
   ·
    intro ht25
    refine T.seq ?_
    refine T.region ?_
    refine TL.val (OpV.assign rfl) rfl ?_
    refine TL.nil ?_
    refine TE.next ?_
    refine T.ret ?_
    refine TE.out_ret ?_
    refine TE.pass_ret ?_
    refine TE.pass_ret ?_
    refine TE.out_ret ?_
    refine TE.pass_ret ?_
    refine TE.ret1 rfl (ResV.tmp rfl) ?_
    exact fun w1 k1 => ⟨ret_bool (by symm; rw [decide_eq_false_iff_not]; intro e; rw [e, hy] at hx; cases hx; simp at ht25), k1.bel⟩
   ·
    intro ht25
    refine T.skip ?_
    refine TE.out ?_
    refine TE.next ?_
    refine T.region ?_
    refine TL.val (OpV.move rfl) rfl ?_
    refine TL.val (OpV.add rfl rfl (by first | exact IntWalk.i64_in _ ⟨by omega, by omega⟩ | rfl)) rfl ?_
    refine TL.val (OpV.assign rfl) rfl ?_
    refine TL.nil ?_
    exact TE.meet (i + 1) ⟨⟨by omega, by rw [List.take_add_one, List.take_add_one, hR.2, hx, hy, show x = y by simpa using ht25]⟩, by omega⟩ (.cons (t := 0) (by first | rfl | (simp [lk]; done)) <| .cons (t := 1) (by first | rfl | (simp [lk]; done)) <| .cons (t := 5) (by first | rfl | (simp [lk]; done)) <| .nil) (Kle.refl)
  ·
   intro ht14
   have hin : i = n := by have h9 := of_decide_eq_false ht14; have h8 := hR.1; omega
   refine T.exit ?_
   refine TE.pass_exit ?_
   refine TE.pass_exit ?_
   refine TE.here ?_
   refine TE.next ?_
   refine T.seq ?_
   refine T.region ?_
   refine TL.val (OpV.assign rfl) rfl ?_
   refine TL.nil ?_
   refine TE.sub (.cons (t := 4) rfl <| .nil) ?_
   refine TE.next ?_
   refine T.ret ?_
   refine TE.ret1 rfl (ResV.tmp rfl) ?_
   exact fun w1 k1 => ⟨ret_bool (by symm; rw [decide_eq_true_eq]; have h9 := hR.2; rw [hin, List.take_of_length_le (by omega), List.take_of_length_le (by omega)] at h9; exact h9), k1.bel⟩
end Go.Proofs.YtdmpodpdpncobaaDoor
