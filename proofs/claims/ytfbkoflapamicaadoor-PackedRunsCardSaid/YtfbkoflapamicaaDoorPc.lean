/-
  The walks of Join and of what compares. Condition: the package-level tables hold what they were laid with.
-/
import Derived.Test.YtfbkoflapamicaaDoorPb
namespace Go.Proofs.YtfbkoflapamicaaDoor
open Go.RowKit
set_option linter.unusedSimpArgs false
set_option linter.unusedVariables false
set_option maxRecDepth 100000 in
set_option maxHeartbeats 1000000 in
theorem rsame_c {σ τ : Nat → Option Obj} {A A2 : Option Addr} {n c n2 c2 : Nat} {xs ys : List Rn} (w : World) (h : RsR σ A n c xs) (h2 : RsR τ A2 n2 c2 ys) (hs : ∀ b o, σ b = some o → w.heap[b]? = some o) (ht : ∀ b o, τ b = some o → w.heap[b]? = some o) : Calls Tryd.prog 24 #[.slice A n c, .slice A2 n2 c2] w (Ret (.bool (decide (xs = ys))) w) := by
  have hn63 := h.2.1
  have hc63 := h.2.2.1
  have hl1 := h.1
  have hl2 := h2.1
  refine calls_T (vs := [.slice A n c, .slice A2 n2 c2]) (L0 := [(0, .slice A n c), (1, .slice A2 n2 c2)]) Tryd.func24 rfl rfl rfl rfl (KOk.frs hs ht) ?_
  refine T.seq ?_
  refine T.region ?_
  refine TL.val (OpV.assign rfl) rfl ?_
  refine TL.nil ?_
  refine TE.next ?_
  refine T.seq ?_
  refine T.seq ?_
  refine T.region ?_
  refine TL.val (OpV.move rfl) rfl ?_
  refine TL.val (OpV.len Tryd.underlying43 rfl) rfl ?_
  refine TL.val (OpV.move rfl) rfl ?_
  refine TL.val (OpV.len Tryd.underlying43 rfl) rfl ?_
  refine TL.val (OpV.neq rfl rfl) rfl ?_
  refine TL.nil ?_
  refine TE.next ?_
  refine T.cond rfl ?_ ?_
  · intro ht10
    have hnn : n ≠ n2 := by have h9 : ((n : Int) != (n2 : Int)) = true := ht10; simp at h9; omega
    refine T.seq ?_
    refine T.region ?_
    refine TL.val (OpV.assign rfl) rfl ?_
    refine TL.nil ?_
    refine TE.sub (.cons (t := 4) rfl <| .nil) ?_
    refine TE.next ?_
    refine T.ret ?_
    refine TE.pass_ret ?_
    refine TE.ret1 rfl (ResV.tmp rfl) ?_
    exact fun w1 k1 => ⟨ret_bool (by symm; rw [decide_eq_false_iff_not]; intro e; rw [e] at hl1; omega), k1.bel⟩
  · intro ht10
    have hnn : n = n2 := by have h9 : ((n : Int) != (n2 : Int)) = false := ht10; simp at h9; omega
    refine T.skip ?_
    refine TE.next ?_
    refine T.seq ?_
    refine T.seq ?_
    refine T.region ?_
    refine TL.val (OpV.assign rfl) rfl ?_
    refine TL.nil ?_
    refine TE.next ?_
    refine T.block ?_
    refine T.loop (ι := Nat) (fun i => i ≤ n ∧ xs.take i = ys.take i) (fun i => n - i) (fun i => [(0, .slice A n c), (1, .slice A2 n2 c2), (5, .int .i64 (i : Int))]) (fun i => [.fr σ, .fr τ]) 0 ⟨Nat.zero_le _, rfl⟩ (.cons (t := 0) rfl <| .cons (t := 1) rfl <| .cons (t := 5) rfl <| .nil) (Kle.refl) ?_
    rintro i hR
    refine T.seq ?_
    refine T.seq ?_
    refine T.region ?_
    refine TL.val (OpV.move rfl) rfl ?_
    refine TL.val (OpV.move rfl) rfl ?_
    refine TL.val (OpV.len Tryd.underlying43 rfl) rfl ?_
    refine TL.val (OpV.lss rfl rfl) rfl ?_
    refine TL.nil ?_
    refine TE.next ?_
    refine T.cond rfl ?_ ?_
    · intro ht14
      have hi : i < n := by have h9 := of_decide_eq_true ht14; omega
      obtain ⟨x, hx⟩ := get_of_lt hl1 hi
      obtain ⟨y, hy⟩ := get_of_lt hl2 (show i < n2 by omega)
      obtain ⟨b, o, hA, hat⟩ := h.2.2.2.2 (by omega)
      obtain ⟨b2, o2, hA2, hat2⟩ := h2.2.2.2.2 (by omega)
      obtain ⟨_, rfl, _, hatx⟩ := hat i x hx
      obtain ⟨_, rfl, _, haty⟩ := hat2 i y hy
      refine T.skip ?_
      refine TE.next ?_
      refine T.seq ?_
      refine T.block ?_
      refine T.seq ?_
      refine T.quiet mix (by kernel_rfl) ?_
      refine TQ.val (OpV.move rfl) rfl ?_
      refine TQ.val (OpV.move rfl) rfl ?_
      refine TQ.val (OpV.indexAddr se_43 rfl hA rfl (by rfl) (by first | omega | simp)) rfl ?_
      refine TQ.val (OpV.loadA ag_67 rfl (by first | exact Cels.blk P0 rfl | exact Cels.blk P1 rfl | exact Cels.blk P2 rfl | exact Cels.blk P3 rfl | exact Cels.frA hatx rfl | exact Cels.frA haty rfl)) rfl ?_
      refine TQ.val (OpV.move rfl) rfl ?_
      refine TQ.val (OpV.move rfl) rfl ?_
      refine TQ.val (OpV.indexAddr se_43 rfl hA2 rfl (by rfl) (by first | omega | simp)) rfl ?_
      refine TQ.val (OpV.loadA ag_67 rfl (by first | exact Cels.blk P0 rfl | exact Cels.blk P1 rfl | exact Cels.blk P2 rfl | exact Cels.blk P3 rfl | exact Cels.frA hatx rfl | exact Cels.frA haty rfl)) rfl ?_
      refine TQ.val (OpV.aneq rfl rfl eg_67 (eq_67 x y)) rfl ?_
      refine TQ.nil ?_
      refine TE.sub (.cons (t := 0) rfl <| .cons (t := 1) rfl <| .cons (t := 5) rfl <| .cons (t := 25) rfl <| .nil) ?_
      refine TE.next ?_
      refine T.cond rfl ?_ ?_
      · intro ht25
        refine T.seq ?_
        refine T.region ?_
        refine TL.val (OpV.assign rfl) rfl ?_
        refine TL.nil ?_
        refine TE.next ?_
        refine T.ret ?_
        refine TE.out_ret ?_
        refine TE.pass_ret ?_
        refine TE.pass_ret ?_
        refine TE.out_ret ?_
        refine TE.pass_ret ?_
        refine TE.ret1 rfl (ResV.tmp rfl) ?_
        exact fun w1 k1 => ⟨ret_bool (by symm; rw [decide_eq_false_iff_not]; intro e; rw [e, hy] at hx; cases hx; simp at ht25), k1.bel⟩
      · intro ht25
        refine T.skip ?_
        refine TE.out ?_
        refine TE.next ?_
        refine T.region ?_
        refine TL.val (OpV.move rfl) rfl ?_
        refine TL.val (OpV.add rfl rfl (by first | exact IntWalk.i64_in _ ⟨by omega, by omega⟩ | rfl)) rfl ?_
        refine TL.val (OpV.assign rfl) rfl ?_
        refine TL.nil ?_
        exact TE.meet (i + 1) ⟨⟨by omega, by rw [take_snoc hx, take_snoc hy, hR.2, show x = y by simpa using ht25]⟩, by omega⟩ (.cons (t := 0) (by first | rfl | (simp [lk]; done)) <| .cons (t := 1) (by first | rfl | (simp [lk]; done)) <| .cons (t := 5) (by first | rfl | (simp [lk]; done)) <| .nil) (Kle.refl)
    · intro ht14
      have hin : i = n := by have h9 := of_decide_eq_false ht14; have h8 := hR.1; omega
      refine T.exit ?_
      refine TE.pass_exit ?_
      refine TE.pass_exit ?_
      refine TE.here ?_
      refine TE.next ?_
      refine T.seq ?_
      refine T.region ?_
      refine TL.val (OpV.assign rfl) rfl ?_
      refine TL.nil ?_
      refine TE.sub (.cons (t := 4) rfl <| .nil) ?_
      refine TE.next ?_
      refine T.ret ?_
      refine TE.ret1 rfl (ResV.tmp rfl) ?_
      exact fun w1 k1 => ⟨ret_bool (by symm; rw [decide_eq_true_eq]; have h9 := hR.2; rw [hin, List.take_of_length_le (by omega), List.take_of_length_le (by omega)] at h9; exact h9), k1.bel⟩
set_option maxRecDepth 100000 in
set_option maxHeartbeats 1000000 in
theorem csame_c {σ τ : Nat → Option Obj} {A A2 : Option Addr} {n c n2 c2 : Nat} {xs ys : List Cl} (w : World) (h : CsR σ A n c xs) (h2 : CsR τ A2 n2 c2 ys) (hs : ∀ b o, σ b = some o → w.heap[b]? = some o) (ht : ∀ b o, τ b = some o → w.heap[b]? = some o) : Calls Tryd.prog 17 #[.slice A n c, .slice A2 n2 c2] w (Ret (.bool (decide (xs = ys))) w) := by
  have hn63 := h.2.1
  have hc63 := h.2.2.1
  have hl1 := h.1
  have hl2 := h2.1
  refine calls_T (vs := [.slice A n c, .slice A2 n2 c2]) (L0 := [(0, .slice A n c), (1, .slice A2 n2 c2)]) Tryd.func17 rfl rfl rfl rfl (KOk.frs hs ht) ?_
  refine T.seq ?_
  refine T.region ?_
  refine TL.val (OpV.assign rfl) rfl ?_
  refine TL.nil ?_
  refine TE.next ?_
  refine T.seq ?_
  refine T.seq ?_
  refine T.region ?_
  refine TL.val (OpV.move rfl) rfl ?_
  refine TL.val (OpV.len Tryd.underlying42 rfl) rfl ?_
  refine TL.val (OpV.move rfl) rfl ?_
  refine TL.val (OpV.len Tryd.underlying42 rfl) rfl ?_
  refine TL.val (OpV.neq rfl rfl) rfl ?_
  refine TL.nil ?_
  refine TE.next ?_
  refine T.cond rfl ?_ ?_
  · intro ht10
    have hnn : n ≠ n2 := by have h9 : ((n : Int) != (n2 : Int)) = true := ht10; simp at h9; omega
    refine T.seq ?_
    refine T.region ?_
    refine TL.val (OpV.assign rfl) rfl ?_
    refine TL.nil ?_
    refine TE.sub (.cons (t := 4) rfl <| .nil) ?_
    refine TE.next ?_
    refine T.ret ?_
    refine TE.pass_ret ?_
    refine TE.ret1 rfl (ResV.tmp rfl) ?_
    exact fun w1 k1 => ⟨ret_bool (by symm; rw [decide_eq_false_iff_not]; intro e; rw [e] at hl1; omega), k1.bel⟩
  · intro ht10
    have hnn : n = n2 := by have h9 : ((n : Int) != (n2 : Int)) = false := ht10; simp at h9; omega
    refine T.skip ?_
    refine TE.next ?_
    refine T.seq ?_
    refine T.seq ?_
    refine T.region ?_
    refine TL.val (OpV.assign rfl) rfl ?_
    refine TL.nil ?_
    refine TE.next ?_
    refine T.block ?_
    refine T.loop (ι := Nat) (fun i => i ≤ n ∧ xs.take i = ys.take i) (fun i => n - i) (fun i => [(0, .slice A n c), (1, .slice A2 n2 c2), (5, .int .i64 (i : Int))]) (fun i => [.fr σ, .fr τ]) 0 ⟨Nat.zero_le _, rfl⟩ (.cons (t := 0) rfl <| .cons (t := 1) rfl <| .cons (t := 5) rfl <| .nil) (Kle.refl) ?_
    rintro i hR
    refine T.seq ?_
    refine T.seq ?_
    refine T.region ?_
    refine TL.val (OpV.move rfl) rfl ?_
    refine TL.val (OpV.move rfl) rfl ?_
    refine TL.val (OpV.len Tryd.underlying42 rfl) rfl ?_
    refine TL.val (OpV.lss rfl rfl) rfl ?_
    refine TL.nil ?_
    refine TE.next ?_
    refine T.cond rfl ?_ ?_
    · intro ht14
      have hi : i < n := by have h9 := of_decide_eq_true ht14; omega
      obtain ⟨x, hx⟩ := get_of_lt hl1 hi
      obtain ⟨y, hy⟩ := get_of_lt hl2 (show i < n2 by omega)
      obtain ⟨b, o, hA, hat⟩ := h.2.2.2.2 (by omega)
      obtain ⟨b2, o2, hA2, hat2⟩ := h2.2.2.2.2 (by omega)
      obtain ⟨_, rfl, _, hatx⟩ := hat i x hx
      obtain ⟨_, rfl, _, haty⟩ := hat2 i y hy
      refine T.skip ?_
      refine TE.next ?_
      refine T.seq ?_
      refine T.block ?_
      refine T.seq ?_
      refine T.quiet mix (by kernel_rfl) ?_
      refine TQ.val (OpV.move rfl) rfl ?_
      refine TQ.val (OpV.move rfl) rfl ?_
      refine TQ.val (OpV.indexAddr se_42 rfl hA rfl (by rfl) (by first | omega | simp)) rfl ?_
      refine TQ.val (OpV.loadA ag_30 rfl (by first | exact Cels.blk P0 rfl | exact Cels.blk P1 rfl | exact Cels.blk P2 rfl | exact Cels.blk P3 rfl | exact Cels.frA hatx rfl | exact Cels.frA haty rfl)) rfl ?_
      refine TQ.val (OpV.move rfl) rfl ?_
      refine TQ.val (OpV.move rfl) rfl ?_
      refine TQ.val (OpV.indexAddr se_42 rfl hA2 rfl (by rfl) (by first | omega | simp)) rfl ?_
      refine TQ.val (OpV.loadA ag_30 rfl (by first | exact Cels.blk P0 rfl | exact Cels.blk P1 rfl | exact Cels.blk P2 rfl | exact Cels.blk P3 rfl | exact Cels.frA hatx rfl | exact Cels.frA haty rfl)) rfl ?_
      refine TQ.val (OpV.aneq rfl rfl eg_30 (eq_30 x y)) rfl ?_
      refine TQ.nil ?_
      refine TE.sub (.cons (t := 0) rfl <| .cons (t := 1) rfl <| .cons (t := 5) rfl <| .cons (t := 25) rfl <| .nil) ?_
      refine TE.next ?_
      refine T.cond rfl ?_ ?_
      · intro ht25
        refine T.seq ?_
        refine T.region ?_
        refine TL.val (OpV.assign rfl) rfl ?_
        refine TL.nil ?_
        refine TE.next ?_
        refine T.ret ?_
        refine TE.out_ret ?_
        refine TE.pass_ret ?_
        refine TE.pass_ret ?_
        refine TE.out_ret ?_
        refine TE.pass_ret ?_
        refine TE.ret1 rfl (ResV.tmp rfl) ?_
        exact fun w1 k1 => ⟨ret_bool (by symm; rw [decide_eq_false_iff_not]; intro e; rw [e, hy] at hx; cases hx; simp at ht25), k1.bel⟩
      · intro ht25
        refine T.skip ?_
        refine TE.out ?_
        refine TE.next ?_
        refine T.region ?_
        refine TL.val (OpV.move rfl) rfl ?_
        refine TL.val (OpV.add rfl rfl (by first | exact IntWalk.i64_in _ ⟨by omega, by omega⟩ | rfl)) rfl ?_
        refine TL.val (OpV.assign rfl) rfl ?_
        refine TL.nil ?_
        exact TE.meet (i + 1) ⟨⟨by omega, by rw [take_snoc hx, take_snoc hy, hR.2, show x = y by simpa using ht25]⟩, by omega⟩ (.cons (t := 0) (by first | rfl | (simp [lk]; done)) <| .cons (t := 1) (by first | rfl | (simp [lk]; done)) <| .cons (t := 5) (by first | rfl | (simp [lk]; done)) <| .nil) (Kle.refl)
    · intro ht14
      have hin : i = n := by have h9 := of_decide_eq_false ht14; have h8 := hR.1; omega
      refine T.exit ?_
      refine TE.pass_exit ?_
      refine TE.pass_exit ?_
      refine TE.here ?_
      refine TE.next ?_
      refine T.seq ?_
      refine T.region ?_
      refine TL.val (OpV.assign rfl) rfl ?_
      refine TL.nil ?_
      refine TE.sub (.cons (t := 4) rfl <| .nil) ?_
      refine TE.next ?_
      refine T.ret ?_
      refine TE.ret1 rfl (ResV.tmp rfl) ?_
      exact fun w1 k1 => ⟨ret_bool (by symm; rw [decide_eq_true_eq]; have h9 := hR.2; rw [hin, List.take_of_length_le (by omega), List.take_of_length_le (by omega)] at h9; exact h9), k1.bel⟩
set_option maxRecDepth 100000 in
set_option maxHeartbeats 1000000 in
theorem join5_c {σ τ : Nat → Option Obj} {A A2 : Option Addr} {n c n2 c2 : Nat} {ra rb : List Rn} (w : World) (L : LaidW w) (h : RsR σ A n c ra) (hw : InR ra) (h2 : RsR τ A2 n2 c2 rb) (hw2 : InR rb) (hs : ∀ b o, σ b = some o → w.heap[b]? = some o) (ht : ∀ b o, τ b = some o → w.heap[b]? = some o) : Calls Tryd.prog 36 #[.slice A n c, .slice A2 n2 c2] w (fun e w' => ∃ v : SV, e = .returned (.tuple #[v.v, .int .i64 (joinE ra rb)]) ∧ RsR v.σ v.A v.n v.c (joinV ra rb) ∧ KOk w [.own v.σ] w') := by
  have hn63 := h.2.1
  have hc63 := h.2.2.1
  have hl1 := h.1
  have hn64 := h2.2.1
  have hc64 := h2.2.2.1
  have hl2 := h2.1
  refine calls_T (vs := [.slice A n c, .slice A2 n2 c2]) (L0 := [(0, .slice A n c), (1, .slice A2 n2 c2)]) Tryd.func36 rfl rfl rfl rfl (KOk.frs hs ht) ?_
  refine T.seq ?_
  refine T.region ?_
  refine TL.val (OpV.assign rfl) rfl ?_
  refine TL.val (OpV.assign rfl) rfl ?_
  refine TL.nil ?_
  refine TE.next ?_
  refine T.seq ?_
  refine T.block ?_
  refine T.seq ?_
  refine T.region ?_
  refine TL.val (OpV.move rfl) rfl ?_
  refine TL.call (g := 20) rfl go_20 rfl (fun w1 k1 => valid5_c w1 (L.below k1.bel) h hw (k1.get (e := .fr σ) (by first | exact P0 | exact P1 | exact P2 | exact P3 | exact P4 | exact P5))) rfl ?_
  refine TL.val (OpV.not rfl) rfl ?_
  refine TL.val (OpV.move rfl) rfl ?_
  refine TL.part (t := 12) rfl ?_ ?_
  · intro hg12
    have hva : vR ra = false := by simpa using hg12
    have hje : joinE ra rb = 12 := by rw [joinE, hva]; rfl
    refine TL.shut rfl rfl ?_
    refine TL.shut rfl rfl ?_
    refine TL.shut rfl rfl ?_
    refine TL.val ((by first | exact OpV.pick_t rfl rfl | exact OpV.pick_f rfl rfl)) rfl ?_
    refine TL.val (OpV.assign rfl) rfl ?_
    refine TL.nil ?_
    refine TE.sub (.cons (t := 0) rfl <| .cons (t := 1) rfl <| .cons (t := 8) rfl <| .nil) ?_
    refine TE.next ?_
    refine T.yes rfl ?_
    refine T.seq ?_
    refine T.region ?_
    refine TL.val (OpV.assign rfl) rfl ?_
    refine TL.val (OpV.assign rfl) rfl ?_
    refine TL.nil ?_
    refine TE.next ?_
    refine T.ret ?_
    refine TE.out_ret ?_
    refine TE.pass_ret ?_
    refine TE.retN rfl (.cons (ResV.tmp rfl) <| .cons (ResV.tmp rfl) <| .nil) ?_
    exact fun wz kz => ⟨⟨none, 0, 0, fun _ => none⟩, by rw [hje]; rfl, by rw [joinV, hje]; exact SlR.nil, Perm.kle (.cons .here .nil) wz (KOk.ownNil kz)⟩
  · intro hg12
    have hva : vR ra = true := by simpa using hg12
    refine TL.open rfl rfl ?_
    refine TL.val (OpV.move rfl) rfl ?_
    refine TL.open rfl rfl ?_
    refine TL.call (g := 20) rfl go_20 rfl (fun w1 k1 => valid5_c w1 (L.below k1.bel) h2 hw2 (k1.get (e := .fr τ) (by first | exact P0 | exact P1 | exact P2 | exact P3 | exact P4 | exact P5))) rfl ?_
    refine TL.open rfl rfl ?_
    refine TL.val (OpV.not rfl) rfl ?_
    refine TL.val ((by first | exact OpV.pick_t rfl rfl | exact OpV.pick_f rfl rfl)) rfl ?_
    refine TL.val (OpV.assign rfl) rfl ?_
    refine TL.nil ?_
    refine TE.sub (.cons (t := 0) rfl <| .cons (t := 1) rfl <| .cons (t := 8) rfl <| .nil) ?_
    refine TE.next ?_
    refine T.cond rfl ?_ ?_
    · intro ht8
      have hvb : vR rb = false := by simpa using ht8
      have hje : joinE ra rb = 12 := by rw [joinE, hvb, Bool.and_false]; rfl
      refine T.seq ?_
      refine T.region ?_
      refine TL.val (OpV.assign rfl) rfl ?_
      refine TL.val (OpV.assign rfl) rfl ?_
      refine TL.nil ?_
      refine TE.next ?_
      refine T.ret ?_
      refine TE.out_ret ?_
      refine TE.pass_ret ?_
      refine TE.retN rfl (.cons (ResV.tmp rfl) <| .cons (ResV.tmp rfl) <| .nil) ?_
      exact fun wz kz => ⟨⟨none, 0, 0, fun _ => none⟩, by rw [hje]; rfl, by rw [joinV, hje]; exact SlR.nil, Perm.kle (.cons .here .nil) wz (KOk.ownNil kz)⟩
    · intro ht8
      have hvb : vR rb = true := by simpa using ht8
      obtain ⟨hp1, hp2, hp3⟩ := vR_parts hva
      obtain ⟨hq1, hq2, hq3⟩ := vR_parts hvb
      have hs1 := sum_bd fun x hx => (hp1 x hx).1
      have hs2 := sum_bd fun x hx => (hq1 x hx).1
      refine T.seq ?_
      refine T.region ?_
      refine TL.val (OpV.move rfl) rfl ?_
      refine TL.call (g := 21) rfl go_21 rfl (fun w1 k1 => count_c w1 (L.below k1.bel) h hw (k1.get (e := .fr σ) (by first | exact P0 | exact P1 | exact P2 | exact P3 | exact P4 | exact P5))) rfl ?_
      refine TL.said (t := 19) rfl (show _ = Value.int .i64 (sumR ra) by rw [countV, hva]; rfl) ?_
      refine TL.val (OpV.move rfl) rfl ?_
      refine TL.call (g := 21) rfl go_21 rfl (fun w1 k1 => count_c w1 (L.below k1.bel) h2 hw2 (k1.get (e := .fr τ) (by first | exact P0 | exact P1 | exact P2 | exact P3 | exact P4 | exact P5))) rfl ?_
      refine TL.said (t := 21) rfl (show _ = Value.int .i64 (sumR rb) by rw [countV, hvb]; rfl) ?_
      refine TL.val (OpV.add rfl rfl (by first | exact IntWalk.i64_in _ ⟨by omega, by omega⟩ | rfl)) rfl ?_
      refine TL.val (OpV.gtr rfl rfl) rfl ?_
      refine TL.val (OpV.assign rfl) rfl ?_
      refine TL.nil ?_
      refine TE.sub (.cons (t := 0) rfl <| .cons (t := 1) rfl <| .cons (t := 17) rfl <| .nil) ?_
      refine TE.next ?_
      refine T.cond rfl ?_ ?_
      · intro ht17
        have hje : joinE ra rb = 5 := by have h9 := of_decide_eq_true ht17; rw [joinE, hva, hvb]; exact if_pos (by omega)
        refine T.seq ?_
        refine T.region ?_
        refine TL.val (OpV.assign rfl) rfl ?_
        refine TL.val (OpV.assign rfl) rfl ?_
        refine TL.nil ?_
        refine TE.next ?_
        refine T.ret ?_
        refine TE.out_ret ?_
        refine TE.pass_ret ?_
        refine TE.retN rfl (.cons (ResV.tmp rfl) <| .cons (ResV.tmp rfl) <| .nil) ?_
        exact fun wz kz => ⟨⟨none, 0, 0, fun _ => none⟩, by rw [hje]; rfl, by rw [joinV, hje]; exact SlR.nil, Perm.kle (.cons .here .nil) wz (KOk.ownNil kz)⟩
      · intro ht17
        have hje : joinE ra rb = 0 := by have h9 := of_decide_eq_false ht17; rw [joinE, hva, hvb]; exact if_neg (by omega)
        refine T.skip ?_
        refine TE.out ?_
        refine TE.next ?_
        refine T.seq ?_
        refine T.region ?_
        refine TL.val (OpV.move rfl) rfl ?_
        refine TL.kle (Kle.nilRow 67 4) ?_
        obtain ⟨ti25, hi25, hz25, hs25, hb25⟩ := info_parts inf_67
        refine TL.append rfl rfl Tryd.underlying43 hi25 hz25 hs25 hb25 rfl (by omega) (by first | exact P0 | exact P1 | exact P2 | exact P3 | exact P4 | exact P5) (Src.rs (by first | exact P0 | exact P1 | exact P2 | exact P3 | exact P4 | exact P5 | exact P6) h) (fun h9 => h.2.2.2.1 h9) (one_rl _) (by omega) (by omega) rfl ?_
        clear hi25 hz25 hs25 hb25 ti25
        intro A25 c25 hn25
        rw [List.nil_append]
        refine TL.said (t := 25) rfl (show _ = Value.slice A25 n c25 by rw [Nat.zero_add]) ?_
        rw [Nat.zero_add]
        refine TL.val (OpV.assign rfl) rfl ?_
        refine TL.nil ?_
        refine TE.next ?_
        refine T.seq ?_
        refine T.seq ?_
        refine T.region ?_
        refine TL.val (OpV.move rfl) rfl ?_
        refine TL.val (OpV.len Tryd.underlying43 rfl) rfl ?_
        refine TL.val (OpV.assign rfl) rfl ?_
        refine TL.nil ?_
        refine TE.next ?_
        refine T.seq ?_
        refine T.quiet mix (by kernel_rfl) ?_
        refine TQ.val (OpV.move rfl) rfl ?_
        refine TQ.val (OpV.gtr rfl rfl) rfl ?_
        refine TQ.val (OpV.move rfl) rfl ?_
        refine TQ.part (t := 30) rfl ?_ ?_
        · intro hg30
          refine TQ.open rfl rfl ?_
          refine TQ.val (OpV.move rfl) rfl ?_
          refine TQ.open rfl rfl ?_
          refine TQ.val (OpV.len Tryd.underlying43 rfl) rfl ?_
          refine TQ.open rfl rfl ?_
          refine TQ.val (OpV.gtr rfl rfl) rfl ?_
          refine TQ.val ((by first | exact OpV.pick_t rfl rfl | exact OpV.pick_f rfl rfl)) rfl ?_
          refine TQ.val (OpV.move rfl) rfl ?_
          refine TQ.part (t := 35) rfl ?_ ?_
          · intro hg35
            have h0 : 0 < n := by have h9 := of_decide_eq_true hg30; omega
            have h0b : 0 < n2 := by have h9 := of_decide_eq_true hg35; omega
            obtain ⟨x, hx⟩ := get_of_lt h.1 (show n - 1 < n by omega)
            obtain ⟨y, hy⟩ := get_of_lt h2.1 h0b
            obtain ⟨b, o, hA, hat⟩ := h.2.2.2.2 h0
            obtain ⟨b2, o2, hA2, hat2⟩ := h2.2.2.2.2 h0b
            obtain ⟨_, rfl, _, hatx⟩ := hat _ x hx
            obtain ⟨_, rfl, _, haty⟩ := hat2 0 y hy
            refine TQ.open rfl rfl ?_
            refine TQ.val (OpV.move rfl) rfl ?_
            refine TQ.open rfl rfl ?_
            refine TQ.val (OpV.move rfl) rfl ?_
            refine TQ.open rfl rfl ?_
            refine TQ.val (OpV.sub rfl rfl (by first | exact IntWalk.i64_in _ ⟨by omega, by omega⟩ | rfl)) rfl ?_
            refine TQ.open rfl rfl ?_
            refine TQ.val (OpV.indexAddr (j := (n - 1)) se_43 rfl hA rfl (by omega) (by omega)) rfl ?_
            refine TQ.open rfl rfl ?_
            refine TQ.val (OpV.fieldAddr rfl fo_67_1) rfl ?_
            refine TQ.open rfl rfl ?_
            refine TQ.val (OpV.loadA ag_34 rfl (Cels.fr (cs := x.w.l) (by first | exact P0 | exact P1 | exact P2 | exact P3 | exact P4 | exact P5 | exact P6) (hatx.part [] x.w.l 1 rfl) rfl)) rfl ?_
            refine TQ.open rfl rfl ?_
            refine TQ.val (OpV.move rfl) rfl ?_
            refine TQ.open rfl rfl ?_
            refine TQ.val (OpV.indexAddr (j := 0) se_43 rfl hA2 rfl rfl (by omega)) rfl ?_
            refine TQ.open rfl rfl ?_
            refine TQ.val (OpV.fieldAddr rfl fo_67_1) rfl ?_
            refine TQ.open rfl rfl ?_
            refine TQ.val (OpV.loadA ag_34 rfl (Cels.fr (cs := y.w.l) (by first | exact P0 | exact P1 | exact P2 | exact P3 | exact P4 | exact P5 | exact P6) (haty.part [] y.w.l 1 rfl) rfl)) rfl ?_
            refine TQ.open rfl rfl ?_
            refine TQ.val (OpV.aeql rfl rfl eg_34 (eq_34 x.w y.w)) rfl ?_
            refine TQ.val ((by first | exact OpV.pick_t rfl rfl | exact OpV.pick_f rfl rfl)) rfl ?_
            refine TQ.nil ?_
            refine TE.sub (.cons (t := 1) rfl <| .cons (t := 6) rfl <| .cons (t := 7) rfl <| .cons (t := 47) rfl <| .nil) ?_
            refine TE.next ?_
            refine T.cond rfl ?_ ?_
            · intro ht47
              have hxy : x.w = y.w := of_decide_eq_true ht47
              have hj : joinL ra rb = ra.set (n - 1) { x with cnt := x.cnt + y.cnt } ++ rb.drop 1 := by have h9 := joinL_yes (a := ra) (b := rb) (x := x) (y := y) (by rw [hl1]; exact hx) hy hxy; rwa [hl1] at h9
              have hxc := (hp1 x (List.mem_of_getElem? hx)).1
              have hyc := (hq1 y (List.mem_of_getElem? hy)).1
              refine T.ex (ι := Nat × List Value) (R := fun q => A25 = some ⟨q.1, 0, none⟩ ∧ q.2.length = c25 * 4 ∧ q.2.take (n * 4) = rl ra ∧ n ≤ c25 ∧ c25 ≤ 9223372036854775807) (K2 := fun q => [.blk q.1 q.2 67, .fr σ, .fr τ]) (fun wz kz => ?_) ?_
              · skip
                obtain ⟨q, h9, k2⟩ := rowBlk (e := 67) (z := 4) (A := A25) (m := n) (c := c25) (xs := rl ra) kz (by first | exact P0 | exact P1 | exact P2 | exact P3 | exact P4 | exact P5 | exact P6) h0
                exact ⟨q, h9, Perm.kle (.cons (by first | exact P0 | exact P1 | exact P2 | exact P3 | exact P4 | exact P5 | exact P6) (.cons (by first | exact P0 | exact P1 | exact P2 | exact P3 | exact P4 | exact P5 | exact P6) (.cons (by first | exact P0 | exact P1 | exact P2 | exact P3 | exact P4 | exact P5 | exact P6) .nil))) wz k2⟩
              rintro ⟨bq, cs⟩ ⟨e1, e2, e3, e4, e5⟩
              simp only at e1 e2 e3
              obtain ⟨s1, s2, s3⟩ := rl_store (v := x.cnt + y.cnt) (out := ra) (k := n - 1) (by rw [hl1]; exact e3) hx
              rw [hl1] at s1
              have hcz : cs[(n - 1) * 4]? = some (.int .i64 x.cnt) := by have h9 := get_flat Rn.l_length ra (n - 1) 0 x _ hx rfl; rw [← rl, ← e3, List.getElem?_take] at h9; split at h9; exact h9; cases h9
              refine T.seq ?_
              refine T.any ([.blk bq cs 67, .fr σ, .fr τ]) [13] mix rfl rfl ?_
              refine TA.takeP (i := 0) (ls := #[true, false, false, false, false, false, false, false, false, false, false, false, false, false]) rfl rfl rfl rfl rfl (by kernel_rfl) (by kernel_rfl) (by kernel_rfl) (by repeat (first | with_reducible exact PanicOk.body | with_reducible apply PanicOk.next | with_reducible apply PanicOk.block)) (OpV.move rfl) rfl (by kernel_rfl) ?_
              refine TA.takeP (i := 1) (ls := #[true, true, false, false, false, false, false, false, false, false, false, false, false, false]) rfl rfl rfl rfl rfl (by kernel_rfl) (by kernel_rfl) (by kernel_rfl) (by repeat (first | with_reducible exact PanicOk.body | with_reducible apply PanicOk.next | with_reducible apply PanicOk.block)) (OpV.move rfl) rfl (by kernel_rfl) ?_
              refine TA.takeP (i := 2) (ls := #[true, true, true, false, false, false, false, false, false, false, false, false, false, false]) rfl rfl rfl rfl rfl (by kernel_rfl) (by kernel_rfl) (by kernel_rfl) (by repeat (first | with_reducible exact PanicOk.body | with_reducible apply PanicOk.next | with_reducible apply PanicOk.block)) (OpV.sub rfl rfl (by first | exact IntWalk.i64_in _ ⟨by omega, by omega⟩ | rfl)) rfl (by kernel_rfl) ?_
              refine TA.takeP (i := 3) (ls := #[true, true, true, true, false, false, false, false, false, false, false, false, false, false]) rfl rfl rfl rfl rfl (by kernel_rfl) (by kernel_rfl) (by kernel_rfl) (by repeat (first | with_reducible exact PanicOk.body | with_reducible apply PanicOk.next | with_reducible apply PanicOk.block)) (OpV.indexAddr (j := (n - 1)) se_43 rfl e1 rfl (by omega) (by omega)) rfl (by kernel_rfl) ?_
              refine TA.takeP (i := 4) (ls := #[true, true, true, true, true, false, false, false, false, false, false, false, false, false]) rfl rfl rfl rfl rfl (by kernel_rfl) (by kernel_rfl) (by kernel_rfl) (by repeat (first | with_reducible exact PanicOk.body | with_reducible apply PanicOk.next | with_reducible apply PanicOk.block)) (OpV.fieldAddr rfl fo_67_0) rfl (by kernel_rfl) ?_
              refine TA.take (i := 5) (ls := #[true, true, true, true, true, true, false, false, false, false, false, false, false, false]) rfl rfl rfl rfl rfl (by kernel_rfl) (by kernel_rfl) (by kernel_rfl) (by kernel_rfl) (by repeat (first | with_reducible exact PanicOk.body | with_reducible apply PanicOk.next | with_reducible apply PanicOk.block)) (.all) (OpV.load pl_3 rfl (Cel.blk (by first | exact P0 | exact P1 | exact P2 | exact P3 | exact P4) (by simpa using hcz))) rfl (by kernel_rfl) ?_
              refine TA.takeP (i := 6) (ls := #[true, true, true, true, true, true, true, false, false, false, false, false, false, false]) rfl rfl rfl rfl rfl (by kernel_rfl) (by kernel_rfl) (by kernel_rfl) (by repeat (first | with_reducible exact PanicOk.body | with_reducible apply PanicOk.next | with_reducible apply PanicOk.block)) (OpV.move rfl) rfl (by kernel_rfl) ?_
              refine TA.takeP (i := 7) (ls := #[true, true, true, true, true, true, true, true, false, false, false, false, false, false]) rfl rfl rfl rfl rfl (by kernel_rfl) (by kernel_rfl) (by kernel_rfl) (by repeat (first | with_reducible exact PanicOk.body | with_reducible apply PanicOk.next | with_reducible apply PanicOk.block)) (OpV.indexAddr (j := 0) se_43 rfl hA2 rfl rfl (by omega)) rfl (by kernel_rfl) ?_
              refine TA.takeP (i := 8) (ls := #[true, true, true, true, true, true, true, true, true, false, false, false, false, false]) rfl rfl rfl rfl rfl (by kernel_rfl) (by kernel_rfl) (by kernel_rfl) (by repeat (first | with_reducible exact PanicOk.body | with_reducible apply PanicOk.next | with_reducible apply PanicOk.block)) (OpV.fieldAddr rfl fo_67_0) rfl (by kernel_rfl) ?_
              refine TA.take (i := 9) (ls := #[true, true, true, true, true, true, true, true, true, true, false, false, false, false]) rfl rfl rfl rfl rfl (by kernel_rfl) (by kernel_rfl) (by kernel_rfl) (by kernel_rfl) (by repeat (first | with_reducible exact PanicOk.body | with_reducible apply PanicOk.next | with_reducible apply PanicOk.block)) (.all) (OpV.load pl_3 rfl (by first | exact Cel.blk P0 rfl | exact Cel.blk P1 rfl | exact Cel.blk P2 rfl | exact Cel.blk P3 rfl | exact Cel.blk P4 rfl | exact Cel.blk P5 rfl | exact Cel.frA (hatx _ _ rfl) | exact Cel.frA (haty _ _ rfl))) rfl (by kernel_rfl) ?_
              refine TA.takeP (i := 10) (ls := #[true, true, true, true, true, true, true, true, true, true, true, false, false, false]) rfl rfl rfl rfl rfl (by kernel_rfl) (by kernel_rfl) (by kernel_rfl) (by repeat (first | with_reducible exact PanicOk.body | with_reducible apply PanicOk.next | with_reducible apply PanicOk.block)) (OpV.add rfl rfl (by first | exact IntWalk.i64_in _ ⟨by omega, by omega⟩ | rfl)) rfl (by kernel_rfl) ?_
              refine TA.takeP (i := 11) (ls := #[true, true, true, true, true, true, true, true, true, true, true, true, false, false]) rfl rfl rfl rfl rfl (by kernel_rfl) (by kernel_rfl) (by kernel_rfl) (by repeat (first | with_reducible exact PanicOk.body | with_reducible apply PanicOk.next | with_reducible apply PanicOk.block)) (OpV.indexAddr (j := (n - 1)) se_43 rfl e1 rfl (by omega) (by omega)) rfl (by kernel_rfl) ?_
              refine TA.takeP (i := 12) (ls := #[true, true, true, true, true, true, true, true, true, true, true, true, true, false]) rfl rfl rfl rfl rfl (by kernel_rfl) (by kernel_rfl) (by kernel_rfl) (by repeat (first | with_reducible exact PanicOk.body | with_reducible apply PanicOk.next | with_reducible apply PanicOk.block)) (OpV.fieldAddr rfl fo_67_0) rfl (by kernel_rfl) ?_
              refine TA.one (i := 13) (ls := #[true, true, true, true, true, true, true, true, true, true, true, true, true, true]) (by kernel_rfl) rfl (by kernel_rfl) (fun w1 => ?_)
              refine TL.store (o := (n - 1) * 4) (cs' := putL cs ((n - 1) * 4) [.int .i64 (x.cnt + y.cnt)]) (by simp only [Nat.zero_add, Nat.add_zero]; rfl) rfl szz_3 rfl rfl rfl (by first | exact P0 | exact P1 | exact P2 | exact P3 | exact P4 | exact P5 | exact P6) (by simp only [List.length_cons, List.length_nil]; omega) rfl ?_
              refine TL.nil ?_
              refine TA.bar rfl ?_
              refine TA.done (by kernel_rfl) ?_
              refine TE.sub (.cons (t := 1) rfl <| .cons (t := 6) rfl <| .nil) ?_
              refine TE.next ?_
              refine T.kle (Kle.trans (Perm.kle (.cons (by first | exact P0 | exact P1 | exact P2 | exact P3 | exact P4 | exact P5 | exact P6) (.cons (by first | exact P0 | exact P1 | exact P2 | exact P3 | exact P4 | exact P5 | exact P6) (.cons (by first | exact P0 | exact P1 | exact P2 | exact P3 | exact P4 | exact P5 | exact P6) .nil)))) (Kle.blkRow2 (m := n) (c := c25) (z := 4) (xs := rl (ra.set (n - 1) { x with cnt := x.cnt + y.cnt })) (by rw [s3]; exact e2) s1 (by rw [length_rl, List.length_set, hl1]) e4 e5)) ?_
              have hd1 := RsR.drop1 h2 h0b
              have hd2 := hd1.2.2.1
              refine T.region ?_
              refine TL.val (OpV.move rfl) rfl ?_
              refine TL.val (OpV.sliceLo (lo := 1) se_43 rfl rfl rfl (by omega)) rfl ?_
              refine TL.val (OpV.assign rfl) rfl ?_
              refine TL.nil ?_
              refine TE.next ?_
              refine T.seq ?_
              refine T.region ?_
              refine TL.val (OpV.move rfl) rfl ?_
              refine TL.val (OpV.move rfl) rfl ?_
              refine TL.said (t := 63) rfl (show _ = Value.slice (some ⟨bq, 0, none⟩) n c25 by rw [e1]) ?_
              obtain ⟨ti65, hi65, hz65, hs65, hb65⟩ := info_parts inf_67
              refine TL.append rfl rfl Tryd.underlying43 hi65 hz65 hs65 hb65 rfl (by omega) (by first | exact P0 | exact P1 | exact P2 | exact P3 | exact P4 | exact P5) (Src.rs (by first | exact P0 | exact P1 | exact P2 | exact P3 | exact P4 | exact P5 | exact P6) hd1) (fun h9 => hd1.2.2.2.1 h9) (one_rl _) (by omega) (by omega) rfl ?_
              clear hi65 hz65 hs65 hb65 ti65
              intro A65 c65 hn65
              refine TL.val (OpV.assign rfl) rfl ?_
              refine TL.val (OpV.assign rfl) rfl ?_
              refine TL.nil ?_
              refine TE.sub (.cons (t := 4) rfl <| .cons (t := 5) rfl <| .nil) ?_
              refine TE.next ?_
              refine T.ret ?_
              refine TE.retN rfl (.cons (ResV.tmp rfl) <| .cons (ResV.tmp rfl) <| .nil) ?_
              intro wz kz
              obtain ⟨ρ, h9, k2⟩ := KOk.rowOwn (kz.pick (e := .row 67 4 A65 (n + (n2 - 1)) c65 (rl (ra.set (n - 1) { x with cnt := x.cnt + y.cnt }) ++ rl (rb.drop 1))) (by first | exact P0 | exact P1 | exact P2 | exact P3 | exact P4 | exact P5 | exact P6))
              rw [← rl_append, ← hj] at h9
              exact ⟨⟨A65, n + (n2 - 1), c65, ρ⟩, by rw [hje]; rfl, by rw [joinV, hje, if_pos rfl]; exact SlR.of_row Rn.l_length h9 (by rw [hj, List.length_append, List.length_set, List.length_drop, hl1, h2.1]), Perm.kle (.cons .here .nil) wz k2⟩
            · intro ht47
              have hj : joinL ra rb = ra ++ rb := joinL_no (x := x) (y := y) (by rw [hl1]; exact hx) hy (of_decide_eq_false ht47)
              refine T.skip ?_
              refine TE.next ?_
              refine T.seq ?_
              refine T.region ?_
              refine TL.val (OpV.move rfl) rfl ?_
              refine TL.val (OpV.move rfl) rfl ?_
              obtain ⟨ti65, hi65, hz65, hs65, hb65⟩ := info_parts inf_67
              refine TL.append rfl rfl Tryd.underlying43 hi65 hz65 hs65 hb65 rfl (by omega) (by first | exact P0 | exact P1 | exact P2 | exact P3 | exact P4 | exact P5) (Src.rs (by first | exact P0 | exact P1 | exact P2 | exact P3 | exact P4 | exact P5 | exact P6) h2) (fun h9 => h2.2.2.2.1 h9) (one_rl _) (by omega) (by omega) rfl ?_
              clear hi65 hz65 hs65 hb65 ti65
              intro A65 c65 hn65
              refine TL.val (OpV.assign rfl) rfl ?_
              refine TL.val (OpV.assign rfl) rfl ?_
              refine TL.nil ?_
              refine TE.sub (.cons (t := 4) rfl <| .cons (t := 5) rfl <| .nil) ?_
              refine TE.next ?_
              refine T.ret ?_
              refine TE.retN rfl (.cons (ResV.tmp rfl) <| .cons (ResV.tmp rfl) <| .nil) ?_
              intro wz kz
              obtain ⟨ρ, h9, k2⟩ := KOk.rowOwn (kz.pick (e := .row 67 4 A65 (n + n2) c65 (rl ra ++ rl rb)) (by first | exact P0 | exact P1 | exact P2 | exact P3 | exact P4 | exact P5 | exact P6))
              rw [← rl_append, ← hj] at h9
              exact ⟨⟨A65, n + n2, c65, ρ⟩, by rw [hje]; rfl, by rw [joinV, hje, if_pos rfl]; exact SlR.of_row Rn.l_length h9 (by rw [hj, List.length_append, hl1, h2.1]), Perm.kle (.cons .here .nil) wz k2⟩
          · intro hg35
            have hj : joinL ra rb = ra ++ rb := joinL_nil (.inr (by have h9 := of_decide_eq_false hg35; have h8 := h2.1; omega))
            refine TQ.shut rfl rfl ?_
            refine TQ.shut rfl rfl ?_
            refine TQ.shut rfl rfl ?_
            refine TQ.shut rfl rfl ?_
            refine TQ.shut rfl rfl ?_
            refine TQ.shut rfl rfl ?_
            refine TQ.shut rfl rfl ?_
            refine TQ.shut rfl rfl ?_
            refine TQ.shut rfl rfl ?_
            refine TQ.shut rfl rfl ?_
            refine TQ.shut rfl rfl ?_
            refine TQ.val ((by first | exact OpV.pick_t rfl rfl | exact OpV.pick_f rfl rfl)) rfl ?_
            refine TQ.nil ?_
            refine TE.sub (.cons (t := 1) rfl <| .cons (t := 6) rfl <| .cons (t := 7) rfl <| .cons (t := 47) rfl <| .nil) ?_
            refine TE.next ?_
            refine T.no rfl ?_
            refine T.skip ?_
            refine TE.next ?_
            refine T.seq ?_
            refine T.region ?_
            refine TL.val (OpV.move rfl) rfl ?_
            refine TL.val (OpV.move rfl) rfl ?_
            obtain ⟨ti65, hi65, hz65, hs65, hb65⟩ := info_parts inf_67
            refine TL.append rfl rfl Tryd.underlying43 hi65 hz65 hs65 hb65 rfl (by omega) (by first | exact P0 | exact P1 | exact P2 | exact P3 | exact P4 | exact P5) (Src.rs (by first | exact P0 | exact P1 | exact P2 | exact P3 | exact P4 | exact P5 | exact P6) h2) (fun h9 => h2.2.2.2.1 h9) (one_rl _) (by omega) (by omega) rfl ?_
            clear hi65 hz65 hs65 hb65 ti65
            intro A65 c65 hn65
            refine TL.val (OpV.assign rfl) rfl ?_
            refine TL.val (OpV.assign rfl) rfl ?_
            refine TL.nil ?_
            refine TE.sub (.cons (t := 4) rfl <| .cons (t := 5) rfl <| .nil) ?_
            refine TE.next ?_
            refine T.ret ?_
            refine TE.retN rfl (.cons (ResV.tmp rfl) <| .cons (ResV.tmp rfl) <| .nil) ?_
            intro wz kz
            obtain ⟨ρ, h9, k2⟩ := KOk.rowOwn (kz.pick (e := .row 67 4 A65 (n + n2) c65 (rl ra ++ rl rb)) (by first | exact P0 | exact P1 | exact P2 | exact P3 | exact P4 | exact P5 | exact P6))
            rw [← rl_append, ← hj] at h9
            exact ⟨⟨A65, n + n2, c65, ρ⟩, by rw [hje]; rfl, by rw [joinV, hje, if_pos rfl]; exact SlR.of_row Rn.l_length h9 (by rw [hj, List.length_append, hl1, h2.1]), Perm.kle (.cons .here .nil) wz k2⟩
        · intro hg30
          have hj : joinL ra rb = ra ++ rb := joinL_nil (.inl (by have h9 := of_decide_eq_false hg30; omega))
          refine TQ.shut rfl rfl ?_
          refine TQ.shut rfl rfl ?_
          refine TQ.shut rfl rfl ?_
          refine TQ.val ((by first | exact OpV.pick_t rfl rfl | exact OpV.pick_f rfl rfl)) rfl ?_
          refine TQ.val (OpV.move rfl) rfl ?_
          refine TQ.shut rfl rfl ?_
          refine TQ.shut rfl rfl ?_
          refine TQ.shut rfl rfl ?_
          refine TQ.shut rfl rfl ?_
          refine TQ.shut rfl rfl ?_
          refine TQ.shut rfl rfl ?_
          refine TQ.shut rfl rfl ?_
          refine TQ.shut rfl rfl ?_
          refine TQ.shut rfl rfl ?_
          refine TQ.shut rfl rfl ?_
          refine TQ.shut rfl rfl ?_
          refine TQ.val ((by first | exact OpV.pick_t rfl rfl | exact OpV.pick_f rfl rfl)) rfl ?_
          refine TQ.nil ?_
          refine TE.sub (.cons (t := 1) rfl <| .cons (t := 6) rfl <| .cons (t := 7) rfl <| .cons (t := 47) rfl <| .nil) ?_
          refine TE.next ?_
          refine T.no rfl ?_
          refine T.skip ?_
          refine TE.next ?_
          refine T.seq ?_
          refine T.region ?_
          refine TL.val (OpV.move rfl) rfl ?_
          refine TL.val (OpV.move rfl) rfl ?_
          obtain ⟨ti65, hi65, hz65, hs65, hb65⟩ := info_parts inf_67
          refine TL.append rfl rfl Tryd.underlying43 hi65 hz65 hs65 hb65 rfl (by omega) (by first | exact P0 | exact P1 | exact P2 | exact P3 | exact P4 | exact P5) (Src.rs (by first | exact P0 | exact P1 | exact P2 | exact P3 | exact P4 | exact P5 | exact P6) h2) (fun h9 => h2.2.2.2.1 h9) (one_rl _) (by omega) (by omega) rfl ?_
          clear hi65 hz65 hs65 hb65 ti65
          intro A65 c65 hn65
          refine TL.val (OpV.assign rfl) rfl ?_
          refine TL.val (OpV.assign rfl) rfl ?_
          refine TL.nil ?_
          refine TE.sub (.cons (t := 4) rfl <| .cons (t := 5) rfl <| .nil) ?_
          refine TE.next ?_
          refine T.ret ?_
          refine TE.retN rfl (.cons (ResV.tmp rfl) <| .cons (ResV.tmp rfl) <| .nil) ?_
          intro wz kz
          obtain ⟨ρ, h9, k2⟩ := KOk.rowOwn (kz.pick (e := .row 67 4 A65 (n + n2) c65 (rl ra ++ rl rb)) (by first | exact P0 | exact P1 | exact P2 | exact P3 | exact P4 | exact P5 | exact P6))
          rw [← rl_append, ← hj] at h9
          exact ⟨⟨A65, n + n2, c65, ρ⟩, by rw [hje]; rfl, by rw [joinV, hje, if_pos rfl]; exact SlR.of_row Rn.l_length h9 (by rw [hj, List.length_append, hl1, h2.1]), Perm.kle (.cons .here .nil) wz k2⟩
end Go.Proofs.YtfbkoflapamicaaDoor
