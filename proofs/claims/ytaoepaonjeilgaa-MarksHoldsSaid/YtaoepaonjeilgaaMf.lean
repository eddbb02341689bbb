/-
  The walk of Next. No condition.
-/
import Derived.Test.YtaoepaonjeilgaaMe
namespace Go.Proofs.Ytaoepaonjeilgaa
open Go.RowKit
set_option linter.unusedSimpArgs false
set_option linter.unusedVariables false
theorem go_26 : isGo Try.prog 26 = true := by kernel_rfl
theorem go_27 : isGo Try.prog 27 = true := by kernel_rfl
theorem bld_31 (w : World) : (Instr.build 31 #[]).run Try.prog w = .ok (.agg Mk.zero.l.toArray) w := by kernel_rfl
set_option maxRecDepth 100000 in
set_option maxHeartbeats 400000 in
theorem next_c {σ τ : Nat → Option Obj} {bm : Nat} {xs : List Mk} {A2 : Option Addr} {n2 c2 : Nat} {ks : List Int} (line : Int) (w : World) (hm : MoR σ bm xs) (hk : IsR τ A2 n2 c2 ks) (hs : ∀ b o, σ b = some o → w.heap[b]? = some o) (ht : ∀ b o, τ b = some o → w.heap[b]? = some o) : Calls Try.prog 13 #[.pointer (some ⟨bm, 0, none⟩), .int .i64 line, .slice A2 n2 c2] w (Ret (.tuple #[.agg (fndV (nextO line ks xs) ks).l.toArray, .int .i64 (fndE (nextO line ks xs) ks)]) w) := by
 obtain ⟨A, c, hm1, h⟩ := hm
 have hn63 := h.2.1
 have hc63 := h.2.2.1
 refine calls_T (vs := [.pointer (some ⟨bm, 0, none⟩), .int .i64 line, .slice A2 n2 c2]) (L0 := [(0, .pointer (some ⟨bm, 0, none⟩)), (1, .int .i64 line), (2, .slice A2 n2 c2)]) Try.func13 rfl rfl rfl rfl (KOk.frs hs ht) ?_
 refine T.seq ?_
 refine T.region ?_
 refine TL.alloc zo_31 rfl ?_
 intro b6
 refine TL.val (OpV.assign rfl) rfl ?_
 refine TL.nil ?_
 refine TE.next ?_
 refine T.seq ?_
 refine T.seq ?_
 refine T.region ?_
 refine TL.val (OpV.move rfl) rfl ?_
 refine TL.val (OpV.move rfl) rfl ?_
 refine TL.call (g := 26) rfl go_26 rfl (fun w1 k1 => check_c ⟨bm, 0, none⟩ w1 hk (k1.get (e := .fr τ) (by first | exact P0 | exact P1 | exact P2 | exact P3 | exact P4 | exact P5 | exact P6))) rfl ?_
 refine TL.val (OpV.assign rfl) rfl ?_
 refine TL.nil ?_
 refine TE.next ?_
 refine T.seq ?_
 refine T.region ?_
 refine TL.val (OpV.move rfl) rfl ?_
 refine TL.val (OpV.neq rfl rfl) rfl ?_
 refine TL.nil ?_
 refine TE.next ?_
 refine T.cond rfl ?_ ?_
 ·
  intro ht15
  try simp only [decide_eq_true_eq, decide_eq_false_iff_not, beq_iff_eq, beq_eq_false_iff_ne, bne_iff_ne, bne_eq_false_iff_eq, Bool.not_eq_true', Bool.not_eq_false', ne_eq] at ht15
  refine T.seq ?_
  refine T.region ?_
  refine TL.val (OpV.build (qs := #[]) (fun _ _ => by simp) (bld_31)) rfl ?_
  refine TL.val (OpV.move rfl) rfl ?_
  first
    | refine TL.storeAll rfl rfl szz_31 rfl rfl rfl (by first | exact P0 | exact P1 | exact P2 | exact P3 | exact P4) (by rfl) ?_
    | refine TL.store rfl rfl szz_31 rfl rfl rfl (by first | exact P0 | exact P1 | exact P2 | exact P3 | exact P4) (by first | exact Nat.le_of_ble_eq_true rfl | (simp; done) | (simp; omega)) (by simp only [Mk.l, putL, List.take_succ_cons, List.take_zero, List.drop_succ_cons, List.drop_zero, List.cons_append, List.nil_append, List.length_cons, List.length_nil, Nat.reduceAdd]; rfl) ?_
  refine TL.val (OpV.assign rfl) rfl ?_
  refine TL.nil ?_
  refine TE.sub (.cons (t := 6) rfl <| .cons (t := 7) rfl <| .nil) ?_
  refine TE.next ?_
  refine T.ret ?_
  refine TE.pass_ret ?_
  refine TE.retN rfl (.cons (ResV.cellA rfl ag_31 (by first | exact Cels.blk P0 rfl | exact Cels.blk P1 rfl | exact Cels.blk P2 rfl | exact Cels.blk P3 rfl | exact Cels.blk P4 rfl | exact Cels.frA (hm1) rfl | exact Cels.frA hatx rfl)) <| .cons (ResV.tmp rfl) <| .nil) ?_
  exact fun w1 k1 => ⟨by rw [(fnd_bad ht15).1, (fnd_bad ht15).2], k1.bel⟩
 ·
  intro ht15
  try simp only [decide_eq_true_eq, decide_eq_false_iff_not, beq_iff_eq, beq_eq_false_iff_ne, bne_iff_ne, bne_eq_false_iff_eq, Bool.not_eq_true', Bool.not_eq_false', ne_eq] at ht15
  refine T.skip ?_
  refine TE.sub (.cons (t := 0) rfl <| .cons (t := 1) rfl <| .cons (t := 2) rfl <| .cons (t := 6) rfl <| .nil) ?_
  refine TE.next ?_
  refine T.seq ?_
  refine T.seq ?_
  refine T.region ?_
  refine TL.val (OpV.move rfl) rfl ?_
  refine TL.val (OpV.nil rfl) rfl ?_
  refine TL.val (OpV.fieldAddr rfl fo_26_0) rfl ?_
  refine TL.val (OpV.load pl_24 rfl (by first | exact Cel.blk P0 rfl | exact Cel.blk P1 rfl | exact Cel.blk P2 rfl | exact Cel.blk P3 rfl | exact Cel.blk P4 rfl | exact Cel.frA (hm1) | exact Cel.frA (hatx _ _ rfl))) rfl ?_
  refine TL.val (OpV.len Try.underlying24 rfl) rfl ?_
  refine TL.val (OpV.move rfl) rfl ?_
  refine TL.nil ?_
  refine TE.next ?_
  refine T.block ?_
  refine T.loop (ι := Nat) (fun i => i ≤ xs.length ∧ (xs.take i).find? (nextP line ks) = none) (fun i => (xs.length - i)) (fun i => [(1, .int .i64 line), (2, .slice A2 n2 c2), (6, .pointer (some ⟨b6, 0, none⟩)), (21, .slice A xs.length c), (22, .int .i64 (xs.length : Int)), (23, .int .i64 (i : Int))]) (fun i => [.blk b6 Mk.zero.l 31, .fr σ, .fr τ]) 0 ⟨Nat.zero_le _, rfl⟩ (.cons (t := 1) rfl <| .cons (t := 2) rfl <| .cons (t := 6) rfl <| .cons (t := 21) rfl <| .cons (t := 22) rfl <| .cons (t := 23) rfl <| .nil) (Kle.refl) ?_
  rintro i hR
  refine T.seq ?_
  refine T.region ?_
  refine TL.val (OpV.lss rfl rfl) rfl ?_
  refine TL.nil ?_
  refine TE.next ?_
  refine T.seq ?_
  refine T.cond rfl ?_ ?_
  ·
   intro ht24
   try simp only [decide_eq_true_eq, decide_eq_false_iff_not, beq_iff_eq, beq_eq_false_iff_ne, bne_iff_ne, bne_eq_false_iff_eq, Bool.not_eq_true', Bool.not_eq_false', ne_eq] at ht24
   have hi : i < xs.length := by omega
   obtain ⟨x, hx⟩ := get_of_lt rfl hi
   obtain ⟨b, o, hA, hat⟩ := h.pos (by omega)
   have hatx := hat i x hx
   refine T.skip ?_
   refine TE.next ?_
   refine T.seq ?_
   refine T.block ?_
   refine T.seq ?_
   refine T.region ?_
   refine TL.val (OpV.indexAddr (j := i) se_24 rfl hA rfl rfl (by omega)) rfl ?_
   refine TL.val (OpV.loadA ag_31 rfl (by first | exact Cels.blk P0 rfl | exact Cels.blk P1 rfl | exact Cels.blk P2 rfl | exact Cels.blk P3 rfl | exact Cels.blk P4 rfl | exact Cels.frA (hm1) rfl | exact Cels.frA hatx rfl)) rfl ?_
   refine TL.alloc zo_31 rfl ?_
   intro b10
   first
     | refine TL.storeAll rfl rfl szz_31 rfl rfl rfl (by first | exact P0 | exact P1 | exact P2 | exact P3 | exact P4) (by rfl) ?_
     | refine TL.store rfl rfl szz_31 rfl rfl rfl (by first | exact P0 | exact P1 | exact P2 | exact P3 | exact P4) (by first | exact Nat.le_of_ble_eq_true rfl | (simp; done) | (simp; omega)) (by simp only [Mk.l, putL, List.take_succ_cons, List.take_zero, List.drop_succ_cons, List.drop_zero, List.cons_append, List.nil_append, List.length_cons, List.length_nil, Nat.reduceAdd]; rfl) ?_
   refine TL.nil ?_
   refine TE.next ?_
   refine T.seq ?_
   refine T.region ?_
   refine TL.val (OpV.fieldAddr rfl fo_31_0) rfl ?_
   refine TL.val (OpV.load pl_3 rfl (by first | exact Cel.blk P0 rfl | exact Cel.blk P1 rfl | exact Cel.blk P2 rfl | exact Cel.blk P3 rfl | exact Cel.blk P4 rfl | exact Cel.frA (hm1) | exact Cel.frA (hatx _ _ rfl))) rfl ?_
   refine TL.val (OpV.move rfl) rfl ?_
   refine TL.val (OpV.gtr rfl rfl) rfl ?_
   refine TL.val (OpV.move rfl) rfl ?_
   refine TL.part (t := 31) rfl ?_ ?_
   ·
    intro hg31
    try simp only [decide_eq_true_eq, decide_eq_false_iff_not, beq_iff_eq, beq_eq_false_iff_ne, bne_iff_ne, bne_eq_false_iff_eq, Bool.not_eq_true', Bool.not_eq_false', ne_eq] at hg31
    refine TL.open rfl rfl ?_
    refine TL.val (OpV.move rfl) rfl ?_
    refine TL.open rfl rfl ?_
    refine TL.val (OpV.fieldAddr rfl fo_31_1) rfl ?_
    refine TL.open rfl rfl ?_
    refine TL.val (OpV.load pl_29 rfl (by first | exact Cel.blk P0 rfl | exact Cel.blk P1 rfl | exact Cel.blk P2 rfl | exact Cel.blk P3 rfl | exact Cel.blk P4 rfl | exact Cel.frA (hm1) | exact Cel.frA (hatx _ _ rfl))) rfl ?_
    refine TL.open rfl rfl ?_
    refine TL.call (g := 27) rfl go_27 rfl (fun w1 k1 => contains_c x.kd w1 hk (k1.get (e := .fr τ) (by first | exact P0 | exact P1 | exact P2 | exact P3 | exact P4 | exact P5 | exact P6))) rfl ?_
    refine TL.val ((by first | exact OpV.pick_t rfl rfl | exact OpV.pick_f rfl rfl)) rfl ?_
    refine TL.nil ?_
    refine TE.sub (.cons (t := 1) rfl <| .cons (t := 2) rfl <| .cons (t := 6) rfl <| .cons (t := 10) rfl <| .cons (t := 21) rfl <| .cons (t := 22) rfl <| .cons (t := 23) rfl <| .cons (t := 36) rfl <| .nil) ?_
    refine TE.next ?_
    refine T.cond rfl ?_ ?_
    ·
     intro ht36
     try simp only [decide_eq_true_eq, decide_eq_false_iff_not, beq_iff_eq, beq_eq_false_iff_ne, bne_iff_ne, bne_eq_false_iff_eq, Bool.not_eq_true', Bool.not_eq_false', ne_eq] at ht36
     have hp : nextP line ks x = true := by rw [nextP, decide_eq_true hg31, ht36]; rfl
     have hO : nextO line ks xs = some x := find_at hR.2 hx hp
     refine T.seq ?_
     refine T.region ?_
     refine TL.val (OpV.loadA ag_31 rfl (by first | exact Cels.blk P0 rfl | exact Cels.blk P1 rfl | exact Cels.blk P2 rfl | exact Cels.blk P3 rfl | exact Cels.blk P4 rfl | exact Cels.frA (hm1) rfl | exact Cels.frA hatx rfl)) rfl ?_
     first
       | refine TL.storeAll rfl rfl szz_31 rfl rfl rfl (by first | exact P0 | exact P1 | exact P2 | exact P3 | exact P4) (by rfl) ?_
       | refine TL.store rfl rfl szz_31 rfl rfl rfl (by first | exact P0 | exact P1 | exact P2 | exact P3 | exact P4) (by first | exact Nat.le_of_ble_eq_true rfl | (simp; done) | (simp; omega)) (by simp only [Mk.l, putL, List.take_succ_cons, List.take_zero, List.drop_succ_cons, List.drop_zero, List.cons_append, List.nil_append, List.length_cons, List.length_nil, Nat.reduceAdd]; rfl) ?_
     refine TL.val (OpV.assign rfl) rfl ?_
     refine TL.nil ?_
     refine TE.sub (.cons (t := 6) rfl <| .cons (t := 7) rfl <| .nil) ?_
     refine TE.next ?_
     refine T.ret ?_
     refine TE.out_ret ?_
     refine TE.pass_ret ?_
     refine TE.pass_ret ?_
     refine TE.out_ret ?_
     refine TE.pass_ret ?_
     refine TE.retN rfl (.cons (ResV.cellA rfl ag_31 (by first | exact Cels.blk P0 rfl | exact Cels.blk P1 rfl | exact Cels.blk P2 rfl | exact Cels.blk P3 rfl | exact Cels.blk P4 rfl | exact Cels.frA (hm1) rfl | exact Cels.frA hatx rfl)) <| .cons (ResV.tmp rfl) <| .nil) ?_
     exact fun w1 k1 => ⟨by rw [hO, (fnd_some (by simpa using ht15)).1, (fnd_some (by simpa using ht15)).2], k1.bel⟩
    ·
     intro ht36
     try simp only [decide_eq_true_eq, decide_eq_false_iff_not, beq_iff_eq, beq_eq_false_iff_ne, bne_iff_ne, bne_eq_false_iff_eq, Bool.not_eq_true', Bool.not_eq_false', ne_eq] at ht36
     have hp : nextP line ks x = false := by rw [nextP, ht36, Bool.and_false]
     refine T.skip ?_
     refine TE.out ?_
     refine TE.next ?_
     refine T.region ?_
     refine TL.val (OpV.add rfl rfl (by first | exact IntWalk.i64_in _ ⟨by omega, by omega⟩ | rfl)) rfl ?_
     refine TL.val (OpV.move rfl) rfl ?_
     refine TL.nil ?_
     exact TE.meet (i + 1) ⟨⟨by omega, find_on hR.2 hx hp⟩, by omega⟩ (.cons (t := 1) (by first | rfl | (simp [lk]; done)) <| .cons (t := 2) (by first | rfl | (simp [lk]; done)) <| .cons (t := 6) (by first | rfl | (simp [lk]; done)) <| .cons (t := 21) (by first | rfl | (simp [lk]; done)) <| .cons (t := 22) (by first | rfl | (simp [lk]; done)) <| .cons (t := 23) (by first | rfl | (simp [lk]; done)) <| .nil) (Perm.kle (.cons (by first | exact P0 | exact P1 | exact P2 | exact P3 | exact P4 | exact P5 | exact P6) (.cons (by first | exact P0 | exact P1 | exact P2 | exact P3 | exact P4 | exact P5 | exact P6) (.cons (by first | exact P0 | exact P1 | exact P2 | exact P3 | exact P4 | exact P5 | exact P6) .nil))))
   ·
    intro hg31
    try simp only [decide_eq_true_eq, decide_eq_false_iff_not, beq_iff_eq, beq_eq_false_iff_ne, bne_iff_ne, bne_eq_false_iff_eq, Bool.not_eq_true', Bool.not_eq_false', ne_eq] at hg31
    have hp : nextP line ks x = false := by rw [nextP, decide_eq_false hg31]; rfl
    refine TL.shut rfl rfl ?_
    refine TL.shut rfl rfl ?_
    refine TL.shut rfl rfl ?_
    refine TL.shut rfl rfl ?_
    refine TL.val ((by first | exact OpV.pick_t rfl rfl | exact OpV.pick_f rfl rfl)) rfl ?_
    refine TL.nil ?_
    refine TE.sub (.cons (t := 1) rfl <| .cons (t := 2) rfl <| .cons (t := 6) rfl <| .cons (t := 10) rfl <| .cons (t := 21) rfl <| .cons (t := 22) rfl <| .cons (t := 23) rfl <| .cons (t := 36) rfl <| .nil) ?_
    refine TE.next ?_
    refine T.no rfl ?_
    refine T.skip ?_
    refine TE.out ?_
    refine TE.next ?_
    refine T.region ?_
    refine TL.val (OpV.add rfl rfl (by first | exact IntWalk.i64_in _ ⟨by omega, by omega⟩ | rfl)) rfl ?_
    refine TL.val (OpV.move rfl) rfl ?_
    refine TL.nil ?_
    exact TE.meet (i + 1) ⟨⟨by omega, find_on hR.2 hx hp⟩, by omega⟩ (.cons (t := 1) (by first | rfl | (simp [lk]; done)) <| .cons (t := 2) (by first | rfl | (simp [lk]; done)) <| .cons (t := 6) (by first | rfl | (simp [lk]; done)) <| .cons (t := 21) (by first | rfl | (simp [lk]; done)) <| .cons (t := 22) (by first | rfl | (simp [lk]; done)) <| .cons (t := 23) (by first | rfl | (simp [lk]; done)) <| .nil) (Perm.kle (.cons (by first | exact P0 | exact P1 | exact P2 | exact P3 | exact P4 | exact P5 | exact P6) (.cons (by first | exact P0 | exact P1 | exact P2 | exact P3 | exact P4 | exact P5 | exact P6) (.cons (by first | exact P0 | exact P1 | exact P2 | exact P3 | exact P4 | exact P5 | exact P6) .nil))))
  ·
   intro ht24
   try simp only [decide_eq_true_eq, decide_eq_false_iff_not, beq_iff_eq, beq_eq_false_iff_ne, bne_iff_ne, bne_eq_false_iff_eq, Bool.not_eq_true', Bool.not_eq_false', ne_eq] at ht24
   have hO : nextO line ks xs = none := by have h9 := hR.2; rwa [List.take_of_length_le (by omega)] at h9
   refine T.exit ?_
   refine TE.pass_exit ?_
   refine TE.pass_exit ?_
   refine TE.here ?_
   refine TE.next ?_
   refine T.seq ?_
   refine T.region ?_
   refine TL.val (OpV.build (qs := #[]) (fun _ _ => by simp) (bld_31)) rfl ?_
   first
     | refine TL.storeAll rfl rfl szz_31 rfl rfl rfl (by first | exact P0 | exact P1 | exact P2 | exact P3 | exact P4) (by rfl) ?_
     | refine TL.store rfl rfl szz_31 rfl rfl rfl (by first | exact P0 | exact P1 | exact P2 | exact P3 | exact P4) (by first | exact Nat.le_of_ble_eq_true rfl | (simp; done) | (simp; omega)) (by simp only [Mk.l, putL, List.take_succ_cons, List.take_zero, List.drop_succ_cons, List.drop_zero, List.cons_append, List.nil_append, List.length_cons, List.length_nil, Nat.reduceAdd]; rfl) ?_
   refine TL.val (OpV.assign rfl) rfl ?_
   refine TL.nil ?_
   refine TE.sub (.cons (t := 6) rfl <| .cons (t := 7) rfl <| .nil) ?_
   refine TE.next ?_
   refine T.ret ?_
   refine TE.retN rfl (.cons (ResV.cellA rfl ag_31 (by first | exact Cels.blk P0 rfl | exact Cels.blk P1 rfl | exact Cels.blk P2 rfl | exact Cels.blk P3 rfl | exact Cels.blk P4 rfl | exact Cels.frA (hm1) rfl | exact Cels.frA hatx rfl)) <| .cons (ResV.tmp rfl) <| .nil) ?_
   exact fun w1 k1 => ⟨by rw [hO, (fnd_none (by simpa using ht15)).1, (fnd_none (by simpa using ht15)).2], k1.bel⟩
set_option maxRecDepth 100000 in
set_option maxHeartbeats 400000 in
theorem next_nil (line : Int) (v : Value) (w : World) : Calls Try.prog 13 #[.pointer none, .int .i64 line, v] w (Ret (.tuple #[.agg Mk.zero.l.toArray, .int .i64 1]) w) := by
 refine calls_T (vs := [.pointer none, .int .i64 line, v]) (L0 := [(0, .pointer none), (1, .int .i64 line), (2, v)]) Try.func13 rfl rfl rfl rfl (KOk.none w) ?_
 refine T.seq ?_
 refine T.region ?_
 refine TL.alloc zo_31 rfl ?_
 intro b6
 refine TL.val (OpV.assign rfl) rfl ?_
 refine TL.nil ?_
 refine TE.next ?_
 refine T.seq ?_
 refine T.seq ?_
 refine T.region ?_
 refine TL.val (OpV.move rfl) rfl ?_
 refine TL.val (OpV.move rfl) rfl ?_
 refine TL.call (g := 26) rfl go_26 rfl (fun w1 k1 => check_nil v w1) rfl ?_
 refine TL.val (OpV.assign rfl) rfl ?_
 refine TL.nil ?_
 refine TE.next ?_
 refine T.seq ?_
 refine T.region ?_
 refine TL.val (OpV.move rfl) rfl ?_
 refine TL.val (OpV.neq rfl rfl) rfl ?_
 refine TL.said (t := 15) rfl (show _ = Value.bool true from congrArg Value.bool (rfl)) ?_
 refine TL.nil ?_
 refine TE.next ?_
 refine T.yes rfl ?_
 refine T.seq ?_
 refine T.region ?_
 refine TL.val (OpV.build (qs := #[]) (fun _ _ => by simp) (bld_31)) rfl ?_
 refine TL.val (OpV.move rfl) rfl ?_
 first
   | refine TL.storeAll rfl rfl szz_31 rfl rfl rfl (by first | exact P0 | exact P1 | exact P2 | exact P3) (by rfl) ?_
   | refine TL.store rfl rfl szz_31 rfl rfl rfl (by first | exact P0 | exact P1 | exact P2 | exact P3) (by first | exact Nat.le_of_ble_eq_true rfl | (simp; done) | (simp; omega)) (by simp only [Mk.l, putL, List.take_succ_cons, List.take_zero, List.drop_succ_cons, List.drop_zero, List.cons_append, List.nil_append, List.length_cons, List.length_nil, Nat.reduceAdd]; rfl) ?_
 refine TL.val (OpV.assign rfl) rfl ?_
 refine TL.nil ?_
 refine TE.sub (.cons (t := 6) rfl <| .cons (t := 7) rfl <| .nil) ?_
 refine TE.next ?_
 refine T.ret ?_
 refine TE.pass_ret ?_
 refine TE.retN rfl (.cons (ResV.cellA rfl ag_31 (by first | exact Cels.blk P0 rfl | exact Cels.blk P1 rfl | exact Cels.blk P2 rfl | exact Cels.blk P3 rfl)) <| .cons (ResV.tmp rfl) <| .nil) ?_
 exact fun w1 k1 => ⟨rfl, k1.bel⟩
end Go.Proofs.Ytaoepaonjeilgaa
