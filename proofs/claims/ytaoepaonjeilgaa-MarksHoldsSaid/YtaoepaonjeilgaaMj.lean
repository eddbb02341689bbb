/-
  The walks of the laws' helpers. No condition.
-/
import Derived.Test.YtaoepaonjeilgaaMi
namespace Go.Proofs.Ytaoepaonjeilgaa
open Go.RowKit
set_option linter.unusedSimpArgs false
set_option linter.unusedVariables false
theorem eg_31 : Try.prog.eqGuardType Try.prog.depth 31 = false := by kernel_rfl
theorem go_13 : isGo Try.prog 13 = true := by kernel_rfl
theorem go_15 : isGo Try.prog 15 = true := by kernel_rfl
theorem go_17 : isGo Try.prog 17 = true := by kernel_rfl
theorem go_32 : isGo Try.prog 32 = true := by kernel_rfl
set_option maxRecDepth 100000 in
set_option maxHeartbeats 400000 in
theorem evicts_c {w0 w : World} {bm : Nat} {A : Option Addr} {c : Nat} {xs : List Mk} {K : List Ent} (line want no : Int) (hA : A = none → c = 0) (hn : xs.length ≤ 1000) (k : KOk w0 (.blk bm [.slice A xs.length c] 26 :: .row 31 3 A xs.length c (ml xs) :: K) w) : Calls Try.prog 12 #[.pointer (some ⟨bm, 0, none⟩), .int .i64 line, .int .i64 want, .int .i64 no] w (fun e w' => ∃ i : Option Addr × Nat, e = .returned (.bool ((evR line xs == want) && (evE line == no))) ∧ (i.1 = none → i.2 = 0) ∧ KOk w0 (.blk bm [.slice i.1 (evX line xs).length i.2] 26 :: .row 31 3 i.1 (evX line xs).length i.2 (ml (evX line xs)) :: K) w') := by
 refine calls_T (vs := [.pointer (some ⟨bm, 0, none⟩), .int .i64 line, .int .i64 want, .int .i64 no]) (L0 := [(0, .pointer (some ⟨bm, 0, none⟩)), (1, .int .i64 line), (2, .int .i64 want), (3, .int .i64 no)]) Try.func12 rfl rfl rfl rfl (k) ?_
 refine T.seq ?_
 refine T.region ?_
 refine TL.val (OpV.assign rfl) rfl ?_
 refine TL.nil ?_
 refine TE.next ?_
 refine T.seq ?_
 refine T.region ?_
 refine TL.val (OpV.move rfl) rfl ?_
 refine TL.val (OpV.move rfl) rfl ?_
 refine TL.callx (g := 17) rfl go_17 rfl (fun wz kz => evict_c line hA hn kz) rfl ?_
 rintro ⟨A2, c2⟩ hA2
 refine TL.val (OpV.move rfl) rfl ?_
 refine TL.val (OpV.extract rfl rfl) rfl ?_
 refine TL.val (OpV.extract rfl rfl) rfl ?_
 refine TL.val (OpV.assign rfl) rfl ?_
 refine TL.val (OpV.assign rfl) rfl ?_
 refine TL.nil ?_
 refine TE.sub (.cons (t := 2) rfl <| .cons (t := 3) rfl <| .cons (t := 9) rfl <| .cons (t := 10) rfl <| .nil) ?_
 refine TE.next ?_
 refine T.seq ?_
 refine T.region ?_
 refine TL.val (OpV.move rfl) rfl ?_
 refine TL.val (OpV.move rfl) rfl ?_
 refine TL.val (OpV.eql rfl rfl) rfl ?_
 refine TL.val (OpV.move rfl) rfl ?_
 refine TL.part (t := 20) rfl ?_ ?_
 ·
  intro hg20
  refine TL.open rfl rfl ?_
  refine TL.val (OpV.move rfl) rfl ?_
  refine TL.open rfl rfl ?_
  refine TL.val (OpV.move rfl) rfl ?_
  refine TL.open rfl rfl ?_
  refine TL.val (OpV.eql rfl rfl) rfl ?_
  refine TL.val ((by first | exact OpV.pick_t rfl rfl | exact OpV.pick_f rfl rfl)) rfl ?_
  refine TL.val (OpV.assign rfl) rfl ?_
  refine TL.nil ?_
  refine TE.sub (.cons (t := 8) rfl <| .nil) ?_
  refine TE.next ?_
  refine T.ret ?_
  refine TE.ret1 rfl (ResV.tmp rfl) ?_
  exact fun w1 k1 => ⟨(A2, c2), ret_b (w := w) (w' := w) (by simp [hg20]), hA2, k1⟩
 ·
  intro hg20
  refine TL.shut rfl rfl ?_
  refine TL.shut rfl rfl ?_
  refine TL.shut rfl rfl ?_
  refine TL.val ((by first | exact OpV.pick_t rfl rfl | exact OpV.pick_f rfl rfl)) rfl ?_
  refine TL.val (OpV.assign rfl) rfl ?_
  refine TL.nil ?_
  refine TE.sub (.cons (t := 8) rfl <| .nil) ?_
  refine TE.next ?_
  refine T.ret ?_
  refine TE.ret1 rfl (ResV.tmp rfl) ?_
  exact fun w1 k1 => ⟨(A2, c2), ret_b (w := w) (w' := w) (by simp [hg20]), hA2, k1⟩
set_option maxRecDepth 100000 in
set_option maxHeartbeats 400000 in
theorem evicts_nil (line want no : Int) (w : World) : Calls Try.prog 12 #[.pointer none, .int .i64 line, .int .i64 want, .int .i64 no] w (Ret (.bool (((0 : Int) == want) && ((1 : Int) == no))) w) := by
 refine calls_T (vs := [.pointer none, .int .i64 line, .int .i64 want, .int .i64 no]) (L0 := [(0, .pointer none), (1, .int .i64 line), (2, .int .i64 want), (3, .int .i64 no)]) Try.func12 rfl rfl rfl rfl (KOk.none w) ?_
 refine T.seq ?_
 refine T.region ?_
 refine TL.val (OpV.assign rfl) rfl ?_
 refine TL.nil ?_
 refine TE.next ?_
 refine T.seq ?_
 refine T.region ?_
 refine TL.val (OpV.move rfl) rfl ?_
 refine TL.val (OpV.move rfl) rfl ?_
 refine TL.call (g := 17) rfl go_17 rfl (fun w1 k1 => evict_nil line w1) rfl ?_
 refine TL.val (OpV.move rfl) rfl ?_
 refine TL.val (OpV.extract rfl rfl) rfl ?_
 refine TL.val (OpV.extract rfl rfl) rfl ?_
 refine TL.val (OpV.assign rfl) rfl ?_
 refine TL.val (OpV.assign rfl) rfl ?_
 refine TL.nil ?_
 refine TE.sub (.cons (t := 2) rfl <| .cons (t := 3) rfl <| .cons (t := 9) rfl <| .cons (t := 10) rfl <| .nil) ?_
 refine TE.next ?_
 refine T.seq ?_
 refine T.region ?_
 refine TL.val (OpV.move rfl) rfl ?_
 refine TL.val (OpV.move rfl) rfl ?_
 refine TL.val (OpV.eql rfl rfl) rfl ?_
 refine TL.val (OpV.move rfl) rfl ?_
 refine TL.part (t := 20) rfl ?_ ?_
 ·
  intro hg20
  refine TL.open rfl rfl ?_
  refine TL.val (OpV.move rfl) rfl ?_
  refine TL.open rfl rfl ?_
  refine TL.val (OpV.move rfl) rfl ?_
  refine TL.open rfl rfl ?_
  refine TL.val (OpV.eql rfl rfl) rfl ?_
  refine TL.val ((by first | exact OpV.pick_t rfl rfl | exact OpV.pick_f rfl rfl)) rfl ?_
  refine TL.val (OpV.assign rfl) rfl ?_
  refine TL.nil ?_
  refine TE.sub (.cons (t := 8) rfl <| .nil) ?_
  refine TE.next ?_
  refine T.ret ?_
  refine TE.ret1 rfl (ResV.tmp rfl) ?_
  exact fun w1 k1 => ⟨ret_b (w := w) (w' := w) (by simp [hg20]), k1.bel⟩
 ·
  intro hg20
  refine TL.shut rfl rfl ?_
  refine TL.shut rfl rfl ?_
  refine TL.shut rfl rfl ?_
  refine TL.val ((by first | exact OpV.pick_t rfl rfl | exact OpV.pick_f rfl rfl)) rfl ?_
  refine TL.val (OpV.assign rfl) rfl ?_
  refine TL.nil ?_
  refine TE.sub (.cons (t := 8) rfl <| .nil) ?_
  refine TE.next ?_
  refine T.ret ?_
  refine TE.ret1 rfl (ResV.tmp rfl) ?_
  exact fun w1 k1 => ⟨ret_b (w := w) (w' := w) (by simp [hg20]), k1.bel⟩
set_option maxRecDepth 100000 in
set_option maxHeartbeats 400000 in
theorem nexts_c {σ τ : Nat → Option Obj} {bm : Nat} {xs : List Mk} {A2 : Option Addr} {n2 c2 : Nat} {ks : List Int} (line : Int) (want : Mk) (no : Int) (w : World) (hm : MoR σ bm xs) (hk : IsR τ A2 n2 c2 ks) (hs : ∀ b o, σ b = some o → w.heap[b]? = some o) (ht : ∀ b o, τ b = some o → w.heap[b]? = some o) : Calls Try.prog 14 #[.pointer (some ⟨bm, 0, none⟩), .int .i64 line, .slice A2 n2 c2, .agg want.l.toArray, .int .i64 no] w (Ret (.bool (decide (fndV (nextO line ks xs) ks = want) && (fndE (nextO line ks xs) ks == no))) w) := by
 refine calls_T (vs := [.pointer (some ⟨bm, 0, none⟩), .int .i64 line, .slice A2 n2 c2, .agg want.l.toArray, .int .i64 no]) (L0 := [(0, .pointer (some ⟨bm, 0, none⟩)), (1, .int .i64 line), (2, .slice A2 n2 c2), (3, .agg want.l.toArray), (4, .int .i64 no)]) Try.func14 rfl rfl rfl rfl (KOk.frs hs ht) ?_
 refine T.seq ?_
 refine T.region ?_
 refine TL.boxA rfl rfl ?_
 intro b8
 refine TL.val (OpV.assign rfl) rfl ?_
 refine TL.nil ?_
 refine TE.next ?_
 refine T.seq ?_
 refine T.region ?_
 refine TL.val (OpV.move rfl) rfl ?_
 refine TL.val (OpV.move rfl) rfl ?_
 refine TL.val (OpV.move rfl) rfl ?_
 refine TL.call (g := 13) rfl go_13 rfl (fun w1 k1 => next_c line w1 hm hk (k1.get (e := .fr σ) (by first | exact P0 | exact P1 | exact P2 | exact P3 | exact P4 | exact P5 | exact P6)) (k1.get (e := .fr τ) (by first | exact P0 | exact P1 | exact P2 | exact P3 | exact P4 | exact P5 | exact P6))) rfl ?_
 refine TL.val (OpV.move rfl) rfl ?_
 refine TL.val (OpV.extract rfl rfl) rfl ?_
 refine TL.val (OpV.extract rfl rfl) rfl ?_
 refine TL.alloc zo_31 rfl ?_
 intro b11
 first
   | refine TL.storeAll rfl rfl szz_31 rfl rfl rfl (by first | exact P0 | exact P1 | exact P2 | exact P3 | exact P4) (by rfl) ?_
   | refine TL.store rfl rfl szz_31 rfl rfl rfl (by first | exact P0 | exact P1 | exact P2 | exact P3 | exact P4) (by first | exact Nat.le_of_ble_eq_true rfl | (simp; done) | (simp; omega)) (by simp only [Mk.l, putL, List.take_succ_cons, List.take_zero, List.drop_succ_cons, List.drop_zero, List.cons_append, List.nil_append, List.length_cons, List.length_nil, Nat.reduceAdd]; rfl) ?_
 refine TL.val (OpV.assign rfl) rfl ?_
 refine TL.nil ?_
 refine TE.sub (.cons (t := 4) rfl <| .cons (t := 8) rfl <| .cons (t := 11) rfl <| .cons (t := 12) rfl <| .nil) ?_
 refine TE.next ?_
 refine T.seq ?_
 refine T.region ?_
 refine TL.val (OpV.loadA ag_31 rfl (Cels.blkAt (fndV (nextO line ks xs) ks).l (by first | exact P0 | exact P1 | exact P2 | exact P3 | exact P4 | exact P5 | exact P6) rfl rfl)) rfl ?_
 refine TL.val (OpV.loadA ag_31 rfl (Cels.blkAt want.l (by first | exact P0 | exact P1 | exact P2 | exact P3 | exact P4 | exact P5 | exact P6) rfl rfl)) rfl ?_
 refine TL.val (OpV.aeql rfl rfl eg_31 (eq_31 (fndV (nextO line ks xs) ks) want)) rfl ?_
 refine TL.val (OpV.move rfl) rfl ?_
 refine TL.part (t := 23) rfl ?_ ?_
 ·
  intro hg23
  refine TL.open rfl rfl ?_
  refine TL.val (OpV.move rfl) rfl ?_
  refine TL.open rfl rfl ?_
  refine TL.val (OpV.move rfl) rfl ?_
  refine TL.open rfl rfl ?_
  refine TL.val (OpV.eql rfl rfl) rfl ?_
  refine TL.val ((by first | exact OpV.pick_t rfl rfl | exact OpV.pick_f rfl rfl)) rfl ?_
  refine TL.val (OpV.assign rfl) rfl ?_
  refine TL.nil ?_
  refine TE.sub (.cons (t := 10) rfl <| .nil) ?_
  refine TE.next ?_
  refine T.ret ?_
  refine TE.ret1 rfl (ResV.tmp rfl) ?_
  exact fun w1 k1 => ⟨ret_b (w := w) (w' := w) (by rw [hg23] <;> rfl), k1.bel⟩
 ·
  intro hg23
  refine TL.shut rfl rfl ?_
  refine TL.shut rfl rfl ?_
  refine TL.shut rfl rfl ?_
  refine TL.val ((by first | exact OpV.pick_t rfl rfl | exact OpV.pick_f rfl rfl)) rfl ?_
  refine TL.val (OpV.assign rfl) rfl ?_
  refine TL.nil ?_
  refine TE.sub (.cons (t := 10) rfl <| .nil) ?_
  refine TE.next ?_
  refine T.ret ?_
  refine TE.ret1 rfl (ResV.tmp rfl) ?_
  exact fun w1 k1 => ⟨ret_b (w := w) (w' := w) (by rw [hg23] <;> rfl), k1.bel⟩
set_option maxRecDepth 100000 in
set_option maxHeartbeats 400000 in
theorem nexts_nil (line : Int) (A : Option Addr) (n c : Nat) (want : Mk) (no : Int) (w : World) : Calls Try.prog 14 #[.pointer none, .int .i64 line, .slice A n c, .agg want.l.toArray, .int .i64 no] w (Ret (.bool (decide (Mk.zero = want) && ((1 : Int) == no))) w) := by
 refine calls_T (vs := [.pointer none, .int .i64 line, .slice A n c, .agg want.l.toArray, .int .i64 no]) (L0 := [(0, .pointer none), (1, .int .i64 line), (2, .slice A n c), (3, .agg want.l.toArray), (4, .int .i64 no)]) Try.func14 rfl rfl rfl rfl (KOk.none w) ?_
 refine T.seq ?_
 refine T.region ?_
 refine TL.boxA rfl rfl ?_
 intro b8
 refine TL.val (OpV.assign rfl) rfl ?_
 refine TL.nil ?_
 refine TE.next ?_
 refine T.seq ?_
 refine T.region ?_
 refine TL.val (OpV.move rfl) rfl ?_
 refine TL.val (OpV.move rfl) rfl ?_
 refine TL.val (OpV.move rfl) rfl ?_
 refine TL.call (g := 13) rfl go_13 rfl (fun w1 k1 => next_nil line _ w1) rfl ?_
 refine TL.val (OpV.move rfl) rfl ?_
 refine TL.val (OpV.extract rfl rfl) rfl ?_
 refine TL.val (OpV.extract rfl rfl) rfl ?_
 refine TL.alloc zo_31 rfl ?_
 intro b11
 first
   | refine TL.storeAll rfl rfl szz_31 rfl rfl rfl (by first | exact P0 | exact P1 | exact P2 | exact P3 | exact P4) (by rfl) ?_
   | refine TL.store rfl rfl szz_31 rfl rfl rfl (by first | exact P0 | exact P1 | exact P2 | exact P3 | exact P4) (by first | exact Nat.le_of_ble_eq_true rfl | (simp; done) | (simp; omega)) (by simp only [Mk.l, putL, List.take_succ_cons, List.take_zero, List.drop_succ_cons, List.drop_zero, List.cons_append, List.nil_append, List.length_cons, List.length_nil, Nat.reduceAdd]; rfl) ?_
 refine TL.val (OpV.assign rfl) rfl ?_
 refine TL.nil ?_
 refine TE.sub (.cons (t := 4) rfl <| .cons (t := 8) rfl <| .cons (t := 11) rfl <| .cons (t := 12) rfl <| .nil) ?_
 refine TE.next ?_
 refine T.seq ?_
 refine T.region ?_
 refine TL.val (OpV.loadA ag_31 rfl (Cels.blkAt Mk.zero.l (by first | exact P0 | exact P1 | exact P2 | exact P3 | exact P4 | exact P5 | exact P6) rfl rfl)) rfl ?_
 refine TL.val (OpV.loadA ag_31 rfl (Cels.blkAt want.l (by first | exact P0 | exact P1 | exact P2 | exact P3 | exact P4 | exact P5 | exact P6) rfl rfl)) rfl ?_
 refine TL.val (OpV.aeql rfl rfl eg_31 (eq_31 Mk.zero want)) rfl ?_
 refine TL.val (OpV.move rfl) rfl ?_
 refine TL.part (t := 23) rfl ?_ ?_
 ·
  intro hg23
  refine TL.open rfl rfl ?_
  refine TL.val (OpV.move rfl) rfl ?_
  refine TL.open rfl rfl ?_
  refine TL.val (OpV.move rfl) rfl ?_
  refine TL.open rfl rfl ?_
  refine TL.val (OpV.eql rfl rfl) rfl ?_
  refine TL.val ((by first | exact OpV.pick_t rfl rfl | exact OpV.pick_f rfl rfl)) rfl ?_
  refine TL.val (OpV.assign rfl) rfl ?_
  refine TL.nil ?_
  refine TE.sub (.cons (t := 10) rfl <| .nil) ?_
  refine TE.next ?_
  refine T.ret ?_
  refine TE.ret1 rfl (ResV.tmp rfl) ?_
  exact fun w1 k1 => ⟨ret_b (w := w) (w' := w) (by rw [hg23] <;> rfl), k1.bel⟩
 ·
  intro hg23
  refine TL.shut rfl rfl ?_
  refine TL.shut rfl rfl ?_
  refine TL.shut rfl rfl ?_
  refine TL.val ((by first | exact OpV.pick_t rfl rfl | exact OpV.pick_f rfl rfl)) rfl ?_
  refine TL.val (OpV.assign rfl) rfl ?_
  refine TL.nil ?_
  refine TE.sub (.cons (t := 10) rfl <| .nil) ?_
  refine TE.next ?_
  refine T.ret ?_
  refine TE.ret1 rfl (ResV.tmp rfl) ?_
  exact fun w1 k1 => ⟨ret_b (w := w) (w' := w) (by rw [hg23] <;> rfl), k1.bel⟩
set_option maxRecDepth 100000 in
set_option maxHeartbeats 400000 in
theorem prevs_c {σ τ : Nat → Option Obj} {bm : Nat} {xs : List Mk} {A2 : Option Addr} {n2 c2 : Nat} {ks : List Int} (line : Int) (want : Mk) (no : Int) (w : World) (hm : MoR σ bm xs) (hk : IsR τ A2 n2 c2 ks) (hn : xs.length ≤ 1000) (hs : ∀ b o, σ b = some o → w.heap[b]? = some o) (ht : ∀ b o, τ b = some o → w.heap[b]? = some o) : Calls Try.prog 19 #[.pointer (some ⟨bm, 0, none⟩), .int .i64 line, .slice A2 n2 c2, .agg want.l.toArray, .int .i64 no] w (Ret (.bool (decide (fndV (prevO line ks xs) ks = want) && (fndE (prevO line ks xs) ks == no))) w) := by
 refine calls_T (vs := [.pointer (some ⟨bm, 0, none⟩), .int .i64 line, .slice A2 n2 c2, .agg want.l.toArray, .int .i64 no]) (L0 := [(0, .pointer (some ⟨bm, 0, none⟩)), (1, .int .i64 line), (2, .slice A2 n2 c2), (3, .agg want.l.toArray), (4, .int .i64 no)]) Try.func19 rfl rfl rfl rfl (KOk.frs hs ht) ?_
 refine T.seq ?_
 refine T.region ?_
 refine TL.boxA rfl rfl ?_
 intro b8
 refine TL.val (OpV.assign rfl) rfl ?_
 refine TL.nil ?_
 refine TE.next ?_
 refine T.seq ?_
 refine T.region ?_
 refine TL.val (OpV.move rfl) rfl ?_
 refine TL.val (OpV.move rfl) rfl ?_
 refine TL.val (OpV.move rfl) rfl ?_
 refine TL.call (g := 15) rfl go_15 rfl (fun w1 k1 => prev_c line w1 hm hk hn (k1.get (e := .fr σ) (by first | exact P0 | exact P1 | exact P2 | exact P3 | exact P4 | exact P5 | exact P6)) (k1.get (e := .fr τ) (by first | exact P0 | exact P1 | exact P2 | exact P3 | exact P4 | exact P5 | exact P6))) rfl ?_
 refine TL.val (OpV.move rfl) rfl ?_
 refine TL.val (OpV.extract rfl rfl) rfl ?_
 refine TL.val (OpV.extract rfl rfl) rfl ?_
 refine TL.alloc zo_31 rfl ?_
 intro b11
 first
   | refine TL.storeAll rfl rfl szz_31 rfl rfl rfl (by first | exact P0 | exact P1 | exact P2 | exact P3 | exact P4) (by rfl) ?_
   | refine TL.store rfl rfl szz_31 rfl rfl rfl (by first | exact P0 | exact P1 | exact P2 | exact P3 | exact P4) (by first | exact Nat.le_of_ble_eq_true rfl | (simp; done) | (simp; omega)) (by simp only [Mk.l, putL, List.take_succ_cons, List.take_zero, List.drop_succ_cons, List.drop_zero, List.cons_append, List.nil_append, List.length_cons, List.length_nil, Nat.reduceAdd]; rfl) ?_
 refine TL.val (OpV.assign rfl) rfl ?_
 refine TL.nil ?_
 refine TE.sub (.cons (t := 4) rfl <| .cons (t := 8) rfl <| .cons (t := 11) rfl <| .cons (t := 12) rfl <| .nil) ?_
 refine TE.next ?_
 refine T.seq ?_
 refine T.region ?_
 refine TL.val (OpV.loadA ag_31 rfl (Cels.blkAt (fndV (prevO line ks xs) ks).l (by first | exact P0 | exact P1 | exact P2 | exact P3 | exact P4 | exact P5 | exact P6) rfl rfl)) rfl ?_
 refine TL.val (OpV.loadA ag_31 rfl (Cels.blkAt want.l (by first | exact P0 | exact P1 | exact P2 | exact P3 | exact P4 | exact P5 | exact P6) rfl rfl)) rfl ?_
 refine TL.val (OpV.aeql rfl rfl eg_31 (eq_31 (fndV (prevO line ks xs) ks) want)) rfl ?_
 refine TL.val (OpV.move rfl) rfl ?_
 refine TL.part (t := 23) rfl ?_ ?_
 ·
  intro hg23
  refine TL.open rfl rfl ?_
  refine TL.val (OpV.move rfl) rfl ?_
  refine TL.open rfl rfl ?_
  refine TL.val (OpV.move rfl) rfl ?_
  refine TL.open rfl rfl ?_
  refine TL.val (OpV.eql rfl rfl) rfl ?_
  refine TL.val ((by first | exact OpV.pick_t rfl rfl | exact OpV.pick_f rfl rfl)) rfl ?_
  refine TL.val (OpV.assign rfl) rfl ?_
  refine TL.nil ?_
  refine TE.sub (.cons (t := 10) rfl <| .nil) ?_
  refine TE.next ?_
  refine T.ret ?_
  refine TE.ret1 rfl (ResV.tmp rfl) ?_
  exact fun w1 k1 => ⟨ret_b (w := w) (w' := w) (by rw [hg23] <;> rfl), k1.bel⟩
 ·
  intro hg23
  refine TL.shut rfl rfl ?_
  refine TL.shut rfl rfl ?_
  refine TL.shut rfl rfl ?_
  refine TL.val ((by first | exact OpV.pick_t rfl rfl | exact OpV.pick_f rfl rfl)) rfl ?_
  refine TL.val (OpV.assign rfl) rfl ?_
  refine TL.nil ?_
  refine TE.sub (.cons (t := 10) rfl <| .nil) ?_
  refine TE.next ?_
  refine T.ret ?_
  refine TE.ret1 rfl (ResV.tmp rfl) ?_
  exact fun w1 k1 => ⟨ret_b (w := w) (w' := w) (by rw [hg23] <;> rfl), k1.bel⟩
set_option maxRecDepth 100000 in
set_option maxHeartbeats 400000 in
theorem prevs_nil (line : Int) (A : Option Addr) (n c : Nat) (want : Mk) (no : Int) (w : World) : Calls Try.prog 19 #[.pointer none, .int .i64 line, .slice A n c, .agg want.l.toArray, .int .i64 no] w (Ret (.bool (decide (Mk.zero = want) && ((1 : Int) == no))) w) := by
 refine calls_T (vs := [.pointer none, .int .i64 line, .slice A n c, .agg want.l.toArray, .int .i64 no]) (L0 := [(0, .pointer none), (1, .int .i64 line), (2, .slice A n c), (3, .agg want.l.toArray), (4, .int .i64 no)]) Try.func19 rfl rfl rfl rfl (KOk.none w) ?_
 refine T.seq ?_
 refine T.region ?_
 refine TL.boxA rfl rfl ?_
 intro b8
 refine TL.val (OpV.assign rfl) rfl ?_
 refine TL.nil ?_
 refine TE.next ?_
 refine T.seq ?_
 refine T.region ?_
 refine TL.val (OpV.move rfl) rfl ?_
 refine TL.val (OpV.move rfl) rfl ?_
 refine TL.val (OpV.move rfl) rfl ?_
 refine TL.call (g := 15) rfl go_15 rfl (fun w1 k1 => prev_nil line A n c w1) rfl ?_
 refine TL.val (OpV.move rfl) rfl ?_
 refine TL.val (OpV.extract rfl rfl) rfl ?_
 refine TL.val (OpV.extract rfl rfl) rfl ?_
 refine TL.alloc zo_31 rfl ?_
 intro b11
 first
   | refine TL.storeAll rfl rfl szz_31 rfl rfl rfl (by first | exact P0 | exact P1 | exact P2 | exact P3 | exact P4) (by rfl) ?_
   | refine TL.store rfl rfl szz_31 rfl rfl rfl (by first | exact P0 | exact P1 | exact P2 | exact P3 | exact P4) (by first | exact Nat.le_of_ble_eq_true rfl | (simp; done) | (simp; omega)) (by simp only [Mk.l, putL, List.take_succ_cons, List.take_zero, List.drop_succ_cons, List.drop_zero, List.cons_append, List.nil_append, List.length_cons, List.length_nil, Nat.reduceAdd]; rfl) ?_
 refine TL.val (OpV.assign rfl) rfl ?_
 refine TL.nil ?_
 refine TE.sub (.cons (t := 4) rfl <| .cons (t := 8) rfl <| .cons (t := 11) rfl <| .cons (t := 12) rfl <| .nil) ?_
 refine TE.next ?_
 refine T.seq ?_
 refine T.region ?_
 refine TL.val (OpV.loadA ag_31 rfl (Cels.blkAt Mk.zero.l (by first | exact P0 | exact P1 | exact P2 | exact P3 | exact P4 | exact P5 | exact P6) rfl rfl)) rfl ?_
 refine TL.val (OpV.loadA ag_31 rfl (Cels.blkAt want.l (by first | exact P0 | exact P1 | exact P2 | exact P3 | exact P4 | exact P5 | exact P6) rfl rfl)) rfl ?_
 refine TL.val (OpV.aeql rfl rfl eg_31 (eq_31 Mk.zero want)) rfl ?_
 refine TL.val (OpV.move rfl) rfl ?_
 refine TL.part (t := 23) rfl ?_ ?_
 ·
  intro hg23
  refine TL.open rfl rfl ?_
  refine TL.val (OpV.move rfl) rfl ?_
  refine TL.open rfl rfl ?_
  refine TL.val (OpV.move rfl) rfl ?_
  refine TL.open rfl rfl ?_
  refine TL.val (OpV.eql rfl rfl) rfl ?_
  refine TL.val ((by first | exact OpV.pick_t rfl rfl | exact OpV.pick_f rfl rfl)) rfl ?_
  refine TL.val (OpV.assign rfl) rfl ?_
  refine TL.nil ?_
  refine TE.sub (.cons (t := 10) rfl <| .nil) ?_
  refine TE.next ?_
  refine T.ret ?_
  refine TE.ret1 rfl (ResV.tmp rfl) ?_
  exact fun w1 k1 => ⟨ret_b (w := w) (w' := w) (by rw [hg23] <;> rfl), k1.bel⟩
 ·
  intro hg23
  refine TL.shut rfl rfl ?_
  refine TL.shut rfl rfl ?_
  refine TL.shut rfl rfl ?_
  refine TL.val ((by first | exact OpV.pick_t rfl rfl | exact OpV.pick_f rfl rfl)) rfl ?_
  refine TL.val (OpV.assign rfl) rfl ?_
  refine TL.nil ?_
  refine TE.sub (.cons (t := 10) rfl <| .nil) ?_
  refine TE.next ?_
  refine T.ret ?_
  refine TE.ret1 rfl (ResV.tmp rfl) ?_
  exact fun w1 k1 => ⟨ret_b (w := w) (w' := w) (by rw [hg23] <;> rfl), k1.bel⟩
set_option maxRecDepth 100000 in
set_option maxHeartbeats 400000 in
theorem ats_c {σ : Nat → Option Obj} {bm : Nat} {xs : List Mk} (line : Int) (want : Cm) (no : Int) (w : World) (hm : MoR σ bm xs) (hn : xs.length ≤ 1000) (hs : ∀ b o, σ b = some o → w.heap[b]? = some o) : Calls Try.prog 22 #[.pointer (some ⟨bm, 0, none⟩), .int .i64 line, .agg want.l.toArray, .int .i64 no] w (Ret (.bool (decide (atV line xs = want) && (atE line xs == no))) w) := by
 refine calls_T (vs := [.pointer (some ⟨bm, 0, none⟩), .int .i64 line, .agg want.l.toArray, .int .i64 no]) (L0 := [(0, .pointer (some ⟨bm, 0, none⟩)), (1, .int .i64 line), (2, .agg want.l.toArray), (3, .int .i64 no)]) Try.func22 rfl rfl rfl rfl (KOk.fr1 hs) ?_
 refine T.seq ?_
 refine T.region ?_
 refine TL.boxA rfl rfl ?_
 intro b6
 refine TL.val (OpV.assign rfl) rfl ?_
 refine TL.nil ?_
 refine TE.next ?_
 refine T.seq ?_
 refine T.region ?_
 refine TL.val (OpV.move rfl) rfl ?_
 refine TL.val (OpV.move rfl) rfl ?_
 refine TL.call (g := 32) rfl go_32 rfl (fun w1 k1 => at_c line w1 hm hn (k1.get (e := .fr σ) (by first | exact P0 | exact P1 | exact P2 | exact P3 | exact P4 | exact P5 | exact P6))) rfl ?_
 refine TL.val (OpV.move rfl) rfl ?_
 refine TL.val (OpV.extract rfl rfl) rfl ?_
 refine TL.val (OpV.extract rfl rfl) rfl ?_
 refine TL.alloc zo_41 rfl ?_
 intro b9
 first
   | refine TL.storeAll rfl rfl szz_41 rfl rfl rfl (by first | exact P0 | exact P1 | exact P2 | exact P3 | exact P4) (by rfl) ?_
   | refine TL.store rfl rfl szz_41 rfl rfl rfl (by first | exact P0 | exact P1 | exact P2 | exact P3 | exact P4) (by first | exact Nat.le_of_ble_eq_true rfl | (simp; done) | (simp; omega)) (by simp only [Cm.l, putL, List.take_succ_cons, List.take_zero, List.drop_succ_cons, List.drop_zero, List.cons_append, List.nil_append, List.length_cons, List.length_nil, Nat.reduceAdd]; rfl) ?_
 refine TL.val (OpV.assign rfl) rfl ?_
 refine TL.nil ?_
 refine TE.sub (.cons (t := 3) rfl <| .cons (t := 6) rfl <| .cons (t := 9) rfl <| .cons (t := 10) rfl <| .nil) ?_
 refine TE.next ?_
 refine T.seq ?_
 refine T.region ?_
 refine TL.val (OpV.loadA ag_41 rfl (Cels.blkAt (atV line xs).l (by first | exact P0 | exact P1 | exact P2 | exact P3 | exact P4 | exact P5 | exact P6) rfl rfl)) rfl ?_
 refine TL.val (OpV.loadA ag_41 rfl (Cels.blkAt want.l (by first | exact P0 | exact P1 | exact P2 | exact P3 | exact P4 | exact P5 | exact P6) rfl rfl)) rfl ?_
 refine TL.val (OpV.aeql rfl rfl eg_41 (eq_41 (atV line xs) want)) rfl ?_
 refine TL.val (OpV.move rfl) rfl ?_
 refine TL.part (t := 20) rfl ?_ ?_
 ·
  intro hg20
  refine TL.open rfl rfl ?_
  refine TL.val (OpV.move rfl) rfl ?_
  refine TL.open rfl rfl ?_
  refine TL.val (OpV.move rfl) rfl ?_
  refine TL.open rfl rfl ?_
  refine TL.val (OpV.eql rfl rfl) rfl ?_
  refine TL.val ((by first | exact OpV.pick_t rfl rfl | exact OpV.pick_f rfl rfl)) rfl ?_
  refine TL.val (OpV.assign rfl) rfl ?_
  refine TL.nil ?_
  refine TE.sub (.cons (t := 8) rfl <| .nil) ?_
  refine TE.next ?_
  refine T.ret ?_
  refine TE.ret1 rfl (ResV.tmp rfl) ?_
  exact fun w1 k1 => ⟨ret_b (w := w) (w' := w) (by rw [hg20] <;> rfl), k1.bel⟩
 ·
  intro hg20
  refine TL.shut rfl rfl ?_
  refine TL.shut rfl rfl ?_
  refine TL.shut rfl rfl ?_
  refine TL.val ((by first | exact OpV.pick_t rfl rfl | exact OpV.pick_f rfl rfl)) rfl ?_
  refine TL.val (OpV.assign rfl) rfl ?_
  refine TL.nil ?_
  refine TE.sub (.cons (t := 8) rfl <| .nil) ?_
  refine TE.next ?_
  refine T.ret ?_
  refine TE.ret1 rfl (ResV.tmp rfl) ?_
  exact fun w1 k1 => ⟨ret_b (w := w) (w' := w) (by rw [hg20] <;> rfl), k1.bel⟩
set_option maxRecDepth 100000 in
set_option maxHeartbeats 400000 in
theorem ats_nil (line : Int) (want : Cm) (no : Int) (w : World) : Calls Try.prog 22 #[.pointer none, .int .i64 line, .agg want.l.toArray, .int .i64 no] w (Ret (.bool (decide (Cm.zero = want) && ((1 : Int) == no))) w) := by
 refine calls_T (vs := [.pointer none, .int .i64 line, .agg want.l.toArray, .int .i64 no]) (L0 := [(0, .pointer none), (1, .int .i64 line), (2, .agg want.l.toArray), (3, .int .i64 no)]) Try.func22 rfl rfl rfl rfl (KOk.none w) ?_
 refine T.seq ?_
 refine T.region ?_
 refine TL.boxA rfl rfl ?_
 intro b6
 refine TL.val (OpV.assign rfl) rfl ?_
 refine TL.nil ?_
 refine TE.next ?_
 refine T.seq ?_
 refine T.region ?_
 refine TL.val (OpV.move rfl) rfl ?_
 refine TL.val (OpV.move rfl) rfl ?_
 refine TL.call (g := 32) rfl go_32 rfl (fun w1 k1 => at_nil line w1) rfl ?_
 refine TL.val (OpV.move rfl) rfl ?_
 refine TL.val (OpV.extract rfl rfl) rfl ?_
 refine TL.val (OpV.extract rfl rfl) rfl ?_
 refine TL.alloc zo_41 rfl ?_
 intro b9
 first
   | refine TL.storeAll rfl rfl szz_41 rfl rfl rfl (by first | exact P0 | exact P1 | exact P2 | exact P3 | exact P4) (by rfl) ?_
   | refine TL.store rfl rfl szz_41 rfl rfl rfl (by first | exact P0 | exact P1 | exact P2 | exact P3 | exact P4) (by first | exact Nat.le_of_ble_eq_true rfl | (simp; done) | (simp; omega)) (by simp only [Cm.l, putL, List.take_succ_cons, List.take_zero, List.drop_succ_cons, List.drop_zero, List.cons_append, List.nil_append, List.length_cons, List.length_nil, Nat.reduceAdd]; rfl) ?_
 refine TL.val (OpV.assign rfl) rfl ?_
 refine TL.nil ?_
 refine TE.sub (.cons (t := 3) rfl <| .cons (t := 6) rfl <| .cons (t := 9) rfl <| .cons (t := 10) rfl <| .nil) ?_
 refine TE.next ?_
 refine T.seq ?_
 refine T.region ?_
 refine TL.val (OpV.loadA ag_41 rfl (Cels.blkAt Cm.zero.l (by first | exact P0 | exact P1 | exact P2 | exact P3 | exact P4 | exact P5 | exact P6) rfl rfl)) rfl ?_
 refine TL.val (OpV.loadA ag_41 rfl (Cels.blkAt want.l (by first | exact P0 | exact P1 | exact P2 | exact P3 | exact P4 | exact P5 | exact P6) rfl rfl)) rfl ?_
 refine TL.val (OpV.aeql rfl rfl eg_41 (eq_41 Cm.zero want)) rfl ?_
 refine TL.val (OpV.move rfl) rfl ?_
 refine TL.part (t := 20) rfl ?_ ?_
 ·
  intro hg20
  refine TL.open rfl rfl ?_
  refine TL.val (OpV.move rfl) rfl ?_
  refine TL.open rfl rfl ?_
  refine TL.val (OpV.move rfl) rfl ?_
  refine TL.open rfl rfl ?_
  refine TL.val (OpV.eql rfl rfl) rfl ?_
  refine TL.val ((by first | exact OpV.pick_t rfl rfl | exact OpV.pick_f rfl rfl)) rfl ?_
  refine TL.val (OpV.assign rfl) rfl ?_
  refine TL.nil ?_
  refine TE.sub (.cons (t := 8) rfl <| .nil) ?_
  refine TE.next ?_
  refine T.ret ?_
  refine TE.ret1 rfl (ResV.tmp rfl) ?_
  exact fun w1 k1 => ⟨ret_b (w := w) (w' := w) (by rw [hg20] <;> rfl), k1.bel⟩
 ·
  intro hg20
  refine TL.shut rfl rfl ?_
  refine TL.shut rfl rfl ?_
  refine TL.shut rfl rfl ?_
  refine TL.val ((by first | exact OpV.pick_t rfl rfl | exact OpV.pick_f rfl rfl)) rfl ?_
  refine TL.val (OpV.assign rfl) rfl ?_
  refine TL.nil ?_
  refine TE.sub (.cons (t := 8) rfl <| .nil) ?_
  refine TE.next ?_
  refine T.ret ?_
  refine TE.ret1 rfl (ResV.tmp rfl) ?_
  exact fun w1 k1 => ⟨ret_b (w := w) (w' := w) (by rw [hg20] <;> rfl), k1.bel⟩
end Go.Proofs.Ytaoepaonjeilgaa
