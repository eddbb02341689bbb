/-
  The walks of Same, of the program and of the reference. Condition: the package-level tables hold what they were laid with.
-/
import Derived.Test.YtdmpodpdpncobaaDoorRfl
import Derived.Test.YtdmpodpdpncobaaDoorUd
namespace Go.Proofs.YtdmpodpdpncobaaDoor
open Go.RowKit
set_option linter.unusedSimpArgs false
set_option linter.unusedVariables false
theorem go_75 : isGo Tryd.prog 75 = true := by kernel_rfl
theorem go_76 : isGo Tryd.prog 76 = true := by kernel_rfl
theorem go_77 : isGo Tryd.prog 77 = true := by kernel_rfl
set_option maxRecDepth 100000 in
set_option maxHeartbeats 1000000 in
theorem sleq_c {σ τ : Nat → Option Obj} {A A2 : Option Addr} {n c n2 c2 : Nat} {xs ys : List Cl} (w : World) (h : CsR σ A n c xs) (h2 : CsR τ A2 n2 c2 ys) (hs : ∀ b o, σ b = some o → w.heap[b]? = some o) (ht : ∀ b o, τ b = some o → w.heap[b]? = some o) : Calls Tryd.prog 77 #[.slice A n c, .slice A2 n2 c2] w (Ret (.bool (decide (xs = ys))) w) := by
 have hn63 := h.2.1
 have hc63 := h.2.2.1
 have hn64 := h2.2.1
 have hc64 := h2.2.2.1
 refine calls_T (vs := [.slice A n c, .slice A2 n2 c2]) (L0 := [(0, .slice A n c), (1, .slice A2 n2 c2)]) Tryd.func77 rfl rfl rfl rfl (KOk.frs hs ht) ?_
 refine T.seq ?_
 refine T.region ?_
 refine TL.val (OpV.assign rfl) rfl ?_
 refine TL.nil ?_
 refine TE.next ?_
 refine T.seq ?_
 refine T.seq ?_
 refine T.region ?_
 refine TL.val (OpV.move rfl) rfl ?_
 refine TL.val (OpV.len Tryd.underlying35 rfl) rfl ?_
 refine TL.val (OpV.move rfl) rfl ?_
 refine TL.val (OpV.len Tryd.underlying35 rfl) rfl ?_
 refine TL.val (OpV.neq rfl rfl) rfl ?_
 refine TL.nil ?_
 refine TE.next ?_
 refine T.cond rfl ?_ ?_
 ·
  intro ht10
  have hv : decide (xs = ys) = false := decide_eq_false fun e => by have h9 : ((n : Int) != (n2 : Int)) = true := ht10; have h8 := h.1; have h7 := h2.1; rw [e, h7] at h8; rw [h8] at h9; simp at h9
  refine T.seq ?_
  refine T.region ?_
  refine TL.val (OpV.assign rfl) rfl ?_
  refine TL.nil ?_
  refine TE.sub (.cons (t := 4) rfl <| .nil) ?_
  refine TE.next ?_
  refine T.ret ?_
  refine TE.pass_ret ?_
  refine TE.ret1 rfl (ResV.tmp rfl) ?_
  exact fun w1 k1 => ⟨ret_bool hv.symm, k1.bel⟩
 ·
  intro ht10
  have hnn : n = n2 := by have h9 : ((n : Int) != (n2 : Int)) = false := ht10; simp at h9; omega
  refine T.skip ?_
  refine TE.next ?_
  refine T.seq ?_
  refine T.seq ?_
  refine T.region ?_
  refine TL.val (OpV.move rfl) rfl ?_
  refine TL.val (OpV.len Tryd.underlying35 rfl) rfl ?_
  refine TL.val (OpV.move rfl) rfl ?_
  refine TL.nil ?_
  refine TE.sub (.cons (t := 0) rfl <| .cons (t := 1) rfl <| .cons (t := 12) rfl <| .cons (t := 13) rfl <| .nil) ?_
  refine TE.next ?_
  refine T.block ?_
  refine T.loop (ι := Nat) (fun i => i ≤ n ∧ xs.take i = ys.take i) (fun i => (n - i)) (fun i => [(0, .slice A n c), (1, .slice A2 n2 c2), (12, .int .i64 (n : Int)), (13, .int .i64 (i : Int))]) (fun i => [.fr σ, .fr τ]) 0 ⟨Nat.zero_le _, rfl⟩ (.cons (t := 0) rfl <| .cons (t := 1) rfl <| .cons (t := 12) rfl <| .cons (t := 13) rfl <| .nil) (Kle.refl) ?_
  rintro i hR
  refine T.seq ?_
  refine T.region ?_
  refine TL.val (OpV.lss rfl rfl) rfl ?_
  refine TL.nil ?_
  refine TE.next ?_
  refine T.seq ?_
  refine T.cond rfl ?_ ?_
  ·
   intro ht14
   obtain ⟨q1, q2⟩ := hR
   have hi : i < n := by have h9 := of_decide_eq_true ht14; omega
   obtain ⟨x, hx⟩ := get_of_lt h.1 hi
   obtain ⟨y, hy⟩ := get_of_lt h2.1 (show i < n2 by omega)
   obtain ⟨b, o, hA, hat⟩ := h.pos (by omega)
   obtain ⟨b2, o2, hA2, hat2⟩ := h2.pos (by omega)
   have hatx := hat i x hx
   have haty := hat2 i y hy
   refine T.skip ?_
   refine TE.next ?_
   refine T.seq ?_
   refine T.block ?_
   refine T.seq ?_
   refine T.region ?_
   refine TL.val (OpV.move rfl) rfl ?_
   refine TL.val (OpV.assign rfl) rfl ?_
   refine TL.nil ?_
   refine TE.next ?_
   refine T.seq ?_
   refine T.quiet mix (by kernel_rfl) ?_
   refine TQ.val (OpV.move rfl) rfl ?_
   refine TQ.val (OpV.move rfl) rfl ?_
   refine TQ.val (OpV.indexAddr se_35 rfl hA rfl (by rfl) (by first | omega | simp)) rfl ?_
   refine TQ.val (OpV.loadA ag_58 rfl (by first | exact Cels.blk P0 rfl | exact Cels.blk P1 rfl | exact Cels.blk P2 rfl | exact Cels.blk P3 rfl | exact Cels.frA hatx rfl | exact Cels.frA haty rfl)) rfl ?_
   refine TQ.val (OpV.move rfl) rfl ?_
   refine TQ.val (OpV.move rfl) rfl ?_
   refine TQ.val (OpV.indexAddr se_35 rfl hA2 rfl (by rfl) (by first | omega | simp)) rfl ?_
   refine TQ.val (OpV.loadA ag_58 rfl (by first | exact Cels.blk P0 rfl | exact Cels.blk P1 rfl | exact Cels.blk P2 rfl | exact Cels.blk P3 rfl | exact Cels.frA hatx rfl | exact Cels.frA haty rfl)) rfl ?_
   refine TQ.val (OpV.aneq rfl rfl eg_58 (eq_58 x y)) rfl ?_
   refine TQ.nil ?_
   refine TE.sub (.cons (t := 0) rfl <| .cons (t := 1) rfl <| .cons (t := 12) rfl <| .cons (t := 13) rfl <| .cons (t := 24) rfl <| .nil) ?_
   refine TE.next ?_
   refine T.cond rfl ?_ ?_
   ·
    intro ht24
    have hv : decide (xs = ys) = false := decide_eq_false fun e => by rw [e, hy] at hx; cases hx; simp at ht24
    refine T.seq ?_
    refine T.region ?_
    refine TL.val (OpV.assign rfl) rfl ?_
    refine TL.nil ?_
    refine TE.next ?_
    refine T.ret ?_
    refine TE.out_ret ?_
    refine TE.pass_ret ?_
    refine TE.pass_ret ?_
    refine TE.out_ret ?_
    refine TE.pass_ret ?_
    refine TE.ret1 rfl (ResV.tmp rfl) ?_
    exact fun w1 k1 => ⟨ret_bool hv.symm, k1.bel⟩
   ·
    intro ht24
    have hxy : x = y := by simpa using ht24
    refine T.skip ?_
    refine TE.out ?_
    refine TE.next ?_
    refine T.region ?_
    refine TL.val (OpV.add rfl rfl (by first | exact IntWalk.i64_in _ ⟨by omega, by omega⟩ | rfl)) rfl ?_
    refine TL.val (OpV.move rfl) rfl ?_
    refine TL.nil ?_
    exact TE.meet (i + 1) ⟨⟨by omega, by rw [take_snoc hx, take_snoc hy, q2, hxy]⟩, by omega⟩ (.cons (t := 0) (by first | rfl | (simp [lk]; done)) <| .cons (t := 1) (by first | rfl | (simp [lk]; done)) <| .cons (t := 12) (by first | rfl | (simp [lk]; done)) <| .cons (t := 13) (by first | rfl | (simp [lk]; done)) <| .nil) (Kle.refl)
  ·
   intro ht14
   obtain ⟨q1, q2⟩ := hR
   have hv : decide (xs = ys) = true := decide_eq_true (by have h9 := of_decide_eq_false ht14; have h8 := h.1; have h7 := h2.1; rwa [List.take_of_length_le (by omega), List.take_of_length_le (by omega)] at q2)
   refine T.exit ?_
   refine TE.pass_exit ?_
   refine TE.pass_exit ?_
   refine TE.here ?_
   refine TE.next ?_
   refine T.seq ?_
   refine T.region ?_
   refine TL.val (OpV.assign rfl) rfl ?_
   refine TL.nil ?_
   refine TE.next ?_
   refine T.ret ?_
   refine TE.ret1 rfl (ResV.tmp rfl) ?_
   exact fun w1 k1 => ⟨ret_bool hv.symm, k1.bel⟩
set_option maxRecDepth 100000 in
set_option maxHeartbeats 400000 in
theorem lgeq_c {σ τ : Nat → Option Obj} (x y : LgA) (w : World) (h : CsR σ x.A x.n x.c x.cells) (h2 : CsR τ y.A y.n y.c y.cells) (hs : ∀ b o, σ b = some o → w.heap[b]? = some o) (ht : ∀ b o, τ b = some o → w.heap[b]? = some o) : Calls Tryd.prog 76 #[.agg x.l.toArray, .agg y.l.toArray] w (Ret (.bool (decide (x.cells = y.cells))) w) := by
 refine calls_T (vs := [.agg x.l.toArray, .agg y.l.toArray]) (L0 := [(0, .agg x.l.toArray), (1, .agg y.l.toArray)]) Tryd.func76 rfl rfl rfl rfl (KOk.frs hs ht) ?_
 refine T.seq ?_
 refine T.region ?_
 refine TL.boxA rfl rfl ?_
 intro b2
 refine TL.boxA rfl rfl ?_
 intro b3
 refine TL.val (OpV.assign rfl) rfl ?_
 refine TL.nil ?_
 refine TE.next ?_
 refine T.seq ?_
 refine T.region ?_
 refine TL.val (OpV.fieldAddr rfl fo_37_0) rfl ?_
 refine TL.val (OpV.load pl_35 rfl (by first | exact Cel.blk P0 rfl | exact Cel.blk P1 rfl | exact Cel.blk P2 rfl | exact Cel.blk P3 rfl | exact Cel.blk P4 rfl)) rfl ?_
 refine TL.val (OpV.fieldAddr rfl fo_37_0) rfl ?_
 refine TL.val (OpV.load pl_35 rfl (by first | exact Cel.blk P0 rfl | exact Cel.blk P1 rfl | exact Cel.blk P2 rfl | exact Cel.blk P3 rfl | exact Cel.blk P4 rfl)) rfl ?_
 refine TL.call (g := 77) rfl go_77 rfl (fun w1 k1 => sleq_c w1 h h2 (k1.get (e := .fr σ) (by first | exact P0 | exact P1 | exact P2 | exact P3 | exact P4 | exact P5 | exact P6 | exact P7)) (k1.get (e := .fr τ) (by first | exact P0 | exact P1 | exact P2 | exact P3 | exact P4 | exact P5 | exact P6 | exact P7))) rfl ?_
 refine TL.val (OpV.assign rfl) rfl ?_
 refine TL.nil ?_
 refine TE.sub (.cons (t := 4) rfl <| .nil) ?_
 refine TE.next ?_
 refine T.ret ?_
 refine TE.ret1 rfl (ResV.tmp rfl) ?_
 exact fun w1 k1 => ⟨rfl, k1.bel⟩
set_option maxRecDepth 100000 in
set_option maxHeartbeats 1000000 in
theorem eqf_c {σ τ : Nat → Option Obj} {A A2 : Option Addr} {n c n2 c2 : Nat} {gs fs : List LgA} (w : World) (h : GsA σ A n c gs) (h2 : GsA τ A2 n2 c2 fs) (hs : ∀ b o, σ b = some o → w.heap[b]? = some o) (ht : ∀ b o, τ b = some o → w.heap[b]? = some o) : Calls Tryd.prog 75 #[.slice A n c, .slice A2 n2 c2, .func (.func 76) #[] #[]] w (Ret (.bool (decide (gs.map LgA.cells = fs.map LgA.cells))) w) := by
 have hn63 := h.1.2.1
 have hc63 := h.1.2.2.1
 have hn64 := h2.1.2.1
 have hc64 := h2.1.2.2.1
 refine calls_T (vs := [.slice A n c, .slice A2 n2 c2, .func (.func 76) #[] #[]]) (L0 := [(0, .slice A n c), (1, .slice A2 n2 c2), (2, .func (.func 76) #[] #[])]) Tryd.func75 rfl rfl rfl rfl (KOk.frs hs ht) ?_
 refine T.seq ?_
 refine T.region ?_
 refine TL.val (OpV.assign rfl) rfl ?_
 refine TL.nil ?_
 refine TE.next ?_
 refine T.seq ?_
 refine T.seq ?_
 refine T.region ?_
 refine TL.val (OpV.move rfl) rfl ?_
 refine TL.val (OpV.len Tryd.underlying34 rfl) rfl ?_
 refine TL.val (OpV.move rfl) rfl ?_
 refine TL.val (OpV.len Tryd.underlying34 rfl) rfl ?_
 refine TL.val (OpV.neq rfl rfl) rfl ?_
 refine TL.nil ?_
 refine TE.next ?_
 refine T.cond rfl ?_ ?_
 ·
  intro ht14
  have hv : decide (gs.map LgA.cells = fs.map LgA.cells) = false := decide_eq_false fun e => by have h9 : ((n : Int) != (n2 : Int)) = true := ht14; have h8 := congrArg List.length e; rw [List.length_map, List.length_map, h.1.1, h2.1.1] at h8; rw [h8] at h9; simp at h9
  refine T.seq ?_
  refine T.region ?_
  refine TL.val (OpV.assign rfl) rfl ?_
  refine TL.nil ?_
  refine TE.sub (.cons (t := 6) rfl <| .nil) ?_
  refine TE.next ?_
  refine T.ret ?_
  refine TE.pass_ret ?_
  refine TE.ret1 rfl (ResV.tmp rfl) ?_
  exact fun w1 k1 => ⟨ret_bool hv.symm, k1.bel⟩
 ·
  intro ht14
  have hnn : n = n2 := by have h9 : ((n : Int) != (n2 : Int)) = false := ht14; simp at h9; omega
  refine T.skip ?_
  refine TE.next ?_
  refine T.seq ?_
  refine T.seq ?_
  refine T.region ?_
  refine TL.val (OpV.move rfl) rfl ?_
  refine TL.val (OpV.len Tryd.underlying34 rfl) rfl ?_
  refine TL.val (OpV.move rfl) rfl ?_
  refine TL.nil ?_
  refine TE.sub (.cons (t := 1) rfl <| .cons (t := 2) rfl <| .cons (t := 15) rfl <| .cons (t := 16) rfl <| .cons (t := 17) rfl <| .nil) ?_
  refine TE.next ?_
  refine T.block ?_
  refine T.loop (ι := Nat) (fun i => i ≤ n ∧ (gs.take i).map LgA.cells = (fs.take i).map LgA.cells) (fun i => (n - i)) (fun i => [(1, .slice A2 n2 c2), (2, .func (.func 76) #[] #[]), (15, .slice A n c), (16, .int .i64 (n : Int)), (17, .int .i64 (i : Int))]) (fun i => [.fr σ, .fr τ]) 0 ⟨Nat.zero_le _, rfl⟩ (.cons (t := 1) rfl <| .cons (t := 2) rfl <| .cons (t := 15) rfl <| .cons (t := 16) rfl <| .cons (t := 17) rfl <| .nil) (Kle.refl) ?_
  rintro i hR
  refine T.seq ?_
  refine T.region ?_
  refine TL.val (OpV.lss rfl rfl) rfl ?_
  refine TL.nil ?_
  refine TE.next ?_
  refine T.seq ?_
  refine T.cond rfl ?_ ?_
  ·
   intro ht18
   obtain ⟨q1, q2⟩ := hR
   have hi : i < n := by have h9 := of_decide_eq_true ht18; omega
   obtain ⟨x, hx⟩ := get_of_lt h.1.1 hi
   obtain ⟨y, hy⟩ := get_of_lt h2.1.1 (show i < n2 by omega)
   obtain ⟨b, o, hA, hat⟩ := h.1.2.2.2.2 (by omega)
   obtain ⟨b2, o2, hA2, hat2⟩ := h2.1.2.2.2.2 (by omega)
   obtain ⟨_, rfl, _, hatx⟩ := hat _ x hx
   obtain ⟨_, rfl, _, haty⟩ := hat2 _ y hy
   have hcx := h.2 x (List.mem_of_getElem? hx)
   have hcy := h2.2 y (List.mem_of_getElem? hy)
   refine T.skip ?_
   refine TE.next ?_
   refine T.seq ?_
   refine T.block ?_
   refine T.seq ?_
   refine T.region ?_
   refine TL.val (OpV.move rfl) rfl ?_
   refine TL.val (OpV.indexAddr (j := i) se_34 rfl hA rfl rfl (by omega)) rfl ?_
   refine TL.val (OpV.loadA ag_37 rfl (by first | exact Cels.blk P0 rfl | exact Cels.blk P1 rfl | exact Cels.blk P2 rfl | exact Cels.blk P3 rfl | exact Cels.blk P4 rfl | exact Cels.frA hatx rfl | exact Cels.frA haty rfl)) rfl ?_
   refine TL.alloc zo_37 rfl ?_
   intro b8
   refine TL.val (OpV.assign rfl) rfl ?_
   first
     | refine TL.storeAll rfl rfl szz_37 rfl rfl rfl (by first | exact P0 | exact P1 | exact P2 | exact P3 | exact P4) (by rfl) ?_
     | refine TL.store rfl rfl szz_37 rfl rfl rfl (by first | exact P0 | exact P1 | exact P2 | exact P3 | exact P4) (by first | exact Nat.le_of_ble_eq_true rfl | (simp; done) | (simp; omega)) (by simp only [LgA.l, putL, List.take_succ_cons, List.take_zero, List.drop_succ_cons, List.drop_zero, List.cons_append, List.nil_append, List.length_cons, List.length_nil, Nat.reduceAdd]; rfl) ?_
   refine TL.nil ?_
   refine TE.next ?_
   refine T.seq ?_
   refine T.region ?_
   refine TL.val (OpV.move rfl) rfl ?_
   refine TL.val (OpV.move rfl) rfl ?_
   refine TL.val (OpV.indexAddr (j := i) se_34 rfl hA2 rfl rfl (by omega)) rfl ?_
   refine TL.val (OpV.loadA ag_37 rfl (by first | exact Cels.blk P0 rfl | exact Cels.blk P1 rfl | exact Cels.blk P2 rfl | exact Cels.blk P3 rfl | exact Cels.blk P4 rfl | exact Cels.frA hatx rfl | exact Cels.frA haty rfl)) rfl ?_
   refine TL.alloc zo_37 rfl ?_
   intro b9
   first
     | refine TL.storeAll rfl rfl szz_37 rfl rfl rfl (by first | exact P0 | exact P1 | exact P2 | exact P3 | exact P4) (by rfl) ?_
     | refine TL.store rfl rfl szz_37 rfl rfl rfl (by first | exact P0 | exact P1 | exact P2 | exact P3 | exact P4) (by first | exact Nat.le_of_ble_eq_true rfl | (simp; done) | (simp; omega)) (by simp only [LgA.l, putL, List.take_succ_cons, List.take_zero, List.drop_succ_cons, List.drop_zero, List.cons_append, List.nil_append, List.length_cons, List.length_nil, Nat.reduceAdd]; rfl) ?_
   refine TL.nil ?_
   refine TE.sub (.cons (t := 1) rfl <| .cons (t := 2) rfl <| .cons (t := 8) rfl <| .cons (t := 9) rfl <| .cons (t := 15) rfl <| .cons (t := 16) rfl <| .cons (t := 17) rfl <| .nil) ?_
   refine TE.next ?_
   refine T.seq ?_
   refine T.region ?_
   refine TL.val (OpV.move rfl) rfl ?_
   refine TL.val (OpV.loadA ag_37 rfl (by first | exact Cels.blk P0 rfl | exact Cels.blk P1 rfl | exact Cels.blk P2 rfl | exact Cels.blk P3 rfl | exact Cels.blk P4 rfl | exact Cels.frA hatx rfl | exact Cels.frA haty rfl)) rfl ?_
   refine TL.val (OpV.loadA ag_37 rfl (by first | exact Cels.blk P0 rfl | exact Cels.blk P1 rfl | exact Cels.blk P2 rfl | exact Cels.blk P3 rfl | exact Cels.blk P4 rfl | exact Cels.frA hatx rfl | exact Cels.frA haty rfl)) rfl ?_
   refine TL.call (g := 76) rfl go_76 rfl (fun w1 k1 => lgeq_c x y w1 hcx hcy (k1.get (e := .fr σ) (by first | exact P0 | exact P1 | exact P2 | exact P3 | exact P4 | exact P5 | exact P6 | exact P7)) (k1.get (e := .fr τ) (by first | exact P0 | exact P1 | exact P2 | exact P3 | exact P4 | exact P5 | exact P6 | exact P7))) rfl ?_
   refine TL.val (OpV.not rfl) rfl ?_
   refine TL.nil ?_
   refine TE.next ?_
   refine T.cond rfl ?_ ?_
   ·
    intro ht30
    have hv : decide (gs.map LgA.cells = fs.map LgA.cells) = false := decide_eq_false fun e => by have h9 := congrArg (fun z => z[i]?) e; simp only [List.getElem?_map, hx, hy, Option.map_some, Option.some.injEq] at h9; rw [decide_eq_true h9] at ht30; cases ht30
    refine T.seq ?_
    refine T.region ?_
    refine TL.val (OpV.assign rfl) rfl ?_
    refine TL.nil ?_
    refine TE.sub (.cons (t := 6) rfl <| .nil) ?_
    refine TE.next ?_
    refine T.ret ?_
    refine TE.out_ret ?_
    refine TE.pass_ret ?_
    refine TE.pass_ret ?_
    refine TE.out_ret ?_
    refine TE.pass_ret ?_
    refine TE.ret1 rfl (ResV.tmp rfl) ?_
    exact fun w1 k1 => ⟨ret_bool hv.symm, k1.bel⟩
   ·
    intro ht30
    have hxy : x.cells = y.cells := by simpa using ht30
    refine T.skip ?_
    refine TE.out ?_
    refine TE.sub (.cons (t := 1) rfl <| .cons (t := 2) rfl <| .cons (t := 15) rfl <| .cons (t := 16) rfl <| .cons (t := 17) rfl <| .nil) ?_
    refine TE.next ?_
    refine T.region ?_
    refine TL.val (OpV.add rfl rfl (by first | exact IntWalk.i64_in _ ⟨by omega, by omega⟩ | rfl)) rfl ?_
    refine TL.val (OpV.move rfl) rfl ?_
    refine TL.nil ?_
    exact TE.meet (i + 1) ⟨⟨by omega, by rw [take_snoc hx, take_snoc hy, List.map_append, List.map_append, q2, List.map_cons, List.map_nil, List.map_cons, List.map_nil, hxy]⟩, by omega⟩ (.cons (t := 1) (by first | rfl | (simp [lk]; done)) <| .cons (t := 2) (by first | rfl | (simp [lk]; done)) <| .cons (t := 15) (by first | rfl | (simp [lk]; done)) <| .cons (t := 16) (by first | rfl | (simp [lk]; done)) <| .cons (t := 17) (by first | rfl | (simp [lk]; done)) <| .nil) (Perm.kle (.cons (by first | exact P0 | exact P1 | exact P2 | exact P3 | exact P4 | exact P5 | exact P6 | exact P7) (.cons (by first | exact P0 | exact P1 | exact P2 | exact P3 | exact P4 | exact P5 | exact P6 | exact P7) .nil)))
  ·
   intro ht18
   obtain ⟨q1, q2⟩ := hR
   have hv : decide (gs.map LgA.cells = fs.map LgA.cells) = true := decide_eq_true (by have h9 := of_decide_eq_false ht18; have h8 := h.1.1; have h7 := h2.1.1; rwa [List.take_of_length_le (by omega), List.take_of_length_le (by omega)] at q2)
   refine T.exit ?_
   refine TE.pass_exit ?_
   refine TE.pass_exit ?_
   refine TE.here ?_
   refine TE.next ?_
   refine T.seq ?_
   refine T.region ?_
   refine TL.val (OpV.assign rfl) rfl ?_
   refine TL.nil ?_
   refine TE.next ?_
   refine T.ret ?_
   refine TE.ret1 rfl (ResV.tmp rfl) ?_
   exact fun w1 k1 => ⟨ret_bool hv.symm, k1.bel⟩
set_option maxRecDepth 100000 in
set_option maxHeartbeats 1000000 in
theorem same30_c {σ τ : Nat → Option Obj} {A A2 : Option Addr} {n c n2 c2 : Nat} {ls ms : List LnA} (w : World) (L : LaidW w) (h : LsA σ A n c ls) (h2 : LsA τ A2 n2 c2 ms) (hn : n ≤ 131072) (hn2 : n2 ≤ 131072) (hs : ∀ b o, σ b = some o → w.heap[b]? = some o) (ht : ∀ b o, τ b = some o → w.heap[b]? = some o) : Calls Tryd.prog 42 #[.slice A n c, .slice A2 n2 c2] w (Ret (.bool (sameV (ls.map LnA.ln) (ms.map LnA.ln))) w) := by
 have hn63 := h.1.2.1
 have hc63 := h.1.2.2.1
 have hl1 := h.1.1
 have hn64 := h2.1.2.1
 have hc64 := h2.1.2.2.1
 have hl2 := h2.1.1
 refine calls_T (vs := [.slice A n c, .slice A2 n2 c2]) (L0 := [(0, .slice A n c), (1, .slice A2 n2 c2)]) Tryd.func42 rfl rfl rfl rfl (KOk.frs hs ht) ?_
 refine T.seq ?_
 refine T.region ?_
 refine TL.val (OpV.assign rfl) rfl ?_
 refine TL.nil ?_
 refine TE.next ?_
 refine T.seq ?_
 refine T.region ?_
 refine TL.val (OpV.move rfl) rfl ?_
 refine TL.callx (g := 32) rfl go_32 rfl (fun wz k1 => own_x k1 (ulines_c wz (L.below k1.bel) h (k1.get (e := .fr σ) (by first | exact P0 | exact P1 | exact P2 | exact P3 | exact P4 | exact P5 | exact P6 | exact P7)) (by omega))) rfl ?_
 rintro ⟨A6, n6, c6, ρ6⟩ ⟨gs, hgs, hgse⟩
 replace hgs : GsA ρ6 A6 n6 c6 gs := GsW.gsA hgs
 refine TL.said (t := 11) rfl (show _ = Value.tuple #[.slice A6 n6 c6, .int .i64 (linesE (ls.map LnA.ln))] from rfl) ?_
 refine TL.val (OpV.move rfl) rfl ?_
 refine TL.val (OpV.extract rfl rfl) rfl ?_
 refine TL.val (OpV.extract rfl rfl) rfl ?_
 refine TL.val (OpV.assign rfl) rfl ?_
 refine TL.val (OpV.assign rfl) rfl ?_
 refine TL.nil ?_
 refine TE.sub (.cons (t := 1) rfl <| .cons (t := 5) rfl <| .cons (t := 6) rfl <| .nil) ?_
 refine TE.next ?_
 refine T.seq ?_
 refine T.region ?_
 refine TL.val (OpV.move rfl) rfl ?_
 refine TL.callx (g := 32) rfl go_32 rfl (fun wz k1 => own_x k1 (ulines_c wz (L.below k1.bel) h2 (k1.get (e := .fr τ) (by first | exact P0 | exact P1 | exact P2 | exact P3 | exact P4 | exact P5 | exact P6 | exact P7)) (by omega))) rfl ?_
 rintro ⟨A7, n7, c7, ρ7⟩ ⟨fs, hfs, hfse⟩
 replace hfs : GsA ρ7 A7 n7 c7 fs := GsW.gsA hfs
 refine TL.said (t := 16) rfl (show _ = Value.tuple #[.slice A7 n7 c7, .int .i64 (linesE (ms.map LnA.ln))] from rfl) ?_
 refine TL.val (OpV.move rfl) rfl ?_
 refine TL.val (OpV.extract rfl rfl) rfl ?_
 refine TL.val (OpV.extract rfl rfl) rfl ?_
 refine TL.val (OpV.assign rfl) rfl ?_
 refine TL.val (OpV.assign rfl) rfl ?_
 refine TL.nil ?_
 refine TE.next ?_
 refine T.seq ?_
 refine T.region ?_
 refine TL.val (OpV.move rfl) rfl ?_
 refine TL.val (OpV.eql rfl rfl) rfl ?_
 refine TL.val (OpV.move rfl) rfl ?_
 refine TL.part (t := 21) rfl ?_ ?_
 ·
  intro hg21
  have hvX : vLs (ls.map LnA.ln) = true := by cases hv : vLs (ls.map LnA.ln) with | true => rfl | false => (rw [linesE, hv] at hg21; cases hg21)
  rw [show linesV (ls.map LnA.ln) = lgG [] 0 (ls.map LnA.ln) by rw [linesV, hvX, if_pos rfl]] at hgse
  refine TL.open rfl rfl ?_
  refine TL.val (OpV.move rfl) rfl ?_
  refine TL.open rfl rfl ?_
  refine TL.val (OpV.eql rfl rfl) rfl ?_
  refine TL.val ((by first | exact OpV.pick_t rfl rfl | exact OpV.pick_f rfl rfl)) rfl ?_
  refine TL.val (OpV.move rfl) rfl ?_
  refine TL.part (t := 25) rfl ?_ ?_
  ·
   intro hg25
   have hvY : vLs (ms.map LnA.ln) = true := by cases hv : vLs (ms.map LnA.ln) with | true => rfl | false => (rw [linesE, hv] at hg25; cases hg25)
   rw [show linesV (ms.map LnA.ln) = lgG [] 0 (ms.map LnA.ln) by rw [linesV, hvY, if_pos rfl]] at hfse
   refine TL.open rfl rfl ?_
   refine TL.val (OpV.move rfl) rfl ?_
   refine TL.open rfl rfl ?_
   refine TL.val (OpV.move rfl) rfl ?_
   refine TL.open rfl rfl ?_
   refine TL.call (g := 75) rfl go_75 rfl (fun w1 k1 => eqf_c w1 hgs hfs (fun b o hb => (k1.get (e := .own ρ6) (by first | exact P0 | exact P1 | exact P2 | exact P3 | exact P4 | exact P5 | exact P6 | exact P7) b o hb).2) (fun b o hb => (k1.get (e := .own ρ7) (by first | exact P0 | exact P1 | exact P2 | exact P3 | exact P4 | exact P5 | exact P6 | exact P7) b o hb).2)) rfl ?_
   refine TL.val ((by first | exact OpV.pick_t rfl rfl | exact OpV.pick_f rfl rfl)) rfl ?_
   refine TL.val (OpV.assign rfl) rfl ?_
   refine TL.nil ?_
   refine TE.sub (.cons (t := 4) rfl <| .nil) ?_
   refine TE.next ?_
   refine T.ret ?_
   refine TE.ret1 rfl (ResV.tmp rfl) ?_
   exact fun w1 k1 => ⟨ret_bool (by first | (rw [sameV, hvX, hvY, Bool.true_and, Bool.true_and, ← hgse, ← hfse, map_cells, map_cells]) | (rw [sameV, hvX]; rfl) | (rw [sameV, hvX, hvY]; rfl)), k1.bel⟩
  ·
   intro hg25
   have hvY : vLs (ms.map LnA.ln) = false := by cases hv : vLs (ms.map LnA.ln) with | false => rfl | true => (rw [linesE, hv] at hg25; cases hg25)
   refine TL.shut rfl rfl ?_
   refine TL.shut rfl rfl ?_
   refine TL.shut rfl rfl ?_
   refine TL.val ((by first | exact OpV.pick_t rfl rfl | exact OpV.pick_f rfl rfl)) rfl ?_
   refine TL.val (OpV.assign rfl) rfl ?_
   refine TL.nil ?_
   refine TE.sub (.cons (t := 4) rfl <| .nil) ?_
   refine TE.next ?_
   refine T.ret ?_
   refine TE.ret1 rfl (ResV.tmp rfl) ?_
   exact fun w1 k1 => ⟨ret_bool (by first | (rw [sameV, hvX, hvY, Bool.true_and, Bool.true_and, ← hgse, ← hfse, map_cells, map_cells]) | (rw [sameV, hvX]; rfl) | (rw [sameV, hvX, hvY]; rfl)), k1.bel⟩
 ·
  intro hg21
  have hvX : vLs (ls.map LnA.ln) = false := by cases hv : vLs (ls.map LnA.ln) with | false => rfl | true => (rw [linesE, hv] at hg21; cases hg21)
  refine TL.shut rfl rfl ?_
  refine TL.shut rfl rfl ?_
  refine TL.val ((by first | exact OpV.pick_t rfl rfl | exact OpV.pick_f rfl rfl)) rfl ?_
  refine TL.val (OpV.move rfl) rfl ?_
  refine TL.shut rfl rfl ?_
  refine TL.shut rfl rfl ?_
  refine TL.shut rfl rfl ?_
  refine TL.val ((by first | exact OpV.pick_t rfl rfl | exact OpV.pick_f rfl rfl)) rfl ?_
  refine TL.val (OpV.assign rfl) rfl ?_
  refine TL.nil ?_
  refine TE.sub (.cons (t := 4) rfl <| .nil) ?_
  refine TE.next ?_
  refine T.ret ?_
  refine TE.ret1 rfl (ResV.tmp rfl) ?_
  exact fun w1 k1 => ⟨ret_bool (by first | (rw [sameV, hvX, hvY, Bool.true_and, Bool.true_and, ← hgse, ← hfse, map_cells, map_cells]) | (rw [sameV, hvX]; rfl) | (rw [sameV, hvX, hvY]; rfl)), k1.bel⟩
set_option maxRecDepth 100000 in
set_option maxHeartbeats 1000000 in
theorem rsame30_c {σ τ : Nat → Option Obj} {A A2 : Option Addr} {n c n2 c2 : Nat} {ls ms : List LnA} (w : World) (h : LsA σ A n c ls) (h2 : LsA τ A2 n2 c2 ms) (hn : n ≤ 131072) (hn2 : n2 ≤ 131072) (hs : ∀ b o, σ b = some o → w.heap[b]? = some o) (ht : ∀ b o, τ b = some o → w.heap[b]? = some o) : Calls Tryd.prog 47 #[.slice A n c, .slice A2 n2 c2] w (Ret (.bool (sameV (ls.map LnA.ln) (ms.map LnA.ln))) w) := by
 have hn63 := h.1.2.1
 have hc63 := h.1.2.2.1
 have hl1 := h.1.1
 have hn64 := h2.1.2.1
 have hc64 := h2.1.2.2.1
 have hl2 := h2.1.1
 refine calls_T (vs := [.slice A n c, .slice A2 n2 c2]) (L0 := [(0, .slice A n c), (1, .slice A2 n2 c2)]) Tryd.func47 rfl rfl rfl rfl (KOk.frs hs ht) ?_
 refine T.seq ?_
 refine T.region ?_
 refine TL.val (OpV.assign rfl) rfl ?_
 refine TL.nil ?_
 refine TE.next ?_
 refine T.seq ?_
 refine T.seq ?_
 refine T.region ?_
 refine TL.val (OpV.move rfl) rfl ?_
 refine TL.call (g := 16) rfl go_16 rfl (fun w1 k1 => ruvalid_c w1 h (k1.get (e := .fr σ) (by first | exact P0 | exact P1 | exact P2 | exact P3 | exact P4 | exact P5 | exact P6 | exact P7))) rfl ?_
 refine TL.val (OpV.not rfl) rfl ?_
 refine TL.val (OpV.move rfl) rfl ?_
 refine TL.part (t := 11) rfl ?_ ?_
 ·
  intro hg11
  have hvX : vLs (ls.map LnA.ln) = false := by simpa using hg11
  have hsv : sameV (ls.map LnA.ln) (ms.map LnA.ln) = false := by rw [sameV, hvX]; rfl
  refine TL.shut rfl rfl ?_
  refine TL.shut rfl rfl ?_
  refine TL.shut rfl rfl ?_
  refine TL.val ((by first | exact OpV.pick_t rfl rfl | exact OpV.pick_f rfl rfl)) rfl ?_
  refine TL.nil ?_
  refine TE.sub (.cons (t := 0) rfl <| .cons (t := 1) rfl <| .cons (t := 15) rfl <| .nil) ?_
  refine TE.next ?_
  refine T.yes rfl ?_
  refine T.seq ?_
  refine T.region ?_
  refine TL.val (OpV.assign rfl) rfl ?_
  refine TL.nil ?_
  refine TE.next ?_
  refine T.ret ?_
  refine TE.pass_ret ?_
  refine TE.ret1 rfl (ResV.tmp rfl) ?_
  exact fun w1 k1 => ⟨ret_bool hsv.symm, k1.bel⟩
 ·
  intro hg11
  have hvX : vLs (ls.map LnA.ln) = true := by simpa using hg11
  refine TL.open rfl rfl ?_
  refine TL.val (OpV.move rfl) rfl ?_
  refine TL.open rfl rfl ?_
  refine TL.call (g := 16) rfl go_16 rfl (fun w1 k1 => ruvalid_c w1 h2 (k1.get (e := .fr τ) (by first | exact P0 | exact P1 | exact P2 | exact P3 | exact P4 | exact P5 | exact P6 | exact P7))) rfl ?_
  refine TL.open rfl rfl ?_
  refine TL.val (OpV.not rfl) rfl ?_
  refine TL.val ((by first | exact OpV.pick_t rfl rfl | exact OpV.pick_f rfl rfl)) rfl ?_
  refine TL.nil ?_
  refine TE.sub (.cons (t := 0) rfl <| .cons (t := 1) rfl <| .cons (t := 15) rfl <| .nil) ?_
  refine TE.next ?_
  refine T.cond rfl ?_ ?_
  ·
   intro ht15
   have hsv : sameV (ls.map LnA.ln) (ms.map LnA.ln) = false := by rw [sameV, hvX, show vLs (ms.map LnA.ln) = false by simpa using ht15]; rfl
   refine T.seq ?_
   refine T.region ?_
   refine TL.val (OpV.assign rfl) rfl ?_
   refine TL.nil ?_
   refine TE.next ?_
   refine T.ret ?_
   refine TE.pass_ret ?_
   refine TE.ret1 rfl (ResV.tmp rfl) ?_
   exact fun w1 k1 => ⟨ret_bool hsv.symm, k1.bel⟩
  ·
   intro ht15
   have hvY : vLs (ms.map LnA.ln) = true := by simpa using ht15
   refine T.skip ?_
   refine TE.next ?_
   refine T.seq ?_
   refine T.region ?_
   refine TL.val (OpV.move rfl) rfl ?_
   refine TL.callx (g := 26) rfl go_26 rfl (fun wz k1 => own_x k1 (rlines_c wz h (k1.get (e := .fr σ) (by first | exact P0 | exact P1 | exact P2 | exact P3 | exact P4 | exact P5 | exact P6 | exact P7)) (by omega) (LsA.len h hvX))) rfl ?_
   rintro ⟨A6, n6, c6, ρ6⟩ ⟨gs, hgs, hgse⟩
   replace hgs : GsA ρ6 A6 n6 c6 gs := hgs
   refine TL.said (t := 17) rfl (show SV.v ⟨A6, n6, c6, ρ6⟩ = Value.slice A6 n6 c6 from rfl) ?_
   have hl6 := hgs.1.1
   have hm6 := hgs.1.2.1
   have hk6 := hgs.1.2.2.1
   refine TL.val (OpV.move rfl) rfl ?_
   refine TL.callx (g := 26) rfl go_26 rfl (fun wz k1 => own_x k1 (rlines_c wz h2 (k1.get (e := .fr τ) (by first | exact P0 | exact P1 | exact P2 | exact P3 | exact P4 | exact P5 | exact P6 | exact P7)) (by omega) (LsA.len h2 hvY))) rfl ?_
   rintro ⟨A7, n7, c7, ρ7⟩ ⟨fs, hfs, hfse⟩
   replace hfs : GsA ρ7 A7 n7 c7 fs := hfs
   refine TL.said (t := 19) rfl (show SV.v ⟨A7, n7, c7, ρ7⟩ = Value.slice A7 n7 c7 from rfl) ?_
   have hl7 := hfs.1.1
   have hm7 := hfs.1.2.1
   have hk7 := hfs.1.2.2.1
   refine TL.val (OpV.assign rfl) rfl ?_
   refine TL.val (OpV.assign rfl) rfl ?_
   refine TL.nil ?_
   refine TE.sub (.cons (t := 5) rfl <| .cons (t := 6) rfl <| .nil) ?_
   refine TE.next ?_
   refine T.seq ?_
   refine T.seq ?_
   refine T.region ?_
   refine TL.val (OpV.move rfl) rfl ?_
   refine TL.val (OpV.len Tryd.underlying34 rfl) rfl ?_
   refine TL.val (OpV.move rfl) rfl ?_
   refine TL.val (OpV.len Tryd.underlying34 rfl) rfl ?_
   refine TL.val (OpV.neq rfl rfl) rfl ?_
   refine TL.nil ?_
   refine TE.next ?_
   refine T.cond rfl ?_ ?_
   ·
    intro ht24
    have hsv : sameV (ls.map LnA.ln) (ms.map LnA.ln) = decide (gs.map LgA.cells = fs.map LgA.cells) := by rw [sameV, hvX, hvY, Bool.true_and, Bool.true_and, ← hgse, ← hfse, map_cells, map_cells]
    have hsv2 : sameV (ls.map LnA.ln) (ms.map LnA.ln) = false := by rw [hsv]; exact decide_eq_false fun e => by have h9 : ((n6 : Int) != (n7 : Int)) = true := ht24; have h8 := congrArg List.length e; rw [List.length_map, List.length_map, hl6, hl7] at h8; rw [h8] at h9; simp at h9
    refine T.seq ?_
    refine T.region ?_
    refine TL.val (OpV.assign rfl) rfl ?_
    refine TL.nil ?_
    refine TE.sub (.cons (t := 4) rfl <| .nil) ?_
    refine TE.next ?_
    refine T.ret ?_
    refine TE.pass_ret ?_
    refine TE.ret1 rfl (ResV.tmp rfl) ?_
    exact fun w1 k1 => ⟨ret_bool hsv2.symm, k1.bel⟩
   ·
    intro ht24
    have hsv : sameV (ls.map LnA.ln) (ms.map LnA.ln) = decide (gs.map LgA.cells = fs.map LgA.cells) := by rw [sameV, hvX, hvY, Bool.true_and, Bool.true_and, ← hgse, ← hfse, map_cells, map_cells]
    have hnn : n6 = n7 := by have h9 : ((n6 : Int) != (n7 : Int)) = false := ht24; simp at h9; omega
    refine T.skip ?_
    refine TE.next ?_
    refine T.seq ?_
    refine T.seq ?_
    refine T.region ?_
    refine TL.val (OpV.assign rfl) rfl ?_
    refine TL.nil ?_
    refine TE.next ?_
    refine T.block ?_
    refine T.loop (ι := Nat) (fun i => i ≤ n6 ∧ (gs.take i).map LgA.cells = (fs.take i).map LgA.cells) (fun i => (n6 - i)) (fun i => [(5, .slice A6 n6 c6), (6, .slice A7 n7 c7), (7, .int .i64 (i : Int))]) (fun i => [.own ρ7, .own ρ6]) 0 ⟨Nat.zero_le _, rfl⟩ (.cons (t := 5) rfl <| .cons (t := 6) rfl <| .cons (t := 7) rfl <| .nil) (Perm.kle (.cons (by first | exact P0 | exact P1 | exact P2 | exact P3 | exact P4 | exact P5 | exact P6 | exact P7) (.cons (by first | exact P0 | exact P1 | exact P2 | exact P3 | exact P4 | exact P5 | exact P6 | exact P7) .nil))) ?_
    rintro i hR
    refine T.seq ?_
    refine T.seq ?_
    refine T.region ?_
    refine TL.val (OpV.move rfl) rfl ?_
    refine TL.val (OpV.move rfl) rfl ?_
    refine TL.val (OpV.len Tryd.underlying34 rfl) rfl ?_
    refine TL.val (OpV.lss rfl rfl) rfl ?_
    refine TL.nil ?_
    refine TE.next ?_
    refine T.cond rfl ?_ ?_
    ·
     intro ht28
     obtain ⟨q1, q2⟩ := hR
     have hi : i < n6 := by have h9 := of_decide_eq_true ht28; omega
     obtain ⟨x, hx⟩ := get_of_lt hgs.1.1 hi
     obtain ⟨y, hy⟩ := get_of_lt hfs.1.1 (show i < n7 by omega)
     obtain ⟨b, o, hA, hat⟩ := hgs.1.2.2.2.2 (by omega)
     obtain ⟨b2, o2, hA2, hat2⟩ := hfs.1.2.2.2.2 (by omega)
     obtain ⟨_, rfl, _, hatx⟩ := hat _ x hx
     obtain ⟨_, rfl, _, haty⟩ := hat2 _ y hy
     have hcx := hgs.2 x (List.mem_of_getElem? hx)
     have hcy := hfs.2 y (List.mem_of_getElem? hy)
     refine T.skip ?_
     refine TE.next ?_
     refine T.seq ?_
     refine T.block ?_
     refine T.seq ?_
     refine T.quiet mix (by kernel_rfl) ?_
     refine TQ.val (OpV.move rfl) rfl ?_
     refine TQ.val (OpV.move rfl) rfl ?_
     refine TQ.val (OpV.indexAddr se_34 rfl hA rfl (by rfl) (by first | omega | simp)) rfl ?_
     refine TQ.val (OpV.fieldAddr rfl fo_37_0) rfl ?_
     refine TQ.val (OpV.load pl_35 rfl (by first | exact Cel.blk P0 rfl | exact Cel.blk P1 rfl | exact Cel.blk P2 rfl | exact Cel.blk P3 rfl | exact Cel.ownA (hatx _ _ rfl) | exact Cel.ownA (haty _ _ rfl))) rfl ?_
     refine TQ.val (OpV.move rfl) rfl ?_
     refine TQ.val (OpV.move rfl) rfl ?_
     refine TQ.val (OpV.indexAddr se_34 rfl hA2 rfl (by rfl) (by first | omega | simp)) rfl ?_
     refine TQ.val (OpV.fieldAddr rfl fo_37_0) rfl ?_
     refine TQ.val (OpV.load pl_35 rfl (by first | exact Cel.blk P0 rfl | exact Cel.blk P1 rfl | exact Cel.blk P2 rfl | exact Cel.blk P3 rfl | exact Cel.ownA (hatx _ _ rfl) | exact Cel.ownA (haty _ _ rfl))) rfl ?_
     refine TQ.call (g := 78) rfl go_78 rfl (fun w1 k1 => csame_c w1 hcx hcy (fun b o hb => (k1.get (e := .own ρ6) (by first | exact P0 | exact P1 | exact P2 | exact P3 | exact P4 | exact P5 | exact P6 | exact P7) b o hb).2) (fun b o hb => (k1.get (e := .own ρ7) (by first | exact P0 | exact P1 | exact P2 | exact P3 | exact P4 | exact P5 | exact P6 | exact P7) b o hb).2)) rfl ?_
     refine TQ.val (OpV.not rfl) rfl ?_
     refine TQ.nil ?_
     refine TE.sub (.cons (t := 5) rfl <| .cons (t := 6) rfl <| .cons (t := 7) rfl <| .cons (t := 42) rfl <| .nil) ?_
     refine TE.next ?_
     refine T.cond rfl ?_ ?_
     ·
      intro ht42
      have hsv2 : sameV (ls.map LnA.ln) (ms.map LnA.ln) = false := by rw [hsv]; exact decide_eq_false fun e => by have h9 := congrArg (fun z => z[i]?) e; simp only [List.getElem?_map, hx, hy, Option.map_some, Option.some.injEq] at h9; rw [decide_eq_true h9] at ht42; cases ht42
      refine T.seq ?_
      refine T.region ?_
      refine TL.val (OpV.assign rfl) rfl ?_
      refine TL.nil ?_
      refine TE.next ?_
      refine T.ret ?_
      refine TE.out_ret ?_
      refine TE.pass_ret ?_
      refine TE.pass_ret ?_
      refine TE.out_ret ?_
      refine TE.pass_ret ?_
      refine TE.ret1 rfl (ResV.tmp rfl) ?_
      exact fun w1 k1 => ⟨ret_bool hsv2.symm, k1.bel⟩
     ·
      intro ht42
      have hxy : x.cells = y.cells := by simpa using ht42
      refine T.skip ?_
      refine TE.out ?_
      refine TE.next ?_
      refine T.region ?_
      refine TL.val (OpV.move rfl) rfl ?_
      refine TL.val (OpV.add rfl rfl (by first | exact IntWalk.i64_in _ ⟨by omega, by omega⟩ | rfl)) rfl ?_
      refine TL.val (OpV.assign rfl) rfl ?_
      refine TL.nil ?_
      exact TE.meet (i + 1) ⟨⟨by omega, by rw [take_snoc hx, take_snoc hy, List.map_append, List.map_append, q2, List.map_cons, List.map_nil, List.map_cons, List.map_nil, hxy]⟩, by omega⟩ (.cons (t := 5) (by first | rfl | (simp [lk]; done)) <| .cons (t := 6) (by first | rfl | (simp [lk]; done)) <| .cons (t := 7) (by first | rfl | (simp [lk]; done)) <| .nil) (Perm.kle (.cons (by first | exact P0 | exact P1 | exact P2 | exact P3 | exact P4 | exact P5 | exact P6 | exact P7) (.cons (by first | exact P0 | exact P1 | exact P2 | exact P3 | exact P4 | exact P5 | exact P6 | exact P7) .nil)))
    ·
     intro ht28
     obtain ⟨q1, q2⟩ := hR
     have hsv2 : sameV (ls.map LnA.ln) (ms.map LnA.ln) = true := by rw [hsv]; exact decide_eq_true (by have h9 := of_decide_eq_false ht28; rwa [List.take_of_length_le (by omega), List.take_of_length_le (by omega)] at q2)
     refine T.exit ?_
     refine TE.pass_exit ?_
     refine TE.pass_exit ?_
     refine TE.here ?_
     refine TE.next ?_
     refine T.seq ?_
     refine T.region ?_
     refine TL.val (OpV.assign rfl) rfl ?_
     refine TL.nil ?_
     refine TE.sub (.cons (t := 4) rfl <| .nil) ?_
     refine TE.next ?_
     refine T.ret ?_
     refine TE.ret1 rfl (ResV.tmp rfl) ?_
     exact fun w1 k1 => ⟨ret_bool hsv2.symm, k1.bel⟩
end Go.Proofs.YtdmpodpdpncobaaDoor
