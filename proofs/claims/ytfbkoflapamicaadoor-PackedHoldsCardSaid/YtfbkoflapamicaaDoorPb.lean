/-
  The walks of runs. Condition: the package-level tables hold what they were laid with.
-/
import Derived.Test.YtfbkoflapamicaaDoorPa
namespace Go.Proofs.YtfbkoflapamicaaDoor
open Go.RowKit
set_option linter.unusedSimpArgs false
set_option linter.unusedVariables false

theorem bld_67_0_1 (n : Int) (x : W3) (w : World) : (Instr.build 67 #[(0, .int .i64 n), (1, .agg x.l.toArray)]).run Tryd.prog w = .ok (.agg (Rn.mk n x).l.toArray) w := by kernel_rfl
theorem sl_43_1_0 (x : Rn) (w : World) : (Instr.buildSlice 43 1 #[(0, .agg x.l.toArray)]).run Tryd.prog w = .ok (.slice (some ⟨w.heap.size, 0, none⟩) 1 1) (w.alloc (.cells x.l.toArray 67)) := by kernel_rfl
theorem sl_42_1_0 (c : Cl) (w : World) : (Instr.buildSlice 42 1 #[(0, .agg c.l.toArray)]).run Tryd.prog w = .ok (.slice (some ⟨w.heap.size, 0, none⟩) 1 1) (w.alloc (.cells c.l.toArray 30)) := by kernel_rfl
theorem eq_67 (x y : Rn) (w : World) : (Op.equal 67 (.agg x.l.toArray) (.agg y.l.toArray)).run Tryd.prog w = .ok (decide (x = y)) w := by
  show (Op.equalIn (9997 + 3) _ _ _).run _ _ = _
  have e1 := eqw_34
  obtain ⟨n, a⟩ := x
  obtain ⟨m, b⟩ := y
  have e2 : decide (Rn.mk n a = Rn.mk m b) = (n == m && decide (a = b)) := by rw [Bool.eq_iff_iff]; simp
  rw [e2]
  have e3 := fun d w => e1 d a b w
  simp only [W3.l] at e3
  simp [go_sem, part, Rn.l, e3]
  clear e1 e3
  by_cases h1 : n = m <;> by_cases h2 : a = b <;> simp [h1, h2]
set_option maxRecDepth 100000 in
set_option maxHeartbeats 1000000 in
theorem valid5_c {σ : Nat → Option Obj} {A : Option Addr} {n c : Nat} {rs : List Rn} (w : World) (L : LaidW w) (h : RsR σ A n c rs) (hw : InR rs) (hs : ∀ b o, σ b = some o → w.heap[b]? = some o) : Calls Tryd.prog 20 #[.slice A n c] w (Ret (.bool (vR rs)) w) := by
  have hn63 := h.2.1
  have hc63 := h.2.2.1
  have hl1 := h.1
  refine calls_T (vs := [.slice A n c]) (L0 := [(0, .slice A n c)]) Tryd.func20 rfl rfl rfl rfl (KOk.fr1 hs) ?_
  refine T.seq ?_
  refine T.region ?_
  refine TL.val (OpV.assign rfl) rfl ?_
  refine TL.nil ?_
  refine TE.next ?_
  refine T.seq ?_
  refine T.region ?_
  refine TL.val (OpV.assign rfl) rfl ?_
  refine TL.nil ?_
  refine TE.next ?_
  refine T.seq ?_
  refine T.seq ?_
  refine T.region ?_
  refine TL.val (OpV.move rfl) rfl ?_
  refine TL.val (OpV.len Tryd.underlying43 rfl) rfl ?_
  refine TL.val (OpV.move rfl) rfl ?_
  refine TL.nil ?_
  refine TE.next ?_
  refine T.block ?_
  refine T.loop (ι := Nat) (fun i => i ≤ n ∧ vRf (sumR (rs.take i)) (prevW rs i) (rs.drop i) = vR rs ∧ (0 ≤ sumR (rs.take i) ∧ sumR (rs.take i) ≤ 100000)) (fun i => (n - i)) (fun i => [(0, .slice A n c), (3, .int .i64 (sumR (rs.take i))), (8, .slice A n c), (9, .int .i64 (n : Int)), (10, .int .i64 (i : Int))]) (fun i => [.fr σ]) 0 ⟨Nat.zero_le _, rfl, show (0 : Int) ≤ 0 ∧ (0 : Int) ≤ 100000 by decide⟩ (.cons (t := 0) rfl <| .cons (t := 3) rfl <| .cons (t := 8) rfl <| .cons (t := 9) rfl <| .cons (t := 10) rfl <| .nil) (Kle.refl) ?_
  rintro i hR
  refine T.seq ?_
  refine T.region ?_
  refine TL.val (OpV.lss rfl rfl) rfl ?_
  refine TL.nil ?_
  refine TE.next ?_
  refine T.seq ?_
  refine T.cond rfl ?_ ?_
  · intro ht11
    obtain ⟨q1, q2, q3⟩ := hR
    have hi : i < n := by have h9 := of_decide_eq_true ht11; omega
    obtain ⟨x, hx⟩ := get_of_lt h.1 hi
    obtain ⟨b, o, hA, hat0⟩ := h.2.2.2.2 (by omega)
    obtain ⟨_, rfl, _, hatx⟩ := hat0 i x hx
    have hxw := hw x (List.mem_of_getElem? hx)
    have hss := sumR_snoc (rs.take i) x
    rw [← take_snoc hx] at hss
    refine T.skip ?_
    refine TE.next ?_
    refine T.seq ?_
    refine T.block ?_
    refine T.seq ?_
    refine T.region ?_
    refine TL.val (OpV.move rfl) rfl ?_
    refine TL.val (OpV.indexAddr se_43 rfl hA rfl (by rfl) (by first | omega | simp)) rfl ?_
    refine TL.val (OpV.loadA ag_67 rfl (by first | exact Cels.blk P0 rfl | exact Cels.blk P1 rfl | exact Cels.blk P2 rfl | exact Cels.blk P3 rfl | exact Cels.blk P4 rfl | exact Cels.frA hatx rfl)) rfl ?_
    refine TL.alloc zo_67 rfl ?_
    intro b5
    refine TL.val (OpV.assign rfl) rfl ?_
    first
      | refine TL.storeAll rfl rfl szz_67 rfl rfl rfl (by first | exact P0 | exact P1 | exact P2 | exact P3 | exact P4) (by rfl) ?_
      | refine TL.store rfl rfl szz_67 rfl rfl rfl (by first | exact P0 | exact P1 | exact P2 | exact P3 | exact P4) (by first | exact Nat.le_of_ble_eq_true rfl | (simp; done) | (simp; omega)) (by simp only [Rn.l, putL, List.take_succ_cons, List.take_zero, List.drop_succ_cons, List.drop_zero, List.cons_append, List.nil_append, List.length_cons, List.length_nil, Nat.reduceAdd]; rfl) ?_
    refine TL.nil ?_
    refine TE.next ?_
    refine T.seq ?_
    refine T.seq ?_
    refine T.quiet mix (by kernel_rfl) ?_
    refine TQ.val (OpV.fieldAddr rfl fo_67_0) rfl ?_
    refine TQ.val (OpV.load pl_3 rfl (by first | exact Cel.blk P0 rfl | exact Cel.blk P1 rfl | exact Cel.blk P2 rfl | exact Cel.blk P3 rfl | exact Cel.blk P4 rfl | exact Cel.frA (hatx _ _ rfl))) rfl ?_
    refine TQ.val (OpV.lss rfl rfl) rfl ?_
    refine TQ.val (OpV.move rfl) rfl ?_
    refine TQ.part (t := 18) rfl ?_ ?_
    · intro hg18
      have hvr : vR rs = false := by rw [← q2, drop_get hx, vRf]; rw [decide_eq_false (by have h9 := of_decide_eq_true hg18; omega), Bool.false_and]
      refine TQ.shut rfl rfl ?_
      refine TQ.shut rfl rfl ?_
      refine TQ.shut rfl rfl ?_
      refine TQ.val ((by first | exact OpV.pick_t rfl rfl | exact OpV.pick_f rfl rfl)) rfl ?_
      refine TQ.val (OpV.move rfl) rfl ?_
      refine TQ.shut rfl rfl ?_
      refine TQ.shut rfl rfl ?_
      refine TQ.shut rfl rfl ?_
      refine TQ.shutU rfl rfl ?_
      refine TQ.shutU rfl rfl ?_
      refine TQ.shutU rfl rfl ?_
      refine TQ.shutU rfl rfl ?_
      refine TQ.shutU rfl rfl ?_
      refine TQ.shutU rfl rfl ?_
      refine TQ.shutU rfl rfl ?_
      refine TQ.shutU rfl rfl ?_
      refine TQ.shutU rfl rfl ?_
      refine TQ.shut rfl rfl ?_
      refine TQ.val ((by first | exact OpV.pick_t rfl rfl | exact OpV.pick_f rfl rfl)) rfl ?_
      refine TQ.nil ?_
      refine TE.sub (.cons (t := 0) rfl <| .cons (t := 3) rfl <| .cons (t := 5) rfl <| .cons (t := 8) rfl <| .cons (t := 9) rfl <| .cons (t := 10) rfl <| .cons (t := 37) rfl <| .nil) ?_
      refine TE.next ?_
      refine T.yes rfl ?_
      refine T.seq ?_
      refine T.region ?_
      refine TL.val (OpV.assign rfl) rfl ?_
      refine TL.nil ?_
      refine TE.sub (.cons (t := 2) rfl <| .nil) ?_
      refine TE.next ?_
      refine T.ret ?_
      refine TE.pass_ret ?_
      refine TE.out_ret ?_
      refine TE.pass_ret ?_
      refine TE.pass_ret ?_
      refine TE.out_ret ?_
      refine TE.pass_ret ?_
      refine TE.ret1 rfl (ResV.tmp rfl) ?_
      exact fun w1 k1 => ⟨ret_bool hvr.symm, k1.bel⟩
    · intro hg18
      refine TQ.open rfl rfl ?_
      refine TQ.val (OpV.fieldAddr rfl fo_67_0) rfl ?_
      refine TQ.open rfl rfl ?_
      refine TQ.val (OpV.load pl_3 rfl (by first | exact Cel.blk P0 rfl | exact Cel.blk P1 rfl | exact Cel.blk P2 rfl | exact Cel.blk P3 rfl | exact Cel.blk P4 rfl | exact Cel.frA (hatx _ _ rfl))) rfl ?_
      refine TQ.open rfl rfl ?_
      refine TQ.val (OpV.gtr rfl rfl) rfl ?_
      refine TQ.val ((by first | exact OpV.pick_t rfl rfl | exact OpV.pick_f rfl rfl)) rfl ?_
      refine TQ.val (OpV.move rfl) rfl ?_
      refine TQ.part (t := 23) rfl ?_ ?_
      · intro hg23
        have hvr : vR rs = false := by rw [← q2, drop_get hx, vRf]; rw [decide_eq_false (by have h9 := of_decide_eq_true hg23; omega), Bool.false_and]
        refine TQ.shut rfl rfl ?_
        refine TQ.shut rfl rfl ?_
        refine TQ.shut rfl rfl ?_
        refine TQ.shutU rfl rfl ?_
        refine TQ.shutU rfl rfl ?_
        refine TQ.shutU rfl rfl ?_
        refine TQ.shutU rfl rfl ?_
        refine TQ.shutU rfl rfl ?_
        refine TQ.shutU rfl rfl ?_
        refine TQ.shutU rfl rfl ?_
        refine TQ.shutU rfl rfl ?_
        refine TQ.shutU rfl rfl ?_
        refine TQ.shut rfl rfl ?_
        refine TQ.val ((by first | exact OpV.pick_t rfl rfl | exact OpV.pick_f rfl rfl)) rfl ?_
        refine TQ.nil ?_
        refine TE.sub (.cons (t := 0) rfl <| .cons (t := 3) rfl <| .cons (t := 5) rfl <| .cons (t := 8) rfl <| .cons (t := 9) rfl <| .cons (t := 10) rfl <| .cons (t := 37) rfl <| .nil) ?_
        refine TE.next ?_
        refine T.yes rfl ?_
        refine T.seq ?_
        refine T.region ?_
        refine TL.val (OpV.assign rfl) rfl ?_
        refine TL.nil ?_
        refine TE.sub (.cons (t := 2) rfl <| .nil) ?_
        refine TE.next ?_
        refine T.ret ?_
        refine TE.pass_ret ?_
        refine TE.out_ret ?_
        refine TE.pass_ret ?_
        refine TE.pass_ret ?_
        refine TE.out_ret ?_
        refine TE.pass_ret ?_
        refine TE.ret1 rfl (ResV.tmp rfl) ?_
        exact fun w1 k1 => ⟨ret_bool hvr.symm, k1.bel⟩
      · intro hg23
        have hcn : 1 ≤ x.cnt ∧ x.cnt ≤ 100000 := by have h9 := of_decide_eq_false hg23; have h8 := of_decide_eq_false hg18; omega
        refine TQ.open rfl rfl ?_
        refine TQ.val (OpV.move rfl) rfl ?_
        refine TQ.open rfl rfl ?_
        refine TQ.val (OpV.gtr rfl rfl) rfl ?_
        refine TQ.open rfl rfl ?_
        refine TQ.val (OpV.move rfl) rfl ?_
        refine TQ.part (t := 26) rfl ?_ ?_
        · intro hg26
          have h0 : 0 < i := by have h9 := of_decide_eq_true hg26; omega
          obtain ⟨y, hy⟩ := get_of_lt h.1 (show i - 1 < n by omega)
          obtain ⟨_, rfl, _, haty⟩ := hat0 (i - 1) y hy
          have hpv : prevW rs i = some y.w := by rw [prevW, if_pos h0, hy]; rfl
          refine TQ.open rfl rfl ?_
          refine TQ.val (OpV.fieldAddr rfl fo_67_1) rfl ?_
          refine TQ.open rfl rfl ?_
          refine TQ.val (OpV.loadA ag_34 rfl (Cels.blkAt x.w.l (by first | exact P0 | exact P1 | exact P2 | exact P3 | exact P4) rfl rfl)) rfl ?_
          refine TQ.open rfl rfl ?_
          refine TQ.val (OpV.move rfl) rfl ?_
          refine TQ.open rfl rfl ?_
          refine TQ.val (OpV.move rfl) rfl ?_
          refine TQ.open rfl rfl ?_
          refine TQ.val (OpV.sub rfl rfl (by first | exact IntWalk.i64_in _ ⟨by omega, by omega⟩ | rfl)) rfl ?_
          refine TQ.open rfl rfl ?_
          refine TQ.val (OpV.indexAddr (j := (i - 1)) se_43 rfl hA rfl (by omega) (by omega)) rfl ?_
          refine TQ.open rfl rfl ?_
          refine TQ.val (OpV.fieldAddr rfl fo_67_1) rfl ?_
          refine TQ.open rfl rfl ?_
          refine TQ.val (OpV.loadA ag_34 rfl (Cels.fr (cs := y.w.l) (by first | exact P0 | exact P1 | exact P2 | exact P3 | exact P4 | exact P5 | exact P6) (haty.part [] y.w.l 1 rfl) rfl)) rfl ?_
          refine TQ.open rfl rfl ?_
          refine TQ.val (OpV.aeql rfl rfl eg_34 (eq_34 x.w y.w)) rfl ?_
          refine TQ.open rfl rfl ?_
          refine TQ.val ((by first | exact OpV.pick_t rfl rfl | exact OpV.pick_f rfl rfl)) rfl ?_
          refine TQ.val ((by first | exact OpV.pick_t rfl rfl | exact OpV.pick_f rfl rfl)) rfl ?_
          refine TQ.nil ?_
          refine TE.sub (.cons (t := 0) rfl <| .cons (t := 3) rfl <| .cons (t := 5) rfl <| .cons (t := 8) rfl <| .cons (t := 9) rfl <| .cons (t := 10) rfl <| .cons (t := 37) rfl <| .nil) ?_
          refine TE.next ?_
          refine T.cond rfl ?_ ?_
          · intro ht37
            have hvr : vR rs = false := by rw [← q2, drop_get hx, vRf]; rw [hpv, show decide (some y.w ≠ some x.w) = false by have h9 : x.w = y.w := of_decide_eq_true ht37; rw [h9]; simp, Bool.false_and, Bool.and_false]
            refine T.seq ?_
            refine T.region ?_
            refine TL.val (OpV.assign rfl) rfl ?_
            refine TL.nil ?_
            refine TE.sub (.cons (t := 2) rfl <| .nil) ?_
            refine TE.next ?_
            refine T.ret ?_
            refine TE.pass_ret ?_
            refine TE.out_ret ?_
            refine TE.pass_ret ?_
            refine TE.pass_ret ?_
            refine TE.out_ret ?_
            refine TE.pass_ret ?_
            refine TE.ret1 rfl (ResV.tmp rfl) ?_
            exact fun w1 k1 => ⟨ret_bool hvr.symm, k1.bel⟩
          · intro ht37
            have hne : prevW rs i ≠ some x.w := by have h9 : ¬ x.w = y.w := of_decide_eq_false ht37; rw [hpv]; intro e; exact h9 (Option.some.inj e).symm
            refine T.skip ?_
            refine TE.next ?_
            refine T.seq ?_
            refine T.seq ?_
            refine T.region ?_
            refine TL.val (OpV.fieldAddr rfl fo_67_1) rfl ?_
            refine TL.val (OpV.loadA ag_34 rfl (Cels.blkAt x.w.l (by first | exact P0 | exact P1 | exact P2 | exact P3 | exact P4) rfl rfl)) rfl ?_
            refine TL.call (g := 33) rfl go_33 rfl (fun w1 k1 => cell_c x.w w1 (L.below k1.bel) hxw) rfl ?_
            refine TL.val (OpV.move rfl) rfl ?_
            refine TL.val (OpV.extract rfl rfl) rfl ?_
            refine TL.val (OpV.extract rfl rfl) rfl ?_
            refine TL.alloc zo_30 rfl ?_
            intro b6
            first
              | refine TL.storeAll rfl rfl szz_30 rfl rfl rfl (by first | exact P0 | exact P1 | exact P2 | exact P3 | exact P4) (by rfl) ?_
              | refine TL.store rfl rfl szz_30 rfl rfl rfl (by first | exact P0 | exact P1 | exact P2 | exact P3 | exact P4) (by first | exact Nat.le_of_ble_eq_true rfl | (simp; done) | (simp; omega)) (by simp only [Rn.l, putL, List.take_succ_cons, List.take_zero, List.drop_succ_cons, List.drop_zero, List.cons_append, List.nil_append, List.length_cons, List.length_nil, Nat.reduceAdd]; rfl) ?_
            refine TL.val (OpV.assign rfl) rfl ?_
            refine TL.nil ?_
            refine TE.sub (.cons (t := 0) rfl <| .cons (t := 3) rfl <| .cons (t := 5) rfl <| .cons (t := 7) rfl <| .cons (t := 8) rfl <| .cons (t := 9) rfl <| .cons (t := 10) rfl <| .nil) ?_
            refine TE.next ?_
            refine T.seq ?_
            refine T.region ?_
            refine TL.val (OpV.move rfl) rfl ?_
            refine TL.val (OpV.neq rfl rfl) rfl ?_
            refine TL.nil ?_
            refine TE.next ?_
            refine T.cond rfl ?_ ?_
            · intro ht45
              have hvr : vR rs = false := by rw [← q2, drop_get hx, vRf]; rw [show okW x.w = false by cases hk : okW x.w <;> simp_all [cellE], Bool.false_and, Bool.and_false, Bool.and_false]
              refine T.seq ?_
              refine T.region ?_
              refine TL.val (OpV.assign rfl) rfl ?_
              refine TL.nil ?_
              refine TE.sub (.cons (t := 2) rfl <| .nil) ?_
              refine TE.next ?_
              refine T.ret ?_
              refine TE.pass_ret ?_
              refine TE.out_ret ?_
              refine TE.pass_ret ?_
              refine TE.pass_ret ?_
              refine TE.out_ret ?_
              refine TE.pass_ret ?_
              refine TE.ret1 rfl (ResV.tmp rfl) ?_
              exact fun w1 k1 => ⟨ret_bool hvr.symm, k1.bel⟩
            · intro ht45
              have hk : okW x.w = true := by cases hk : okW x.w <;> simp_all [cellE]
              refine T.skip ?_
              refine TE.next ?_
              refine T.seq ?_
              refine T.region ?_
              refine TL.val (OpV.move rfl) rfl ?_
              refine TL.val (OpV.fieldAddr rfl fo_67_0) rfl ?_
              refine TL.val (OpV.load pl_3 rfl (by first | exact Cel.blk P0 rfl | exact Cel.blk P1 rfl | exact Cel.blk P2 rfl | exact Cel.blk P3 rfl | exact Cel.blk P4 rfl | exact Cel.frA (hatx _ _ rfl))) rfl ?_
              refine TL.val (OpV.add rfl rfl (by first | exact IntWalk.i64_in _ ⟨by omega, by omega⟩ | rfl)) rfl ?_
              refine TL.val (OpV.assign rfl) rfl ?_
              refine TL.nil ?_
              refine TE.sub (.cons (t := 0) rfl <| .cons (t := 3) rfl <| .cons (t := 8) rfl <| .cons (t := 9) rfl <| .cons (t := 10) rfl <| .nil) ?_
              refine TE.next ?_
              refine T.seq ?_
              refine T.region ?_
              refine TL.val (OpV.move rfl) rfl ?_
              refine TL.val (OpV.gtr rfl rfl) rfl ?_
              refine TL.nil ?_
              refine TE.next ?_
              refine T.cond rfl ?_ ?_
              · intro ht51
                have hvr : vR rs = false := by rw [← q2, drop_get hx, vRf]; rw [decide_eq_false (show ¬ (sumR (rs.take i) + x.cnt ≤ 100000) by have h9 := of_decide_eq_true ht51; omega), Bool.false_and, Bool.and_false, Bool.and_false, Bool.and_false]
                refine T.seq ?_
                refine T.region ?_
                refine TL.val (OpV.assign rfl) rfl ?_
                refine TL.nil ?_
                refine TE.sub (.cons (t := 2) rfl <| .nil) ?_
                refine TE.next ?_
                refine T.ret ?_
                refine TE.out_ret ?_
                refine TE.pass_ret ?_
                refine TE.pass_ret ?_
                refine TE.out_ret ?_
                refine TE.pass_ret ?_
                refine TE.ret1 rfl (ResV.tmp rfl) ?_
                exact fun w1 k1 => ⟨ret_bool hvr.symm, k1.bel⟩
              · intro ht51
                have hsm : sumR (rs.take i) + x.cnt ≤ 100000 := by have h9 := of_decide_eq_false ht51; omega
                refine T.skip ?_
                refine TE.out ?_
                refine TE.next ?_
                refine T.region ?_
                refine TL.val (OpV.add rfl rfl (by first | exact IntWalk.i64_in _ ⟨by omega, by omega⟩ | rfl)) rfl ?_
                refine TL.val (OpV.move rfl) rfl ?_
                refine TL.nil ?_
                exact TE.meet (i + 1) ⟨⟨by omega, by rw [← q2, drop_get hx, vRf, decide_eq_true hcn, decide_eq_true hne, hk, decide_eq_true hsm, hss, prevW_succ hx]; rfl, by omega⟩, by omega⟩ (.cons (t := 0) (by first | rfl | (simp [lk]; done)) <| .cons (t := 3) (by rw [hss]; rfl) <| .cons (t := 8) (by first | rfl | (simp [lk]; done)) <| .cons (t := 9) (by first | rfl | (simp [lk]; done)) <| .cons (t := 10) (by first | rfl | (simp [lk]; done)) <| .nil) (Perm.kle (.cons (by first | exact P0 | exact P1 | exact P2 | exact P3 | exact P4 | exact P5 | exact P6) .nil))
        · intro hg26
          have hne : prevW rs i ≠ some x.w := by have h9 := of_decide_eq_false hg26; rw [prevW, if_neg (by omega)]; simp
          refine TQ.shut rfl rfl ?_
          refine TQ.shut rfl rfl ?_
          refine TQ.shut rfl rfl ?_
          refine TQ.shut rfl rfl ?_
          refine TQ.shut rfl rfl ?_
          refine TQ.shut rfl rfl ?_
          refine TQ.shut rfl rfl ?_
          refine TQ.shut rfl rfl ?_
          refine TQ.shut rfl rfl ?_
          refine TQ.open rfl rfl ?_
          refine TQ.val ((by first | exact OpV.pick_t rfl rfl | exact OpV.pick_f rfl rfl)) rfl ?_
          refine TQ.val ((by first | exact OpV.pick_t rfl rfl | exact OpV.pick_f rfl rfl)) rfl ?_
          refine TQ.nil ?_
          refine TE.sub (.cons (t := 0) rfl <| .cons (t := 3) rfl <| .cons (t := 5) rfl <| .cons (t := 8) rfl <| .cons (t := 9) rfl <| .cons (t := 10) rfl <| .cons (t := 37) rfl <| .nil) ?_
          refine TE.next ?_
          refine T.no rfl ?_
          refine T.skip ?_
          refine TE.next ?_
          refine T.seq ?_
          refine T.seq ?_
          refine T.region ?_
          refine TL.val (OpV.fieldAddr rfl fo_67_1) rfl ?_
          refine TL.val (OpV.loadA ag_34 rfl (Cels.blkAt x.w.l (by first | exact P0 | exact P1 | exact P2 | exact P3 | exact P4) rfl rfl)) rfl ?_
          refine TL.call (g := 33) rfl go_33 rfl (fun w1 k1 => cell_c x.w w1 (L.below k1.bel) hxw) rfl ?_
          refine TL.val (OpV.move rfl) rfl ?_
          refine TL.val (OpV.extract rfl rfl) rfl ?_
          refine TL.val (OpV.extract rfl rfl) rfl ?_
          refine TL.alloc zo_30 rfl ?_
          intro b6
          first
            | refine TL.storeAll rfl rfl szz_30 rfl rfl rfl (by first | exact P0 | exact P1 | exact P2 | exact P3 | exact P4) (by rfl) ?_
            | refine TL.store rfl rfl szz_30 rfl rfl rfl (by first | exact P0 | exact P1 | exact P2 | exact P3 | exact P4) (by first | exact Nat.le_of_ble_eq_true rfl | (simp; done) | (simp; omega)) (by simp only [Rn.l, putL, List.take_succ_cons, List.take_zero, List.drop_succ_cons, List.drop_zero, List.cons_append, List.nil_append, List.length_cons, List.length_nil, Nat.reduceAdd]; rfl) ?_
          refine TL.val (OpV.assign rfl) rfl ?_
          refine TL.nil ?_
          refine TE.sub (.cons (t := 0) rfl <| .cons (t := 3) rfl <| .cons (t := 5) rfl <| .cons (t := 7) rfl <| .cons (t := 8) rfl <| .cons (t := 9) rfl <| .cons (t := 10) rfl <| .nil) ?_
          refine TE.next ?_
          refine T.seq ?_
          refine T.region ?_
          refine TL.val (OpV.move rfl) rfl ?_
          refine TL.val (OpV.neq rfl rfl) rfl ?_
          refine TL.nil ?_
          refine TE.next ?_
          refine T.cond rfl ?_ ?_
          · intro ht45
            have hvr : vR rs = false := by rw [← q2, drop_get hx, vRf]; rw [show okW x.w = false by cases hk : okW x.w <;> simp_all [cellE], Bool.false_and, Bool.and_false, Bool.and_false]
            refine T.seq ?_
            refine T.region ?_
            refine TL.val (OpV.assign rfl) rfl ?_
            refine TL.nil ?_
            refine TE.sub (.cons (t := 2) rfl <| .nil) ?_
            refine TE.next ?_
            refine T.ret ?_
            refine TE.pass_ret ?_
            refine TE.out_ret ?_
            refine TE.pass_ret ?_
            refine TE.pass_ret ?_
            refine TE.out_ret ?_
            refine TE.pass_ret ?_
            refine TE.ret1 rfl (ResV.tmp rfl) ?_
            exact fun w1 k1 => ⟨ret_bool hvr.symm, k1.bel⟩
          · intro ht45
            have hk : okW x.w = true := by cases hk : okW x.w <;> simp_all [cellE]
            refine T.skip ?_
            refine TE.next ?_
            refine T.seq ?_
            refine T.region ?_
            refine TL.val (OpV.move rfl) rfl ?_
            refine TL.val (OpV.fieldAddr rfl fo_67_0) rfl ?_
            refine TL.val (OpV.load pl_3 rfl (by first | exact Cel.blk P0 rfl | exact Cel.blk P1 rfl | exact Cel.blk P2 rfl | exact Cel.blk P3 rfl | exact Cel.blk P4 rfl | exact Cel.frA (hatx _ _ rfl))) rfl ?_
            refine TL.val (OpV.add rfl rfl (by first | exact IntWalk.i64_in _ ⟨by omega, by omega⟩ | rfl)) rfl ?_
            refine TL.val (OpV.assign rfl) rfl ?_
            refine TL.nil ?_
            refine TE.sub (.cons (t := 0) rfl <| .cons (t := 3) rfl <| .cons (t := 8) rfl <| .cons (t := 9) rfl <| .cons (t := 10) rfl <| .nil) ?_
            refine TE.next ?_
            refine T.seq ?_
            refine T.region ?_
            refine TL.val (OpV.move rfl) rfl ?_
            refine TL.val (OpV.gtr rfl rfl) rfl ?_
            refine TL.nil ?_
            refine TE.next ?_
            refine T.cond rfl ?_ ?_
            · intro ht51
              have hvr : vR rs = false := by rw [← q2, drop_get hx, vRf]; rw [decide_eq_false (show ¬ (sumR (rs.take i) + x.cnt ≤ 100000) by have h9 := of_decide_eq_true ht51; omega), Bool.false_and, Bool.and_false, Bool.and_false, Bool.and_false]
              refine T.seq ?_
              refine T.region ?_
              refine TL.val (OpV.assign rfl) rfl ?_
              refine TL.nil ?_
              refine TE.sub (.cons (t := 2) rfl <| .nil) ?_
              refine TE.next ?_
              refine T.ret ?_
              refine TE.out_ret ?_
              refine TE.pass_ret ?_
              refine TE.pass_ret ?_
              refine TE.out_ret ?_
              refine TE.pass_ret ?_
              refine TE.ret1 rfl (ResV.tmp rfl) ?_
              exact fun w1 k1 => ⟨ret_bool hvr.symm, k1.bel⟩
            · intro ht51
              have hsm : sumR (rs.take i) + x.cnt ≤ 100000 := by have h9 := of_decide_eq_false ht51; omega
              refine T.skip ?_
              refine TE.out ?_
              refine TE.next ?_
              refine T.region ?_
              refine TL.val (OpV.add rfl rfl (by first | exact IntWalk.i64_in _ ⟨by omega, by omega⟩ | rfl)) rfl ?_
              refine TL.val (OpV.move rfl) rfl ?_
              refine TL.nil ?_
              exact TE.meet (i + 1) ⟨⟨by omega, by rw [← q2, drop_get hx, vRf, decide_eq_true hcn, decide_eq_true hne, hk, decide_eq_true hsm, hss, prevW_succ hx]; rfl, by omega⟩, by omega⟩ (.cons (t := 0) (by first | rfl | (simp [lk]; done)) <| .cons (t := 3) (by rw [hss]; rfl) <| .cons (t := 8) (by first | rfl | (simp [lk]; done)) <| .cons (t := 9) (by first | rfl | (simp [lk]; done)) <| .cons (t := 10) (by first | rfl | (simp [lk]; done)) <| .nil) (Perm.kle (.cons (by first | exact P0 | exact P1 | exact P2 | exact P3 | exact P4 | exact P5 | exact P6) .nil))
  · intro ht11
    obtain ⟨q1, q2, q3⟩ := hR
    have hin : ¬ i < n := by have h9 := of_decide_eq_false ht11; omega
    have hvr : vR rs = true := by rw [← q2, List.drop_of_length_le (by omega), vRf]
    refine T.exit ?_
    refine TE.pass_exit ?_
    refine TE.pass_exit ?_
    refine TE.here ?_
    refine TE.next ?_
    refine T.seq ?_
    refine T.region ?_
    refine TL.val (OpV.assign rfl) rfl ?_
    refine TL.nil ?_
    refine TE.next ?_
    refine T.ret ?_
    refine TE.ret1 rfl (ResV.tmp rfl) ?_
    exact fun w1 k1 => ⟨ret_bool hvr.symm, k1.bel⟩
set_option maxRecDepth 100000 in
set_option maxHeartbeats 1000000 in
theorem count_c {σ : Nat → Option Obj} {A : Option Addr} {n c : Nat} {rs : List Rn} (w : World) (L : LaidW w) (h : RsR σ A n c rs) (hw : InR rs) (hs : ∀ b o, σ b = some o → w.heap[b]? = some o) : Calls Tryd.prog 21 #[.slice A n c] w (Ret (.int .i64 (countV rs)) w) := by
  have hn63 := h.2.1
  have hc63 := h.2.2.1
  have hl1 := h.1
  refine calls_T (vs := [.slice A n c]) (L0 := [(0, .slice A n c)]) Tryd.func21 rfl rfl rfl rfl (KOk.fr1 hs) ?_
  refine T.seq ?_
  refine T.region ?_
  refine TL.val (OpV.assign rfl) rfl ?_
  refine TL.nil ?_
  refine TE.next ?_
  refine T.seq ?_
  refine T.seq ?_
  refine T.region ?_
  refine TL.val (OpV.move rfl) rfl ?_
  refine TL.call (g := 20) rfl go_20 rfl (fun w1 k1 => valid5_c w1 (L.below k1.bel) h hw (k1.get (e := .fr σ) (by first | exact P0 | exact P1 | exact P2 | exact P3 | exact P4 | exact P5))) rfl ?_
  refine TL.val (OpV.not rfl) rfl ?_
  refine TL.nil ?_
  refine TE.next ?_
  refine T.cond rfl ?_ ?_
  · intro ht8
    have hv : vR rs = false := by simpa using ht8
    refine T.seq ?_
    refine T.region ?_
    refine TL.val (OpV.assign rfl) rfl ?_
    refine TL.nil ?_
    refine TE.next ?_
    refine T.ret ?_
    refine TE.pass_ret ?_
    refine TE.ret1 rfl (ResV.tmp rfl) ?_
    exact fun w1 k1 => ⟨by rw [countV, hv]; rfl, k1.bel⟩
  · intro ht8
    have hv : vR rs = true := by simpa using ht8
    obtain ⟨hp1, hp2, hp3⟩ := vR_parts hv
    have hbd := fun i => sum_bd (rs := rs.take i) fun x hx => (hp1 x (List.mem_of_mem_take hx)).1
    refine T.skip ?_
    refine TE.next ?_
    refine T.seq ?_
    refine T.region ?_
    refine TL.val (OpV.assign rfl) rfl ?_
    refine TL.nil ?_
    refine TE.next ?_
    refine T.seq ?_
    refine T.seq ?_
    refine T.region ?_
    refine TL.val (OpV.move rfl) rfl ?_
    refine TL.val (OpV.len Tryd.underlying43 rfl) rfl ?_
    refine TL.val (OpV.move rfl) rfl ?_
    refine TL.nil ?_
    refine TE.next ?_
    refine T.block ?_
    refine T.loop (ι := Nat) (fun i => i ≤ n) (fun i => (n - i)) (fun i => [(3, .int .i64 (sumR (rs.take i))), (9, .slice A n c), (10, .int .i64 (n : Int)), (11, .int .i64 (i : Int))]) (fun i => [.fr σ]) 0 (Nat.zero_le _) (.cons (t := 3) rfl <| .cons (t := 9) rfl <| .cons (t := 10) rfl <| .cons (t := 11) rfl <| .nil) (Kle.refl) ?_
    rintro i hR
    refine T.seq ?_
    refine T.region ?_
    refine TL.val (OpV.lss rfl rfl) rfl ?_
    refine TL.nil ?_
    refine TE.next ?_
    refine T.seq ?_
    refine T.cond rfl ?_ ?_
    · intro ht12
      have hi : i < n := by have h9 := of_decide_eq_true ht12; omega
      obtain ⟨x, hx⟩ := get_of_lt h.1 hi
      obtain ⟨b, o, hA, hat0⟩ := h.2.2.2.2 (by omega)
      obtain ⟨_, rfl, _, hatx⟩ := hat0 i x hx
      have hxw := hw x (List.mem_of_getElem? hx)
      have hss := sumR_snoc (rs.take i) x
      rw [← take_snoc hx] at hss
      have hb1 := hbd i
      have hcx := (hp1 x (List.mem_of_getElem? hx)).1
      rw [List.length_take] at hb1
      refine T.skip ?_
      refine TE.next ?_
      refine T.seq ?_
      refine T.block ?_
      refine T.seq ?_
      refine T.region ?_
      refine TL.val (OpV.indexAddr se_43 rfl hA rfl (by rfl) (by first | omega | simp)) rfl ?_
      refine TL.val (OpV.loadA ag_67 rfl (by first | exact Cels.blk P0 rfl | exact Cels.blk P1 rfl | exact Cels.blk P2 rfl | exact Cels.blk P3 rfl | exact Cels.blk P4 rfl | exact Cels.frA hatx rfl)) rfl ?_
      refine TL.alloc zo_67 rfl ?_
      intro b5
      first
        | refine TL.storeAll rfl rfl szz_67 rfl rfl rfl (by first | exact P0 | exact P1 | exact P2 | exact P3 | exact P4) (by rfl) ?_
        | refine TL.store rfl rfl szz_67 rfl rfl rfl (by first | exact P0 | exact P1 | exact P2 | exact P3 | exact P4) (by first | exact Nat.le_of_ble_eq_true rfl | (simp; done) | (simp; omega)) (by simp only [Rn.l, putL, List.take_succ_cons, List.take_zero, List.drop_succ_cons, List.drop_zero, List.cons_append, List.nil_append, List.length_cons, List.length_nil, Nat.reduceAdd]; rfl) ?_
      refine TL.nil ?_
      refine TE.next ?_
      refine T.region ?_
      refine TL.val (OpV.move rfl) rfl ?_
      refine TL.val (OpV.fieldAddr rfl fo_67_0) rfl ?_
      refine TL.val (OpV.load pl_3 rfl (by first | exact Cel.blk P0 rfl | exact Cel.blk P1 rfl | exact Cel.blk P2 rfl | exact Cel.blk P3 rfl | exact Cel.blk P4 rfl | exact Cel.frA (hatx _ _ rfl))) rfl ?_
      refine TL.val (OpV.add rfl rfl (by first | exact IntWalk.i64_in _ ⟨by omega, by omega⟩ | rfl)) rfl ?_
      refine TL.val (OpV.assign rfl) rfl ?_
      refine TL.nil ?_
      refine TE.out ?_
      refine TE.sub (.cons (t := 3) rfl <| .cons (t := 9) rfl <| .cons (t := 10) rfl <| .cons (t := 11) rfl <| .nil) ?_
      refine TE.next ?_
      refine T.region ?_
      refine TL.val (OpV.add rfl rfl (by first | exact IntWalk.i64_in _ ⟨by omega, by omega⟩ | rfl)) rfl ?_
      refine TL.val (OpV.move rfl) rfl ?_
      refine TL.nil ?_
      exact TE.meet (i + 1) ⟨by omega, by omega⟩ (.cons (t := 3) (by rw [hss]; rfl) <| .cons (t := 9) (by first | rfl | (simp [lk]; done)) <| .cons (t := 10) (by first | rfl | (simp [lk]; done)) <| .cons (t := 11) (by first | rfl | (simp [lk]; done)) <| .nil) (Perm.kle (.cons (by first | exact P0 | exact P1 | exact P2 | exact P3 | exact P4 | exact P5 | exact P6) .nil))
    · intro ht12
      have hin : i = n := by have h9 := of_decide_eq_false ht12; omega
      rw [hin, List.take_of_length_le (by omega)]
      refine T.exit ?_
      refine TE.pass_exit ?_
      refine TE.pass_exit ?_
      refine TE.here ?_
      refine TE.next ?_
      refine T.seq ?_
      refine T.region ?_
      refine TL.val (OpV.move rfl) rfl ?_
      refine TL.val (OpV.assign rfl) rfl ?_
      refine TL.nil ?_
      refine TE.next ?_
      refine T.ret ?_
      refine TE.ret1 rfl (ResV.tmp rfl) ?_
      exact fun w1 k1 => ⟨by rw [countV, hv]; rfl, k1.bel⟩
set_option maxRecDepth 100000 in
set_option maxHeartbeats 1000000 in
theorem unpack5_c {σ : Nat → Option Obj} {A : Option Addr} {n c : Nat} {rs : List Rn} (w : World) (L : LaidW w) (h : RsR σ A n c rs) (hw : InR rs) (hs : ∀ b o, σ b = some o → w.heap[b]? = some o) : Calls Tryd.prog 35 #[.slice A n c] w (fun e w' => ∃ v : SV, e = .returned (.tuple #[v.v, .int .i64 (unpackE rs)]) ∧ CsR v.σ v.A v.n v.c (unpackV rs) ∧ KOk w [.own v.σ] w') := by
  have hn63 := h.2.1
  have hc63 := h.2.2.1
  have hl1 := h.1
  refine calls_T (vs := [.slice A n c]) (L0 := [(0, .slice A n c)]) Tryd.func35 rfl rfl rfl rfl (KOk.fr1 hs) ?_
  refine T.seq ?_
  refine T.region ?_
  refine TL.val (OpV.assign rfl) rfl ?_
  refine TL.val (OpV.assign rfl) rfl ?_
  refine TL.nil ?_
  refine TE.next ?_
  refine T.seq ?_
  refine T.seq ?_
  refine T.region ?_
  refine TL.val (OpV.move rfl) rfl ?_
  refine TL.call (g := 20) rfl go_20 rfl (fun w1 k1 => valid5_c w1 (L.below k1.bel) h hw (k1.get (e := .fr σ) (by first | exact P0 | exact P1 | exact P2 | exact P3 | exact P4 | exact P5))) rfl ?_
  refine TL.val (OpV.not rfl) rfl ?_
  refine TL.nil ?_
  refine TE.next ?_
  refine T.cond rfl ?_ ?_
  · intro ht11
    have hv : vR rs = false := by simpa using ht11
    refine T.seq ?_
    refine T.region ?_
    refine TL.val (OpV.assign rfl) rfl ?_
    refine TL.val (OpV.assign rfl) rfl ?_
    refine TL.nil ?_
    refine TE.next ?_
    refine T.ret ?_
    refine TE.pass_ret ?_
    refine TE.retN rfl (.cons (ResV.tmp rfl) <| .cons (ResV.tmp rfl) <| .nil) ?_
    exact fun wz kz => ⟨⟨none, 0, 0, fun _ => none⟩, by rw [unpackE, hv]; rfl, by rw [unpackV, hv]; exact SlR.nil, Perm.kle (.cons .here .nil) wz (KOk.ownNil kz)⟩
  · intro ht11
    have hv : vR rs = true := by simpa using ht11
    obtain ⟨hp1, hp2, hp3⟩ := vR_parts hv
    have hbd := fun i => sum_bd (rs := rs.take i) fun x hx => (hp1 x (List.mem_of_mem_take hx)).1
    refine T.skip ?_
    refine TE.next ?_
    refine T.seq ?_
    refine T.region ?_
    refine TL.val (OpV.assign rfl) rfl ?_
    refine TL.nil ?_
    refine TE.next ?_
    refine T.seq ?_
    refine T.seq ?_
    refine T.region ?_
    refine TL.val (OpV.move rfl) rfl ?_
    refine TL.val (OpV.len Tryd.underlying43 rfl) rfl ?_
    refine TL.val (OpV.move rfl) rfl ?_
    refine TL.nil ?_
    refine TE.next ?_
    refine T.block ?_
    refine T.loop (ι := Nat × List Cl × Option Addr × Nat) (fun ⟨i, out, A4, c4⟩ => i ≤ n ∧ out = flatR (rs.take i) ∧ (A4 = none → c4 = 0)) (fun ⟨i, out, A4, c4⟩ => (n - i)) (fun ⟨i, out, A4, c4⟩ => [(4, .slice A4 out.length c4), (12, .slice A n c), (13, .int .i64 (n : Int)), (14, .int .i64 (i : Int))]) (fun ⟨i, out, A4, c4⟩ => [.row 30 16 A4 out.length c4 (fl out), .fr σ]) (0, [], none, 0) ⟨Nat.zero_le _, rfl, fun _ => rfl⟩ (.cons (t := 4) rfl <| .cons (t := 12) rfl <| .cons (t := 13) rfl <| .cons (t := 14) rfl <| .nil) ((fun wz kz => Perm.kle (.cons (by first | exact P0 | exact P1 | exact P2 | exact P3 | exact P4 | exact P5 | exact P6) (.cons (by first | exact P0 | exact P1 | exact P2 | exact P3 | exact P4 | exact P5 | exact P6) .nil)) wz (Kle.nilRow 30 16 wz kz))) ?_
    rintro ⟨i, out, A4, c4⟩ hR
    refine T.seq ?_
    refine T.region ?_
    refine TL.val (OpV.lss rfl rfl) rfl ?_
    refine TL.nil ?_
    refine TE.next ?_
    refine T.seq ?_
    refine T.cond rfl ?_ ?_
    · intro ht15
      obtain ⟨q1, q2, q3⟩ := hR
      have hi : i < n := by have h9 := of_decide_eq_true ht15; omega
      obtain ⟨x, hx⟩ := get_of_lt h.1 hi
      obtain ⟨b, o, hA, hat0⟩ := h.2.2.2.2 (by omega)
      obtain ⟨_, rfl, _, hatx⟩ := hat0 i x hx
      have hxw := hw x (List.mem_of_getElem? hx)
      have hss := sumR_snoc (rs.take i) x
      rw [← take_snoc hx] at hss
      have hb1 := hbd i
      obtain ⟨hcx, hkx⟩ := hp1 x (List.mem_of_getElem? hx)
      rw [List.length_take] at hb1
      obtain ⟨m, hm⟩ : ∃ m : Nat, x.cnt = (m : Int) := ⟨x.cnt.toNat, by omega⟩
      have hfs := flatR_snoc (rs.take i) x
      rw [← take_snoc hx, hm, Int.toNat_natCast] at hfs
      refine T.skip ?_
      refine TE.next ?_
      refine T.seq ?_
      refine T.block ?_
      refine T.seq ?_
      refine T.region ?_
      refine TL.val (OpV.indexAddr se_43 rfl hA rfl (by rfl) (by first | omega | simp)) rfl ?_
      refine TL.val (OpV.loadA ag_67 rfl (by first | exact Cels.blk P0 rfl | exact Cels.blk P1 rfl | exact Cels.blk P2 rfl | exact Cels.blk P3 rfl | exact Cels.blk P4 rfl | exact Cels.blk P5 rfl | exact Cels.frA hatx rfl)) rfl ?_
      refine TL.alloc zo_67 rfl ?_
      intro b6
      first
        | refine TL.storeAll rfl rfl szz_67 rfl rfl rfl (by first | exact P0 | exact P1 | exact P2 | exact P3 | exact P4 | exact P5) (by rfl) ?_
        | refine TL.store rfl rfl szz_67 rfl rfl rfl (by first | exact P0 | exact P1 | exact P2 | exact P3 | exact P4 | exact P5) (by first | exact Nat.le_of_ble_eq_true rfl | (simp; done) | (simp; omega)) (by simp only [Rn.l, putL, List.take_succ_cons, List.take_zero, List.drop_succ_cons, List.drop_zero, List.cons_append, List.nil_append, List.length_cons, List.length_nil, Nat.reduceAdd]; rfl) ?_
      refine TL.nil ?_
      refine TE.next ?_
      refine T.seq ?_
      refine T.region ?_
      refine TL.val (OpV.fieldAddr rfl fo_67_1) rfl ?_
      refine TL.val (OpV.loadA ag_34 rfl (Cels.blkAt x.w.l (by first | exact P0 | exact P1 | exact P2 | exact P3 | exact P4) rfl rfl)) rfl ?_
      refine TL.call (g := 33) rfl go_33 rfl (fun w1 k1 => cell_c x.w w1 (L.below k1.bel) hxw) rfl ?_
      refine TL.said (t := 21) rfl (show _ = Value.tuple #[.agg (cellOf x.w).l.toArray, .int .i64 0] by rw [cellV, cellE, hkx]; rfl) ?_
      refine TL.val (OpV.move rfl) rfl ?_
      refine TL.val (OpV.extract rfl rfl) rfl ?_
      refine TL.val (OpV.extract rfl rfl) rfl ?_
      refine TL.alloc zo_30 rfl ?_
      intro b7
      first
        | refine TL.storeAll rfl rfl szz_30 rfl rfl rfl (by first | exact P0 | exact P1 | exact P2 | exact P3 | exact P4 | exact P5) (by rfl) ?_
        | refine TL.store rfl rfl szz_30 rfl rfl rfl (by first | exact P0 | exact P1 | exact P2 | exact P3 | exact P4 | exact P5) (by first | exact Nat.le_of_ble_eq_true rfl | (simp; done) | (simp; omega)) (by simp only [Rn.l, putL, List.take_succ_cons, List.take_zero, List.drop_succ_cons, List.drop_zero, List.cons_append, List.nil_append, List.length_cons, List.length_nil, Nat.reduceAdd]; rfl) ?_
      refine TL.val (OpV.assign rfl) rfl ?_
      refine TL.nil ?_
      refine TE.sub (.cons (t := 4) rfl <| .cons (t := 6) rfl <| .cons (t := 7) rfl <| .cons (t := 8) rfl <| .cons (t := 12) rfl <| .cons (t := 13) rfl <| .cons (t := 14) rfl <| .nil) ?_
      refine TE.next ?_
      refine T.seq ?_
      refine T.seq ?_
      refine T.region ?_
      refine TL.val (OpV.move rfl) rfl ?_
      refine TL.val (OpV.neq rfl rfl) rfl ?_
      refine TL.said (t := 25) rfl (show _ = Value.bool false from congrArg Value.bool (rfl)) ?_
      refine TL.nil ?_
      refine TE.next ?_
      refine T.no rfl ?_
      refine T.skip ?_
      refine TE.next ?_
      refine T.seq ?_
      refine T.region ?_
      refine TL.val (OpV.fieldAddr rfl fo_67_0) rfl ?_
      refine TL.val (OpV.load pl_3 rfl (by first | exact Cel.blk P0 rfl | exact Cel.blk P1 rfl | exact Cel.blk P2 rfl | exact Cel.blk P3 rfl | exact Cel.blk P4 rfl | exact Cel.blk P5 rfl | exact Cel.frA (hatx _ _ rfl))) rfl ?_
      refine TL.said (t := 28) rfl (show _ = Value.int .i64 (m : Int) from congrArg _ hm) ?_
      refine TL.val (OpV.move rfl) rfl ?_
      refine TL.nil ?_
      refine TE.next ?_
      refine T.block ?_
      refine T.loop (ι := Nat × List Cl × Option Addr × Nat) (fun ⟨k, out2, A4b, c4b⟩ => k ≤ m ∧ out2 = flatR (rs.take i) ++ List.replicate k (cellOf x.w) ∧ (A4b = none → c4b = 0)) (fun ⟨k, out2, A4b, c4b⟩ => (m - k)) (fun ⟨k, out2, A4b, c4b⟩ => [(4, .slice A4b out2.length c4b), (7, .pointer (some ⟨b7, 0, none⟩)), (12, .slice A n c), (13, .int .i64 (n : Int)), (14, .int .i64 (i : Int)), (28, .int .i64 (m : Int)), (29, .int .i64 (k : Int))]) (fun ⟨k, out2, A4b, c4b⟩ => [.row 30 16 A4b out2.length c4b (fl out2), .blk b7 (cellOf x.w).l 30, .fr σ]) (0, out, A4, c4) ⟨Nat.zero_le _, by simp [q2], q3⟩ (.cons (t := 4) rfl <| .cons (t := 7) rfl <| .cons (t := 12) rfl <| .cons (t := 13) rfl <| .cons (t := 14) rfl <| .cons (t := 28) rfl <| .cons (t := 29) rfl <| .nil) (Perm.kle (.cons (by first | exact P0 | exact P1 | exact P2 | exact P3 | exact P4 | exact P5 | exact P6) (.cons (by first | exact P0 | exact P1 | exact P2 | exact P3 | exact P4 | exact P5 | exact P6) (.cons (by first | exact P0 | exact P1 | exact P2 | exact P3 | exact P4 | exact P5 | exact P6) .nil)))) ?_
      rintro ⟨k, out2, A4b, c4b⟩ hR1
      refine T.seq ?_
      refine T.region ?_
      refine TL.val (OpV.lss rfl rfl) rfl ?_
      refine TL.nil ?_
      refine TE.next ?_
      refine T.seq ?_
      refine T.cond rfl ?_ ?_
      · intro ht30
        obtain ⟨p1, p2, p3⟩ := hR1
        have hk : k < m := by have h9 := of_decide_eq_true ht30; omega
        have hol : out2.length = (flatR (rs.take i)).length + k := by rw [p2]; simp
        refine T.skip ?_
        refine TE.next ?_
        refine T.seq ?_
        refine T.block ?_
        refine T.region ?_
        refine TL.val (OpV.move rfl) rfl ?_
        refine TL.val (OpV.loadA ag_30 rfl (by first | exact Cels.blk P0 rfl | exact Cels.blk P1 rfl | exact Cels.blk P2 rfl | exact Cels.blk P3 rfl | exact Cels.blk P4 rfl | exact Cels.blk P5 rfl | exact Cels.frA hatx rfl)) rfl ?_
        refine TL.slit (qs := #[(0, _)]) (fun _ f => by simp only [List.map_toArray, List.map_cons, List.map_nil]; rw [f.ev (x := .tmp 32) rfl]) (sl_42_1_0 (cellOf x.w)) rfl ?_
        intro b33
        obtain ⟨ti34, hi34, hz34, hs34, hb34⟩ := info_parts inf_30
        refine TL.append rfl rfl Tryd.underlying42 hi34 hz34 hs34 hb34 rfl (by omega) (by first | exact P0 | exact P1 | exact P2 | exact P3 | exact P4 | exact P5) (by first | exact Src.nil | exact Src.blk P0 rfl | exact Src.blk P1 rfl | exact Src.blk P2 rfl | exact Src.blk P3 rfl | exact Src.blk P4 rfl | exact Src.blk P5 rfl | exact Src.row P0 | exact Src.row P1 | exact Src.row P2 | exact Src.row P3 | exact Src.row P4 | exact Src.row P5) (fun h => by cases h) rfl (by omega) (by omega) rfl ?_
        clear hi34 hz34 hs34 hb34 ti34
        intro A34 c34 hn34
        refine TL.val (OpV.assign rfl) rfl ?_
        refine TL.nil ?_
        refine TE.out ?_
        refine TE.next ?_
        refine T.region ?_
        refine TL.val (OpV.add rfl rfl (by first | exact IntWalk.i64_in _ ⟨by omega, by omega⟩ | rfl)) rfl ?_
        refine TL.val (OpV.move rfl) rfl ?_
        refine TL.nil ?_
        exact TE.meet (k + 1, out2 ++ [cellOf x.w], A34, c34) ⟨⟨by omega, by rw [p2, List.append_assoc, ← List.replicate_succ'], hn34⟩, by simp only; omega⟩ (.cons (t := 4) (by simp only [List.length_append, List.length_cons, List.length_nil]; rfl) <| .cons (t := 7) (by first | rfl | (simp [lk]; done)) <| .cons (t := 12) (by first | rfl | (simp [lk]; done)) <| .cons (t := 13) (by first | rfl | (simp [lk]; done)) <| .cons (t := 14) (by first | rfl | (simp [lk]; done)) <| .cons (t := 28) (by first | rfl | (simp [lk]; done)) <| .cons (t := 29) (by first | rfl | (simp [lk]; done)) <| .nil) ((by simp only [fl_snoc, List.length_append, List.length_cons, List.length_nil]; exact Perm.kle (.cons (by first | exact P0 | exact P1 | exact P2 | exact P3 | exact P4 | exact P5 | exact P6) (.cons (by first | exact P0 | exact P1 | exact P2 | exact P3 | exact P4 | exact P5 | exact P6) (.cons (by first | exact P0 | exact P1 | exact P2 | exact P3 | exact P4 | exact P5 | exact P6) .nil)))))
      · intro ht30
        obtain ⟨p1, p2, p3⟩ := hR1
        have hk : k = m := by have h9 := of_decide_eq_false ht30; omega
        refine T.exit ?_
        refine TE.pass_exit ?_
        refine TE.pass_exit ?_
        refine TE.here ?_
        refine TE.out ?_
        refine TE.next ?_
        refine T.region ?_
        refine TL.val (OpV.add rfl rfl (by first | exact IntWalk.i64_in _ ⟨by omega, by omega⟩ | rfl)) rfl ?_
        refine TL.val (OpV.move rfl) rfl ?_
        refine TL.nil ?_
        exact TE.meet (i + 1, out2, A4b, c4b) ⟨⟨by omega, by rw [p2, hk, hfs], p3⟩, by simp only; omega⟩ (.cons (t := 4) (by first | rfl | (simp [lk]; done)) <| .cons (t := 12) (by first | rfl | (simp [lk]; done)) <| .cons (t := 13) (by first | rfl | (simp [lk]; done)) <| .cons (t := 14) (by first | rfl | (simp [lk]; done)) <| .nil) (Perm.kle (.cons (by first | exact P0 | exact P1 | exact P2 | exact P3 | exact P4 | exact P5 | exact P6) (.cons (by first | exact P0 | exact P1 | exact P2 | exact P3 | exact P4 | exact P5 | exact P6) .nil)))
    · intro ht15
      obtain ⟨q1, q2, q3⟩ := hR
      have hin : ¬ i < n := by have h9 := of_decide_eq_false ht15; omega
      rw [List.take_of_length_le (by omega)] at q2
      refine T.exit ?_
      refine TE.pass_exit ?_
      refine TE.pass_exit ?_
      refine TE.here ?_
      refine TE.next ?_
      refine T.seq ?_
      refine T.region ?_
      refine TL.val (OpV.move rfl) rfl ?_
      refine TL.val (OpV.assign rfl) rfl ?_
      refine TL.val (OpV.assign rfl) rfl ?_
      refine TL.nil ?_
      refine TE.next ?_
      refine T.ret ?_
      refine TE.retN rfl (.cons (ResV.tmp rfl) <| .cons (ResV.tmp rfl) <| .nil) ?_
      intro wz kz
      obtain ⟨ρ, h1, k2⟩ := KOk.rowOwn (kz.pick (e := .row 30 16 A4 out.length c4 (fl out)) (by first | exact P0 | exact P1 | exact P2 | exact P3 | exact P4 | exact P5 | exact P6))
      exact ⟨⟨A4, out.length, c4, ρ⟩, by rw [unpackE, hv]; rfl, by rw [unpackV, hv, if_pos rfl, ← q2]; exact CsR.of_row h1 rfl, Perm.kle (.cons .here .nil) wz k2⟩
set_option maxRecDepth 100000 in
set_option maxHeartbeats 1000000 in
theorem pack5_c {σ : Nat → Option Obj} {A : Option Addr} {n c : Nat} {xs : List Cl} (w : World) (L : LaidW w) (h : CsR σ A n c xs) (hi : ∀ c ∈ xs, InP c.pen) (hs : ∀ b o, σ b = some o → w.heap[b]? = some o) : Calls Tryd.prog 25 #[.slice A n c] w (fun e w' => ∃ v : SV, e = .returned (.tuple #[v.v, .int .i64 (packE xs)]) ∧ RsR v.σ v.A v.n v.c (packV xs) ∧ KOk w [.own v.σ] w') := by
  have hn63 := h.2.1
  have hc63 := h.2.2.1
  have hl1 := h.1
  refine calls_T (vs := [.slice A n c]) (L0 := [(0, .slice A n c)]) Tryd.func25 rfl rfl rfl rfl (KOk.fr1 hs) ?_
  refine T.seq ?_
  refine T.region ?_
  refine TL.val (OpV.assign rfl) rfl ?_
  refine TL.val (OpV.assign rfl) rfl ?_
  refine TL.nil ?_
  refine TE.next ?_
  refine T.seq ?_
  refine T.seq ?_
  refine T.region ?_
  refine TL.val (OpV.move rfl) rfl ?_
  refine TL.val (OpV.len Tryd.underlying42 rfl) rfl ?_
  refine TL.val (OpV.gtr rfl rfl) rfl ?_
  refine TL.nil ?_
  refine TE.next ?_
  refine T.cond rfl ?_ ?_
  · intro ht11
    have hpe : packE xs = 5 := by have h9 := of_decide_eq_true ht11; rw [packE, if_pos (by omega)]
    refine T.seq ?_
    refine T.region ?_
    refine TL.val (OpV.assign rfl) rfl ?_
    refine TL.val (OpV.assign rfl) rfl ?_
    refine TL.nil ?_
    refine TE.next ?_
    refine T.ret ?_
    refine TE.pass_ret ?_
    refine TE.retN rfl (.cons (ResV.tmp rfl) <| .cons (ResV.tmp rfl) <| .nil) ?_
    exact fun wz kz => ⟨⟨none, 0, 0, fun _ => none⟩, by rw [hpe]; rfl, by rw [packV, hpe]; exact SlR.nil, Perm.kle (.cons .here .nil) wz (KOk.ownNil kz)⟩
  · intro ht11
    have hn5 : n ≤ 100000 := by have h9 := of_decide_eq_false ht11; omega
    refine T.skip ?_
    refine TE.next ?_
    refine T.seq ?_
    refine T.region ?_
    refine TL.val (OpV.assign rfl) rfl ?_
    refine TL.nil ?_
    refine TE.next ?_
    refine T.seq ?_
    refine T.seq ?_
    refine T.region ?_
    refine TL.val (OpV.move rfl) rfl ?_
    refine TL.val (OpV.len Tryd.underlying42 rfl) rfl ?_
    refine TL.val (OpV.move rfl) rfl ?_
    refine TL.nil ?_
    refine TE.next ?_
    refine T.block ?_
    refine T.loop (ι := Nat × List Rn × Option Addr × Nat) (fun ⟨i, out, A4, c4⟩ => i ≤ n ∧ packF (prevC xs i) out (xs.drop i) = packF none [] xs ∧ (A4 = none → c4 = 0) ∧ (xs.take i).all vCl = true ∧ ((∀ r ∈ out, 0 ≤ r.cnt ∧ r.cnt ≤ i) ∧ (0 < i → 0 < out.length) ∧ out.length ≤ i)) (fun ⟨i, out, A4, c4⟩ => (n - i)) (fun ⟨i, out, A4, c4⟩ => [(0, .slice A n c), (4, .slice A4 out.length c4), (12, .slice A n c), (13, .int .i64 (n : Int)), (14, .int .i64 (i : Int))]) (fun ⟨i, out, A4, c4⟩ => [.row 67 4 A4 out.length c4 (rl out), .fr σ]) (0, [], none, 0) ⟨Nat.zero_le _, rfl, fun _ => rfl, rfl, (fun r hr => by cases hr), fun h => absurd h (Nat.not_lt_zero _), Nat.le_refl _⟩ (.cons (t := 0) rfl <| .cons (t := 4) rfl <| .cons (t := 12) rfl <| .cons (t := 13) rfl <| .cons (t := 14) rfl <| .nil) ((fun wz kz => Perm.kle (.cons (by first | exact P0 | exact P1 | exact P2 | exact P3 | exact P4 | exact P5 | exact P6) (.cons (by first | exact P0 | exact P1 | exact P2 | exact P3 | exact P4 | exact P5 | exact P6) .nil)) wz (Kle.nilRow 67 4 wz kz))) ?_
    rintro ⟨i, out, A4, c4⟩ hR
    refine T.seq ?_
    refine T.region ?_
    refine TL.val (OpV.lss rfl rfl) rfl ?_
    refine TL.nil ?_
    refine TE.next ?_
    refine T.seq ?_
    refine T.cond rfl ?_ ?_
    · intro ht15
      obtain ⟨q1, q2, q3, q4, q5⟩ := hR
      have hi2 : i < n := by have h9 := of_decide_eq_true ht15; omega
      obtain ⟨x, hx⟩ := get_of_lt h.1 hi2
      obtain ⟨b, o, hA, hat⟩ := h.pos (by omega)
      have hatx := hat i x hx
      have hxi := hi x (List.mem_of_getElem? hx)
      rw [drop_get hx, packF] at q2
      refine T.skip ?_
      refine TE.next ?_
      refine T.seq ?_
      refine T.block ?_
      refine T.seq ?_
      refine T.region ?_
      refine TL.val (OpV.move rfl) rfl ?_
      refine TL.val (OpV.indexAddr se_42 rfl hA rfl (by rfl) (by first | omega | simp)) rfl ?_
      refine TL.val (OpV.loadA ag_30 rfl (by first | exact Cels.blk P0 rfl | exact Cels.blk P1 rfl | exact Cels.blk P2 rfl | exact Cels.blk P3 rfl | exact Cels.blk P4 rfl | exact Cels.blk P5 rfl | exact Cels.frA hatx rfl | exact Cels.frA haty rfl)) rfl ?_
      refine TL.alloc zo_30 rfl ?_
      intro b6
      refine TL.val (OpV.assign rfl) rfl ?_
      first
        | refine TL.storeAll rfl rfl szz_30 rfl rfl rfl (by first | exact P0 | exact P1 | exact P2 | exact P3 | exact P4 | exact P5) (by rfl) ?_
        | refine TL.store rfl rfl szz_30 rfl rfl rfl (by first | exact P0 | exact P1 | exact P2 | exact P3 | exact P4 | exact P5) (by first | exact Nat.le_of_ble_eq_true rfl | (simp; done) | (simp; omega)) (by simp only [Rn.l, putL, List.take_succ_cons, List.take_zero, List.drop_succ_cons, List.drop_zero, List.cons_append, List.nil_append, List.length_cons, List.length_nil, Nat.reduceAdd]; rfl) ?_
      refine TL.nil ?_
      refine TE.next ?_
      refine T.seq ?_
      refine T.seq ?_
      refine T.quiet mix (by kernel_rfl) ?_
      refine TQ.val (OpV.move rfl) rfl ?_
      refine TQ.val (OpV.gtr rfl rfl) rfl ?_
      refine TQ.val (OpV.move rfl) rfl ?_
      refine TQ.part (t := 21) rfl ?_ ?_
      · intro hg21
        have h0 : 0 < i := by have h9 := of_decide_eq_true hg21; omega
        obtain ⟨y, hy⟩ := get_of_lt h.1 (show i - 1 < n by omega)
        have haty := hat (i - 1) y hy
        have hpv : prevC xs i = some y := by rw [prevC, if_pos h0, hy]
        refine TQ.open rfl rfl ?_
        refine TQ.val (OpV.loadA ag_30 rfl (by first | exact Cels.blk P0 rfl | exact Cels.blk P1 rfl | exact Cels.blk P2 rfl | exact Cels.blk P3 rfl | exact Cels.blk P4 rfl | exact Cels.blk P5 rfl | exact Cels.frA hatx rfl | exact Cels.frA haty rfl)) rfl ?_
        refine TQ.open rfl rfl ?_
        refine TQ.val (OpV.move rfl) rfl ?_
        refine TQ.open rfl rfl ?_
        refine TQ.val (OpV.move rfl) rfl ?_
        refine TQ.open rfl rfl ?_
        refine TQ.val (OpV.sub rfl rfl (by first | exact IntWalk.i64_in _ ⟨by omega, by omega⟩ | rfl)) rfl ?_
        refine TQ.open rfl rfl ?_
        refine TQ.val (OpV.indexAddr (j := (i - 1)) se_42 rfl hA rfl (by omega) (by omega)) rfl ?_
        refine TQ.open rfl rfl ?_
        refine TQ.val (OpV.loadA ag_30 rfl (by first | exact Cels.blk P0 rfl | exact Cels.blk P1 rfl | exact Cels.blk P2 rfl | exact Cels.blk P3 rfl | exact Cels.blk P4 rfl | exact Cels.blk P5 rfl | exact Cels.frA hatx rfl | exact Cels.frA haty rfl)) rfl ?_
        refine TQ.open rfl rfl ?_
        refine TQ.val (OpV.aeql rfl rfl eg_30 (eq_30 x y)) rfl ?_
        refine TQ.val ((by first | exact OpV.pick_t rfl rfl | exact OpV.pick_f rfl rfl)) rfl ?_
        refine TQ.nil ?_
        refine TE.sub (.cons (t := 0) rfl <| .cons (t := 4) rfl <| .cons (t := 6) rfl <| .cons (t := 12) rfl <| .cons (t := 13) rfl <| .cons (t := 14) rfl <| .cons (t := 29) rfl <| .nil) ?_
        refine TE.next ?_
        refine T.cond rfl ?_ ?_
        · intro ht29
          have hop : 0 < out.length := q5.2.1 h0
          have hxy : x = y := of_decide_eq_true ht29
          have hgs : gstep out (prevC xs i) x = bump out := by rw [gstep, hpv, hxy, if_pos rfl]
          obtain ⟨z, hz⟩ : ∃ z, out[out.length - 1]? = some z := ⟨out[out.length - 1], List.getElem?_eq_getElem (by omega)⟩
          have hbz := bump_set out z hop hz
          have hzc := q5.1 z (List.mem_of_getElem? hz)
          have hvx : vCl x = true := by have h9 := List.all_eq_true.1 q4 y (List.mem_of_getElem? (show (xs.take i)[i - 1]? = some y by rw [List.getElem?_take, if_pos (by omega)]; exact hy)); rw [hxy]; exact h9
          refine T.ex (ι := Nat × List Value) (R := fun q => A4 = some ⟨q.1, 0, none⟩ ∧ q.2.length = c4 * 4 ∧ q.2.take (out.length * 4) = rl out ∧ out.length ≤ c4 ∧ c4 ≤ 9223372036854775807) (K2 := fun q => [.blk q.1 q.2 67, .fr σ]) (fun wz kz => ?_) ?_
          · skip
            obtain ⟨q, h9, k2⟩ := rowBlk (e := 67) (z := 4) (A := A4) (m := out.length) (c := c4) (xs := rl out) kz (by first | exact P0 | exact P1 | exact P2 | exact P3 | exact P4 | exact P5 | exact P6) hop
            exact ⟨q, h9, Perm.kle (.cons (by first | exact P0 | exact P1 | exact P2 | exact P3 | exact P4 | exact P5 | exact P6) (.cons (by first | exact P0 | exact P1 | exact P2 | exact P3 | exact P4 | exact P5 | exact P6) .nil)) wz k2⟩
          rintro ⟨bq, cs⟩ ⟨e1, e2, e3, e4, e5⟩
          simp only at e1 e2 e3
          obtain ⟨s1, s2, s3⟩ := rl_store (v := z.cnt + 1) e3 hz
          have hcz : cs[(out.length - 1) * 4]? = some (.int .i64 z.cnt) := by have h9 := get_flat Rn.l_length out (out.length - 1) 0 z _ hz rfl; rw [← rl, ← e3, List.getElem?_take] at h9; split at h9; exact h9; cases h9
          refine T.seq ?_
          refine T.region ?_
          refine TL.val (OpV.move rfl) rfl ?_
          refine TL.val (OpV.move rfl) rfl ?_
          refine TL.val (OpV.len Tryd.underlying43 rfl) rfl ?_
          refine TL.val (OpV.sub rfl rfl (by first | exact IntWalk.i64_in _ ⟨by omega, by omega⟩ | rfl)) rfl ?_
          refine TL.val (OpV.indexAddr (j := (out.length - 1)) se_43 rfl e1 rfl (by omega) (by omega)) rfl ?_
          refine TL.val (OpV.fieldAddr rfl fo_67_0) rfl ?_
          refine TL.val (OpV.load pl_3 rfl (Cel.blk (by first | exact P0 | exact P1 | exact P2 | exact P3 | exact P4) (by simpa using hcz))) rfl ?_
          refine TL.val (OpV.add rfl rfl (by first | exact IntWalk.i64_in _ ⟨by omega, by omega⟩ | rfl)) rfl ?_
          refine TL.val (OpV.indexAddr (j := (out.length - 1)) se_43 rfl e1 rfl (by omega) (by omega)) rfl ?_
          refine TL.val (OpV.fieldAddr rfl fo_67_0) rfl ?_
          refine TL.store (o := (out.length - 1) * 4) (cs' := putL cs ((out.length - 1) * 4) [.int .i64 (z.cnt + 1)]) (by simp only [Nat.zero_add, Nat.add_zero]; rfl) rfl szz_3 rfl rfl rfl (by first | exact P0 | exact P1 | exact P2 | exact P3 | exact P4 | exact P5 | exact P6) (by simp only [List.length_cons, List.length_nil]; omega) rfl ?_
          refine TL.nil ?_
          refine TE.sub (.cons (t := 0) rfl <| .cons (t := 4) rfl <| .cons (t := 12) rfl <| .cons (t := 13) rfl <| .cons (t := 14) rfl <| .nil) ?_
          refine TE.next ?_
          refine T.exit ?_
          refine TE.pass_exit ?_
          refine TE.here ?_
          refine TE.next ?_
          refine T.region ?_
          refine TL.val (OpV.add rfl rfl (by first | exact IntWalk.i64_in _ ⟨by omega, by omega⟩ | rfl)) rfl ?_
          refine TL.val (OpV.move rfl) rfl ?_
          refine TL.nil ?_
          exact TE.meet (i + 1, out.set (out.length - 1) { z with cnt := z.cnt + 1 }, some ⟨bq, 0, none⟩, c4) ⟨⟨by omega, by rw [show prevC xs (i + 1) = some x by simp [prevC, hx], ← hbz, ← hgs]; exact q2, (fun h9 => by cases h9), by rw [take_snoc hx, List.all_append, q4]; simp [hvx], ⟨fun r hr => by rcases List.mem_or_eq_of_mem_set hr with hr | rfl; have h9 := q5.1 r hr; omega; simp only; omega, fun _ => by rw [List.length_set]; omega, by rw [List.length_set]; omega⟩⟩, by simp only; omega⟩ (.cons (t := 0) (by first | rfl | (simp [lk]; done)) <| .cons (t := 4) (by simp only [List.length_set, ← e1]; rfl) <| .cons (t := 12) (by first | rfl | (simp [lk]; done)) <| .cons (t := 13) (by first | rfl | (simp [lk]; done)) <| .cons (t := 14) (by first | rfl | (simp [lk]; done)) <| .nil) ((by simp only [List.length_set]; exact Kle.trans (Perm.kle (.cons (by first | exact P0 | exact P1 | exact P2 | exact P3 | exact P4 | exact P5 | exact P6) (.cons (by first | exact P0 | exact P1 | exact P2 | exact P3 | exact P4 | exact P5 | exact P6) .nil))) (Kle.blkRow2 (by rw [s3]; exact e2) s1 (by rw [length_rl, List.length_set]) e4 e5)))
        · intro ht29
          have hgs : gstep out (prevC xs i) x = out ++ [⟨1, x.words⟩] := by rw [gstep, if_neg (by have h9 : ¬ x = y := of_decide_eq_false ht29; rw [hpv]; intro e; exact h9 (Option.some.inj e).symm)]
          refine T.skip ?_
          refine TE.next ?_
          refine T.seq ?_
          refine T.region ?_
          refine TL.val (OpV.loadA ag_30 rfl (by first | exact Cels.blk P0 rfl | exact Cels.blk P1 rfl | exact Cels.blk P2 rfl | exact Cels.blk P3 rfl | exact Cels.blk P4 rfl | exact Cels.blk P5 rfl | exact Cels.frA hatx rfl | exact Cels.frA haty rfl)) rfl ?_
          refine TL.call (g := 26) rfl go_26 rfl (fun w1 k1 => words_c x w1 (L.below k1.bel) hxi) rfl ?_
          refine TL.val (OpV.move rfl) rfl ?_
          refine TL.val (OpV.extract rfl rfl) rfl ?_
          refine TL.val (OpV.extract rfl rfl) rfl ?_
          refine TL.alloc zo_34 rfl ?_
          intro b7
          first
            | refine TL.storeAll rfl rfl szz_34 rfl rfl rfl (by first | exact P0 | exact P1 | exact P2 | exact P3 | exact P4 | exact P5) (by rfl) ?_
            | refine TL.store rfl rfl szz_34 rfl rfl rfl (by first | exact P0 | exact P1 | exact P2 | exact P3 | exact P4 | exact P5) (by first | exact Nat.le_of_ble_eq_true rfl | (simp; done) | (simp; omega)) (by simp only [Rn.l, putL, List.take_succ_cons, List.take_zero, List.drop_succ_cons, List.drop_zero, List.cons_append, List.nil_append, List.length_cons, List.length_nil, Nat.reduceAdd]; rfl) ?_
          refine TL.val (OpV.assign rfl) rfl ?_
          refine TL.nil ?_
          refine TE.sub (.cons (t := 0) rfl <| .cons (t := 4) rfl <| .cons (t := 7) rfl <| .cons (t := 8) rfl <| .cons (t := 12) rfl <| .cons (t := 13) rfl <| .cons (t := 14) rfl <| .nil) ?_
          refine TE.next ?_
          refine T.seq ?_
          refine T.seq ?_
          refine T.region ?_
          refine TL.val (OpV.move rfl) rfl ?_
          refine TL.val (OpV.neq rfl rfl) rfl ?_
          refine TL.nil ?_
          refine TE.next ?_
          refine T.cond rfl ?_ ?_
          · intro ht46
            have hvx : vCl x = false := by cases hv : vCl x <;> simp_all [wordsE]
            have hpe : packE xs = 2 := by rw [packE, if_neg (by omega), show xs.all vCl = false by rw [List.all_eq_false]; exact ⟨x, List.mem_of_getElem? hx, by rw [hvx]; decide⟩]; rfl
            have hwe : wordsE x = 2 := by rw [wordsE, hvx]; rfl
            refine T.seq ?_
            refine T.region ?_
            refine TL.val (OpV.move rfl) rfl ?_
            refine TL.val (OpV.assign rfl) rfl ?_
            refine TL.val (OpV.assign rfl) rfl ?_
            refine TL.nil ?_
            refine TE.sub (.cons (t := 2) rfl <| .cons (t := 3) rfl <| .nil) ?_
            refine TE.next ?_
            refine T.ret ?_
            refine TE.pass_ret ?_
            refine TE.out_ret ?_
            refine TE.pass_ret ?_
            refine TE.pass_ret ?_
            refine TE.out_ret ?_
            refine TE.pass_ret ?_
            refine TE.retN rfl (.cons (ResV.tmp rfl) <| .cons (ResV.tmp rfl) <| .nil) ?_
            exact fun wz kz => ⟨⟨none, 0, 0, fun _ => none⟩, by rw [hpe, hwe]; rfl, by rw [packV, hpe]; exact SlR.nil, Perm.kle (.cons .here .nil) wz (KOk.ownNil kz)⟩
          · intro ht46
            have hvx : vCl x = true := by cases hv : vCl x <;> simp_all [wordsE]
            refine T.skip ?_
            refine TE.next ?_
            refine T.region ?_
            refine TL.val (OpV.move rfl) rfl ?_
            refine TL.val (OpV.loadA ag_34 rfl (by first | exact Cels.blk P0 rfl | exact Cels.blk P1 rfl | exact Cels.blk P2 rfl | exact Cels.blk P3 rfl | exact Cels.blk P4 rfl | exact Cels.blk P5 rfl | exact Cels.frA hatx rfl | exact Cels.frA haty rfl)) rfl ?_
            refine TL.val (OpV.build (qs := #[(0, _), (1, _)]) (fun _ f => by simp only [List.map_toArray, List.map_cons, List.map_nil]; rw [f.ev (x := .const (.int .i64 1)) rfl, f.ev (x := .tmp 49) rfl]) (bld_67_0_1 1 (wordsV x) )) rfl ?_
            refine TL.said (t := 50) rfl (show _ = Value.agg (Rn.mk 1 x.words).l.toArray by rw [wordsV, hvx]; rfl) ?_
            refine TL.slit (qs := #[(0, _)]) (fun _ f => by simp only [List.map_toArray, List.map_cons, List.map_nil]; rw [f.ev (x := .tmp 50) rfl]) (sl_43_1_0 (Rn.mk 1 x.words)) rfl ?_
            intro b51
            obtain ⟨ti52, hi52, hz52, hs52, hb52⟩ := info_parts inf_67
            refine TL.append rfl rfl Tryd.underlying43 hi52 hz52 hs52 hb52 rfl (by omega) (by first | exact P0 | exact P1 | exact P2 | exact P3 | exact P4 | exact P5) (by first | exact Src.nil | exact Src.blk P0 rfl | exact Src.blk P1 rfl | exact Src.blk P2 rfl | exact Src.blk P3 rfl | exact Src.blk P4 rfl | exact Src.blk P5 rfl | exact Src.row P0 | exact Src.row P1 | exact Src.row P2 | exact Src.row P3 | exact Src.row P4 | exact Src.row P5) (fun h => by cases h) rfl (by omega) (by omega) rfl ?_
            clear hi52 hz52 hs52 hb52 ti52
            intro A52 c52 hn52
            refine TL.val (OpV.assign rfl) rfl ?_
            refine TL.nil ?_
            refine TE.out ?_
            refine TE.sub (.cons (t := 0) rfl <| .cons (t := 4) rfl <| .cons (t := 12) rfl <| .cons (t := 13) rfl <| .cons (t := 14) rfl <| .nil) ?_
            refine TE.next ?_
            refine T.region ?_
            refine TL.val (OpV.add rfl rfl (by first | exact IntWalk.i64_in _ ⟨by omega, by omega⟩ | rfl)) rfl ?_
            refine TL.val (OpV.move rfl) rfl ?_
            refine TL.nil ?_
            exact TE.meet (i + 1, out ++ [⟨1, x.words⟩], A52, c52) ⟨⟨by omega, by rw [show prevC xs (i + 1) = some x by simp [prevC, hx], ← hgs]; exact q2, hn52, by rw [take_snoc hx, List.all_append, q4]; simp [hvx], ⟨fun r hr => by rcases List.mem_append.1 hr with hr | hr; have h9 := q5.1 r hr; omega; rw [List.mem_singleton.1 hr]; simp only; omega, fun _ => by simp, by simp only [List.length_append, List.length_cons, List.length_nil]; omega⟩⟩, by simp only; omega⟩ (.cons (t := 0) (by first | rfl | (simp [lk]; done)) <| .cons (t := 4) (by simp only [List.length_append, List.length_cons, List.length_nil]; rfl) <| .cons (t := 12) (by first | rfl | (simp [lk]; done)) <| .cons (t := 13) (by first | rfl | (simp [lk]; done)) <| .cons (t := 14) (by first | rfl | (simp [lk]; done)) <| .nil) ((by simp only [rl_snoc, List.length_append, List.length_cons, List.length_nil]; exact Perm.kle (.cons (by first | exact P0 | exact P1 | exact P2 | exact P3 | exact P4 | exact P5 | exact P6) (.cons (by first | exact P0 | exact P1 | exact P2 | exact P3 | exact P4 | exact P5 | exact P6) .nil))))
      · intro hg21
        have hgs : gstep out (prevC xs i) x = out ++ [⟨1, x.words⟩] := by rw [gstep, if_neg (by have h9 := of_decide_eq_false hg21; rw [prevC, if_neg (by omega)]; simp)]
        refine TQ.shut rfl rfl ?_
        refine TQ.shut rfl rfl ?_
        refine TQ.shut rfl rfl ?_
        refine TQ.shut rfl rfl ?_
        refine TQ.shut rfl rfl ?_
        refine TQ.shut rfl rfl ?_
        refine TQ.shut rfl rfl ?_
        refine TQ.val ((by first | exact OpV.pick_t rfl rfl | exact OpV.pick_f rfl rfl)) rfl ?_
        refine TQ.nil ?_
        refine TE.sub (.cons (t := 0) rfl <| .cons (t := 4) rfl <| .cons (t := 6) rfl <| .cons (t := 12) rfl <| .cons (t := 13) rfl <| .cons (t := 14) rfl <| .cons (t := 29) rfl <| .nil) ?_
        refine TE.next ?_
        refine T.no rfl ?_
        refine T.skip ?_
        refine TE.next ?_
        refine T.seq ?_
        refine T.region ?_
        refine TL.val (OpV.loadA ag_30 rfl (by first | exact Cels.blk P0 rfl | exact Cels.blk P1 rfl | exact Cels.blk P2 rfl | exact Cels.blk P3 rfl | exact Cels.blk P4 rfl | exact Cels.blk P5 rfl | exact Cels.frA hatx rfl | exact Cels.frA haty rfl)) rfl ?_
        refine TL.call (g := 26) rfl go_26 rfl (fun w1 k1 => words_c x w1 (L.below k1.bel) hxi) rfl ?_
        refine TL.val (OpV.move rfl) rfl ?_
        refine TL.val (OpV.extract rfl rfl) rfl ?_
        refine TL.val (OpV.extract rfl rfl) rfl ?_
        refine TL.alloc zo_34 rfl ?_
        intro b7
        first
          | refine TL.storeAll rfl rfl szz_34 rfl rfl rfl (by first | exact P0 | exact P1 | exact P2 | exact P3 | exact P4 | exact P5) (by rfl) ?_
          | refine TL.store rfl rfl szz_34 rfl rfl rfl (by first | exact P0 | exact P1 | exact P2 | exact P3 | exact P4 | exact P5) (by first | exact Nat.le_of_ble_eq_true rfl | (simp; done) | (simp; omega)) (by simp only [Rn.l, putL, List.take_succ_cons, List.take_zero, List.drop_succ_cons, List.drop_zero, List.cons_append, List.nil_append, List.length_cons, List.length_nil, Nat.reduceAdd]; rfl) ?_
        refine TL.val (OpV.assign rfl) rfl ?_
        refine TL.nil ?_
        refine TE.sub (.cons (t := 0) rfl <| .cons (t := 4) rfl <| .cons (t := 7) rfl <| .cons (t := 8) rfl <| .cons (t := 12) rfl <| .cons (t := 13) rfl <| .cons (t := 14) rfl <| .nil) ?_
        refine TE.next ?_
        refine T.seq ?_
        refine T.seq ?_
        refine T.region ?_
        refine TL.val (OpV.move rfl) rfl ?_
        refine TL.val (OpV.neq rfl rfl) rfl ?_
        refine TL.nil ?_
        refine TE.next ?_
        refine T.cond rfl ?_ ?_
        · intro ht46
          have hvx : vCl x = false := by cases hv : vCl x <;> simp_all [wordsE]
          have hpe : packE xs = 2 := by rw [packE, if_neg (by omega), show xs.all vCl = false by rw [List.all_eq_false]; exact ⟨x, List.mem_of_getElem? hx, by rw [hvx]; decide⟩]; rfl
          have hwe : wordsE x = 2 := by rw [wordsE, hvx]; rfl
          refine T.seq ?_
          refine T.region ?_
          refine TL.val (OpV.move rfl) rfl ?_
          refine TL.val (OpV.assign rfl) rfl ?_
          refine TL.val (OpV.assign rfl) rfl ?_
          refine TL.nil ?_
          refine TE.sub (.cons (t := 2) rfl <| .cons (t := 3) rfl <| .nil) ?_
          refine TE.next ?_
          refine T.ret ?_
          refine TE.pass_ret ?_
          refine TE.out_ret ?_
          refine TE.pass_ret ?_
          refine TE.pass_ret ?_
          refine TE.out_ret ?_
          refine TE.pass_ret ?_
          refine TE.retN rfl (.cons (ResV.tmp rfl) <| .cons (ResV.tmp rfl) <| .nil) ?_
          exact fun wz kz => ⟨⟨none, 0, 0, fun _ => none⟩, by rw [hpe, hwe]; rfl, by rw [packV, hpe]; exact SlR.nil, Perm.kle (.cons .here .nil) wz (KOk.ownNil kz)⟩
        · intro ht46
          have hvx : vCl x = true := by cases hv : vCl x <;> simp_all [wordsE]
          refine T.skip ?_
          refine TE.next ?_
          refine T.region ?_
          refine TL.val (OpV.move rfl) rfl ?_
          refine TL.val (OpV.loadA ag_34 rfl (by first | exact Cels.blk P0 rfl | exact Cels.blk P1 rfl | exact Cels.blk P2 rfl | exact Cels.blk P3 rfl | exact Cels.blk P4 rfl | exact Cels.blk P5 rfl | exact Cels.frA hatx rfl | exact Cels.frA haty rfl)) rfl ?_
          refine TL.val (OpV.build (qs := #[(0, _), (1, _)]) (fun _ f => by simp only [List.map_toArray, List.map_cons, List.map_nil]; rw [f.ev (x := .const (.int .i64 1)) rfl, f.ev (x := .tmp 49) rfl]) (bld_67_0_1 1 (wordsV x) )) rfl ?_
          refine TL.said (t := 50) rfl (show _ = Value.agg (Rn.mk 1 x.words).l.toArray by rw [wordsV, hvx]; rfl) ?_
          refine TL.slit (qs := #[(0, _)]) (fun _ f => by simp only [List.map_toArray, List.map_cons, List.map_nil]; rw [f.ev (x := .tmp 50) rfl]) (sl_43_1_0 (Rn.mk 1 x.words)) rfl ?_
          intro b51
          obtain ⟨ti52, hi52, hz52, hs52, hb52⟩ := info_parts inf_67
          refine TL.append rfl rfl Tryd.underlying43 hi52 hz52 hs52 hb52 rfl (by omega) (by first | exact P0 | exact P1 | exact P2 | exact P3 | exact P4 | exact P5) (by first | exact Src.nil | exact Src.blk P0 rfl | exact Src.blk P1 rfl | exact Src.blk P2 rfl | exact Src.blk P3 rfl | exact Src.blk P4 rfl | exact Src.blk P5 rfl | exact Src.row P0 | exact Src.row P1 | exact Src.row P2 | exact Src.row P3 | exact Src.row P4 | exact Src.row P5) (fun h => by cases h) rfl (by omega) (by omega) rfl ?_
          clear hi52 hz52 hs52 hb52 ti52
          intro A52 c52 hn52
          refine TL.val (OpV.assign rfl) rfl ?_
          refine TL.nil ?_
          refine TE.out ?_
          refine TE.sub (.cons (t := 0) rfl <| .cons (t := 4) rfl <| .cons (t := 12) rfl <| .cons (t := 13) rfl <| .cons (t := 14) rfl <| .nil) ?_
          refine TE.next ?_
          refine T.region ?_
          refine TL.val (OpV.add rfl rfl (by first | exact IntWalk.i64_in _ ⟨by omega, by omega⟩ | rfl)) rfl ?_
          refine TL.val (OpV.move rfl) rfl ?_
          refine TL.nil ?_
          exact TE.meet (i + 1, out ++ [⟨1, x.words⟩], A52, c52) ⟨⟨by omega, by rw [show prevC xs (i + 1) = some x by simp [prevC, hx], ← hgs]; exact q2, hn52, by rw [take_snoc hx, List.all_append, q4]; simp [hvx], ⟨fun r hr => by rcases List.mem_append.1 hr with hr | hr; have h9 := q5.1 r hr; omega; rw [List.mem_singleton.1 hr]; simp only; omega, fun _ => by simp, by simp only [List.length_append, List.length_cons, List.length_nil]; omega⟩⟩, by simp only; omega⟩ (.cons (t := 0) (by first | rfl | (simp [lk]; done)) <| .cons (t := 4) (by simp only [List.length_append, List.length_cons, List.length_nil]; rfl) <| .cons (t := 12) (by first | rfl | (simp [lk]; done)) <| .cons (t := 13) (by first | rfl | (simp [lk]; done)) <| .cons (t := 14) (by first | rfl | (simp [lk]; done)) <| .nil) ((by simp only [rl_snoc, List.length_append, List.length_cons, List.length_nil]; exact Perm.kle (.cons (by first | exact P0 | exact P1 | exact P2 | exact P3 | exact P4 | exact P5 | exact P6) (.cons (by first | exact P0 | exact P1 | exact P2 | exact P3 | exact P4 | exact P5 | exact P6) .nil))))
    · intro ht15
      obtain ⟨q1, q2, q3, q4, q5⟩ := hR
      have hin : ¬ i < n := by have h9 := of_decide_eq_false ht15; omega
      rw [List.drop_of_length_le (by omega), packF] at q2
      rw [List.take_of_length_le (by omega)] at q4
      have hpe : packE xs = 0 := by rw [packE, if_neg (by omega), q4]; rfl
      refine T.exit ?_
      refine TE.pass_exit ?_
      refine TE.pass_exit ?_
      refine TE.here ?_
      refine TE.next ?_
      refine T.seq ?_
      refine T.region ?_
      refine TL.val (OpV.move rfl) rfl ?_
      refine TL.val (OpV.assign rfl) rfl ?_
      refine TL.val (OpV.assign rfl) rfl ?_
      refine TL.nil ?_
      refine TE.sub (.cons (t := 2) rfl <| .cons (t := 3) rfl <| .nil) ?_
      refine TE.next ?_
      refine T.ret ?_
      refine TE.retN rfl (.cons (ResV.tmp rfl) <| .cons (ResV.tmp rfl) <| .nil) ?_
      intro wz kz
      obtain ⟨ρ, h1, k2⟩ := KOk.rowOwn (kz.pick (e := .row 67 4 A4 out.length c4 (rl out)) (by first | exact P0 | exact P1 | exact P2 | exact P3 | exact P4 | exact P5 | exact P6))
      exact ⟨⟨A4, out.length, c4, ρ⟩, by rw [hpe]; rfl, by rw [packV, hpe, if_pos rfl, ← q2]; exact SlR.of_row Rn.l_length h1 rfl, Perm.kle (.cons .here .nil) wz k2⟩
end Go.Proofs.YtfbkoflapamicaaDoor
