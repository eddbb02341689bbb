/-
  The walks of the reference's Place and Index. No condition.
-/
import Derived.Test.YtblpfelhgcggfaaDoorWi
import Derived.Test.YtblpfelhgcggfaaDoorWf
namespace Go.Proofs.YtblpfelhgcggfaaDoor
open Go.RowKit
set_option linter.unusedSimpArgs false
set_option linter.unusedVariables false
theorem go_24 : isGo Tryd.prog 24 = true := by kernel_rfl
theorem se_42 : sEl Tryd.prog 42 = some (3, 1) := by kernel_rfl
set_option maxRecDepth 100000 in
set_option maxHeartbeats 1000000 in
theorem rplace_c {σ : Nat → Option Obj} {A : Option Addr} {n c : Nat} {xs : List Cl} (w : World) (cols : Int) (q : Nat) (h : CsR σ A n c xs) (hs : ∀ b o, σ b = some o → w.heap[b]? = some o) (hn : n ≤ 1073741824) (hc : 1 ≤ cols ∧ cols ≤ 1000) : Calls Tryd.prog 23 #[.slice A n c, .int .i64 cols, .int .i64 (q : Int)] w (Ret (.agg (anL (rplV cols xs q).1 (rplV cols xs q).2).toArray) w) := by
  have hn63 := h.2.1
  have hc63 := h.2.2.1
  have hl1 := h.1
  have hbd := plR_bd cols xs
  refine calls_T (vs := [.slice A n c, .int .i64 cols, .int .i64 (q : Int)]) (L0 := [(0, .slice A n c), (1, .int .i64 cols), (2, .int .i64 (q : Int))]) Tryd.func23 rfl rfl rfl rfl (KOk.fr1 hs) ?_
  refine T.seq ?_
  refine T.region ?_
  refine TL.alloc zo_37 rfl ?_
  intro b6
  refine TL.nil ?_
  refine TE.next ?_
  refine T.seq ?_
  refine T.region ?_
  refine TL.val (OpV.move rfl) rfl ?_
  refine TL.val (OpV.move rfl) rfl ?_
  refine TL.callx (g := 24) rfl go_24 rfl (fun wz kz => own_x kz (places_c wz cols h (kz.get (e := .fr σ) (by first | exact .here | exact (.there .here) | exact (.there (.there .here)) | exact (.there (.there (.there .here))) | exact (.there (.there (.there (.there .here)))))) hn ⟨by omega, hc.2⟩)) rfl ?_
  rintro ⟨A1, c1, A2, c2, m, ρ⟩ ⟨hm, hr1, hr2⟩
  replace hm : n = m := hm.symm
  subst hm
  simp only at hr1 hr2
  refine TL.alloc zo_44 rfl ?_
  intro b7
  first
    | refine TL.storeAll rfl rfl szz_44 rfl rfl rfl (by first | exact .here | exact (.there .here) | exact (.there (.there .here)) | exact (.there (.there (.there .here))) | exact (.there (.there (.there (.there .here)))) | exact (.there (.there (.there (.there (.there .here)))))) (by rfl) ?_
    | refine TL.store rfl rfl szz_44 rfl rfl rfl (by first | exact .here | exact (.there .here) | exact (.there (.there .here)) | exact (.there (.there (.there .here))) | exact (.there (.there (.there (.there .here)))) | exact (.there (.there (.there (.there (.there .here)))))) (by first | exact Nat.le_of_ble_eq_true rfl | (simp; done) | (simp; omega)) (by simp only [anL, putL, List.take_succ_cons, List.take_zero, List.drop_succ_cons, List.drop_zero, List.cons_append, List.nil_append, List.length_cons, List.length_nil, Nat.reduceAdd]; rfl) ?_
  refine TL.nil ?_
  refine TE.next ?_
  refine T.seq ?_
  refine T.seq ?_
  refine T.region ?_
  refine TL.val (OpV.move rfl) rfl ?_
  refine TL.val (OpV.move rfl) rfl ?_
  refine TL.val (OpV.len Tryd.underlying22 rfl) rfl ?_
  refine TL.val (OpV.lss rfl rfl) rfl ?_
  refine TL.nil ?_
  refine TE.sub (.cons (t := 1) rfl <| .cons (t := 2) rfl <| .cons (t := 6) rfl <| .cons (t := 7) rfl <| .cons (t := 14) rfl <| .nil) ?_
  refine TE.next ?_
  refine T.cond rfl ?_ ?_
  · intro ht14
    have hq : q < n := by have h9 := of_decide_eq_true ht14; omega
    obtain ⟨p, hp⟩ := plR_get cols (xs := xs) (q := q) (by omega)
    obtain ⟨b1, o1, hA1, hat1⟩ := hr1.2.2.2.2 (by omega)
    obtain ⟨b2, o2, hA2, hat2⟩ := hr2.2.2.2.2 (by omega)
    obtain ⟨_, rfl, _, hatp⟩ := hat1 q p.1 (by simp [hp])
    obtain ⟨_, rfl, _, hatq⟩ := hat2 q p.2 (by simp [hp])
    refine T.seq ?_
    refine T.any ([.blk b7 (ptL A1 n c1 A2 n c2 ((plR cols xs).2.1 + 1) (plR cols xs).2.2) 44, .own ρ]) [11] mix rfl rfl ?_
    refine TA.takeP (i := 0) (ls := #[true, false, false, false, false, false, false, false, false, false, false, false]) rfl rfl rfl rfl rfl (by kernel_rfl) (by kernel_rfl) (by kernel_rfl) (by repeat (first | with_reducible exact PanicOk.body | with_reducible apply PanicOk.next | with_reducible apply PanicOk.block)) (OpV.fieldAddr rfl fo_44_0) rfl (by kernel_rfl) ?_
    refine TA.take (i := 1) (ls := #[true, true, false, false, false, false, false, false, false, false, false, false]) rfl rfl rfl rfl rfl (by kernel_rfl) (by kernel_rfl) (by kernel_rfl) (by kernel_rfl) (by repeat (first | with_reducible exact PanicOk.body | with_reducible apply PanicOk.next | with_reducible apply PanicOk.block)) ((.cons (by first | exact .here | exact (.there .here) | exact (.there (.there .here)) | exact (.there (.there (.there .here))) | exact (.there (.there (.there (.there .here)))) | exact (.there (.there (.there (.there (.there .here)))))) (.cons (by first | exact .here | exact (.there .here) | exact (.there (.there .here)) | exact (.there (.there (.there .here))) | exact (.there (.there (.there (.there .here)))) | exact (.there (.there (.there (.there (.there .here)))))) .nil))) (OpV.load pl_42 rfl (by first | exact Cel.blk .here rfl | exact Cel.blk (.there .here) rfl | exact Cel.blk (.there (.there .here)) rfl | exact Cel.blk (.there (.there (.there .here))) rfl | exact Cel.blk (.there (.there (.there (.there .here)))) rfl | exact Cel.blk (.there (.there (.there (.there (.there .here))))) rfl | exact Cel.own .here (hatp 0 _ rfl) | exact Cel.own (.there .here) (hatp 0 _ rfl) | exact Cel.own (.there (.there .here)) (hatp 0 _ rfl) | exact Cel.own (.there (.there (.there .here))) (hatp 0 _ rfl) | exact Cel.own (.there (.there (.there (.there .here)))) (hatp 0 _ rfl) | exact Cel.own (.there (.there (.there (.there (.there .here))))) (hatp 0 _ rfl) | exact Cel.own .here (hatq 0 _ rfl) | exact Cel.own (.there .here) (hatq 0 _ rfl) | exact Cel.own (.there (.there .here)) (hatq 0 _ rfl) | exact Cel.own (.there (.there (.there .here))) (hatq 0 _ rfl) | exact Cel.own (.there (.there (.there (.there .here)))) (hatq 0 _ rfl) | exact Cel.own (.there (.there (.there (.there (.there .here))))) (hatq 0 _ rfl))) rfl (by kernel_rfl) ?_
    refine TA.takeP (i := 2) (ls := #[true, true, true, false, false, false, false, false, false, false, false, false]) rfl rfl rfl rfl rfl (by kernel_rfl) (by kernel_rfl) (by kernel_rfl) (by repeat (first | with_reducible exact PanicOk.body | with_reducible apply PanicOk.next | with_reducible apply PanicOk.block)) (OpV.move rfl) rfl (by kernel_rfl) ?_
    refine TA.takeP (i := 3) (ls := #[true, true, true, true, false, false, false, false, false, false, false, false]) rfl rfl rfl rfl rfl (by kernel_rfl) (by kernel_rfl) (by kernel_rfl) (by repeat (first | with_reducible exact PanicOk.body | with_reducible apply PanicOk.next | with_reducible apply PanicOk.block)) (OpV.indexAddr se_42 rfl hA1 rfl (by rfl) (by first | omega | simp)) rfl (by kernel_rfl) ?_
    refine TA.take (i := 4) (ls := #[true, true, true, true, true, false, false, false, false, false, false, false]) rfl rfl rfl rfl rfl (by kernel_rfl) (by kernel_rfl) (by kernel_rfl) (by kernel_rfl) (by repeat (first | with_reducible exact PanicOk.body | with_reducible apply PanicOk.next | with_reducible apply PanicOk.block)) ((.cons (by first | exact .here | exact (.there .here) | exact (.there (.there .here)) | exact (.there (.there (.there .here))) | exact (.there (.there (.there (.there .here)))) | exact (.there (.there (.there (.there (.there .here)))))) (.cons (by first | exact .here | exact (.there .here) | exact (.there (.there .here)) | exact (.there (.there (.there .here))) | exact (.there (.there (.there (.there .here)))) | exact (.there (.there (.there (.there (.there .here)))))) .nil))) (OpV.load pl_3 rfl (by first | exact Cel.blk .here rfl | exact Cel.blk (.there .here) rfl | exact Cel.blk (.there (.there .here)) rfl | exact Cel.blk (.there (.there (.there .here))) rfl | exact Cel.blk (.there (.there (.there (.there .here)))) rfl | exact Cel.blk (.there (.there (.there (.there (.there .here))))) rfl | exact Cel.own .here (hatp 0 _ rfl) | exact Cel.own (.there .here) (hatp 0 _ rfl) | exact Cel.own (.there (.there .here)) (hatp 0 _ rfl) | exact Cel.own (.there (.there (.there .here))) (hatp 0 _ rfl) | exact Cel.own (.there (.there (.there (.there .here)))) (hatp 0 _ rfl) | exact Cel.own (.there (.there (.there (.there (.there .here))))) (hatp 0 _ rfl) | exact Cel.own .here (hatq 0 _ rfl) | exact Cel.own (.there .here) (hatq 0 _ rfl) | exact Cel.own (.there (.there .here)) (hatq 0 _ rfl) | exact Cel.own (.there (.there (.there .here))) (hatq 0 _ rfl) | exact Cel.own (.there (.there (.there (.there .here)))) (hatq 0 _ rfl) | exact Cel.own (.there (.there (.there (.there (.there .here))))) (hatq 0 _ rfl))) rfl (by kernel_rfl) ?_
    refine TA.takeP (i := 5) (ls := #[true, true, true, true, true, true, false, false, false, false, false, false]) rfl rfl rfl rfl rfl (by kernel_rfl) (by kernel_rfl) (by kernel_rfl) (by repeat (first | with_reducible exact PanicOk.body | with_reducible apply PanicOk.next | with_reducible apply PanicOk.block)) (OpV.fieldAddr rfl fo_44_1) rfl (by kernel_rfl) ?_
    refine TA.take (i := 6) (ls := #[true, true, true, true, true, true, true, false, false, false, false, false]) rfl rfl rfl rfl rfl (by kernel_rfl) (by kernel_rfl) (by kernel_rfl) (by kernel_rfl) (by repeat (first | with_reducible exact PanicOk.body | with_reducible apply PanicOk.next | with_reducible apply PanicOk.block)) ((.cons (by first | exact .here | exact (.there .here) | exact (.there (.there .here)) | exact (.there (.there (.there .here))) | exact (.there (.there (.there (.there .here)))) | exact (.there (.there (.there (.there (.there .here)))))) (.cons (by first | exact .here | exact (.there .here) | exact (.there (.there .here)) | exact (.there (.there (.there .here))) | exact (.there (.there (.there (.there .here)))) | exact (.there (.there (.there (.there (.there .here)))))) .nil))) (OpV.load pl_42 rfl (by first | exact Cel.blk .here rfl | exact Cel.blk (.there .here) rfl | exact Cel.blk (.there (.there .here)) rfl | exact Cel.blk (.there (.there (.there .here))) rfl | exact Cel.blk (.there (.there (.there (.there .here)))) rfl | exact Cel.blk (.there (.there (.there (.there (.there .here))))) rfl | exact Cel.own .here (hatp 0 _ rfl) | exact Cel.own (.there .here) (hatp 0 _ rfl) | exact Cel.own (.there (.there .here)) (hatp 0 _ rfl) | exact Cel.own (.there (.there (.there .here))) (hatp 0 _ rfl) | exact Cel.own (.there (.there (.there (.there .here)))) (hatp 0 _ rfl) | exact Cel.own (.there (.there (.there (.there (.there .here))))) (hatp 0 _ rfl) | exact Cel.own .here (hatq 0 _ rfl) | exact Cel.own (.there .here) (hatq 0 _ rfl) | exact Cel.own (.there (.there .here)) (hatq 0 _ rfl) | exact Cel.own (.there (.there (.there .here))) (hatq 0 _ rfl) | exact Cel.own (.there (.there (.there (.there .here)))) (hatq 0 _ rfl) | exact Cel.own (.there (.there (.there (.there (.there .here))))) (hatq 0 _ rfl))) rfl (by kernel_rfl) ?_
    refine TA.takeP (i := 7) (ls := #[true, true, true, true, true, true, true, true, false, false, false, false]) rfl rfl rfl rfl rfl (by kernel_rfl) (by kernel_rfl) (by kernel_rfl) (by repeat (first | with_reducible exact PanicOk.body | with_reducible apply PanicOk.next | with_reducible apply PanicOk.block)) (OpV.move rfl) rfl (by kernel_rfl) ?_
    refine TA.takeP (i := 8) (ls := #[true, true, true, true, true, true, true, true, true, false, false, false]) rfl rfl rfl rfl rfl (by kernel_rfl) (by kernel_rfl) (by kernel_rfl) (by repeat (first | with_reducible exact PanicOk.body | with_reducible apply PanicOk.next | with_reducible apply PanicOk.block)) (OpV.indexAddr se_42 rfl hA2 rfl (by rfl) (by first | omega | simp)) rfl (by kernel_rfl) ?_
    refine TA.take (i := 9) (ls := #[true, true, true, true, true, true, true, true, true, true, false, false]) rfl rfl rfl rfl rfl (by kernel_rfl) (by kernel_rfl) (by kernel_rfl) (by kernel_rfl) (by repeat (first | with_reducible exact PanicOk.body | with_reducible apply PanicOk.next | with_reducible apply PanicOk.block)) ((.cons (by first | exact .here | exact (.there .here) | exact (.there (.there .here)) | exact (.there (.there (.there .here))) | exact (.there (.there (.there (.there .here)))) | exact (.there (.there (.there (.there (.there .here)))))) (.cons (by first | exact .here | exact (.there .here) | exact (.there (.there .here)) | exact (.there (.there (.there .here))) | exact (.there (.there (.there (.there .here)))) | exact (.there (.there (.there (.there (.there .here)))))) .nil))) (OpV.load pl_3 rfl (by first | exact Cel.blk .here rfl | exact Cel.blk (.there .here) rfl | exact Cel.blk (.there (.there .here)) rfl | exact Cel.blk (.there (.there (.there .here))) rfl | exact Cel.blk (.there (.there (.there (.there .here)))) rfl | exact Cel.blk (.there (.there (.there (.there (.there .here))))) rfl | exact Cel.own .here (hatp 0 _ rfl) | exact Cel.own (.there .here) (hatp 0 _ rfl) | exact Cel.own (.there (.there .here)) (hatp 0 _ rfl) | exact Cel.own (.there (.there (.there .here))) (hatp 0 _ rfl) | exact Cel.own (.there (.there (.there (.there .here)))) (hatp 0 _ rfl) | exact Cel.own (.there (.there (.there (.there (.there .here))))) (hatp 0 _ rfl) | exact Cel.own .here (hatq 0 _ rfl) | exact Cel.own (.there .here) (hatq 0 _ rfl) | exact Cel.own (.there (.there .here)) (hatq 0 _ rfl) | exact Cel.own (.there (.there (.there .here))) (hatq 0 _ rfl) | exact Cel.own (.there (.there (.there (.there .here)))) (hatq 0 _ rfl) | exact Cel.own (.there (.there (.there (.there (.there .here))))) (hatq 0 _ rfl))) rfl (by kernel_rfl) ?_
    refine TA.takeP (i := 10) (ls := #[true, true, true, true, true, true, true, true, true, true, true, false]) rfl rfl rfl rfl rfl (by kernel_rfl) (by kernel_rfl) (by kernel_rfl) (by repeat (first | with_reducible exact PanicOk.body | with_reducible apply PanicOk.next | with_reducible apply PanicOk.block)) (OpV.build (qs := #[(0, _), (1, _)]) (fun _ f => by simp only [List.map_toArray, List.map_cons, List.map_nil]; rw [f.ev (x := .tmp 19) rfl, f.ev (x := .tmp 24) rfl]) (bld_37_0_1 p.1 p.2 )) rfl (by kernel_rfl) ?_
    refine TA.one (i := 11) (ls := #[true, true, true, true, true, true, true, true, true, true, true, true]) (by kernel_rfl) rfl (by kernel_rfl) (fun w1 => ?_)
    first
      | refine TL.storeAll rfl rfl szz_37 rfl rfl rfl (by first | exact .here | exact (.there .here) | exact (.there (.there .here)) | exact (.there (.there (.there .here))) | exact (.there (.there (.there (.there .here)))) | exact (.there (.there (.there (.there (.there .here)))))) (by rfl) ?_
      | refine TL.store rfl rfl szz_37 rfl rfl rfl (by first | exact .here | exact (.there .here) | exact (.there (.there .here)) | exact (.there (.there (.there .here))) | exact (.there (.there (.there (.there .here)))) | exact (.there (.there (.there (.there (.there .here)))))) (by first | exact Nat.le_of_ble_eq_true rfl | (simp; done) | (simp; omega)) (by simp only [anL, putL, List.take_succ_cons, List.take_zero, List.drop_succ_cons, List.drop_zero, List.cons_append, List.nil_append, List.length_cons, List.length_nil, Nat.reduceAdd]; rfl) ?_
    refine TL.nil ?_
    refine TA.bar rfl ?_
    refine TA.done (by kernel_rfl) ?_
    refine TE.sub (.cons (t := 6) rfl <| .nil) ?_
    refine TE.next ?_
    refine T.ret ?_
    refine TE.pass_ret ?_
    refine TE.ret1 rfl (ResV.cellA rfl ag_37 (by first | exact Cels.blk .here rfl | exact Cels.blk (.there .here) rfl | exact Cels.blk (.there (.there .here)) rfl | exact Cels.blk (.there (.there (.there .here))) rfl | exact Cels.blk (.there (.there (.there (.there .here)))) rfl | exact Cels.blk (.there (.there (.there (.there (.there .here))))) rfl | exact Cels.own .here (hatp) rfl | exact Cels.own (.there .here) (hatp) rfl | exact Cels.own (.there (.there .here)) (hatp) rfl | exact Cels.own (.there (.there (.there .here))) (hatp) rfl | exact Cels.own (.there (.there (.there (.there .here)))) (hatp) rfl | exact Cels.own (.there (.there (.there (.there (.there .here))))) (hatp) rfl | exact Cels.own .here (hatq) rfl | exact Cels.own (.there .here) (hatq) rfl | exact Cels.own (.there (.there .here)) (hatq) rfl | exact Cels.own (.there (.there (.there .here))) (hatq) rfl | exact Cels.own (.there (.there (.there (.there .here)))) (hatq) rfl | exact Cels.own (.there (.there (.there (.there (.there .here))))) (hatq) rfl)) ?_
    exact fun w1 k1 => ⟨by rw [rplV, hp] <;> rfl, k1.bel⟩
  · intro ht14
    have hq : ¬ q < n := by have h9 := of_decide_eq_false ht14; omega
    have hp : (plR cols xs).1[q]? = none := by simp; omega
    refine T.skip ?_
    refine TE.next ?_
    refine T.seq ?_
    refine T.region ?_
    refine TL.val (OpV.fieldAddr rfl fo_44_2) rfl ?_
    refine TL.val (OpV.load pl_3 rfl (by first | exact Cel.blk .here rfl | exact Cel.blk (.there .here) rfl | exact Cel.blk (.there (.there .here)) rfl | exact Cel.blk (.there (.there (.there .here))) rfl | exact Cel.blk (.there (.there (.there (.there .here)))) rfl | exact Cel.blk (.there (.there (.there (.there (.there .here))))) rfl | exact Cel.own .here (hatp 0 _ rfl) | exact Cel.own (.there .here) (hatp 0 _ rfl) | exact Cel.own (.there (.there .here)) (hatp 0 _ rfl) | exact Cel.own (.there (.there (.there .here))) (hatp 0 _ rfl) | exact Cel.own (.there (.there (.there (.there .here)))) (hatp 0 _ rfl) | exact Cel.own (.there (.there (.there (.there (.there .here))))) (hatp 0 _ rfl) | exact Cel.own .here (hatq 0 _ rfl) | exact Cel.own (.there .here) (hatq 0 _ rfl) | exact Cel.own (.there (.there .here)) (hatq 0 _ rfl) | exact Cel.own (.there (.there (.there .here))) (hatq 0 _ rfl) | exact Cel.own (.there (.there (.there (.there .here)))) (hatq 0 _ rfl) | exact Cel.own (.there (.there (.there (.there (.there .here))))) (hatq 0 _ rfl))) rfl ?_
    refine TL.val (OpV.sub rfl rfl (by first | exact IntWalk.i64_in _ ⟨by omega, by omega⟩ | rfl)) rfl ?_
    refine TL.val (OpV.fieldAddr rfl fo_44_3) rfl ?_
    refine TL.val (OpV.load pl_3 rfl (by first | exact Cel.blk .here rfl | exact Cel.blk (.there .here) rfl | exact Cel.blk (.there (.there .here)) rfl | exact Cel.blk (.there (.there (.there .here))) rfl | exact Cel.blk (.there (.there (.there (.there .here)))) rfl | exact Cel.blk (.there (.there (.there (.there (.there .here))))) rfl | exact Cel.own .here (hatp 0 _ rfl) | exact Cel.own (.there .here) (hatp 0 _ rfl) | exact Cel.own (.there (.there .here)) (hatp 0 _ rfl) | exact Cel.own (.there (.there (.there .here))) (hatp 0 _ rfl) | exact Cel.own (.there (.there (.there (.there .here)))) (hatp 0 _ rfl) | exact Cel.own (.there (.there (.there (.there (.there .here))))) (hatp 0 _ rfl) | exact Cel.own .here (hatq 0 _ rfl) | exact Cel.own (.there .here) (hatq 0 _ rfl) | exact Cel.own (.there (.there .here)) (hatq 0 _ rfl) | exact Cel.own (.there (.there (.there .here))) (hatq 0 _ rfl) | exact Cel.own (.there (.there (.there (.there .here)))) (hatq 0 _ rfl) | exact Cel.own (.there (.there (.there (.there (.there .here))))) (hatq 0 _ rfl))) rfl ?_
    refine TL.val (OpV.move rfl) rfl ?_
    refine TL.val (OpV.sub rfl rfl (by first | exact IntWalk.i64_in _ ⟨by omega, by omega⟩ | rfl)) rfl ?_
    refine TL.val (OpV.min rfl rfl) rfl ?_
    refine TL.said (t := 33) rfl (show _ = Value.int .i64 (fw (cols - 1) (plR cols xs).2.2) from rfl) ?_
    refine TL.val (OpV.build (qs := #[(0, _), (1, _)]) (fun _ f => by simp only [List.map_toArray, List.map_cons, List.map_nil]; rw [f.ev (x := .tmp 28) rfl, f.ev (x := .tmp 33) rfl]) (bld_37_0_1 _ _ )) rfl ?_
    first
      | refine TL.storeAll rfl rfl szz_37 rfl rfl rfl (by first | exact .here | exact (.there .here) | exact (.there (.there .here)) | exact (.there (.there (.there .here))) | exact (.there (.there (.there (.there .here)))) | exact (.there (.there (.there (.there (.there .here)))))) (by rfl) ?_
      | refine TL.store rfl rfl szz_37 rfl rfl rfl (by first | exact .here | exact (.there .here) | exact (.there (.there .here)) | exact (.there (.there (.there .here))) | exact (.there (.there (.there (.there .here)))) | exact (.there (.there (.there (.there (.there .here)))))) (by first | exact Nat.le_of_ble_eq_true rfl | (simp; done) | (simp; omega)) (by simp only [anL, putL, List.take_succ_cons, List.take_zero, List.drop_succ_cons, List.drop_zero, List.cons_append, List.nil_append, List.length_cons, List.length_nil, Nat.reduceAdd]; rfl) ?_
    refine TL.nil ?_
    refine TE.sub (.cons (t := 6) rfl <| .nil) ?_
    refine TE.next ?_
    refine T.ret ?_
    refine TE.ret1 rfl (ResV.cellA rfl ag_37 (by first | exact Cels.blk .here rfl | exact Cels.blk (.there .here) rfl | exact Cels.blk (.there (.there .here)) rfl | exact Cels.blk (.there (.there (.there .here))) rfl | exact Cels.blk (.there (.there (.there (.there .here)))) rfl | exact Cels.blk (.there (.there (.there (.there (.there .here))))) rfl | exact Cels.own .here (hatp) rfl | exact Cels.own (.there .here) (hatp) rfl | exact Cels.own (.there (.there .here)) (hatp) rfl | exact Cels.own (.there (.there (.there .here))) (hatp) rfl | exact Cels.own (.there (.there (.there (.there .here)))) (hatp) rfl | exact Cels.own (.there (.there (.there (.there (.there .here))))) (hatp) rfl | exact Cels.own .here (hatq) rfl | exact Cels.own (.there .here) (hatq) rfl | exact Cels.own (.there (.there .here)) (hatq) rfl | exact Cels.own (.there (.there (.there .here))) (hatq) rfl | exact Cels.own (.there (.there (.there (.there .here)))) (hatq) rfl | exact Cels.own (.there (.there (.there (.there (.there .here))))) (hatq) rfl)) ?_
    exact fun w1 k1 => ⟨by rw [rplV, hp] <;> first | rfl | simp only [Int.add_sub_cancel], k1.bel⟩
set_option maxRecDepth 100000 in
set_option maxHeartbeats 1000000 in
theorem rindex_c {σ : Nat → Option Obj} {A : Option Addr} {n c : Nat} {xs : List Cl} (w : World) (cols : Int) (a1 a2 : Int) (h : CsR σ A n c xs) (hs : ∀ b o, σ b = some o → w.heap[b]? = some o) (hn : n ≤ 1073741824) (hc : 1 ≤ cols ∧ cols ≤ 1000) : Calls Tryd.prog 25 #[.slice A n c, .int .i64 cols, .agg (anL a1 a2).toArray] w (Ret (.int .i64 (rixV cols xs (a1, a2) : Int)) w) := by
  have hn63 := h.2.1
  have hc63 := h.2.2.1
  have hl1 := h.1
  have hbd := plR_bd cols xs
  refine calls_T (vs := [.slice A n c, .int .i64 cols, .agg (anL a1 a2).toArray]) (L0 := [(0, .slice A n c), (1, .int .i64 cols), (2, .agg (anL a1 a2).toArray)]) Tryd.func25 rfl rfl rfl rfl (KOk.fr1 hs) ?_
  refine T.seq ?_
  refine T.region ?_
  refine TL.boxA rfl rfl ?_
  intro b5
  refine TL.val (OpV.assign rfl) rfl ?_
  refine TL.nil ?_
  refine TE.next ?_
  refine T.seq ?_
  refine T.region ?_
  refine TL.val (OpV.move rfl) rfl ?_
  refine TL.val (OpV.move rfl) rfl ?_
  refine TL.callx (g := 24) rfl go_24 rfl (fun wz kz => own_x kz (places_c wz cols h (kz.get (e := .fr σ) (by first | exact .here | exact (.there .here) | exact (.there (.there .here)) | exact (.there (.there (.there .here))) | exact (.there (.there (.there (.there .here)))))) hn ⟨by omega, hc.2⟩)) rfl ?_
  rintro ⟨A1, c1, A2, c2, m, ρ⟩ ⟨hm, hr1, hr2⟩
  replace hm : n = m := hm.symm
  subst hm
  simp only at hr1 hr2
  refine TL.alloc zo_44 rfl ?_
  intro b7
  first
    | refine TL.storeAll rfl rfl szz_44 rfl rfl rfl (by first | exact .here | exact (.there .here) | exact (.there (.there .here)) | exact (.there (.there (.there .here))) | exact (.there (.there (.there (.there .here)))) | exact (.there (.there (.there (.there (.there .here)))))) (by rfl) ?_
    | refine TL.store rfl rfl szz_44 rfl rfl rfl (by first | exact .here | exact (.there .here) | exact (.there (.there .here)) | exact (.there (.there (.there .here))) | exact (.there (.there (.there (.there .here)))) | exact (.there (.there (.there (.there (.there .here)))))) (by first | exact Nat.le_of_ble_eq_true rfl | (simp; done) | (simp; omega)) (by simp only [anL, putL, List.take_succ_cons, List.take_zero, List.drop_succ_cons, List.drop_zero, List.cons_append, List.nil_append, List.length_cons, List.length_nil, Nat.reduceAdd]; rfl) ?_
  refine TL.nil ?_
  refine TE.next ?_
  refine T.seq ?_
  refine T.region ?_
  refine TL.val (OpV.assign rfl) rfl ?_
  refine TL.nil ?_
  refine TE.next ?_
  refine T.seq ?_
  refine T.seq ?_
  refine T.region ?_
  refine TL.val (OpV.assign rfl) rfl ?_
  refine TL.nil ?_
  refine TE.next ?_
  refine T.block ?_
  refine T.loop (ι := Nat × Nat) (fun ⟨i, m⟩ => i ≤ n ∧ m = (((plR cols xs).1.take i).filter (bf (a1, a2))).length) (fun ⟨i, m⟩ => (n - i)) (fun ⟨i, m⟩ => [(0, .slice A n c), (5, .pointer (some ⟨b5, 0, none⟩)), (7, .pointer (some ⟨b7, 0, none⟩)), (8, .int .i64 (m : Int)), (9, .int .i64 (i : Int))]) (fun ⟨i, m⟩ => [.blk b7 (ptL A1 n c1 A2 n c2 ((plR cols xs).2.1 + 1) (plR cols xs).2.2) 44, .own ρ, .blk b5 (anL a1 a2) 37, .fr σ]) (0, 0) ⟨Nat.zero_le _, rfl⟩ (.cons (t := 0) rfl <| .cons (t := 5) rfl <| .cons (t := 7) rfl <| .cons (t := 8) rfl <| .cons (t := 9) rfl <| .nil) (Perm.kle (.cons (by first | exact .here | exact (.there .here) | exact (.there (.there .here)) | exact (.there (.there (.there .here))) | exact (.there (.there (.there (.there .here)))) | exact (.there (.there (.there (.there (.there .here)))))) (.cons (by first | exact .here | exact (.there .here) | exact (.there (.there .here)) | exact (.there (.there (.there .here))) | exact (.there (.there (.there (.there .here)))) | exact (.there (.there (.there (.there (.there .here)))))) (.cons (by first | exact .here | exact (.there .here) | exact (.there (.there .here)) | exact (.there (.there (.there .here))) | exact (.there (.there (.there (.there .here)))) | exact (.there (.there (.there (.there (.there .here)))))) (.cons (by first | exact .here | exact (.there .here) | exact (.there (.there .here)) | exact (.there (.there (.there .here))) | exact (.there (.there (.there (.there .here)))) | exact (.there (.there (.there (.there (.there .here)))))) .nil))))) ?_
  rintro ⟨i, m⟩ hR
  have hmb : m ≤ 1073741824 := by have h9 : m = (((plR cols xs).1.take i).filter (bf (a1, a2))).length := hR.2; have h8 := List.length_filter_le (bf (a1, a2)) ((plR cols xs).1.take i); rw [List.length_take] at h8; omega
  refine T.seq ?_
  refine T.seq ?_
  refine T.region ?_
  refine TL.val (OpV.move rfl) rfl ?_
  refine TL.val (OpV.move rfl) rfl ?_
  refine TL.val (OpV.len Tryd.underlying22 rfl) rfl ?_
  refine TL.val (OpV.lss rfl rfl) rfl ?_
  refine TL.nil ?_
  refine TE.next ?_
  refine T.cond rfl ?_ ?_
  · intro ht16
    obtain ⟨q1, q2⟩ := hR
    have hi : i < n := by have h9 := of_decide_eq_true ht16; omega
    obtain ⟨p, hp⟩ := plR_get cols (xs := xs) (q := i) (by omega)
    obtain ⟨b1, o1, hA1, hat1⟩ := hr1.2.2.2.2 (by omega)
    obtain ⟨b2, o2, hA2, hat2⟩ := hr2.2.2.2.2 (by omega)
    obtain ⟨_, rfl, _, hatp⟩ := hat1 i p.1 (by simp [hp])
    obtain ⟨_, rfl, _, hatq⟩ := hat2 i p.2 (by simp [hp])
    have hft := filter_take (f := bf (a1, a2)) hp
    rw [← q2] at hft
    refine T.skip ?_
    refine TE.next ?_
    refine T.seq ?_
    refine T.block ?_
    refine T.seq ?_
    refine T.quiet mix (by kernel_rfl) ?_
    refine TQ.val (OpV.fieldAddr rfl fo_44_0) rfl ?_
    refine TQ.val (OpV.load pl_42 rfl (by first | exact Cel.blk .here rfl | exact Cel.blk (.there .here) rfl | exact Cel.blk (.there (.there .here)) rfl | exact Cel.blk (.there (.there (.there .here))) rfl | exact Cel.blk (.there (.there (.there (.there .here)))) rfl | exact Cel.blk (.there (.there (.there (.there (.there .here))))) rfl | exact Cel.own .here (hatp 0 _ rfl) | exact Cel.own (.there .here) (hatp 0 _ rfl) | exact Cel.own (.there (.there .here)) (hatp 0 _ rfl) | exact Cel.own (.there (.there (.there .here))) (hatp 0 _ rfl) | exact Cel.own (.there (.there (.there (.there .here)))) (hatp 0 _ rfl) | exact Cel.own (.there (.there (.there (.there (.there .here))))) (hatp 0 _ rfl) | exact Cel.own .here (hatq 0 _ rfl) | exact Cel.own (.there .here) (hatq 0 _ rfl) | exact Cel.own (.there (.there .here)) (hatq 0 _ rfl) | exact Cel.own (.there (.there (.there .here))) (hatq 0 _ rfl) | exact Cel.own (.there (.there (.there (.there .here)))) (hatq 0 _ rfl) | exact Cel.own (.there (.there (.there (.there (.there .here))))) (hatq 0 _ rfl))) rfl ?_
    refine TQ.val (OpV.move rfl) rfl ?_
    refine TQ.val (OpV.indexAddr se_42 rfl hA1 rfl (by rfl) (by first | omega | simp)) rfl ?_
    refine TQ.val (OpV.load pl_3 rfl (by first | exact Cel.blk .here rfl | exact Cel.blk (.there .here) rfl | exact Cel.blk (.there (.there .here)) rfl | exact Cel.blk (.there (.there (.there .here))) rfl | exact Cel.blk (.there (.there (.there (.there .here)))) rfl | exact Cel.blk (.there (.there (.there (.there (.there .here))))) rfl | exact Cel.own .here (hatp 0 _ rfl) | exact Cel.own (.there .here) (hatp 0 _ rfl) | exact Cel.own (.there (.there .here)) (hatp 0 _ rfl) | exact Cel.own (.there (.there (.there .here))) (hatp 0 _ rfl) | exact Cel.own (.there (.there (.there (.there .here)))) (hatp 0 _ rfl) | exact Cel.own (.there (.there (.there (.there (.there .here))))) (hatp 0 _ rfl) | exact Cel.own .here (hatq 0 _ rfl) | exact Cel.own (.there .here) (hatq 0 _ rfl) | exact Cel.own (.there (.there .here)) (hatq 0 _ rfl) | exact Cel.own (.there (.there (.there .here))) (hatq 0 _ rfl) | exact Cel.own (.there (.there (.there (.there .here)))) (hatq 0 _ rfl) | exact Cel.own (.there (.there (.there (.there (.there .here))))) (hatq 0 _ rfl))) rfl ?_
    refine TQ.val (OpV.fieldAddr rfl fo_37_0) rfl ?_
    refine TQ.val (OpV.load pl_3 rfl (by first | exact Cel.blk .here rfl | exact Cel.blk (.there .here) rfl | exact Cel.blk (.there (.there .here)) rfl | exact Cel.blk (.there (.there (.there .here))) rfl | exact Cel.blk (.there (.there (.there (.there .here)))) rfl | exact Cel.blk (.there (.there (.there (.there (.there .here))))) rfl | exact Cel.own .here (hatp 0 _ rfl) | exact Cel.own (.there .here) (hatp 0 _ rfl) | exact Cel.own (.there (.there .here)) (hatp 0 _ rfl) | exact Cel.own (.there (.there (.there .here))) (hatp 0 _ rfl) | exact Cel.own (.there (.there (.there (.there .here)))) (hatp 0 _ rfl) | exact Cel.own (.there (.there (.there (.there (.there .here))))) (hatp 0 _ rfl) | exact Cel.own .here (hatq 0 _ rfl) | exact Cel.own (.there .here) (hatq 0 _ rfl) | exact Cel.own (.there (.there .here)) (hatq 0 _ rfl) | exact Cel.own (.there (.there (.there .here))) (hatq 0 _ rfl) | exact Cel.own (.there (.there (.there (.there .here)))) (hatq 0 _ rfl) | exact Cel.own (.there (.there (.there (.there (.there .here))))) (hatq 0 _ rfl))) rfl ?_
    refine TQ.val (OpV.lss rfl rfl) rfl ?_
    refine TQ.val (OpV.move rfl) rfl ?_
    refine TQ.part (t := 27) rfl ?_ ?_
    · intro hg27
      refine TQ.shut rfl rfl ?_
      refine TQ.shut rfl rfl ?_
      refine TQ.shut rfl rfl ?_
      refine TQ.shut rfl rfl ?_
      refine TQ.shut rfl rfl ?_
      refine TQ.shut rfl rfl ?_
      refine TQ.shut rfl rfl ?_
      refine TQ.shut rfl rfl ?_
      refine TQ.shut rfl rfl ?_
      refine TQ.shutU rfl rfl ?_
      refine TQ.shutU rfl rfl ?_
      refine TQ.shutU rfl rfl ?_
      refine TQ.shutU rfl rfl ?_
      refine TQ.shutU rfl rfl ?_
      refine TQ.shutU rfl rfl ?_
      refine TQ.shutU rfl rfl ?_
      refine TQ.shutU rfl rfl ?_
      refine TQ.shut rfl rfl ?_
      refine TQ.val ((by first | exact OpV.pick_t rfl rfl | exact OpV.pick_f rfl rfl)) rfl ?_
      refine TQ.nil ?_
      refine TE.sub (.cons (t := 0) rfl <| .cons (t := 5) rfl <| .cons (t := 7) rfl <| .cons (t := 8) rfl <| .cons (t := 9) rfl <| .cons (t := 46) rfl <| .nil) ?_
      refine TE.next ?_
      refine T.yes rfl ?_
      refine T.region ?_
      refine TL.val (OpV.move rfl) rfl ?_
      refine TL.val (OpV.add rfl rfl (by first | exact IntWalk.i64_in _ ⟨by omega, by omega⟩ | rfl)) rfl ?_
      refine TL.val (OpV.assign rfl) rfl ?_
      refine TL.nil ?_
      refine TE.out ?_
      refine TE.next ?_
      refine T.region ?_
      refine TL.val (OpV.move rfl) rfl ?_
      refine TL.val (OpV.add rfl rfl (by first | exact IntWalk.i64_in _ ⟨by omega, by omega⟩ | rfl)) rfl ?_
      refine TL.val (OpV.assign rfl) rfl ?_
      refine TL.nil ?_
      exact TE.meet (i + 1, m + 1) ⟨⟨by omega, by rw [hft]; have h9 : bf (a1, a2) p = true := (by simp only [bf]; grind); rw [h9]; rfl⟩, by simp only; omega⟩ (.cons (t := 0) (by first | rfl | (simp [lk]; done)) <| .cons (t := 5) (by first | rfl | (simp [lk]; done)) <| .cons (t := 7) (by first | rfl | (simp [lk]; done)) <| .cons (t := 8) (by first | rfl | (simp [lk]; done)) <| .cons (t := 9) (by first | rfl | (simp [lk]; done)) <| .nil) (Perm.kle (.cons (by first | exact .here | exact (.there .here) | exact (.there (.there .here)) | exact (.there (.there (.there .here))) | exact (.there (.there (.there (.there .here)))) | exact (.there (.there (.there (.there (.there .here)))))) (.cons (by first | exact .here | exact (.there .here) | exact (.there (.there .here)) | exact (.there (.there (.there .here))) | exact (.there (.there (.there (.there .here)))) | exact (.there (.there (.there (.there (.there .here)))))) (.cons (by first | exact .here | exact (.there .here) | exact (.there (.there .here)) | exact (.there (.there (.there .here))) | exact (.there (.there (.there (.there .here)))) | exact (.there (.there (.there (.there (.there .here)))))) (.cons (by first | exact .here | exact (.there .here) | exact (.there (.there .here)) | exact (.there (.there (.there .here))) | exact (.there (.there (.there (.there .here)))) | exact (.there (.there (.there (.there (.there .here)))))) .nil)))))
    · intro hg27
      refine TQ.open rfl rfl ?_
      refine TQ.val (OpV.fieldAddr rfl fo_44_0) rfl ?_
      refine TQ.open rfl rfl ?_
      refine TQ.val (OpV.load pl_42 rfl (by first | exact Cel.blk .here rfl | exact Cel.blk (.there .here) rfl | exact Cel.blk (.there (.there .here)) rfl | exact Cel.blk (.there (.there (.there .here))) rfl | exact Cel.blk (.there (.there (.there (.there .here)))) rfl | exact Cel.blk (.there (.there (.there (.there (.there .here))))) rfl | exact Cel.own .here (hatp 0 _ rfl) | exact Cel.own (.there .here) (hatp 0 _ rfl) | exact Cel.own (.there (.there .here)) (hatp 0 _ rfl) | exact Cel.own (.there (.there (.there .here))) (hatp 0 _ rfl) | exact Cel.own (.there (.there (.there (.there .here)))) (hatp 0 _ rfl) | exact Cel.own (.there (.there (.there (.there (.there .here))))) (hatp 0 _ rfl) | exact Cel.own .here (hatq 0 _ rfl) | exact Cel.own (.there .here) (hatq 0 _ rfl) | exact Cel.own (.there (.there .here)) (hatq 0 _ rfl) | exact Cel.own (.there (.there (.there .here))) (hatq 0 _ rfl) | exact Cel.own (.there (.there (.there (.there .here)))) (hatq 0 _ rfl) | exact Cel.own (.there (.there (.there (.there (.there .here))))) (hatq 0 _ rfl))) rfl ?_
      refine TQ.open rfl rfl ?_
      refine TQ.val (OpV.move rfl) rfl ?_
      refine TQ.open rfl rfl ?_
      refine TQ.val (OpV.indexAddr se_42 rfl hA1 rfl (by rfl) (by first | omega | simp)) rfl ?_
      refine TQ.open rfl rfl ?_
      refine TQ.val (OpV.load pl_3 rfl (by first | exact Cel.blk .here rfl | exact Cel.blk (.there .here) rfl | exact Cel.blk (.there (.there .here)) rfl | exact Cel.blk (.there (.there (.there .here))) rfl | exact Cel.blk (.there (.there (.there (.there .here)))) rfl | exact Cel.blk (.there (.there (.there (.there (.there .here))))) rfl | exact Cel.own .here (hatp 0 _ rfl) | exact Cel.own (.there .here) (hatp 0 _ rfl) | exact Cel.own (.there (.there .here)) (hatp 0 _ rfl) | exact Cel.own (.there (.there (.there .here))) (hatp 0 _ rfl) | exact Cel.own (.there (.there (.there (.there .here)))) (hatp 0 _ rfl) | exact Cel.own (.there (.there (.there (.there (.there .here))))) (hatp 0 _ rfl) | exact Cel.own .here (hatq 0 _ rfl) | exact Cel.own (.there .here) (hatq 0 _ rfl) | exact Cel.own (.there (.there .here)) (hatq 0 _ rfl) | exact Cel.own (.there (.there (.there .here))) (hatq 0 _ rfl) | exact Cel.own (.there (.there (.there (.there .here)))) (hatq 0 _ rfl) | exact Cel.own (.there (.there (.there (.there (.there .here))))) (hatq 0 _ rfl))) rfl ?_
      refine TQ.open rfl rfl ?_
      refine TQ.val (OpV.fieldAddr rfl fo_37_0) rfl ?_
      refine TQ.open rfl rfl ?_
      refine TQ.val (OpV.load pl_3 rfl (by first | exact Cel.blk .here rfl | exact Cel.blk (.there .here) rfl | exact Cel.blk (.there (.there .here)) rfl | exact Cel.blk (.there (.there (.there .here))) rfl | exact Cel.blk (.there (.there (.there (.there .here)))) rfl | exact Cel.blk (.there (.there (.there (.there (.there .here))))) rfl | exact Cel.own .here (hatp 0 _ rfl) | exact Cel.own (.there .here) (hatp 0 _ rfl) | exact Cel.own (.there (.there .here)) (hatp 0 _ rfl) | exact Cel.own (.there (.there (.there .here))) (hatp 0 _ rfl) | exact Cel.own (.there (.there (.there (.there .here)))) (hatp 0 _ rfl) | exact Cel.own (.there (.there (.there (.there (.there .here))))) (hatp 0 _ rfl) | exact Cel.own .here (hatq 0 _ rfl) | exact Cel.own (.there .here) (hatq 0 _ rfl) | exact Cel.own (.there (.there .here)) (hatq 0 _ rfl) | exact Cel.own (.there (.there (.there .here))) (hatq 0 _ rfl) | exact Cel.own (.there (.there (.there (.there .here)))) (hatq 0 _ rfl) | exact Cel.own (.there (.there (.there (.there (.there .here))))) (hatq 0 _ rfl))) rfl ?_
      refine TQ.open rfl rfl ?_
      refine TQ.val (OpV.eql rfl rfl) rfl ?_
      refine TQ.open rfl rfl ?_
      refine TQ.val (OpV.move rfl) rfl ?_
      refine TQ.part (t := 36) rfl ?_ ?_
      · intro hg36
        refine TQ.open rfl rfl ?_
        refine TQ.val (OpV.fieldAddr rfl fo_44_1) rfl ?_
        refine TQ.open rfl rfl ?_
        refine TQ.val (OpV.load pl_42 rfl (by first | exact Cel.blk .here rfl | exact Cel.blk (.there .here) rfl | exact Cel.blk (.there (.there .here)) rfl | exact Cel.blk (.there (.there (.there .here))) rfl | exact Cel.blk (.there (.there (.there (.there .here)))) rfl | exact Cel.blk (.there (.there (.there (.there (.there .here))))) rfl | exact Cel.own .here (hatp 0 _ rfl) | exact Cel.own (.there .here) (hatp 0 _ rfl) | exact Cel.own (.there (.there .here)) (hatp 0 _ rfl) | exact Cel.own (.there (.there (.there .here))) (hatp 0 _ rfl) | exact Cel.own (.there (.there (.there (.there .here)))) (hatp 0 _ rfl) | exact Cel.own (.there (.there (.there (.there (.there .here))))) (hatp 0 _ rfl) | exact Cel.own .here (hatq 0 _ rfl) | exact Cel.own (.there .here) (hatq 0 _ rfl) | exact Cel.own (.there (.there .here)) (hatq 0 _ rfl) | exact Cel.own (.there (.there (.there .here))) (hatq 0 _ rfl) | exact Cel.own (.there (.there (.there (.there .here)))) (hatq 0 _ rfl) | exact Cel.own (.there (.there (.there (.there (.there .here))))) (hatq 0 _ rfl))) rfl ?_
        refine TQ.open rfl rfl ?_
        refine TQ.val (OpV.move rfl) rfl ?_
        refine TQ.open rfl rfl ?_
        refine TQ.val (OpV.indexAddr se_42 rfl hA2 rfl (by rfl) (by first | omega | simp)) rfl ?_
        refine TQ.open rfl rfl ?_
        refine TQ.val (OpV.load pl_3 rfl (by first | exact Cel.blk .here rfl | exact Cel.blk (.there .here) rfl | exact Cel.blk (.there (.there .here)) rfl | exact Cel.blk (.there (.there (.there .here))) rfl | exact Cel.blk (.there (.there (.there (.there .here)))) rfl | exact Cel.blk (.there (.there (.there (.there (.there .here))))) rfl | exact Cel.own .here (hatp 0 _ rfl) | exact Cel.own (.there .here) (hatp 0 _ rfl) | exact Cel.own (.there (.there .here)) (hatp 0 _ rfl) | exact Cel.own (.there (.there (.there .here))) (hatp 0 _ rfl) | exact Cel.own (.there (.there (.there (.there .here)))) (hatp 0 _ rfl) | exact Cel.own (.there (.there (.there (.there (.there .here))))) (hatp 0 _ rfl) | exact Cel.own .here (hatq 0 _ rfl) | exact Cel.own (.there .here) (hatq 0 _ rfl) | exact Cel.own (.there (.there .here)) (hatq 0 _ rfl) | exact Cel.own (.there (.there (.there .here))) (hatq 0 _ rfl) | exact Cel.own (.there (.there (.there (.there .here)))) (hatq 0 _ rfl) | exact Cel.own (.there (.there (.there (.there (.there .here))))) (hatq 0 _ rfl))) rfl ?_
        refine TQ.open rfl rfl ?_
        refine TQ.val (OpV.fieldAddr rfl fo_37_1) rfl ?_
        refine TQ.open rfl rfl ?_
        refine TQ.val (OpV.load pl_3 rfl (by first | exact Cel.blk .here rfl | exact Cel.blk (.there .here) rfl | exact Cel.blk (.there (.there .here)) rfl | exact Cel.blk (.there (.there (.there .here))) rfl | exact Cel.blk (.there (.there (.there (.there .here)))) rfl | exact Cel.blk (.there (.there (.there (.there (.there .here))))) rfl | exact Cel.own .here (hatp 0 _ rfl) | exact Cel.own (.there .here) (hatp 0 _ rfl) | exact Cel.own (.there (.there .here)) (hatp 0 _ rfl) | exact Cel.own (.there (.there (.there .here))) (hatp 0 _ rfl) | exact Cel.own (.there (.there (.there (.there .here)))) (hatp 0 _ rfl) | exact Cel.own (.there (.there (.there (.there (.there .here))))) (hatp 0 _ rfl) | exact Cel.own .here (hatq 0 _ rfl) | exact Cel.own (.there .here) (hatq 0 _ rfl) | exact Cel.own (.there (.there .here)) (hatq 0 _ rfl) | exact Cel.own (.there (.there (.there .here))) (hatq 0 _ rfl) | exact Cel.own (.there (.there (.there (.there .here)))) (hatq 0 _ rfl) | exact Cel.own (.there (.there (.there (.there (.there .here))))) (hatq 0 _ rfl))) rfl ?_
        refine TQ.open rfl rfl ?_
        refine TQ.val (OpV.lss rfl rfl) rfl ?_
        refine TQ.open rfl rfl ?_
        refine TQ.val ((by first | exact OpV.pick_t rfl rfl | exact OpV.pick_f rfl rfl)) rfl ?_
        refine TQ.val ((by first | exact OpV.pick_t rfl rfl | exact OpV.pick_f rfl rfl)) rfl ?_
        refine TQ.nil ?_
        refine TE.sub (.cons (t := 0) rfl <| .cons (t := 5) rfl <| .cons (t := 7) rfl <| .cons (t := 8) rfl <| .cons (t := 9) rfl <| .cons (t := 46) rfl <| .nil) ?_
        refine TE.next ?_
        refine T.cond rfl ?_ ?_
        · intro ht46
          refine T.region ?_
          refine TL.val (OpV.move rfl) rfl ?_
          refine TL.val (OpV.add rfl rfl (by first | exact IntWalk.i64_in _ ⟨by omega, by omega⟩ | rfl)) rfl ?_
          refine TL.val (OpV.assign rfl) rfl ?_
          refine TL.nil ?_
          refine TE.out ?_
          refine TE.next ?_
          refine T.region ?_
          refine TL.val (OpV.move rfl) rfl ?_
          refine TL.val (OpV.add rfl rfl (by first | exact IntWalk.i64_in _ ⟨by omega, by omega⟩ | rfl)) rfl ?_
          refine TL.val (OpV.assign rfl) rfl ?_
          refine TL.nil ?_
          exact TE.meet (i + 1, m + 1) ⟨⟨by omega, by rw [hft]; have h9 : bf (a1, a2) p = true := (by simp only [bf]; grind); rw [h9]; rfl⟩, by simp only; omega⟩ (.cons (t := 0) (by first | rfl | (simp [lk]; done)) <| .cons (t := 5) (by first | rfl | (simp [lk]; done)) <| .cons (t := 7) (by first | rfl | (simp [lk]; done)) <| .cons (t := 8) (by first | rfl | (simp [lk]; done)) <| .cons (t := 9) (by first | rfl | (simp [lk]; done)) <| .nil) (Perm.kle (.cons (by first | exact .here | exact (.there .here) | exact (.there (.there .here)) | exact (.there (.there (.there .here))) | exact (.there (.there (.there (.there .here)))) | exact (.there (.there (.there (.there (.there .here)))))) (.cons (by first | exact .here | exact (.there .here) | exact (.there (.there .here)) | exact (.there (.there (.there .here))) | exact (.there (.there (.there (.there .here)))) | exact (.there (.there (.there (.there (.there .here)))))) (.cons (by first | exact .here | exact (.there .here) | exact (.there (.there .here)) | exact (.there (.there (.there .here))) | exact (.there (.there (.there (.there .here)))) | exact (.there (.there (.there (.there (.there .here)))))) (.cons (by first | exact .here | exact (.there .here) | exact (.there (.there .here)) | exact (.there (.there (.there .here))) | exact (.there (.there (.there (.there .here)))) | exact (.there (.there (.there (.there (.there .here)))))) .nil)))))
        · intro ht46
          refine T.skip ?_
          refine TE.out ?_
          refine TE.next ?_
          refine T.region ?_
          refine TL.val (OpV.move rfl) rfl ?_
          refine TL.val (OpV.add rfl rfl (by first | exact IntWalk.i64_in _ ⟨by omega, by omega⟩ | rfl)) rfl ?_
          refine TL.val (OpV.assign rfl) rfl ?_
          refine TL.nil ?_
          exact TE.meet (i + 1, m) ⟨⟨by omega, by rw [hft]; have h9 : bf (a1, a2) p = false := (by simp only [bf]; grind); rw [h9]; rfl⟩, by simp only; omega⟩ (.cons (t := 0) (by first | rfl | (simp [lk]; done)) <| .cons (t := 5) (by first | rfl | (simp [lk]; done)) <| .cons (t := 7) (by first | rfl | (simp [lk]; done)) <| .cons (t := 8) (by first | rfl | (simp [lk]; done)) <| .cons (t := 9) (by first | rfl | (simp [lk]; done)) <| .nil) (Perm.kle (.cons (by first | exact .here | exact (.there .here) | exact (.there (.there .here)) | exact (.there (.there (.there .here))) | exact (.there (.there (.there (.there .here)))) | exact (.there (.there (.there (.there (.there .here)))))) (.cons (by first | exact .here | exact (.there .here) | exact (.there (.there .here)) | exact (.there (.there (.there .here))) | exact (.there (.there (.there (.there .here)))) | exact (.there (.there (.there (.there (.there .here)))))) (.cons (by first | exact .here | exact (.there .here) | exact (.there (.there .here)) | exact (.there (.there (.there .here))) | exact (.there (.there (.there (.there .here)))) | exact (.there (.there (.there (.there (.there .here)))))) (.cons (by first | exact .here | exact (.there .here) | exact (.there (.there .here)) | exact (.there (.there (.there .here))) | exact (.there (.there (.there (.there .here)))) | exact (.there (.there (.there (.there (.there .here)))))) .nil)))))
      · intro hg36
        refine TQ.shut rfl rfl ?_
        refine TQ.shut rfl rfl ?_
        refine TQ.shut rfl rfl ?_
        refine TQ.shut rfl rfl ?_
        refine TQ.shut rfl rfl ?_
        refine TQ.shut rfl rfl ?_
        refine TQ.shut rfl rfl ?_
        refine TQ.shut rfl rfl ?_
        refine TQ.open rfl rfl ?_
        refine TQ.val ((by first | exact OpV.pick_t rfl rfl | exact OpV.pick_f rfl rfl)) rfl ?_
        refine TQ.val ((by first | exact OpV.pick_t rfl rfl | exact OpV.pick_f rfl rfl)) rfl ?_
        refine TQ.nil ?_
        refine TE.sub (.cons (t := 0) rfl <| .cons (t := 5) rfl <| .cons (t := 7) rfl <| .cons (t := 8) rfl <| .cons (t := 9) rfl <| .cons (t := 46) rfl <| .nil) ?_
        refine TE.next ?_
        refine T.no rfl ?_
        refine T.skip ?_
        refine TE.out ?_
        refine TE.next ?_
        refine T.region ?_
        refine TL.val (OpV.move rfl) rfl ?_
        refine TL.val (OpV.add rfl rfl (by first | exact IntWalk.i64_in _ ⟨by omega, by omega⟩ | rfl)) rfl ?_
        refine TL.val (OpV.assign rfl) rfl ?_
        refine TL.nil ?_
        exact TE.meet (i + 1, m) ⟨⟨by omega, by rw [hft]; have h9 : bf (a1, a2) p = false := (by simp only [bf]; grind); rw [h9]; rfl⟩, by simp only; omega⟩ (.cons (t := 0) (by first | rfl | (simp [lk]; done)) <| .cons (t := 5) (by first | rfl | (simp [lk]; done)) <| .cons (t := 7) (by first | rfl | (simp [lk]; done)) <| .cons (t := 8) (by first | rfl | (simp [lk]; done)) <| .cons (t := 9) (by first | rfl | (simp [lk]; done)) <| .nil) (Perm.kle (.cons (by first | exact .here | exact (.there .here) | exact (.there (.there .here)) | exact (.there (.there (.there .here))) | exact (.there (.there (.there (.there .here)))) | exact (.there (.there (.there (.there (.there .here)))))) (.cons (by first | exact .here | exact (.there .here) | exact (.there (.there .here)) | exact (.there (.there (.there .here))) | exact (.there (.there (.there (.there .here)))) | exact (.there (.there (.there (.there (.there .here)))))) (.cons (by first | exact .here | exact (.there .here) | exact (.there (.there .here)) | exact (.there (.there (.there .here))) | exact (.there (.there (.there (.there .here)))) | exact (.there (.there (.there (.there (.there .here)))))) (.cons (by first | exact .here | exact (.there .here) | exact (.there (.there .here)) | exact (.there (.there (.there .here))) | exact (.there (.there (.there (.there .here)))) | exact (.there (.there (.there (.there (.there .here)))))) .nil)))))
  · intro ht16
    obtain ⟨q1, q2⟩ := hR
    have hin : i = n := by have h9 := of_decide_eq_false ht16; omega
    rw [hin, List.take_of_length_le (by omega)] at q2
    refine T.exit ?_
    refine TE.pass_exit ?_
    refine TE.pass_exit ?_
    refine TE.here ?_
    refine TE.next ?_
    refine T.seq ?_
    refine T.region ?_
    refine TL.val (OpV.move rfl) rfl ?_
    refine TL.val (OpV.assign rfl) rfl ?_
    refine TL.nil ?_
    refine TE.sub (.cons (t := 6) rfl <| .nil) ?_
    refine TE.next ?_
    refine T.ret ?_
    refine TE.ret1 rfl (ResV.tmp rfl) ?_
    exact fun w1 k1 => ⟨by rw [q2]; rfl, k1.bel⟩
end Go.Proofs.YtblpfelhgcggfaaDoor
