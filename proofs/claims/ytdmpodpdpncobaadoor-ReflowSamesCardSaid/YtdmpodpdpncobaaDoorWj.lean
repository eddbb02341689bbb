/-
  The walks of the reference's Place. No condition.
-/
import Derived.Test.YtdmpodpdpncobaaDoorWi
import Derived.Test.YtdmpodpdpncobaaDoorWf
namespace Go.Proofs.YtdmpodpdpncobaaDoor
open Go.RowKit
set_option linter.unusedSimpArgs false
set_option linter.unusedVariables false
set_option maxRecDepth 100000 in
set_option maxHeartbeats 1000000 in
theorem rplace_c {σ : Nat → Option Obj} {A : Option Addr} {n c : Nat} {xs : List Cl} (w : World) (cols : Int) (q : Nat) (h : CsR σ A n c xs) (hs : ∀ b o, σ b = some o → w.heap[b]? = some o) (hn : n ≤ 1073741824) (hc : 1 ≤ cols ∧ cols ≤ 1000) : Calls Tryd.prog 31 #[.slice A n c, .int .i64 cols, .int .i64 (q : Int)] w (Ret (.agg (anL (rplV cols xs q).1 (rplV cols xs q).2).toArray) w) := by
 have hn63 := h.2.1
 have hc63 := h.2.2.1
 have hl1 := h.1
 have hbd := plR_bd cols xs
 refine calls_T (vs := [.slice A n c, .int .i64 cols, .int .i64 (q : Int)]) (L0 := [(0, .slice A n c), (1, .int .i64 cols), (2, .int .i64 (q : Int))]) Tryd.func31 rfl rfl rfl rfl (KOk.fr1 hs) ?_
 refine T.seq ?_
 refine T.region ?_
 refine TL.alloc zo_24 rfl ?_
 intro b6
 refine TL.nil ?_
 refine TE.next ?_
 refine T.seq ?_
 refine T.region ?_
 refine TL.val (OpV.move rfl) rfl ?_
 refine TL.val (OpV.move rfl) rfl ?_
 refine TL.callx (g := 57) rfl go_57 rfl (fun wz kz => own_x kz (places_c wz cols h (kz.get (e := .fr σ) (by first | exact P0 | exact P1 | exact P2 | exact P3 | exact P4)) hn ⟨by omega, hc.2⟩)) rfl ?_
 rintro ⟨A1, c1, A2, c2, m, ρ⟩ ⟨hm, hr1, hr2⟩
 replace hm : n = m := hm.symm
 subst hm
 simp only at hr1 hr2
 refine TL.alloc zo_99 rfl ?_
 intro b7
 first
   | refine TL.storeAll rfl rfl szz_99 rfl rfl rfl (by first | exact P0 | exact P1 | exact P2 | exact P3 | exact P4 | exact P5) (by rfl) ?_
   | refine TL.store rfl rfl szz_99 rfl rfl rfl (by first | exact P0 | exact P1 | exact P2 | exact P3 | exact P4 | exact P5) (by first | exact Nat.le_of_ble_eq_true rfl | (simp; done) | (simp; omega)) (by simp only [anL, putL, List.take_succ_cons, List.take_zero, List.drop_succ_cons, List.drop_zero, List.cons_append, List.nil_append, List.length_cons, List.length_nil, Nat.reduceAdd]; rfl) ?_
 refine TL.nil ?_
 refine TE.next ?_
 refine T.seq ?_
 refine T.seq ?_
 refine T.region ?_
 refine TL.val (OpV.move rfl) rfl ?_
 refine TL.val (OpV.move rfl) rfl ?_
 refine TL.val (OpV.len Tryd.underlying35 rfl) rfl ?_
 refine TL.val (OpV.lss rfl rfl) rfl ?_
 refine TL.nil ?_
 refine TE.sub (.cons (t := 1) rfl <| .cons (t := 2) rfl <| .cons (t := 6) rfl <| .cons (t := 7) rfl <| .cons (t := 14) rfl <| .nil) ?_
 refine TE.next ?_
 refine T.cond rfl ?_ ?_
 ·
  intro ht14
  have hq : q < n := by have h9 := of_decide_eq_true ht14; omega
  obtain ⟨p, hp⟩ := plR_get cols (xs := xs) (q := q) (by omega)
  obtain ⟨b1, o1, hA1, hat1⟩ := hr1.2.2.2.2 (by omega)
  obtain ⟨b2, o2, hA2, hat2⟩ := hr2.2.2.2.2 (by omega)
  obtain ⟨_, rfl, _, hatp⟩ := hat1 q p.1 (by simp [hp])
  obtain ⟨_, rfl, _, hatq⟩ := hat2 q p.2 (by simp [hp])
  refine T.seq ?_
  refine T.any ([.blk b7 (ptL A1 n c1 A2 n c2 ((plR cols xs).2.1 + 1) (plR cols xs).2.2) 99, .own ρ]) [11] mix rfl rfl ?_
  refine TA.takeP (i := 0) (ls := #[true, false, false, false, false, false, false, false, false, false, false, false]) rfl rfl rfl rfl rfl (by kernel_rfl) (by kernel_rfl) (by kernel_rfl) (by repeat (first | with_reducible exact PanicOk.body | with_reducible apply PanicOk.next | with_reducible apply PanicOk.block)) (OpV.fieldAddr rfl fo_99_0) rfl (by kernel_rfl) ?_
  refine TA.take (i := 1) (ls := #[true, true, false, false, false, false, false, false, false, false, false, false]) rfl rfl rfl rfl rfl (by kernel_rfl) (by kernel_rfl) (by kernel_rfl) (by kernel_rfl) (by repeat (first | with_reducible exact PanicOk.body | with_reducible apply PanicOk.next | with_reducible apply PanicOk.block)) ((.cons (by first | exact P0 | exact P1 | exact P2 | exact P3 | exact P4 | exact P5) (.cons (by first | exact P0 | exact P1 | exact P2 | exact P3 | exact P4 | exact P5) .nil))) (OpV.load pl_97 rfl (by first | exact Cel.blk P0 rfl | exact Cel.blk P1 rfl | exact Cel.blk P2 rfl | exact Cel.blk P3 rfl | exact Cel.blk P4 rfl | exact Cel.blk P5 rfl | exact Cel.ownA (hatp 0 _ rfl) | exact Cel.ownA (hatq 0 _ rfl))) rfl (by kernel_rfl) ?_
  refine TA.takeP (i := 2) (ls := #[true, true, true, false, false, false, false, false, false, false, false, false]) rfl rfl rfl rfl rfl (by kernel_rfl) (by kernel_rfl) (by kernel_rfl) (by repeat (first | with_reducible exact PanicOk.body | with_reducible apply PanicOk.next | with_reducible apply PanicOk.block)) (OpV.move rfl) rfl (by kernel_rfl) ?_
  refine TA.takeP (i := 3) (ls := #[true, true, true, true, false, false, false, false, false, false, false, false]) rfl rfl rfl rfl rfl (by kernel_rfl) (by kernel_rfl) (by kernel_rfl) (by repeat (first | with_reducible exact PanicOk.body | with_reducible apply PanicOk.next | with_reducible apply PanicOk.block)) (OpV.indexAddr se_97 rfl hA1 rfl (by rfl) (by first | omega | simp)) rfl (by kernel_rfl) ?_
  refine TA.take (i := 4) (ls := #[true, true, true, true, true, false, false, false, false, false, false, false]) rfl rfl rfl rfl rfl (by kernel_rfl) (by kernel_rfl) (by kernel_rfl) (by kernel_rfl) (by repeat (first | with_reducible exact PanicOk.body | with_reducible apply PanicOk.next | with_reducible apply PanicOk.block)) ((.cons (by first | exact P0 | exact P1 | exact P2 | exact P3 | exact P4 | exact P5) (.cons (by first | exact P0 | exact P1 | exact P2 | exact P3 | exact P4 | exact P5) .nil))) (OpV.load pl_3 rfl (by first | exact Cel.blk P0 rfl | exact Cel.blk P1 rfl | exact Cel.blk P2 rfl | exact Cel.blk P3 rfl | exact Cel.blk P4 rfl | exact Cel.blk P5 rfl | exact Cel.ownA (hatp 0 _ rfl) | exact Cel.ownA (hatq 0 _ rfl))) rfl (by kernel_rfl) ?_
  refine TA.takeP (i := 5) (ls := #[true, true, true, true, true, true, false, false, false, false, false, false]) rfl rfl rfl rfl rfl (by kernel_rfl) (by kernel_rfl) (by kernel_rfl) (by repeat (first | with_reducible exact PanicOk.body | with_reducible apply PanicOk.next | with_reducible apply PanicOk.block)) (OpV.fieldAddr rfl fo_99_1) rfl (by kernel_rfl) ?_
  refine TA.take (i := 6) (ls := #[true, true, true, true, true, true, true, false, false, false, false, false]) rfl rfl rfl rfl rfl (by kernel_rfl) (by kernel_rfl) (by kernel_rfl) (by kernel_rfl) (by repeat (first | with_reducible exact PanicOk.body | with_reducible apply PanicOk.next | with_reducible apply PanicOk.block)) ((.cons (by first | exact P0 | exact P1 | exact P2 | exact P3 | exact P4 | exact P5) (.cons (by first | exact P0 | exact P1 | exact P2 | exact P3 | exact P4 | exact P5) .nil))) (OpV.load pl_97 rfl (by first | exact Cel.blk P0 rfl | exact Cel.blk P1 rfl | exact Cel.blk P2 rfl | exact Cel.blk P3 rfl | exact Cel.blk P4 rfl | exact Cel.blk P5 rfl | exact Cel.ownA (hatp 0 _ rfl) | exact Cel.ownA (hatq 0 _ rfl))) rfl (by kernel_rfl) ?_
  refine TA.takeP (i := 7) (ls := #[true, true, true, true, true, true, true, true, false, false, false, false]) rfl rfl rfl rfl rfl (by kernel_rfl) (by kernel_rfl) (by kernel_rfl) (by repeat (first | with_reducible exact PanicOk.body | with_reducible apply PanicOk.next | with_reducible apply PanicOk.block)) (OpV.move rfl) rfl (by kernel_rfl) ?_
  refine TA.takeP (i := 8) (ls := #[true, true, true, true, true, true, true, true, true, false, false, false]) rfl rfl rfl rfl rfl (by kernel_rfl) (by kernel_rfl) (by kernel_rfl) (by repeat (first | with_reducible exact PanicOk.body | with_reducible apply PanicOk.next | with_reducible apply PanicOk.block)) (OpV.indexAddr se_97 rfl hA2 rfl (by rfl) (by first | omega | simp)) rfl (by kernel_rfl) ?_
  refine TA.take (i := 9) (ls := #[true, true, true, true, true, true, true, true, true, true, false, false]) rfl rfl rfl rfl rfl (by kernel_rfl) (by kernel_rfl) (by kernel_rfl) (by kernel_rfl) (by repeat (first | with_reducible exact PanicOk.body | with_reducible apply PanicOk.next | with_reducible apply PanicOk.block)) ((.cons (by first | exact P0 | exact P1 | exact P2 | exact P3 | exact P4 | exact P5) (.cons (by first | exact P0 | exact P1 | exact P2 | exact P3 | exact P4 | exact P5) .nil))) (OpV.load pl_3 rfl (by first | exact Cel.blk P0 rfl | exact Cel.blk P1 rfl | exact Cel.blk P2 rfl | exact Cel.blk P3 rfl | exact Cel.blk P4 rfl | exact Cel.blk P5 rfl | exact Cel.ownA (hatp 0 _ rfl) | exact Cel.ownA (hatq 0 _ rfl))) rfl (by kernel_rfl) ?_
  refine TA.takeP (i := 10) (ls := #[true, true, true, true, true, true, true, true, true, true, true, false]) rfl rfl rfl rfl rfl (by kernel_rfl) (by kernel_rfl) (by kernel_rfl) (by repeat (first | with_reducible exact PanicOk.body | with_reducible apply PanicOk.next | with_reducible apply PanicOk.block)) (OpV.build (qs := #[(0, _), (1, _)]) (fun _ f => by simp only [List.map_toArray, List.map_cons, List.map_nil]; rw [f.ev (x := .tmp 19) rfl, f.ev (x := .tmp 24) rfl]) (bld_24_0_1 p.1 p.2 )) rfl (by kernel_rfl) ?_
  refine TA.one (i := 11) (ls := #[true, true, true, true, true, true, true, true, true, true, true, true]) (by kernel_rfl) rfl (by kernel_rfl) (fun w1 => ?_)
  first
    | refine TL.storeAll rfl rfl szz_24 rfl rfl rfl (by first | exact P0 | exact P1 | exact P2 | exact P3 | exact P4 | exact P5) (by rfl) ?_
    | refine TL.store rfl rfl szz_24 rfl rfl rfl (by first | exact P0 | exact P1 | exact P2 | exact P3 | exact P4 | exact P5) (by first | exact Nat.le_of_ble_eq_true rfl | (simp; done) | (simp; omega)) (by simp only [anL, putL, List.take_succ_cons, List.take_zero, List.drop_succ_cons, List.drop_zero, List.cons_append, List.nil_append, List.length_cons, List.length_nil, Nat.reduceAdd]; rfl) ?_
  refine TL.nil ?_
  refine TA.bar rfl ?_
  refine TA.done (by kernel_rfl) ?_
  refine TE.sub (.cons (t := 6) rfl <| .nil) ?_
  refine TE.next ?_
  refine T.ret ?_
  refine TE.pass_ret ?_
  refine TE.ret1 rfl (ResV.cellA rfl ag_24 (by first | exact Cels.blk P0 rfl | exact Cels.blk P1 rfl | exact Cels.blk P2 rfl | exact Cels.blk P3 rfl | exact Cels.blk P4 rfl | exact Cels.blk P5 rfl | exact Cels.ownA (hatp) rfl | exact Cels.ownA (hatq) rfl)) ?_
  exact fun w1 k1 => ⟨by rw [rplV, hp] <;> rfl, k1.bel⟩
 ·
  intro ht14
  have hq : ¬ q < n := by have h9 := of_decide_eq_false ht14; omega
  have hp : (plR cols xs).1[q]? = none := by simp; omega
  refine T.skip ?_
  refine TE.next ?_
  refine T.seq ?_
  refine T.region ?_
  refine TL.val (OpV.fieldAddr rfl fo_99_2) rfl ?_
  refine TL.val (OpV.load pl_3 rfl (by first | exact Cel.blk P0 rfl | exact Cel.blk P1 rfl | exact Cel.blk P2 rfl | exact Cel.blk P3 rfl | exact Cel.blk P4 rfl | exact Cel.blk P5 rfl | exact Cel.ownA (hatp 0 _ rfl) | exact Cel.ownA (hatq 0 _ rfl))) rfl ?_
  refine TL.val (OpV.sub rfl rfl (by first | exact IntWalk.i64_in _ ⟨by omega, by omega⟩ | rfl)) rfl ?_
  refine TL.val (OpV.fieldAddr rfl fo_99_3) rfl ?_
  refine TL.val (OpV.load pl_3 rfl (by first | exact Cel.blk P0 rfl | exact Cel.blk P1 rfl | exact Cel.blk P2 rfl | exact Cel.blk P3 rfl | exact Cel.blk P4 rfl | exact Cel.blk P5 rfl | exact Cel.ownA (hatp 0 _ rfl) | exact Cel.ownA (hatq 0 _ rfl))) rfl ?_
  refine TL.val (OpV.move rfl) rfl ?_
  refine TL.val (OpV.sub rfl rfl (by first | exact IntWalk.i64_in _ ⟨by omega, by omega⟩ | rfl)) rfl ?_
  refine TL.val (OpV.min rfl rfl) rfl ?_
  refine TL.said (t := 33) rfl (show _ = Value.int .i64 (fw (cols - 1) (plR cols xs).2.2) from rfl) ?_
  refine TL.val (OpV.build (qs := #[(0, _), (1, _)]) (fun _ f => by simp only [List.map_toArray, List.map_cons, List.map_nil]; rw [f.ev (x := .tmp 28) rfl, f.ev (x := .tmp 33) rfl]) (bld_24_0_1 _ _ )) rfl ?_
  first
    | refine TL.storeAll rfl rfl szz_24 rfl rfl rfl (by first | exact P0 | exact P1 | exact P2 | exact P3 | exact P4 | exact P5) (by rfl) ?_
    | refine TL.store rfl rfl szz_24 rfl rfl rfl (by first | exact P0 | exact P1 | exact P2 | exact P3 | exact P4 | exact P5) (by first | exact Nat.le_of_ble_eq_true rfl | (simp; done) | (simp; omega)) (by simp only [anL, putL, List.take_succ_cons, List.take_zero, List.drop_succ_cons, List.drop_zero, List.cons_append, List.nil_append, List.length_cons, List.length_nil, Nat.reduceAdd]; rfl) ?_
  refine TL.nil ?_
  refine TE.sub (.cons (t := 6) rfl <| .nil) ?_
  refine TE.next ?_
  refine T.ret ?_
  refine TE.ret1 rfl (ResV.cellA rfl ag_24 (by first | exact Cels.blk P0 rfl | exact Cels.blk P1 rfl | exact Cels.blk P2 rfl | exact Cels.blk P3 rfl | exact Cels.blk P4 rfl | exact Cels.blk P5 rfl | exact Cels.ownA (hatp) rfl | exact Cels.ownA (hatq) rfl)) ?_
  exact fun w1 k1 => ⟨by rw [rplV, hp] <;> first | rfl | simp only [Int.add_sub_cancel], k1.bel⟩
end Go.Proofs.YtdmpodpdpncobaaDoor
