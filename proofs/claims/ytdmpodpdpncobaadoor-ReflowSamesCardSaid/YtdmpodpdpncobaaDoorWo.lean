/-
  The walk of the reference's Wrap. Condition: the package-level tables hold what they were laid with.
-/
import Derived.Test.YtdmpodpdpncobaaDoorWi
import Derived.Test.YtdmpodpdpncobaaDoorWg
import Derived.Test.YtdmpodpdpncobaaDoorRfw
namespace Go.Proofs.YtdmpodpdpncobaaDoor
open Go.RowKit
set_option linter.unusedSimpArgs false
set_option linter.unusedVariables false

theorem rput_ls {cols : Int} {p : Int × Int} {x : Cl} {ls : List LnA} {l : LnA} (hl : ls[p.1.toNat]? = some l) : rput cols (ls.map LnA.ln) (p, x) = (ls.set p.1.toNat (l.put (rcol cols p) (rcell cols x))).map LnA.ln := by
  rw [rput]
  simp only [List.getElem?_map, hl, Option.map_some, List.map_set]
  rfl
theorem bld_65_1 (b : Bool) (w : World) : (Instr.build 65 #[(1, .bool b)]).run Tryd.prog w = .ok (.agg #[.slice none 0 0, .bool b]) w := by kernel_rfl
set_option maxRecDepth 100000 in
set_option maxHeartbeats 2000000 in
theorem refw_c {σ : Nat → Option Obj} {A : Option Addr} {n c : Nat} {xs : List Cl} (w : World) (cols : Int) (h : CsR σ A n c xs) (hs : ∀ b o, σ b = some o → w.heap[b]? = some o) (hv : vW xs cols = true) : Calls Tryd.prog 30 #[.slice A n c, .int .i64 cols] w (fun e w' => ∃ v : SV, e = .returned v.v ∧ LsR v.σ v.A v.n v.c (refW cols xs) ∧ KOk w [.own v.σ] w') := by
 have hn63 := h.2.1
 have hc63 := h.2.2.1
 have hl1 := h.1
 have hvp := vW_parts hv
 have hc := hvp.1
 have hn30 : n ≤ 1073741824 := by omega
 have hbd := plR_bd cols xs
 have hRN : rowsN cols xs = ((plR cols xs).2.1 + 1).toNat := rfl
 refine calls_T (vs := [.slice A n c, .int .i64 cols]) (L0 := [(0, .slice A n c), (1, .int .i64 cols)]) Tryd.func30 rfl rfl rfl rfl (KOk.fr1 hs) ?_
 refine T.seq ?_
 refine T.region ?_
 refine TL.val (OpV.assign rfl) rfl ?_
 refine TL.nil ?_
 refine TE.next ?_
 refine T.seq ?_
 refine T.region ?_
 refine TL.val (OpV.move rfl) rfl ?_
 refine TL.val (OpV.move rfl) rfl ?_
 refine TL.callx (g := 57) rfl go_57 rfl (fun wz kz => own_x kz (places_c wz cols h (kz.get (e := .fr σ) (by first | exact P0 | exact P1 | exact P2 | exact P3 | exact P4)) (by omega) ⟨by omega, hc.2⟩)) rfl ?_
 rintro ⟨A1, c1, A2, c2, m, ρ⟩ ⟨hm, hr1, hr2⟩
 replace hm : n = m := hm.symm
 subst hm
 simp only at hr1 hr2
 refine TL.alloc zo_99 rfl ?_
 intro b5
 first
   | refine TL.storeAll rfl rfl szz_99 rfl rfl rfl (by first | exact P0 | exact P1 | exact P2 | exact P3 | exact P4 | exact P5 | exact P6 | exact P7) (by rfl) ?_
   | refine TL.store rfl rfl szz_99 rfl rfl rfl (by first | exact P0 | exact P1 | exact P2 | exact P3 | exact P4 | exact P5 | exact P6 | exact P7) (by first | exact Nat.le_of_ble_eq_true rfl | (simp; done) | (simp; omega)) (by simp only [ptL, putL, List.take_succ_cons, List.take_zero, List.drop_succ_cons, List.drop_zero, List.cons_append, List.nil_append, List.length_cons, List.length_nil, Nat.reduceAdd]; rfl) ?_
 refine TL.nil ?_
 refine TE.next ?_
 refine T.seq ?_
 refine T.region ?_
 refine TL.val (OpV.assign rfl) rfl ?_
 refine TL.nil ?_
 refine TE.next ?_
 refine T.seq ?_
 refine T.seq ?_
 refine T.region ?_
 refine TL.val (OpV.assign rfl) rfl ?_
 refine TL.nil ?_
 refine TE.next ?_
 refine T.block ?_
 refine T.loop (ι := Nat × List LnA × Option Addr × Nat × (Nat → Option Obj)) (fun ⟨r, ls, A6, c6, τ⟩ => r ≤ (rowsN cols xs) ∧ ls.length = r ∧ ls.map LnA.ln = (tl cols (rowsN cols xs) []).take r ∧ WR 58 τ cols.toNat ls ∧ (A6 = none → c6 = 0)) (fun ⟨r, ls, A6, c6, τ⟩ => ((rowsN cols xs) - r)) (fun ⟨r, ls, A6, c6, τ⟩ => [(0, .slice A n c), (1, .int .i64 cols), (5, .pointer (some ⟨b5, 0, none⟩)), (6, .slice A6 r c6), (7, .int .i64 (r : Int))]) (fun ⟨r, ls, A6, c6, τ⟩ => [.row 65 2 A6 r c6 (fll ls), .own τ, .blk b5 (ptL A1 n c1 A2 n c2 ((plR cols xs).2.1 + 1) (plR cols xs).2.2) 99, .own ρ, .fr σ]) (0, [], none, 0, fun _ => none) ⟨Nat.zero_le _, rfl, rfl, WR.nil, fun _ => rfl⟩ (.cons (t := 0) rfl <| .cons (t := 1) rfl <| .cons (t := 5) rfl <| .cons (t := 6) rfl <| .cons (t := 7) rfl <| .nil) ((fun wz kz => Perm.kle (.cons (by first | exact P0 | exact P1 | exact P2 | exact P3 | exact P4 | exact P5 | exact P6 | exact P7 | exact P8) (.cons (by first | exact P0 | exact P1 | exact P2 | exact P3 | exact P4 | exact P5 | exact P6 | exact P7 | exact P8) (.cons (by first | exact P0 | exact P1 | exact P2 | exact P3 | exact P4 | exact P5 | exact P6 | exact P7 | exact P8) (.cons (by first | exact P0 | exact P1 | exact P2 | exact P3 | exact P4 | exact P5 | exact P6 | exact P7 | exact P8) (.cons (by first | exact P0 | exact P1 | exact P2 | exact P3 | exact P4 | exact P5 | exact P6 | exact P7 | exact P8) .nil))))) wz (Kle.nilRow 65 2 wz (KOk.ownNil kz)))) ?_
 rintro ⟨r, ls, A6, c6, τ⟩ hR
 refine T.seq ?_
 refine T.seq ?_
 refine T.region ?_
 refine TL.val (OpV.move rfl) rfl ?_
 refine TL.val (OpV.fieldAddr rfl fo_99_2) rfl ?_
 refine TL.val (OpV.load pl_3 rfl (by first | exact Cel.blk P0 rfl | exact Cel.blk P1 rfl | exact Cel.blk P2 rfl | exact Cel.blk P3 rfl | exact Cel.blk P4 rfl | exact Cel.blk P5 rfl | exact Cel.blk P6 rfl | exact Cel.blk P7 rfl | exact Cel.ownA (hatp 0 _ rfl) | exact Cel.ownA (hatq 0 _ rfl) | exact Cel.ownA (hatl _ _ rfl) | exact Cel.frA (hatx _ _ rfl))) rfl ?_
 refine TL.val (OpV.lss rfl rfl) rfl ?_
 refine TL.nil ?_
 refine TE.next ?_
 refine T.cond rfl ?_ ?_
 ·
  intro ht17
  obtain ⟨q1, q2, q3, q4, q5⟩ := hR
  have hr : (r : Int) < (plR cols xs).2.1 + 1 := of_decide_eq_true ht17
  refine T.skip ?_
  refine TE.next ?_
  refine T.seq ?_
  refine T.block ?_
  refine T.seq ?_
  refine T.region ?_
  refine TL.val (OpV.move rfl) rfl ?_
  refine TL.val (OpV.fieldAddr rfl fo_99_2) rfl ?_
  refine TL.val (OpV.load pl_3 rfl (by first | exact Cel.blk P0 rfl | exact Cel.blk P1 rfl | exact Cel.blk P2 rfl | exact Cel.blk P3 rfl | exact Cel.blk P4 rfl | exact Cel.blk P5 rfl | exact Cel.blk P6 rfl | exact Cel.blk P7 rfl | exact Cel.ownA (hatp 0 _ rfl) | exact Cel.ownA (hatq 0 _ rfl) | exact Cel.ownA (hatl _ _ rfl) | exact Cel.frA (hatx _ _ rfl))) rfl ?_
  refine TL.val (OpV.sub rfl rfl (by first | exact IntWalk.i64_in _ ⟨by omega, by omega⟩ | rfl)) rfl ?_
  refine TL.val (OpV.lss rfl rfl) rfl ?_
  refine TL.val (OpV.build (qs := #[(1, _)]) (fun _ f => by simp only [List.map_toArray, List.map_cons, List.map_nil]; rw [f.ev (x := .tmp 24) rfl]) (bld_65_1 (decide ((r : Int) < (plR cols xs).2.1 + 1 - 1)) )) rfl ?_
  refine TL.alloc zo_65 rfl ?_
  intro b8
  first
    | refine TL.storeAll rfl rfl szz_65 rfl rfl rfl (by first | exact P0 | exact P1 | exact P2 | exact P3 | exact P4 | exact P5 | exact P6 | exact P7) (by rfl) ?_
    | refine TL.store rfl rfl szz_65 rfl rfl rfl (by first | exact P0 | exact P1 | exact P2 | exact P3 | exact P4 | exact P5 | exact P6 | exact P7) (by first | exact Nat.le_of_ble_eq_true rfl | (simp; done) | (simp; omega)) (by simp only [ptL, putL, List.take_succ_cons, List.take_zero, List.drop_succ_cons, List.drop_zero, List.cons_append, List.nil_append, List.length_cons, List.length_nil, Nat.reduceAdd]; rfl) ?_
  refine TL.nil ?_
  refine TE.sub (.cons (t := 0) rfl <| .cons (t := 1) rfl <| .cons (t := 5) rfl <| .cons (t := 6) rfl <| .cons (t := 7) rfl <| .cons (t := 8) rfl <| .nil) ?_
  refine TE.next ?_
  refine T.seq ?_
  refine T.seq ?_
  refine T.region ?_
  refine TL.val (OpV.assign rfl) rfl ?_
  refine TL.nil ?_
  refine TE.next ?_
  refine T.block ?_
  refine T.loop (ι := Nat × Option Addr × Nat) (fun ⟨k, A7, c7⟩ => (k : Int) ≤ cols ∧ (A7 = none → c7 = 0)) (fun ⟨k, A7, c7⟩ => (cols.toNat - k)) (fun ⟨k, A7, c7⟩ => [(0, .slice A n c), (1, .int .i64 cols), (5, .pointer (some ⟨b5, 0, none⟩)), (6, .slice A6 r c6), (7, .int .i64 (r : Int)), (8, .pointer (some ⟨b8, 0, none⟩)), (9, .int .i64 (k : Int))]) (fun ⟨k, A7, c7⟩ => [.blk b8 [.slice A7 k c7, .bool (decide ((r : Int) < (plR cols xs).2.1 + 1 - 1))] 65, .row 58 16 A7 k c7 (fl (List.replicate k (blank Pen.zero))), .row 65 2 A6 r c6 (fll ls), .own τ, .blk b5 (ptL A1 n c1 A2 n c2 ((plR cols xs).2.1 + 1) (plR cols xs).2.2) 99, .own ρ, .fr σ]) (0, none, 0) ⟨by omega, fun _ => rfl⟩ (.cons (t := 0) rfl <| .cons (t := 1) rfl <| .cons (t := 5) rfl <| .cons (t := 6) rfl <| .cons (t := 7) rfl <| .cons (t := 8) rfl <| .cons (t := 9) rfl <| .nil) ((fun wz kz => Perm.kle (.cons (by first | exact P0 | exact P1 | exact P2 | exact P3 | exact P4 | exact P5 | exact P6 | exact P7 | exact P8) (.cons (by first | exact P0 | exact P1 | exact P2 | exact P3 | exact P4 | exact P5 | exact P6 | exact P7 | exact P8) (.cons (by first | exact P0 | exact P1 | exact P2 | exact P3 | exact P4 | exact P5 | exact P6 | exact P7 | exact P8) (.cons (by first | exact P0 | exact P1 | exact P2 | exact P3 | exact P4 | exact P5 | exact P6 | exact P7 | exact P8) (.cons (by first | exact P0 | exact P1 | exact P2 | exact P3 | exact P4 | exact P5 | exact P6 | exact P7 | exact P8) (.cons (by first | exact P0 | exact P1 | exact P2 | exact P3 | exact P4 | exact P5 | exact P6 | exact P7 | exact P8) (.cons (by first | exact P0 | exact P1 | exact P2 | exact P3 | exact P4 | exact P5 | exact P6 | exact P7 | exact P8) .nil))))))) wz (Kle.nilRow 58 16 wz kz))) ?_
  rintro ⟨k, A7, c7⟩ hR1
  refine T.seq ?_
  refine T.seq ?_
  refine T.region ?_
  refine TL.val (OpV.move rfl) rfl ?_
  refine TL.val (OpV.move rfl) rfl ?_
  refine TL.val (OpV.lss rfl rfl) rfl ?_
  refine TL.nil ?_
  refine TE.next ?_
  refine T.cond rfl ?_ ?_
  ·
   intro ht28
   obtain ⟨p1, p2⟩ := hR1
   have hk : (k : Int) < cols := of_decide_eq_true ht28
   refine T.skip ?_
   refine TE.next ?_
   refine T.seq ?_
   refine T.block ?_
   refine T.region ?_
   refine TL.val (OpV.fieldAddr rfl fo_65_0) rfl ?_
   refine TL.val (OpV.load pl_35 rfl (by first | exact Cel.blk P0 rfl | exact Cel.blk P1 rfl | exact Cel.blk P2 rfl | exact Cel.blk P3 rfl | exact Cel.blk P4 rfl | exact Cel.blk P5 rfl | exact Cel.blk P6 rfl | exact Cel.blk P7 rfl | exact Cel.ownA (hatp 0 _ rfl) | exact Cel.ownA (hatq 0 _ rfl) | exact Cel.ownA (hatl _ _ rfl) | exact Cel.frA (hatx _ _ rfl))) rfl ?_
   refine TL.val (OpV.build (qs := #[(2, _)]) (fun _ f => by simp only [List.map_toArray, List.map_cons, List.map_nil]; rw [f.ev (x := .const (.int .i64 1)) rfl]) (bld_58_2 1 )) rfl ?_
   refine TL.slit (qs := #[(0, _)]) (fun _ f => by simp only [List.map_toArray, List.map_cons, List.map_nil]; rw [f.ev (x := .tmp 33) rfl]) (sl_35_1_0 (Cl.mk 0 0 0 0 1 Pen.zero)) rfl ?_
   intro b34
   obtain ⟨ti35, hi35, hz35, hs35, hb35⟩ := info_parts inf_58
   refine TL.append rfl rfl Tryd.underlying35 hi35 hz35 hs35 hb35 rfl (by omega) (by first | exact P0 | exact P1 | exact P2 | exact P3 | exact P4 | exact P5 | exact P6 | exact P7) (by first | exact Src.nil | exact Src.blk P0 rfl | exact Src.blk P1 rfl | exact Src.blk P2 rfl | exact Src.blk P3 rfl | exact Src.blk P4 rfl | exact Src.blk P5 rfl | exact Src.blk P6 rfl | exact Src.blk P7 rfl | exact Src.row P0 | exact Src.row P1 | exact Src.row P2 | exact Src.row P3 | exact Src.row P4 | exact Src.row P5 | exact Src.row P6 | exact Src.row P7) (fun h => by cases h) rfl (by omega) (by omega) rfl ?_
   clear hi35 hz35 hs35 hb35 ti35
   intro A35 c35 hn35
   refine TL.val (OpV.fieldAddr rfl fo_65_0) rfl ?_
   refine TL.store rfl rfl szz_35 rfl rfl rfl (by first | exact P0 | exact P1 | exact P2 | exact P3 | exact P4 | exact P5 | exact P6 | exact P7) (by first | exact Nat.le_of_ble_eq_true rfl | (simp; done) | (simp; omega)) (by simp only [ptL, putL, List.take_succ_cons, List.take_zero, List.drop_succ_cons, List.drop_zero, List.cons_append, List.nil_append, List.length_cons, List.length_nil, Nat.reduceAdd]; rfl) ?_
   refine TL.nil ?_
   refine TE.out ?_
   refine TE.sub (.cons (t := 0) rfl <| .cons (t := 1) rfl <| .cons (t := 5) rfl <| .cons (t := 6) rfl <| .cons (t := 7) rfl <| .cons (t := 8) rfl <| .cons (t := 9) rfl <| .nil) ?_
   refine TE.next ?_
   refine T.region ?_
   refine TL.val (OpV.move rfl) rfl ?_
   refine TL.val (OpV.add rfl rfl (by first | exact IntWalk.i64_in _ ⟨by omega, by omega⟩ | rfl)) rfl ?_
   refine TL.val (OpV.assign rfl) rfl ?_
   refine TL.nil ?_
   exact TE.meet (k + 1, A35, c35) ⟨⟨by omega, hn35⟩, by simp only; omega⟩ (.cons (t := 0) (by first | rfl | (simp [lk]; done)) <| .cons (t := 1) (by first | rfl | (simp [lk]; done)) <| .cons (t := 5) (by first | rfl | (simp [lk]; done)) <| .cons (t := 6) (by first | rfl | (simp [lk]; done)) <| .cons (t := 7) (by first | rfl | (simp [lk]; done)) <| .cons (t := 8) (by first | rfl | (simp [lk]; done)) <| .cons (t := 9) (by first | rfl | (simp [lk]; done)) <| .nil) ((by simp only [fl_rep_succ]; exact Perm.kle (.cons (by first | exact P0 | exact P1 | exact P2 | exact P3 | exact P4 | exact P5 | exact P6 | exact P7 | exact P8) (.cons (by first | exact P0 | exact P1 | exact P2 | exact P3 | exact P4 | exact P5 | exact P6 | exact P7 | exact P8) (.cons (by first | exact P0 | exact P1 | exact P2 | exact P3 | exact P4 | exact P5 | exact P6 | exact P7 | exact P8) (.cons (by first | exact P0 | exact P1 | exact P2 | exact P3 | exact P4 | exact P5 | exact P6 | exact P7 | exact P8) (.cons (by first | exact P0 | exact P1 | exact P2 | exact P3 | exact P4 | exact P5 | exact P6 | exact P7 | exact P8) (.cons (by first | exact P0 | exact P1 | exact P2 | exact P3 | exact P4 | exact P5 | exact P6 | exact P7 | exact P8) (.cons (by first | exact P0 | exact P1 | exact P2 | exact P3 | exact P4 | exact P5 | exact P6 | exact P7 | exact P8) .nil)))))))))
  ·
   intro ht28
   obtain ⟨p1, p2⟩ := hR1
   have hk : k = cols.toNat := by have h9 : ¬ (k : Int) < cols := of_decide_eq_false ht28; omega
   refine T.ex (ι := Nat × List Value × (Nat → Option Obj)) (R := fun q => A7 = some ⟨q.1, 0, none⟩ ∧ RowOk q.2.2 A7 k c7 16 (fl (List.replicate k (blank Pen.zero))) ∧ q.2.2 q.1 = some (.cells q.2.1.toArray 58 (0, 0)) ∧ q.2.1.take (fl (List.replicate k (blank Pen.zero))).length = (fl (List.replicate k (blank Pen.zero))) ∧ τ q.1 = none ∧ ∀ x o, τ x = some o → q.2.2 x = some o) (K2 := fun q => [.own q.2.2, .blk b8 [.slice A7 k c7, .bool (decide ((r : Int) < (plR cols xs).2.1 + 1 - 1))] 65, .row 65 2 A6 r c6 (fll ls), .blk b5 (ptL A1 n c1 A2 n c2 ((plR cols xs).2.1 + 1) (plR cols xs).2.2) 99, .own ρ, .fr σ]) (fun wz kz => ?_) ?_
   · skip
     obtain ⟨b, cs, ρ1, hq, k2⟩ := rowIntoW (e := 58) (z := 16) (A := A7) (m := k) (c := c7) (xs := (fl (List.replicate k (blank Pen.zero)))) (τ := τ) kz (by first | exact P0 | exact P1 | exact P2 | exact P3 | exact P4 | exact P5 | exact P6 | exact P7 | exact P8) (by first | exact P0 | exact P1 | exact P2 | exact P3 | exact P4 | exact P5 | exact P6 | exact P7 | exact P8) (by omega)
     exact ⟨⟨b, cs, ρ1⟩, hq, Perm.kle (.cons (by first | exact P0 | exact P1 | exact P2 | exact P3 | exact P4 | exact P5 | exact P6 | exact P7 | exact P8) (.cons (by first | exact P0 | exact P1 | exact P2 | exact P3 | exact P4 | exact P5 | exact P6 | exact P7 | exact P8) (.cons (by first | exact P0 | exact P1 | exact P2 | exact P3 | exact P4 | exact P5 | exact P6 | exact P7 | exact P8) (.cons (by first | exact P0 | exact P1 | exact P2 | exact P3 | exact P4 | exact P5 | exact P6 | exact P7 | exact P8) (.cons (by first | exact P0 | exact P1 | exact P2 | exact P3 | exact P4 | exact P5 | exact P6 | exact P7 | exact P8) (.cons (by first | exact P0 | exact P1 | exact P2 | exact P3 | exact P4 | exact P5 | exact P6 | exact P7 | exact P8) .nil)))))) wz k2⟩
   rintro ⟨bq, csq, τ2⟩ ⟨w1, w2, w3, w4, w5, w6⟩
   simp only at w1 w2 w3 w4 w5 w6
   refine T.exit ?_
   refine TE.pass_exit ?_
   refine TE.pass_exit ?_
   refine TE.here ?_
   refine TE.next ?_
   refine T.region ?_
   refine TL.val (OpV.move rfl) rfl ?_
   refine TL.val (OpV.loadA ag_65 rfl (by first | exact Cels.blk P0 rfl | exact Cels.blk P1 rfl | exact Cels.blk P2 rfl | exact Cels.blk P3 rfl | exact Cels.blk P4 rfl | exact Cels.blk P5 rfl | exact Cels.blk P6 rfl | exact Cels.blk P7 rfl | exact Cels.ownA (hatp) rfl | exact Cels.ownA (hatq) rfl | exact Cels.ownA (hatl) rfl | exact Cels.frA hatx rfl)) rfl ?_
   refine TL.said (t := 38) rfl (show _ = Value.agg (LnA.mk A7 k c7 (List.replicate k (blank Pen.zero)) (decide ((r : Int) < (plR cols xs).2.1 + 1 - 1))).l.toArray from rfl) ?_
   refine TL.slit (qs := #[(0, _)]) (fun _ f => by simp only [List.map_toArray, List.map_cons, List.map_nil]; rw [f.ev (x := .tmp 38) rfl]) (sl_22_1_0 (LnA.mk A7 k c7 (List.replicate k (blank Pen.zero)) (decide ((r : Int) < (plR cols xs).2.1 + 1 - 1)))) rfl ?_
   intro b39
   obtain ⟨ti40, hi40, hz40, hs40, hb40⟩ := info_parts inf_65
   refine TL.append rfl rfl Tryd.underlying22 hi40 hz40 hs40 hb40 rfl (by omega) (by first | exact P0 | exact P1 | exact P2 | exact P3 | exact P4 | exact P5 | exact P6 | exact P7) (by first | exact Src.nil | exact Src.blk P0 rfl | exact Src.blk P1 rfl | exact Src.blk P2 rfl | exact Src.blk P3 rfl | exact Src.blk P4 rfl | exact Src.blk P5 rfl | exact Src.blk P6 rfl | exact Src.blk P7 rfl | exact Src.row P0 | exact Src.row P1 | exact Src.row P2 | exact Src.row P3 | exact Src.row P4 | exact Src.row P5 | exact Src.row P6 | exact Src.row P7) (fun h => by cases h) rfl (by omega) (by omega) rfl ?_
   clear hi40 hz40 hs40 hb40 ti40
   intro A40 c40 hn40
   refine TL.val (OpV.assign rfl) rfl ?_
   refine TL.nil ?_
   refine TE.out ?_
   refine TE.sub (.cons (t := 0) rfl <| .cons (t := 1) rfl <| .cons (t := 5) rfl <| .cons (t := 6) rfl <| .cons (t := 7) rfl <| .nil) ?_
   refine TE.next ?_
   refine T.region ?_
   refine TL.val (OpV.move rfl) rfl ?_
   refine TL.val (OpV.add rfl rfl (by first | exact IntWalk.i64_in _ ⟨by omega, by omega⟩ | rfl)) rfl ?_
   refine TL.val (OpV.assign rfl) rfl ?_
   refine TL.nil ?_
   exact TE.meet (r + 1, ls ++ [(LnA.mk A7 k c7 (List.replicate k (blank Pen.zero)) (decide ((r : Int) < (plR cols xs).2.1 + 1 - 1)))], A40, c40, τ2) ⟨⟨by rw [hRN] at q1 ⊢; omega, by simp [q2], by rw [List.map_append, q3, List.map_cons, List.map_nil, List.take_add_one, tl_get cols _ r (by rw [hRN]; omega), hk]; congr 1; simp only [LnA.ln, Option.toList_some, List.cons.injEq, Ln.mk.injEq, true_and, and_true]; rw [decide_eq_decide, hRN]; omega, q4.snoc w6 w1 hk (by simp [hk]) (by rw [← hk]; exact w2.2.1) w2.2.2.1 ⟨csq, w3, w4⟩ w5, hn40⟩, by simp only; omega⟩ (.cons (t := 0) (by first | rfl | (simp [lk]; done)) <| .cons (t := 1) (by first | rfl | (simp [lk]; done)) <| .cons (t := 5) (by first | rfl | (simp [lk]; done)) <| .cons (t := 6) (by first | rfl | (simp [lk]; done)) <| .cons (t := 7) (by first | rfl | (simp [lk]; done)) <| .nil) ((by simp only [fll_snoc]; exact Perm.kle (.cons (by first | exact P0 | exact P1 | exact P2 | exact P3 | exact P4 | exact P5 | exact P6 | exact P7 | exact P8) (.cons (by first | exact P0 | exact P1 | exact P2 | exact P3 | exact P4 | exact P5 | exact P6 | exact P7 | exact P8) (.cons (by first | exact P0 | exact P1 | exact P2 | exact P3 | exact P4 | exact P5 | exact P6 | exact P7 | exact P8) (.cons (by first | exact P0 | exact P1 | exact P2 | exact P3 | exact P4 | exact P5 | exact P6 | exact P7 | exact P8) (.cons (by first | exact P0 | exact P1 | exact P2 | exact P3 | exact P4 | exact P5 | exact P6 | exact P7 | exact P8) .nil)))))))
 ·
  intro ht17
  obtain ⟨q1, q2, q3, q4, q5⟩ := hR
  have hr : ¬ (r : Int) < (plR cols xs).2.1 + 1 := of_decide_eq_false ht17
  have hrn : r = (rowsN cols xs) := by rw [hRN] at q1 ⊢; omega
  refine T.exit ?_
  refine TE.pass_exit ?_
  refine TE.pass_exit ?_
  refine TE.here ?_
  refine TE.next ?_
  refine T.seq ?_
  refine T.seq ?_
  refine T.region ?_
  refine TL.val (OpV.assign rfl) rfl ?_
  refine TL.nil ?_
  refine TE.next ?_
  refine T.block ?_
  refine T.ex (ι := Nat × List Value × (Nat → Option Obj)) (R := fun q => A6 = some ⟨q.1, 0, none⟩ ∧ RowOk q.2.2 A6 r c6 2 (fll ls)) (K2 := fun q => [.own τ, .own q.2.2, .blk b5 (ptL A1 n c1 A2 n c2 ((plR cols xs).2.1 + 1) (plR cols xs).2.2) 99, .own ρ, .fr σ]) (fun wz kz => ?_) ?_
  · skip
    obtain ⟨b, cs, ρ1, hq, k2⟩ := rowIntoW (e := 65) (z := 2) (A := A6) (m := r) (c := c6) (xs := fll ls) (τ := fun _ => none) (KOk.ownNil kz) (.there (by first | exact P0 | exact P1 | exact P2 | exact P3)) .here (by omega)
    exact ⟨⟨b, cs, ρ1⟩, ⟨hq.1, hq.2.1⟩, Perm.kle (.cons (by first | exact P0 | exact P1 | exact P2 | exact P3 | exact P4 | exact P5 | exact P6 | exact P7 | exact P8) (.cons (by first | exact P0 | exact P1 | exact P2 | exact P3 | exact P4 | exact P5 | exact P6 | exact P7 | exact P8) (.cons (by first | exact P0 | exact P1 | exact P2 | exact P3 | exact P4 | exact P5 | exact P6 | exact P7 | exact P8) (.cons (by first | exact P0 | exact P1 | exact P2 | exact P3 | exact P4 | exact P5 | exact P6 | exact P7 | exact P8) (.cons (by first | exact P0 | exact P1 | exact P2 | exact P3 | exact P4 | exact P5 | exact P6 | exact P7 | exact P8) .nil))))) wz k2⟩
  rintro ⟨bh, csh, η⟩ ⟨hA6, hro⟩
  simp only at hA6 hro
  have hsl : SlR 2 (fun x cs => cs = x.l) η A6 r c6 ls := SlR.of_row LnA.l_length hro q2
  refine T.loop (ι := Nat × List LnA × (Nat → Option Obj)) (fun ⟨i, ls, τ⟩ => i ≤ n ∧ ls.map LnA.ln = (((plR cols xs).1.zip xs).take i).foldl (rput cols) (tl cols (rowsN cols xs) []) ∧ WR 58 τ cols.toNat ls ∧ SlR 2 (fun x cs => cs = x.l) η A6 r c6 ls) (fun ⟨i, ls, τ⟩ => (n - i)) (fun ⟨i, ls, τ⟩ => [(0, .slice A n c), (1, .int .i64 cols), (5, .pointer (some ⟨b5, 0, none⟩)), (6, .slice A6 r c6), (10, .int .i64 (i : Int))]) (fun ⟨i, ls, τ⟩ => [.own τ, .own η, .blk b5 (ptL A1 n c1 A2 n c2 ((plR cols xs).2.1 + 1) (plR cols xs).2.2) 99, .own ρ, .fr σ]) (0, ls, τ) ⟨Nat.zero_le _, by rw [q3, hrn, List.take_of_length_le (by rw [tl_length]; omega)]; rfl, q4, hsl⟩ (.cons (t := 0) rfl <| .cons (t := 1) rfl <| .cons (t := 5) rfl <| .cons (t := 6) rfl <| .cons (t := 10) rfl <| .nil) (Kle.refl) ?_
  rintro ⟨i, ls, τ⟩ hR2
  refine T.seq ?_
  refine T.seq ?_
  refine T.region ?_
  refine TL.val (OpV.move rfl) rfl ?_
  refine TL.val (OpV.move rfl) rfl ?_
  refine TL.val (OpV.len Tryd.underlying35 rfl) rfl ?_
  refine TL.val (OpV.lss rfl rfl) rfl ?_
  refine TL.nil ?_
  refine TE.next ?_
  refine T.cond rfl ?_ ?_
  ·
   intro ht44
   obtain ⟨p1, p2, p3, p4⟩ := hR2
   have hi : i < n := by have h9 := of_decide_eq_true ht44; omega
   obtain ⟨x, hx⟩ := get_of_lt h.1 hi
   obtain ⟨b, o, hA, hat⟩ := h.pos (by omega)
   have hatx := hat i x hx
   obtain ⟨p, hp⟩ := plR_get cols (xs := xs) (q := i) (by omega)
   obtain ⟨b1, o1, hA1, hat1⟩ := hr1.2.2.2.2 (by omega)
   obtain ⟨b2, o2, hA2, hat2⟩ := hr2.2.2.2.2 (by omega)
   obtain ⟨_, rfl, _, hatp⟩ := hat1 i p.1 (by simp [hp])
   obtain ⟨_, rfl, _, hatq⟩ := hat2 i p.2 (by simp [hp])
   have hin := plR_in hv hp
   obtain ⟨l, hl⟩ := get_of_lt p4.1 (show p.1.toNat < r by omega)
   obtain ⟨b3, cs, hlA, hln, hlc, hτ, hcs⟩ := p3.get hl
   obtain ⟨b4, o4, hA4, hat4⟩ := p4.2.2.2.2 (by omega)
   obtain ⟨_, rfl, _, hatl⟩ := hat4 _ l hl
   have hfo := fold_take (cols := cols) (out := tl cols (rowsN cols xs) []) (zip_get hp hx)
   rw [← p2] at hfo
   have hpl := length_putL_cl (x := x) hcs hlc (show rcol cols p < cols.toNat by unfold rcol; split <;> omega)
   refine T.kle (Kle.carve hτ) ?_
   refine T.skip ?_
   refine TE.next ?_
   refine T.seq ?_
   refine T.block ?_
   refine T.seq ?_
   refine T.region ?_
   refine TL.val (OpV.move rfl) rfl ?_
   refine TL.val (OpV.gtr rfl rfl) rfl ?_
   refine TL.nil ?_
   refine TE.next ?_
   refine T.cond rfl ?_ ?_
   ·
    intro ht48
    have h1c : 1 < cols := of_decide_eq_true ht48
    have hko : rcol cols p = p.2.toNat := if_pos h1c
    have hrc : rcell cols x = x := if_pos h1c
    refine T.any ([.blk b5 (ptL A1 n c1 A2 n c2 ((plR cols xs).2.1 + 1) (plR cols xs).2.2) 99, .own ρ, .fr σ, .own η]) [19] mix rfl rfl ?_
    refine TA.takeP (i := 0) (ls := #[true, false, false, false, false, false, false, false, false, false, false, false, false, false, false, false, false, false, false, false]) rfl rfl rfl rfl rfl (by kernel_rfl) (by kernel_rfl) (by kernel_rfl) (by repeat (first | with_reducible exact PanicOk.body | with_reducible apply PanicOk.next | with_reducible apply PanicOk.block)) (OpV.move rfl) rfl (by kernel_rfl) ?_
    refine TA.takeP (i := 1) (ls := #[true, true, false, false, false, false, false, false, false, false, false, false, false, false, false, false, false, false, false, false]) rfl rfl rfl rfl rfl (by kernel_rfl) (by kernel_rfl) (by kernel_rfl) (by repeat (first | with_reducible exact PanicOk.body | with_reducible apply PanicOk.next | with_reducible apply PanicOk.block)) (OpV.fieldAddr rfl fo_99_0) rfl (by kernel_rfl) ?_
    refine TA.take (i := 2) (ls := #[true, true, true, false, false, false, false, false, false, false, false, false, false, false, false, false, false, false, false, false]) rfl rfl rfl rfl rfl (by kernel_rfl) (by kernel_rfl) (by kernel_rfl) (by kernel_rfl) (by repeat (first | with_reducible exact PanicOk.body | with_reducible apply PanicOk.next | with_reducible apply PanicOk.block)) ((.cons (by first | exact P0 | exact P1 | exact P2 | exact P3 | exact P4 | exact P5 | exact P6 | exact P7 | exact P8) (.cons (by first | exact P0 | exact P1 | exact P2 | exact P3 | exact P4 | exact P5 | exact P6 | exact P7 | exact P8) (.cons (by first | exact P0 | exact P1 | exact P2 | exact P3 | exact P4 | exact P5 | exact P6 | exact P7 | exact P8) (.cons (by first | exact P0 | exact P1 | exact P2 | exact P3 | exact P4 | exact P5 | exact P6 | exact P7 | exact P8) .nil))))) (OpV.load pl_97 rfl (by first | exact Cel.blk P0 rfl | exact Cel.blk P1 rfl | exact Cel.blk P2 rfl | exact Cel.blk P3 rfl | exact Cel.blk P4 rfl | exact Cel.blk P5 rfl | exact Cel.blk P6 rfl | exact Cel.blk P7 rfl | exact Cel.ownA (hatp 0 _ rfl) | exact Cel.ownA (hatq 0 _ rfl) | exact Cel.ownA (hatl _ _ rfl) | exact Cel.frA (hatx _ _ rfl))) rfl (by kernel_rfl) ?_
    refine TA.takeP (i := 3) (ls := #[true, true, true, true, false, false, false, false, false, false, false, false, false, false, false, false, false, false, false, false]) rfl rfl rfl rfl rfl (by kernel_rfl) (by kernel_rfl) (by kernel_rfl) (by repeat (first | with_reducible exact PanicOk.body | with_reducible apply PanicOk.next | with_reducible apply PanicOk.block)) (OpV.move rfl) rfl (by kernel_rfl) ?_
    refine TA.takeP (i := 4) (ls := #[true, true, true, true, true, false, false, false, false, false, false, false, false, false, false, false, false, false, false, false]) rfl rfl rfl rfl rfl (by kernel_rfl) (by kernel_rfl) (by kernel_rfl) (by repeat (first | with_reducible exact PanicOk.body | with_reducible apply PanicOk.next | with_reducible apply PanicOk.block)) (OpV.indexAddr se_97 rfl hA1 rfl (by rfl) (by first | omega | simp)) rfl (by kernel_rfl) ?_
    refine TA.take (i := 5) (ls := #[true, true, true, true, true, true, false, false, false, false, false, false, false, false, false, false, false, false, false, false]) rfl rfl rfl rfl rfl (by kernel_rfl) (by kernel_rfl) (by kernel_rfl) (by kernel_rfl) (by repeat (first | with_reducible exact PanicOk.body | with_reducible apply PanicOk.next | with_reducible apply PanicOk.block)) ((.cons (by first | exact P0 | exact P1 | exact P2 | exact P3 | exact P4 | exact P5 | exact P6 | exact P7 | exact P8) (.cons (by first | exact P0 | exact P1 | exact P2 | exact P3 | exact P4 | exact P5 | exact P6 | exact P7 | exact P8) (.cons (by first | exact P0 | exact P1 | exact P2 | exact P3 | exact P4 | exact P5 | exact P6 | exact P7 | exact P8) (.cons (by first | exact P0 | exact P1 | exact P2 | exact P3 | exact P4 | exact P5 | exact P6 | exact P7 | exact P8) .nil))))) (OpV.load pl_3 rfl (by first | exact Cel.blk P0 rfl | exact Cel.blk P1 rfl | exact Cel.blk P2 rfl | exact Cel.blk P3 rfl | exact Cel.blk P4 rfl | exact Cel.blk P5 rfl | exact Cel.blk P6 rfl | exact Cel.blk P7 rfl | exact Cel.ownA (hatp 0 _ rfl) | exact Cel.ownA (hatq 0 _ rfl) | exact Cel.ownA (hatl _ _ rfl) | exact Cel.frA (hatx _ _ rfl))) rfl (by kernel_rfl) ?_
    refine TA.takeP (i := 6) (ls := #[true, true, true, true, true, true, true, false, false, false, false, false, false, false, false, false, false, false, false, false]) rfl rfl rfl rfl rfl (by kernel_rfl) (by kernel_rfl) (by kernel_rfl) (by repeat (first | with_reducible exact PanicOk.body | with_reducible apply PanicOk.next | with_reducible apply PanicOk.block)) (OpV.indexAddr (j := p.1.toNat) se_22 rfl hA4 rfl (by omega) (by omega)) rfl (by kernel_rfl) ?_
    refine TA.takeP (i := 7) (ls := #[true, true, true, true, true, true, true, true, false, false, false, false, false, false, false, false, false, false, false, false]) rfl rfl rfl rfl rfl (by kernel_rfl) (by kernel_rfl) (by kernel_rfl) (by repeat (first | with_reducible exact PanicOk.body | with_reducible apply PanicOk.next | with_reducible apply PanicOk.block)) (OpV.fieldAddr rfl fo_65_0) rfl (by kernel_rfl) ?_
    refine TA.take (i := 8) (ls := #[true, true, true, true, true, true, true, true, true, false, false, false, false, false, false, false, false, false, false, false]) rfl rfl rfl rfl rfl (by kernel_rfl) (by kernel_rfl) (by kernel_rfl) (by kernel_rfl) (by repeat (first | with_reducible exact PanicOk.body | with_reducible apply PanicOk.next | with_reducible apply PanicOk.block)) ((.cons (by first | exact P0 | exact P1 | exact P2 | exact P3 | exact P4 | exact P5 | exact P6 | exact P7 | exact P8) (.cons (by first | exact P0 | exact P1 | exact P2 | exact P3 | exact P4 | exact P5 | exact P6 | exact P7 | exact P8) (.cons (by first | exact P0 | exact P1 | exact P2 | exact P3 | exact P4 | exact P5 | exact P6 | exact P7 | exact P8) (.cons (by first | exact P0 | exact P1 | exact P2 | exact P3 | exact P4 | exact P5 | exact P6 | exact P7 | exact P8) .nil))))) (OpV.load pl_35 rfl (by first | exact Cel.blk P0 rfl | exact Cel.blk P1 rfl | exact Cel.blk P2 rfl | exact Cel.blk P3 rfl | exact Cel.blk P4 rfl | exact Cel.blk P5 rfl | exact Cel.blk P6 rfl | exact Cel.blk P7 rfl | exact Cel.ownA (hatp 0 _ rfl) | exact Cel.ownA (hatq 0 _ rfl) | exact Cel.ownA (hatl _ _ rfl) | exact Cel.frA (hatx _ _ rfl))) rfl (by kernel_rfl) ?_
    refine TA.takeP (i := 9) (ls := #[true, true, true, true, true, true, true, true, true, true, false, false, false, false, false, false, false, false, false, false]) rfl rfl rfl rfl rfl (by kernel_rfl) (by kernel_rfl) (by kernel_rfl) (by repeat (first | with_reducible exact PanicOk.body | with_reducible apply PanicOk.next | with_reducible apply PanicOk.block)) (OpV.fieldAddr rfl fo_99_1) rfl (by kernel_rfl) ?_
    refine TA.take (i := 10) (ls := #[true, true, true, true, true, true, true, true, true, true, true, false, false, false, false, false, false, false, false, false]) rfl rfl rfl rfl rfl (by kernel_rfl) (by kernel_rfl) (by kernel_rfl) (by kernel_rfl) (by repeat (first | with_reducible exact PanicOk.body | with_reducible apply PanicOk.next | with_reducible apply PanicOk.block)) ((.cons (by first | exact P0 | exact P1 | exact P2 | exact P3 | exact P4 | exact P5 | exact P6 | exact P7 | exact P8) (.cons (by first | exact P0 | exact P1 | exact P2 | exact P3 | exact P4 | exact P5 | exact P6 | exact P7 | exact P8) (.cons (by first | exact P0 | exact P1 | exact P2 | exact P3 | exact P4 | exact P5 | exact P6 | exact P7 | exact P8) (.cons (by first | exact P0 | exact P1 | exact P2 | exact P3 | exact P4 | exact P5 | exact P6 | exact P7 | exact P8) .nil))))) (OpV.load pl_97 rfl (by first | exact Cel.blk P0 rfl | exact Cel.blk P1 rfl | exact Cel.blk P2 rfl | exact Cel.blk P3 rfl | exact Cel.blk P4 rfl | exact Cel.blk P5 rfl | exact Cel.blk P6 rfl | exact Cel.blk P7 rfl | exact Cel.ownA (hatp 0 _ rfl) | exact Cel.ownA (hatq 0 _ rfl) | exact Cel.ownA (hatl _ _ rfl) | exact Cel.frA (hatx _ _ rfl))) rfl (by kernel_rfl) ?_
    refine TA.takeP (i := 11) (ls := #[true, true, true, true, true, true, true, true, true, true, true, true, false, false, false, false, false, false, false, false]) rfl rfl rfl rfl rfl (by kernel_rfl) (by kernel_rfl) (by kernel_rfl) (by repeat (first | with_reducible exact PanicOk.body | with_reducible apply PanicOk.next | with_reducible apply PanicOk.block)) (OpV.move rfl) rfl (by kernel_rfl) ?_
    refine TA.takeP (i := 12) (ls := #[true, true, true, true, true, true, true, true, true, true, true, true, true, false, false, false, false, false, false, false]) rfl rfl rfl rfl rfl (by kernel_rfl) (by kernel_rfl) (by kernel_rfl) (by repeat (first | with_reducible exact PanicOk.body | with_reducible apply PanicOk.next | with_reducible apply PanicOk.block)) (OpV.indexAddr se_97 rfl hA2 rfl (by rfl) (by first | omega | simp)) rfl (by kernel_rfl) ?_
    refine TA.take (i := 13) (ls := #[true, true, true, true, true, true, true, true, true, true, true, true, true, true, false, false, false, false, false, false]) rfl rfl rfl rfl rfl (by kernel_rfl) (by kernel_rfl) (by kernel_rfl) (by kernel_rfl) (by repeat (first | with_reducible exact PanicOk.body | with_reducible apply PanicOk.next | with_reducible apply PanicOk.block)) ((.cons (by first | exact P0 | exact P1 | exact P2 | exact P3 | exact P4 | exact P5 | exact P6 | exact P7 | exact P8) (.cons (by first | exact P0 | exact P1 | exact P2 | exact P3 | exact P4 | exact P5 | exact P6 | exact P7 | exact P8) (.cons (by first | exact P0 | exact P1 | exact P2 | exact P3 | exact P4 | exact P5 | exact P6 | exact P7 | exact P8) (.cons (by first | exact P0 | exact P1 | exact P2 | exact P3 | exact P4 | exact P5 | exact P6 | exact P7 | exact P8) .nil))))) (OpV.load pl_3 rfl (by first | exact Cel.blk P0 rfl | exact Cel.blk P1 rfl | exact Cel.blk P2 rfl | exact Cel.blk P3 rfl | exact Cel.blk P4 rfl | exact Cel.blk P5 rfl | exact Cel.blk P6 rfl | exact Cel.blk P7 rfl | exact Cel.ownA (hatp 0 _ rfl) | exact Cel.ownA (hatq 0 _ rfl) | exact Cel.ownA (hatl _ _ rfl) | exact Cel.frA (hatx _ _ rfl))) rfl (by kernel_rfl) ?_
    refine TA.takeP (i := 14) (ls := #[true, true, true, true, true, true, true, true, true, true, true, true, true, true, true, false, false, false, false, false]) rfl rfl rfl rfl rfl (by kernel_rfl) (by kernel_rfl) (by kernel_rfl) (by repeat (first | with_reducible exact PanicOk.body | with_reducible apply PanicOk.next | with_reducible apply PanicOk.block)) (OpV.move rfl) rfl (by kernel_rfl) ?_
    refine TA.takeP (i := 15) (ls := #[true, true, true, true, true, true, true, true, true, true, true, true, true, true, true, true, false, false, false, false]) rfl rfl rfl rfl rfl (by kernel_rfl) (by kernel_rfl) (by kernel_rfl) (by repeat (first | with_reducible exact PanicOk.body | with_reducible apply PanicOk.next | with_reducible apply PanicOk.block)) (OpV.move rfl) rfl (by kernel_rfl) ?_
    refine TA.takeP (i := 16) (ls := #[true, true, true, true, true, true, true, true, true, true, true, true, true, true, true, true, true, false, false, false]) rfl rfl rfl rfl rfl (by kernel_rfl) (by kernel_rfl) (by kernel_rfl) (by repeat (first | with_reducible exact PanicOk.body | with_reducible apply PanicOk.next | with_reducible apply PanicOk.block)) (OpV.indexAddr se_35 rfl hA rfl (by rfl) (by first | omega | simp)) rfl (by kernel_rfl) ?_
    refine TA.take (i := 17) (ls := #[true, true, true, true, true, true, true, true, true, true, true, true, true, true, true, true, true, true, false, false]) rfl rfl rfl rfl rfl (by kernel_rfl) (by kernel_rfl) (by kernel_rfl) (by kernel_rfl) (by repeat (first | with_reducible exact PanicOk.body | with_reducible apply PanicOk.next | with_reducible apply PanicOk.block)) ((.cons (by first | exact P0 | exact P1 | exact P2 | exact P3 | exact P4 | exact P5 | exact P6 | exact P7 | exact P8) (.cons (by first | exact P0 | exact P1 | exact P2 | exact P3 | exact P4 | exact P5 | exact P6 | exact P7 | exact P8) (.cons (by first | exact P0 | exact P1 | exact P2 | exact P3 | exact P4 | exact P5 | exact P6 | exact P7 | exact P8) (.cons (by first | exact P0 | exact P1 | exact P2 | exact P3 | exact P4 | exact P5 | exact P6 | exact P7 | exact P8) .nil))))) (OpV.loadA ag_58 rfl (by first | exact Cels.blk P0 rfl | exact Cels.blk P1 rfl | exact Cels.blk P2 rfl | exact Cels.blk P3 rfl | exact Cels.blk P4 rfl | exact Cels.blk P5 rfl | exact Cels.blk P6 rfl | exact Cels.blk P7 rfl | exact Cels.ownA (hatp) rfl | exact Cels.ownA (hatq) rfl | exact Cels.ownA (hatl) rfl | exact Cels.frA hatx rfl)) rfl (by kernel_rfl) ?_
    refine TA.takeP (i := 18) (ls := #[true, true, true, true, true, true, true, true, true, true, true, true, true, true, true, true, true, true, true, false]) rfl rfl rfl rfl rfl (by kernel_rfl) (by kernel_rfl) (by kernel_rfl) (by repeat (first | with_reducible exact PanicOk.body | with_reducible apply PanicOk.next | with_reducible apply PanicOk.block)) (OpV.indexAddr (j := p.2.toNat) se_35 rfl hlA rfl (by omega) (by omega)) rfl (by kernel_rfl) ?_
    refine TA.one (i := 19) (ls := #[true, true, true, true, true, true, true, true, true, true, true, true, true, true, true, true, true, true, true, true]) (by kernel_rfl) rfl (by kernel_rfl) (fun w1 => ?_)
    refine TL.store (o := 0 + p.2.toNat * 16) (vs := x.l) (cs' := putL cs (rcol cols p * 16) x.l) rfl rfl szz_58 rfl rfl rfl (by first | exact P0 | exact P1 | exact P2 | exact P3 | exact P4 | exact P5 | exact P6 | exact P7 | exact P8) (by rw [hko] at hpl; simp only [Cl.l_length] at hpl ⊢; omega) (by rw [hko, Nat.zero_add]) ?_
    refine TL.nil ?_
    refine TA.bar rfl ?_
    refine TA.done (by kernel_rfl) ?_
    refine TE.out ?_
    refine TE.sub (.cons (t := 0) rfl <| .cons (t := 1) rfl <| .cons (t := 5) rfl <| .cons (t := 6) rfl <| .cons (t := 10) rfl <| .nil) ?_
    refine TE.next ?_
    refine T.region ?_
    refine TL.val (OpV.move rfl) rfl ?_
    refine TL.val (OpV.add rfl rfl (by first | exact IntWalk.i64_in _ ⟨by omega, by omega⟩ | rfl)) rfl ?_
    refine TL.val (OpV.assign rfl) rfl ?_
    refine TL.nil ?_
    exact TE.meet (i + 1, ls.set p.1.toNat (l.put (rcol cols p) x), upd (del τ b3) b3 (.cells (putL cs (rcol cols p * 16) x.l).toArray 58 (0, 0))) ⟨⟨by omega, by rw [hfo, rput_ls hl, hrc], p3.put hl hlA hcs (by unfold rcol; split <;> omega) _, p4.put hl⟩, by simp only; omega⟩ (.cons (t := 0) (by first | rfl | (simp [lk]; done)) <| .cons (t := 1) (by first | rfl | (simp [lk]; done)) <| .cons (t := 5) (by first | rfl | (simp [lk]; done)) <| .cons (t := 6) (by first | rfl | (simp [lk]; done)) <| .cons (t := 10) (by first | rfl | (simp [lk]; done)) <| .nil) ((Kle.trans (Perm.kle (.cons (by first | exact P0 | exact P1 | exact P2 | exact P3 | exact P4 | exact P5 | exact P6 | exact P7 | exact P8) (.cons (by first | exact P0 | exact P1 | exact P2 | exact P3 | exact P4 | exact P5 | exact P6 | exact P7 | exact P8) (.cons (by first | exact P0 | exact P1 | exact P2 | exact P3 | exact P4 | exact P5 | exact P6 | exact P7 | exact P8) (.cons (by first | exact P0 | exact P1 | exact P2 | exact P3 | exact P4 | exact P5 | exact P6 | exact P7 | exact P8) (.cons (by first | exact P0 | exact P1 | exact P2 | exact P3 | exact P4 | exact P5 | exact P6 | exact P7 | exact P8) (.cons (by first | exact P0 | exact P1 | exact P2 | exact P3 | exact P4 | exact P5 | exact P6 | exact P7 | exact P8) .nil))))))) Kle.uncarve))
   ·
    intro ht48
    have h1c : ¬ 1 < cols := of_decide_eq_false ht48
    have hko : rcol cols p = 0 := if_neg h1c
    refine T.seq ?_
    refine T.region ?_
    refine TL.val (OpV.move rfl) rfl ?_
    refine TL.val (OpV.move rfl) rfl ?_
    refine TL.val (OpV.indexAddr se_35 rfl hA rfl (by rfl) (by first | omega | simp)) rfl ?_
    refine TL.val (OpV.fieldAddr rfl fo_58_2) rfl ?_
    refine TL.val (OpV.load pl_3 rfl (by first | exact Cel.blk P0 rfl | exact Cel.blk P1 rfl | exact Cel.blk P2 rfl | exact Cel.blk P3 rfl | exact Cel.blk P4 rfl | exact Cel.blk P5 rfl | exact Cel.blk P6 rfl | exact Cel.blk P7 rfl | exact Cel.ownA (hatp 0 _ rfl) | exact Cel.ownA (hatq 0 _ rfl) | exact Cel.ownA (hatl _ _ rfl) | exact Cel.frA (hatx _ _ rfl))) rfl ?_
    refine TL.val (OpV.eql rfl rfl) rfl ?_
    refine TL.nil ?_
    refine TE.sub (.cons (t := 0) rfl <| .cons (t := 1) rfl <| .cons (t := 5) rfl <| .cons (t := 6) rfl <| .cons (t := 10) rfl <| .cons (t := 73) rfl <| .nil) ?_
    refine TE.next ?_
    refine T.cond rfl ?_ ?_
    ·
     intro ht73
     have hrc : rcell cols x = x := by rw [rcell, if_neg h1c, if_pos (eq_of_beq ht73)]
     refine T.any ([.blk b5 (ptL A1 n c1 A2 n c2 ((plR cols xs).2.1 + 1) (plR cols xs).2.2) 99, .own ρ, .fr σ, .own η]) [14] mix rfl rfl ?_
     refine TA.takeP (i := 0) (ls := #[true, false, false, false, false, false, false, false, false, false, false, false, false, false, false]) rfl rfl rfl rfl rfl (by kernel_rfl) (by kernel_rfl) (by kernel_rfl) (by repeat (first | with_reducible exact PanicOk.body | with_reducible apply PanicOk.next | with_reducible apply PanicOk.block)) (OpV.move rfl) rfl (by kernel_rfl) ?_
     refine TA.takeP (i := 1) (ls := #[true, true, false, false, false, false, false, false, false, false, false, false, false, false, false]) rfl rfl rfl rfl rfl (by kernel_rfl) (by kernel_rfl) (by kernel_rfl) (by repeat (first | with_reducible exact PanicOk.body | with_reducible apply PanicOk.next | with_reducible apply PanicOk.block)) (OpV.fieldAddr rfl fo_99_0) rfl (by kernel_rfl) ?_
     refine TA.take (i := 2) (ls := #[true, true, true, false, false, false, false, false, false, false, false, false, false, false, false]) rfl rfl rfl rfl rfl (by kernel_rfl) (by kernel_rfl) (by kernel_rfl) (by kernel_rfl) (by repeat (first | with_reducible exact PanicOk.body | with_reducible apply PanicOk.next | with_reducible apply PanicOk.block)) ((.cons (by first | exact P0 | exact P1 | exact P2 | exact P3 | exact P4 | exact P5 | exact P6 | exact P7 | exact P8) (.cons (by first | exact P0 | exact P1 | exact P2 | exact P3 | exact P4 | exact P5 | exact P6 | exact P7 | exact P8) (.cons (by first | exact P0 | exact P1 | exact P2 | exact P3 | exact P4 | exact P5 | exact P6 | exact P7 | exact P8) (.cons (by first | exact P0 | exact P1 | exact P2 | exact P3 | exact P4 | exact P5 | exact P6 | exact P7 | exact P8) .nil))))) (OpV.load pl_97 rfl (by first | exact Cel.blk P0 rfl | exact Cel.blk P1 rfl | exact Cel.blk P2 rfl | exact Cel.blk P3 rfl | exact Cel.blk P4 rfl | exact Cel.blk P5 rfl | exact Cel.blk P6 rfl | exact Cel.blk P7 rfl | exact Cel.ownA (hatp 0 _ rfl) | exact Cel.ownA (hatq 0 _ rfl) | exact Cel.ownA (hatl _ _ rfl) | exact Cel.frA (hatx _ _ rfl))) rfl (by kernel_rfl) ?_
     refine TA.takeP (i := 3) (ls := #[true, true, true, true, false, false, false, false, false, false, false, false, false, false, false]) rfl rfl rfl rfl rfl (by kernel_rfl) (by kernel_rfl) (by kernel_rfl) (by repeat (first | with_reducible exact PanicOk.body | with_reducible apply PanicOk.next | with_reducible apply PanicOk.block)) (OpV.move rfl) rfl (by kernel_rfl) ?_
     refine TA.takeP (i := 4) (ls := #[true, true, true, true, true, false, false, false, false, false, false, false, false, false, false]) rfl rfl rfl rfl rfl (by kernel_rfl) (by kernel_rfl) (by kernel_rfl) (by repeat (first | with_reducible exact PanicOk.body | with_reducible apply PanicOk.next | with_reducible apply PanicOk.block)) (OpV.indexAddr se_97 rfl hA1 rfl (by rfl) (by first | omega | simp)) rfl (by kernel_rfl) ?_
     refine TA.take (i := 5) (ls := #[true, true, true, true, true, true, false, false, false, false, false, false, false, false, false]) rfl rfl rfl rfl rfl (by kernel_rfl) (by kernel_rfl) (by kernel_rfl) (by kernel_rfl) (by repeat (first | with_reducible exact PanicOk.body | with_reducible apply PanicOk.next | with_reducible apply PanicOk.block)) ((.cons (by first | exact P0 | exact P1 | exact P2 | exact P3 | exact P4 | exact P5 | exact P6 | exact P7 | exact P8) (.cons (by first | exact P0 | exact P1 | exact P2 | exact P3 | exact P4 | exact P5 | exact P6 | exact P7 | exact P8) (.cons (by first | exact P0 | exact P1 | exact P2 | exact P3 | exact P4 | exact P5 | exact P6 | exact P7 | exact P8) (.cons (by first | exact P0 | exact P1 | exact P2 | exact P3 | exact P4 | exact P5 | exact P6 | exact P7 | exact P8) .nil))))) (OpV.load pl_3 rfl (by first | exact Cel.blk P0 rfl | exact Cel.blk P1 rfl | exact Cel.blk P2 rfl | exact Cel.blk P3 rfl | exact Cel.blk P4 rfl | exact Cel.blk P5 rfl | exact Cel.blk P6 rfl | exact Cel.blk P7 rfl | exact Cel.ownA (hatp 0 _ rfl) | exact Cel.ownA (hatq 0 _ rfl) | exact Cel.ownA (hatl _ _ rfl) | exact Cel.frA (hatx _ _ rfl))) rfl (by kernel_rfl) ?_
     refine TA.takeP (i := 6) (ls := #[true, true, true, true, true, true, true, false, false, false, false, false, false, false, false]) rfl rfl rfl rfl rfl (by kernel_rfl) (by kernel_rfl) (by kernel_rfl) (by repeat (first | with_reducible exact PanicOk.body | with_reducible apply PanicOk.next | with_reducible apply PanicOk.block)) (OpV.indexAddr (j := p.1.toNat) se_22 rfl hA4 rfl (by omega) (by omega)) rfl (by kernel_rfl) ?_
     refine TA.takeP (i := 7) (ls := #[true, true, true, true, true, true, true, true, false, false, false, false, false, false, false]) rfl rfl rfl rfl rfl (by kernel_rfl) (by kernel_rfl) (by kernel_rfl) (by repeat (first | with_reducible exact PanicOk.body | with_reducible apply PanicOk.next | with_reducible apply PanicOk.block)) (OpV.fieldAddr rfl fo_65_0) rfl (by kernel_rfl) ?_
     refine TA.take (i := 8) (ls := #[true, true, true, true, true, true, true, true, true, false, false, false, false, false, false]) rfl rfl rfl rfl rfl (by kernel_rfl) (by kernel_rfl) (by kernel_rfl) (by kernel_rfl) (by repeat (first | with_reducible exact PanicOk.body | with_reducible apply PanicOk.next | with_reducible apply PanicOk.block)) ((.cons (by first | exact P0 | exact P1 | exact P2 | exact P3 | exact P4 | exact P5 | exact P6 | exact P7 | exact P8) (.cons (by first | exact P0 | exact P1 | exact P2 | exact P3 | exact P4 | exact P5 | exact P6 | exact P7 | exact P8) (.cons (by first | exact P0 | exact P1 | exact P2 | exact P3 | exact P4 | exact P5 | exact P6 | exact P7 | exact P8) (.cons (by first | exact P0 | exact P1 | exact P2 | exact P3 | exact P4 | exact P5 | exact P6 | exact P7 | exact P8) .nil))))) (OpV.load pl_35 rfl (by first | exact Cel.blk P0 rfl | exact Cel.blk P1 rfl | exact Cel.blk P2 rfl | exact Cel.blk P3 rfl | exact Cel.blk P4 rfl | exact Cel.blk P5 rfl | exact Cel.blk P6 rfl | exact Cel.blk P7 rfl | exact Cel.ownA (hatp 0 _ rfl) | exact Cel.ownA (hatq 0 _ rfl) | exact Cel.ownA (hatl _ _ rfl) | exact Cel.frA (hatx _ _ rfl))) rfl (by kernel_rfl) ?_
     refine TA.takeP (i := 9) (ls := #[true, true, true, true, true, true, true, true, true, true, false, false, false, false, false]) rfl rfl rfl rfl rfl (by kernel_rfl) (by kernel_rfl) (by kernel_rfl) (by repeat (first | with_reducible exact PanicOk.body | with_reducible apply PanicOk.next | with_reducible apply PanicOk.block)) (OpV.move rfl) rfl (by kernel_rfl) ?_
     refine TA.takeP (i := 10) (ls := #[true, true, true, true, true, true, true, true, true, true, true, false, false, false, false]) rfl rfl rfl rfl rfl (by kernel_rfl) (by kernel_rfl) (by kernel_rfl) (by repeat (first | with_reducible exact PanicOk.body | with_reducible apply PanicOk.next | with_reducible apply PanicOk.block)) (OpV.move rfl) rfl (by kernel_rfl) ?_
     refine TA.takeP (i := 11) (ls := #[true, true, true, true, true, true, true, true, true, true, true, true, false, false, false]) rfl rfl rfl rfl rfl (by kernel_rfl) (by kernel_rfl) (by kernel_rfl) (by repeat (first | with_reducible exact PanicOk.body | with_reducible apply PanicOk.next | with_reducible apply PanicOk.block)) (OpV.indexAddr se_35 rfl hA rfl (by rfl) (by first | omega | simp)) rfl (by kernel_rfl) ?_
     refine TA.take (i := 12) (ls := #[true, true, true, true, true, true, true, true, true, true, true, true, true, false, false]) rfl rfl rfl rfl rfl (by kernel_rfl) (by kernel_rfl) (by kernel_rfl) (by kernel_rfl) (by repeat (first | with_reducible exact PanicOk.body | with_reducible apply PanicOk.next | with_reducible apply PanicOk.block)) ((.cons (by first | exact P0 | exact P1 | exact P2 | exact P3 | exact P4 | exact P5 | exact P6 | exact P7 | exact P8) (.cons (by first | exact P0 | exact P1 | exact P2 | exact P3 | exact P4 | exact P5 | exact P6 | exact P7 | exact P8) (.cons (by first | exact P0 | exact P1 | exact P2 | exact P3 | exact P4 | exact P5 | exact P6 | exact P7 | exact P8) (.cons (by first | exact P0 | exact P1 | exact P2 | exact P3 | exact P4 | exact P5 | exact P6 | exact P7 | exact P8) .nil))))) (OpV.loadA ag_58 rfl (by first | exact Cels.blk P0 rfl | exact Cels.blk P1 rfl | exact Cels.blk P2 rfl | exact Cels.blk P3 rfl | exact Cels.blk P4 rfl | exact Cels.blk P5 rfl | exact Cels.blk P6 rfl | exact Cels.blk P7 rfl | exact Cels.ownA (hatp) rfl | exact Cels.ownA (hatq) rfl | exact Cels.ownA (hatl) rfl | exact Cels.frA hatx rfl)) rfl (by kernel_rfl) ?_
     refine TA.takeP (i := 13) (ls := #[true, true, true, true, true, true, true, true, true, true, true, true, true, true, false]) rfl rfl rfl rfl rfl (by kernel_rfl) (by kernel_rfl) (by kernel_rfl) (by repeat (first | with_reducible exact PanicOk.body | with_reducible apply PanicOk.next | with_reducible apply PanicOk.block)) (OpV.indexAddr (j := 0) se_35 rfl hlA rfl rfl (by omega)) rfl (by kernel_rfl) ?_
     refine TA.one (i := 14) (ls := #[true, true, true, true, true, true, true, true, true, true, true, true, true, true, true]) (by kernel_rfl) rfl (by kernel_rfl) (fun w1 => ?_)
     refine TL.store (o := 0 + 0 * 16) (vs := x.l) (cs' := putL cs (rcol cols p * 16) x.l) rfl rfl szz_58 rfl rfl rfl (by first | exact P0 | exact P1 | exact P2 | exact P3 | exact P4 | exact P5 | exact P6 | exact P7 | exact P8) (by rw [hko] at hpl; simp only [Cl.l_length] at hpl ⊢; omega) (by rw [hko, Nat.zero_add]) ?_
     refine TL.nil ?_
     refine TA.bar rfl ?_
     refine TA.done (by kernel_rfl) ?_
     refine TE.out ?_
     refine TE.sub (.cons (t := 0) rfl <| .cons (t := 1) rfl <| .cons (t := 5) rfl <| .cons (t := 6) rfl <| .cons (t := 10) rfl <| .nil) ?_
     refine TE.next ?_
     refine T.region ?_
     refine TL.val (OpV.move rfl) rfl ?_
     refine TL.val (OpV.add rfl rfl (by first | exact IntWalk.i64_in _ ⟨by omega, by omega⟩ | rfl)) rfl ?_
     refine TL.val (OpV.assign rfl) rfl ?_
     refine TL.nil ?_
     exact TE.meet (i + 1, ls.set p.1.toNat (l.put (rcol cols p) x), upd (del τ b3) b3 (.cells (putL cs (rcol cols p * 16) x.l).toArray 58 (0, 0))) ⟨⟨by omega, by rw [hfo, rput_ls hl, hrc], p3.put hl hlA hcs (by unfold rcol; split <;> omega) _, p4.put hl⟩, by simp only; omega⟩ (.cons (t := 0) (by first | rfl | (simp [lk]; done)) <| .cons (t := 1) (by first | rfl | (simp [lk]; done)) <| .cons (t := 5) (by first | rfl | (simp [lk]; done)) <| .cons (t := 6) (by first | rfl | (simp [lk]; done)) <| .cons (t := 10) (by first | rfl | (simp [lk]; done)) <| .nil) ((Kle.trans (Perm.kle (.cons (by first | exact P0 | exact P1 | exact P2 | exact P3 | exact P4 | exact P5 | exact P6 | exact P7 | exact P8) (.cons (by first | exact P0 | exact P1 | exact P2 | exact P3 | exact P4 | exact P5 | exact P6 | exact P7 | exact P8) (.cons (by first | exact P0 | exact P1 | exact P2 | exact P3 | exact P4 | exact P5 | exact P6 | exact P7 | exact P8) (.cons (by first | exact P0 | exact P1 | exact P2 | exact P3 | exact P4 | exact P5 | exact P6 | exact P7 | exact P8) (.cons (by first | exact P0 | exact P1 | exact P2 | exact P3 | exact P4 | exact P5 | exact P6 | exact P7 | exact P8) (.cons (by first | exact P0 | exact P1 | exact P2 | exact P3 | exact P4 | exact P5 | exact P6 | exact P7 | exact P8) .nil))))))) Kle.uncarve))
    ·
     intro ht73
     have hrc : rcell cols x = blank x.pen := by rw [rcell, if_neg h1c, if_neg (beq_eq_false_iff_ne.1 ht73)]
     refine T.any ([.blk b5 (ptL A1 n c1 A2 n c2 ((plR cols xs).2.1 + 1) (plR cols xs).2.2) 99, .own ρ, .fr σ, .own η]) [16] mix rfl rfl ?_
     refine TA.takeP (i := 0) (ls := #[true, false, false, false, false, false, false, false, false, false, false, false, false, false, false, false, false]) rfl rfl rfl rfl rfl (by kernel_rfl) (by kernel_rfl) (by kernel_rfl) (by repeat (first | with_reducible exact PanicOk.body | with_reducible apply PanicOk.next | with_reducible apply PanicOk.block)) (OpV.move rfl) rfl (by kernel_rfl) ?_
     refine TA.takeP (i := 1) (ls := #[true, true, false, false, false, false, false, false, false, false, false, false, false, false, false, false, false]) rfl rfl rfl rfl rfl (by kernel_rfl) (by kernel_rfl) (by kernel_rfl) (by repeat (first | with_reducible exact PanicOk.body | with_reducible apply PanicOk.next | with_reducible apply PanicOk.block)) (OpV.fieldAddr rfl fo_99_0) rfl (by kernel_rfl) ?_
     refine TA.take (i := 2) (ls := #[true, true, true, false, false, false, false, false, false, false, false, false, false, false, false, false, false]) rfl rfl rfl rfl rfl (by kernel_rfl) (by kernel_rfl) (by kernel_rfl) (by kernel_rfl) (by repeat (first | with_reducible exact PanicOk.body | with_reducible apply PanicOk.next | with_reducible apply PanicOk.block)) ((.cons (by first | exact P0 | exact P1 | exact P2 | exact P3 | exact P4 | exact P5 | exact P6 | exact P7 | exact P8) (.cons (by first | exact P0 | exact P1 | exact P2 | exact P3 | exact P4 | exact P5 | exact P6 | exact P7 | exact P8) (.cons (by first | exact P0 | exact P1 | exact P2 | exact P3 | exact P4 | exact P5 | exact P6 | exact P7 | exact P8) (.cons (by first | exact P0 | exact P1 | exact P2 | exact P3 | exact P4 | exact P5 | exact P6 | exact P7 | exact P8) .nil))))) (OpV.load pl_97 rfl (by first | exact Cel.blk P0 rfl | exact Cel.blk P1 rfl | exact Cel.blk P2 rfl | exact Cel.blk P3 rfl | exact Cel.blk P4 rfl | exact Cel.blk P5 rfl | exact Cel.blk P6 rfl | exact Cel.blk P7 rfl | exact Cel.ownA (hatp 0 _ rfl) | exact Cel.ownA (hatq 0 _ rfl) | exact Cel.ownA (hatl _ _ rfl) | exact Cel.frA (hatx _ _ rfl))) rfl (by kernel_rfl) ?_
     refine TA.takeP (i := 3) (ls := #[true, true, true, true, false, false, false, false, false, false, false, false, false, false, false, false, false]) rfl rfl rfl rfl rfl (by kernel_rfl) (by kernel_rfl) (by kernel_rfl) (by repeat (first | with_reducible exact PanicOk.body | with_reducible apply PanicOk.next | with_reducible apply PanicOk.block)) (OpV.move rfl) rfl (by kernel_rfl) ?_
     refine TA.takeP (i := 4) (ls := #[true, true, true, true, true, false, false, false, false, false, false, false, false, false, false, false, false]) rfl rfl rfl rfl rfl (by kernel_rfl) (by kernel_rfl) (by kernel_rfl) (by repeat (first | with_reducible exact PanicOk.body | with_reducible apply PanicOk.next | with_reducible apply PanicOk.block)) (OpV.indexAddr se_97 rfl hA1 rfl (by rfl) (by first | omega | simp)) rfl (by kernel_rfl) ?_
     refine TA.take (i := 5) (ls := #[true, true, true, true, true, true, false, false, false, false, false, false, false, false, false, false, false]) rfl rfl rfl rfl rfl (by kernel_rfl) (by kernel_rfl) (by kernel_rfl) (by kernel_rfl) (by repeat (first | with_reducible exact PanicOk.body | with_reducible apply PanicOk.next | with_reducible apply PanicOk.block)) ((.cons (by first | exact P0 | exact P1 | exact P2 | exact P3 | exact P4 | exact P5 | exact P6 | exact P7 | exact P8) (.cons (by first | exact P0 | exact P1 | exact P2 | exact P3 | exact P4 | exact P5 | exact P6 | exact P7 | exact P8) (.cons (by first | exact P0 | exact P1 | exact P2 | exact P3 | exact P4 | exact P5 | exact P6 | exact P7 | exact P8) (.cons (by first | exact P0 | exact P1 | exact P2 | exact P3 | exact P4 | exact P5 | exact P6 | exact P7 | exact P8) .nil))))) (OpV.load pl_3 rfl (by first | exact Cel.blk P0 rfl | exact Cel.blk P1 rfl | exact Cel.blk P2 rfl | exact Cel.blk P3 rfl | exact Cel.blk P4 rfl | exact Cel.blk P5 rfl | exact Cel.blk P6 rfl | exact Cel.blk P7 rfl | exact Cel.ownA (hatp 0 _ rfl) | exact Cel.ownA (hatq 0 _ rfl) | exact Cel.ownA (hatl _ _ rfl) | exact Cel.frA (hatx _ _ rfl))) rfl (by kernel_rfl) ?_
     refine TA.takeP (i := 6) (ls := #[true, true, true, true, true, true, true, false, false, false, false, false, false, false, false, false, false]) rfl rfl rfl rfl rfl (by kernel_rfl) (by kernel_rfl) (by kernel_rfl) (by repeat (first | with_reducible exact PanicOk.body | with_reducible apply PanicOk.next | with_reducible apply PanicOk.block)) (OpV.indexAddr (j := p.1.toNat) se_22 rfl hA4 rfl (by omega) (by omega)) rfl (by kernel_rfl) ?_
     refine TA.takeP (i := 7) (ls := #[true, true, true, true, true, true, true, true, false, false, false, false, false, false, false, false, false]) rfl rfl rfl rfl rfl (by kernel_rfl) (by kernel_rfl) (by kernel_rfl) (by repeat (first | with_reducible exact PanicOk.body | with_reducible apply PanicOk.next | with_reducible apply PanicOk.block)) (OpV.fieldAddr rfl fo_65_0) rfl (by kernel_rfl) ?_
     refine TA.take (i := 8) (ls := #[true, true, true, true, true, true, true, true, true, false, false, false, false, false, false, false, false]) rfl rfl rfl rfl rfl (by kernel_rfl) (by kernel_rfl) (by kernel_rfl) (by kernel_rfl) (by repeat (first | with_reducible exact PanicOk.body | with_reducible apply PanicOk.next | with_reducible apply PanicOk.block)) ((.cons (by first | exact P0 | exact P1 | exact P2 | exact P3 | exact P4 | exact P5 | exact P6 | exact P7 | exact P8) (.cons (by first | exact P0 | exact P1 | exact P2 | exact P3 | exact P4 | exact P5 | exact P6 | exact P7 | exact P8) (.cons (by first | exact P0 | exact P1 | exact P2 | exact P3 | exact P4 | exact P5 | exact P6 | exact P7 | exact P8) (.cons (by first | exact P0 | exact P1 | exact P2 | exact P3 | exact P4 | exact P5 | exact P6 | exact P7 | exact P8) .nil))))) (OpV.load pl_35 rfl (by first | exact Cel.blk P0 rfl | exact Cel.blk P1 rfl | exact Cel.blk P2 rfl | exact Cel.blk P3 rfl | exact Cel.blk P4 rfl | exact Cel.blk P5 rfl | exact Cel.blk P6 rfl | exact Cel.blk P7 rfl | exact Cel.ownA (hatp 0 _ rfl) | exact Cel.ownA (hatq 0 _ rfl) | exact Cel.ownA (hatl _ _ rfl) | exact Cel.frA (hatx _ _ rfl))) rfl (by kernel_rfl) ?_
     refine TA.takeP (i := 9) (ls := #[true, true, true, true, true, true, true, true, true, true, false, false, false, false, false, false, false]) rfl rfl rfl rfl rfl (by kernel_rfl) (by kernel_rfl) (by kernel_rfl) (by repeat (first | with_reducible exact PanicOk.body | with_reducible apply PanicOk.next | with_reducible apply PanicOk.block)) (OpV.move rfl) rfl (by kernel_rfl) ?_
     refine TA.takeP (i := 10) (ls := #[true, true, true, true, true, true, true, true, true, true, true, false, false, false, false, false, false]) rfl rfl rfl rfl rfl (by kernel_rfl) (by kernel_rfl) (by kernel_rfl) (by repeat (first | with_reducible exact PanicOk.body | with_reducible apply PanicOk.next | with_reducible apply PanicOk.block)) (OpV.move rfl) rfl (by kernel_rfl) ?_
     refine TA.takeP (i := 11) (ls := #[true, true, true, true, true, true, true, true, true, true, true, true, false, false, false, false, false]) rfl rfl rfl rfl rfl (by kernel_rfl) (by kernel_rfl) (by kernel_rfl) (by repeat (first | with_reducible exact PanicOk.body | with_reducible apply PanicOk.next | with_reducible apply PanicOk.block)) (OpV.indexAddr se_35 rfl hA rfl (by rfl) (by first | omega | simp)) rfl (by kernel_rfl) ?_
     refine TA.takeP (i := 12) (ls := #[true, true, true, true, true, true, true, true, true, true, true, true, true, false, false, false, false]) rfl rfl rfl rfl rfl (by kernel_rfl) (by kernel_rfl) (by kernel_rfl) (by repeat (first | with_reducible exact PanicOk.body | with_reducible apply PanicOk.next | with_reducible apply PanicOk.block)) (OpV.fieldAddr rfl fo_58_3) rfl (by kernel_rfl) ?_
     refine TA.take (i := 13) (ls := #[true, true, true, true, true, true, true, true, true, true, true, true, true, true, false, false, false]) rfl rfl rfl rfl rfl (by kernel_rfl) (by kernel_rfl) (by kernel_rfl) (by kernel_rfl) (by repeat (first | with_reducible exact PanicOk.body | with_reducible apply PanicOk.next | with_reducible apply PanicOk.block)) ((.cons (by first | exact P0 | exact P1 | exact P2 | exact P3 | exact P4 | exact P5 | exact P6 | exact P7 | exact P8) (.cons (by first | exact P0 | exact P1 | exact P2 | exact P3 | exact P4 | exact P5 | exact P6 | exact P7 | exact P8) (.cons (by first | exact P0 | exact P1 | exact P2 | exact P3 | exact P4 | exact P5 | exact P6 | exact P7 | exact P8) (.cons (by first | exact P0 | exact P1 | exact P2 | exact P3 | exact P4 | exact P5 | exact P6 | exact P7 | exact P8) .nil))))) (OpV.loadA ag_56 rfl (Cels.fr (cs := x.pen.l) (by first | exact P0 | exact P1 | exact P2 | exact P3 | exact P4 | exact P5 | exact P6 | exact P7 | exact P8) (hatx.sub 5 11 rfl) rfl)) rfl (by kernel_rfl) ?_
     refine TA.takeP (i := 14) (ls := #[true, true, true, true, true, true, true, true, true, true, true, true, true, true, true, false, false]) rfl rfl rfl rfl rfl (by kernel_rfl) (by kernel_rfl) (by kernel_rfl) (by repeat (first | with_reducible exact PanicOk.body | with_reducible apply PanicOk.next | with_reducible apply PanicOk.block)) (OpV.build (qs := #[(2, _), (3, _)]) (fun _ f => by simp only [List.map_toArray, List.map_cons, List.map_nil]; rw [f.ev (x := .const (.int .i64 1)) rfl, f.ev (x := .tmp 101) rfl]) (bld_58_2_3 1 x.pen )) rfl (by kernel_rfl) ?_
     refine TA.takeP (i := 15) (ls := #[true, true, true, true, true, true, true, true, true, true, true, true, true, true, true, true, false]) rfl rfl rfl rfl rfl (by kernel_rfl) (by kernel_rfl) (by kernel_rfl) (by repeat (first | with_reducible exact PanicOk.body | with_reducible apply PanicOk.next | with_reducible apply PanicOk.block)) (OpV.indexAddr (j := 0) se_35 rfl hlA rfl rfl (by omega)) rfl (by kernel_rfl) ?_
     refine TA.one (i := 16) (ls := #[true, true, true, true, true, true, true, true, true, true, true, true, true, true, true, true, true]) (by kernel_rfl) rfl (by kernel_rfl) (fun w1 => ?_)
     refine TL.store (o := 0 + 0 * 16) (vs := (blank x.pen).l) (cs' := putL cs (rcol cols p * 16) (blank x.pen).l) rfl rfl szz_58 rfl rfl rfl (by first | exact P0 | exact P1 | exact P2 | exact P3 | exact P4 | exact P5 | exact P6 | exact P7 | exact P8) (by rw [hko] at hpl; simp only [Cl.l_length] at hpl ⊢; omega) (by rw [hko, Nat.zero_add]) ?_
     refine TL.nil ?_
     refine TA.bar rfl ?_
     refine TA.done (by kernel_rfl) ?_
     refine TE.out ?_
     refine TE.sub (.cons (t := 0) rfl <| .cons (t := 1) rfl <| .cons (t := 5) rfl <| .cons (t := 6) rfl <| .cons (t := 10) rfl <| .nil) ?_
     refine TE.next ?_
     refine T.region ?_
     refine TL.val (OpV.move rfl) rfl ?_
     refine TL.val (OpV.add rfl rfl (by first | exact IntWalk.i64_in _ ⟨by omega, by omega⟩ | rfl)) rfl ?_
     refine TL.val (OpV.assign rfl) rfl ?_
     refine TL.nil ?_
     exact TE.meet (i + 1, ls.set p.1.toNat (l.put (rcol cols p) (blank x.pen)), upd (del τ b3) b3 (.cells (putL cs (rcol cols p * 16) (blank x.pen).l).toArray 58 (0, 0))) ⟨⟨by omega, by rw [hfo, rput_ls hl, hrc], p3.put hl hlA hcs (by unfold rcol; split <;> omega) _, p4.put hl⟩, by simp only; omega⟩ (.cons (t := 0) (by first | rfl | (simp [lk]; done)) <| .cons (t := 1) (by first | rfl | (simp [lk]; done)) <| .cons (t := 5) (by first | rfl | (simp [lk]; done)) <| .cons (t := 6) (by first | rfl | (simp [lk]; done)) <| .cons (t := 10) (by first | rfl | (simp [lk]; done)) <| .nil) ((Kle.trans (Perm.kle (.cons (by first | exact P0 | exact P1 | exact P2 | exact P3 | exact P4 | exact P5 | exact P6 | exact P7 | exact P8) (.cons (by first | exact P0 | exact P1 | exact P2 | exact P3 | exact P4 | exact P5 | exact P6 | exact P7 | exact P8) (.cons (by first | exact P0 | exact P1 | exact P2 | exact P3 | exact P4 | exact P5 | exact P6 | exact P7 | exact P8) (.cons (by first | exact P0 | exact P1 | exact P2 | exact P3 | exact P4 | exact P5 | exact P6 | exact P7 | exact P8) (.cons (by first | exact P0 | exact P1 | exact P2 | exact P3 | exact P4 | exact P5 | exact P6 | exact P7 | exact P8) (.cons (by first | exact P0 | exact P1 | exact P2 | exact P3 | exact P4 | exact P5 | exact P6 | exact P7 | exact P8) .nil))))))) Kle.uncarve))
  ·
   intro ht44
   obtain ⟨p1, p2, p3, p4⟩ := hR2
   have hin : i = n := by have h9 := of_decide_eq_false ht44; omega
   have hfin : ls.map LnA.ln = refW cols xs := by rw [p2, refW, hin, List.take_of_length_le (by rw [List.length_zip]; omega)]
   refine T.exit ?_
   refine TE.pass_exit ?_
   refine TE.pass_exit ?_
   refine TE.here ?_
   refine TE.next ?_
   refine T.seq ?_
   refine T.region ?_
   refine TL.val (OpV.move rfl) rfl ?_
   refine TL.val (OpV.assign rfl) rfl ?_
   refine TL.nil ?_
   refine TE.sub (.cons (t := 4) rfl <| .nil) ?_
   refine TE.next ?_
   refine T.ret ?_
   refine TE.ret1 rfl (ResV.tmp rfl) ?_
   intro wz kz
   obtain ⟨π, ⟨f1, f2⟩, k2⟩ := KOk.own2 ((kz.pick (e := .own η) (by first | exact P0 | exact P1 | exact P2 | exact P3 | exact P4 | exact P5 | exact P6 | exact P7 | exact P8)).pick (e := .own τ) (by first | exact P0 | exact P1 | exact P2 | exact P3 | exact P4 | exact P5 | exact P6 | exact P7 | exact P8))
   refine ⟨⟨A6, r, c6, π⟩, rfl, ⟨ls, ⟨p4.mono f2, fun l hl => (p3.csr l hl).mono f1⟩, hfin⟩, Perm.kle (.cons .here .nil) wz k2⟩
end Go.Proofs.YtdmpodpdpncobaaDoor
