/-
  The walks of the reference's To and From. No condition.
-/
import Derived.Test.YtdmpodpdpncobaaDoorVd
import Derived.Test.YtdmpodpdpncobaaDoorWj
namespace Go.Proofs.YtdmpodpdpncobaaDoor
open Go.RowKit
set_option linter.unusedSimpArgs false
set_option linter.unusedVariables false
set_option maxRecDepth 100000 in
set_option maxHeartbeats 1000000 in
theorem rto_c {σ : Nat → Option Obj} {A : Option Addr} {n c : Nat} {ls : List LnA} (a1 a2 : Int) (w : World) (h : LsA σ A n c ls) (hn : n ≤ 131072) (hv : vLs (ls.map LnA.ln) = true) (hP : hasP (ls.map LnA.ln) (a1, a2) = true) (hs : ∀ b o, σ b = some o → w.heap[b]? = some o) : Calls Tryd.prog 19 #[.slice A n c, .agg (anL a1 a2).toArray] w (Ret (.tuple #[.int .i64 (toV (ls.map LnA.ln) (a1, a2)).1, .int .i64 (toV (ls.map LnA.ln) (a1, a2)).2]) w) := by
 have hn63 := h.1.2.1
 have hc63 := h.1.2.2.1
 have hl1 := h.1.1
 have hXl : (ls.map LnA.ln).length = n := by rw [List.length_map]; exact hl1
 obtain ⟨k, x0, ha1, hXk, hkl, ha2, ha3⟩ := hasP_parts hP
 simp only at ha1 ha2 ha3
 subst ha1
 obtain ⟨x, hx, rfl⟩ : ∃ x, ls[k]? = some x ∧ x.ln = x0 := by rw [List.getElem?_map, Option.map_eq_some_iff] at hXk; exact hXk
 have hcx := h.2 x (List.mem_of_getElem? hx)
 have hlx : x.cells.length = x.n := hcx.1
 have hnx := hcx.2.1
 have hmx := hcx.2.2.1
 change a2 < (x.cells.length : Int) at ha3
 have hxb := vLs_row hv (List.mem_of_getElem? hXk)
 change x.cells.length ≤ 1000 at hxb
 obtain ⟨i, gl, f, r0, hfj, hgl, hfrm, hrows, _, hfk, hkr, hfr⟩ := find_ok (lgG [] 0 (ls.map LnA.ln)) 0 k (ok_lines hv) (Nat.zero_le _) hkl
 have hyes : hasR (k : Int) gl = true := hasR_yes (by rw [hfrm, hrows]; omega)
 have hfo : frmOf (lgG [] 0 (ls.map LnA.ln)) i = f := by rw [frmOf, hgl]; simp only; omega
 have hto : toV (ls.map LnA.ln) ((k : Int), a2) = ((i : Int), a2 + (sumK (((ls.map LnA.ln).drop f).map Ln.cells) (k - f) : Int)) := to_eq (find_some hfj hgl hyes) hfo
 have hbd : ∀ y ∈ ls.map LnA.cells, y.length ≤ 1000 := fun y hy => by obtain ⟨l, hl, rfl⟩ := List.mem_map.1 hy; exact vLs_row hv (List.mem_map_of_mem hl)
 have hlr : ((ls.take (k + 1)).drop f).length = k + 1 - f := by rw [List.length_drop, List.length_take]; rw [hXl] at hkl; omega
 have hlx2 : ((ls.take (k + 1)).drop f)[k - f]? = some x := by rw [List.getElem?_drop, List.getElem?_take, if_pos (by omega), show f + (k - f) = k by omega]; exact hx
 have hall : (allV (((ls.take (k + 1)).drop f).map LnA.cells)).length = sumK (((ls.map LnA.ln).drop f).map Ln.cells) (k - f) + x.n := by have h9 := all_take (((ls.map LnA.ln).drop f).map Ln.cells) (k - f) x.cells (by rw [List.getElem?_map, List.getElem?_drop, show f + (k - f) = k by omega, hXk]; rfl); rw [← hlx, ← h9, show k - f + 1 = k + 1 - f by omega, List.map_drop, List.map_take, List.map_drop, List.map_map, List.drop_take]; rfl
 have hsk1 := sumK_le (((ls.map LnA.ln).drop f).map Ln.cells) (k - f)
 have hsk2 := sumL_le (l := (((ls.map LnA.ln).drop f).map Ln.cells)) (fun z hz => by obtain ⟨y, hy, rfl⟩ := List.mem_map.1 hz; exact vLs_row hv (List.mem_of_mem_drop hy))
 rw [List.length_map, List.length_drop, hXl] at hsk2
 rw [hXl] at hkl hfr
 refine calls_T (vs := [.slice A n c, .agg (anL (k : Int) a2).toArray]) (L0 := [(0, .slice A n c), (1, .agg (anL (k : Int) a2).toArray)]) Tryd.func19 rfl rfl rfl rfl (KOk.fr1 hs) ?_
 refine T.seq ?_
 refine T.region ?_
 refine TL.boxA rfl rfl ?_
 intro b3
 refine TL.val (OpV.assign rfl) rfl ?_
 refine TL.val (OpV.assign rfl) rfl ?_
 refine TL.nil ?_
 refine TE.next ?_
 refine T.seq ?_
 refine T.region ?_
 refine TL.val (OpV.move rfl) rfl ?_
 refine TL.callx (g := 26) rfl go_26 rfl (fun wz k1 => own_x k1 (rlines_c wz h (k1.get (e := .fr σ) (by first | exact P0 | exact P1 | exact P2 | exact P3 | exact P4 | exact P5 | exact P6 | exact P7)) hn hbd)) rfl ?_
 rintro ⟨A6, n6, c6, ρ⟩ ⟨gs, hgs, hge⟩
 replace hgs : GsA ρ A6 n6 c6 gs := hgs
 refine TL.said (t := 13) rfl (show _ = Value.slice A6 n6 c6 from rfl) ?_
 have hgs1 := hgs.1.2.1
 have hgs2 := hgs.1.2.2.1
 obtain ⟨g, hg, hgg⟩ : ∃ g, gs[i]? = some g ∧ g.lg = gl := by rw [← hge, List.getElem?_map, Option.map_eq_some_iff] at hgl; exact hgl
 have hii : i < n6 := by have h9 := (List.getElem?_eq_some_iff.1 hg).1; rw [hgs.1.1] at h9; exact h9
 obtain ⟨bg, og, hA3, hat3⟩ := hgs.1.2.2.2.2 (by omega)
 obtain ⟨_, rfl, _, hatg⟩ := hat3 _ g hg
 have hgf : g.frm = (f : Int) := by rw [← hgg] at hfrm; exact hfrm
 refine TL.val (OpV.assign rfl) rfl ?_
 refine TL.nil ?_
 refine TE.next ?_
 refine T.seq ?_
 refine T.region ?_
 refine TL.val (OpV.move rfl) rfl ?_
 refine TL.val (OpV.fieldAddr rfl fo_24_0) rfl ?_
 refine TL.val (OpV.load pl_3 rfl (by first | exact Cel.blk P0 rfl | exact Cel.blk P1 rfl | exact Cel.blk P2 rfl | exact Cel.blk P3 rfl | exact Cel.blk P4 rfl | exact Cel.blk P5 rfl | exact Cel.ownA (hatg 0 _ rfl) | exact Cel.ownA (hatg 1 _ rfl) | exact Cel.ownA (hatx 0 _ rfl))) rfl ?_
 refine TL.call (g := 53) rfl go_53 rfl (fun w1 k1 => rfind_c (k : Int) i gl w1 hgs (by rw [hge]; exact hfj) (by rw [hge]; exact hgl) hyes (by omega) (fun g hg => by have h9 := okG_bd _ 0 (ok_lines hv) g.lg (by rw [← hge]; exact List.mem_map_of_mem hg); rw [hXl] at h9; change (0 ≤ g.frm ∧ g.frm ≤ (n : Int)) ∧ (0 ≤ g.rows ∧ g.rows ≤ (n : Int)) at h9; omega) (fun b o hb => (k1.get (e := .own ρ) (by first | exact P0 | exact P1 | exact P2 | exact P3 | exact P4 | exact P5 | exact P6 | exact P7) b o hb).2)) rfl ?_
 refine TL.val (OpV.assign rfl) rfl ?_
 refine TL.nil ?_
 refine TE.sub (.cons (t := 0) rfl <| .cons (t := 3) rfl <| .cons (t := 6) rfl <| .cons (t := 7) rfl <| .nil) ?_
 refine TE.next ?_
 refine T.seq ?_
 refine T.region ?_
 refine TL.val (OpV.move rfl) rfl ?_
 refine TL.val (OpV.move rfl) rfl ?_
 refine TL.val (OpV.indexAddr (j := i) se_34 rfl hA3 rfl rfl (by omega)) rfl ?_
 refine TL.val (OpV.fieldAddr rfl fo_37_1) rfl ?_
 refine TL.val (OpV.load pl_3 rfl (by first | exact Cel.blk P0 rfl | exact Cel.blk P1 rfl | exact Cel.blk P2 rfl | exact Cel.blk P3 rfl | exact Cel.blk P4 rfl | exact Cel.blk P5 rfl | exact Cel.ownA (hatg 0 _ rfl) | exact Cel.ownA (hatg 1 _ rfl) | exact Cel.ownA (hatx 0 _ rfl))) rfl ?_
 refine TL.said (t := 22) rfl (show _ = Value.int .i64 (f : Int) from congrArg _ hgf) ?_
 refine TL.val (OpV.assign rfl) rfl ?_
 refine TL.nil ?_
 refine TE.next ?_
 refine T.seq ?_
 refine T.region ?_
 refine TL.val (OpV.move rfl) rfl ?_
 refine TL.val (OpV.move rfl) rfl ?_
 refine TL.val (OpV.fieldAddr rfl fo_24_0) rfl ?_
 refine TL.val (OpV.load pl_3 rfl (by first | exact Cel.blk P0 rfl | exact Cel.blk P1 rfl | exact Cel.blk P2 rfl | exact Cel.blk P3 rfl | exact Cel.blk P4 rfl | exact Cel.blk P5 rfl | exact Cel.ownA (hatg 0 _ rfl) | exact Cel.ownA (hatg 1 _ rfl) | exact Cel.ownA (hatx 0 _ rfl))) rfl ?_
 refine TL.val (OpV.add rfl rfl (by first | exact IntWalk.i64_in _ ⟨by omega, by omega⟩ | rfl)) rfl ?_
 refine TL.val (OpV.sliceLH (lo := f) (hi := k + 1) se_22 rfl rfl rfl rfl (by omega) (by omega) (by omega)) rfl ?_
 refine TL.kle (Kle.nilRow 65 2) ?_
 obtain ⟨ti29, hi29, hz29, hs29, hb29⟩ := info_parts inf_65
 refine TL.append rfl rfl Tryd.underlying22 hi29 hz29 hs29 hb29 rfl (by omega) (by first | exact P0 | exact P1 | exact P2 | exact P3 | exact P4 | exact P5) (Src.sl LnA.l_length (by decide) (by first | exact P0 | exact P1 | exact P2 | exact P3 | exact P4 | exact P5 | exact P6 | exact P7) (h.1.slice (lo := f) (hi := k + 1) (by omega) (by omega))) (fun h9 => (h.1.slice (lo := f) (hi := k + 1) (by omega) (by omega)).2.2.2.1 h9) (one_fll _) (by omega) (by omega) rfl ?_
 clear hi29 hz29 hs29 hb29 ti29
 intro A29 c29 hn29
 rw [List.nil_append, ← fll]
 refine TL.said (t := 29) rfl (show _ = Value.slice A29 (k + 1 - f) c29 by rw [Nat.zero_add]) ?_
 rw [Nat.zero_add]
 refine TL.val (OpV.assign rfl) rfl ?_
 refine TL.nil ?_
 refine TE.sub (.cons (t := 3) rfl <| .cons (t := 7) rfl <| .cons (t := 9) rfl <| .nil) ?_
 refine TE.next ?_
 refine T.seq ?_
 refine T.ex (ι := Nat → Option Obj) (R := fun ρ9 => RowOk ρ9 A29 (k + 1 - f) c29 2 (fll ((ls.take (k + 1)).drop f))) (K2 := fun ρ9 => [.own ρ9, .blk b3 (anL k a2) 24, .fr σ]) (fun wz kz => ?_) ?_
 · skip
   obtain ⟨ρ9, h9, k2⟩ := KOk.rowOwn (kz.pick (e := .row 65 2 A29 (k + 1 - f) c29 (fll ((ls.take (k + 1)).drop f))) (by first | exact P0 | exact P1 | exact P2 | exact P3 | exact P4 | exact P5 | exact P6 | exact P7))
   exact ⟨ρ9, h9, Perm.kle (.cons (by first | exact P0 | exact P1 | exact P2 | exact P3 | exact P4 | exact P5 | exact P6 | exact P7) (.cons (by first | exact P0 | exact P1 | exact P2 | exact P3 | exact P4 | exact P5 | exact P6 | exact P7) (.cons (by first | exact P0 | exact P1 | exact P2 | exact P3 | exact P4 | exact P5 | exact P6 | exact P7) .nil))) wz k2⟩
 rintro ρ9 hro
 have hr9 : SlR 2 (fun x cs => cs = LnA.l x) ρ9 A29 (k + 1 - f) c29 ((ls.take (k + 1)).drop f) := SlR.of_row LnA.l_length hro hlr
 obtain ⟨b9, o9, hA9, hat9⟩ := hr9.2.2.2.2 (by omega)
 obtain ⟨_, rfl, _, hatx⟩ := hat9 (k - f) x hlx2
 refine T.region ?_
 refine TL.val (OpV.move rfl) rfl ?_
 refine TL.val (OpV.move rfl) rfl ?_
 refine TL.val (OpV.len Tryd.underlying22 rfl) rfl ?_
 refine TL.val (OpV.sub rfl rfl (by first | exact IntWalk.i64_in _ ⟨by omega, by omega⟩ | rfl)) rfl ?_
 refine TL.val (OpV.indexAddr (j := (k - f)) se_22 rfl hA9 rfl (by omega) (by omega)) rfl ?_
 refine TL.val (OpV.loadA ag_65 rfl (by first | exact Cels.blk P0 rfl | exact Cels.blk P1 rfl | exact Cels.blk P2 rfl | exact Cels.blk P3 rfl | exact Cels.blk P4 rfl | exact Cels.blk P5 rfl | exact Cels.ownA (hatg) rfl | exact Cels.ownA (hatg) rfl | exact Cels.ownA (hatx) rfl)) rfl ?_
 refine TL.alloc zo_65 rfl ?_
 intro b10
 first
   | refine TL.storeAll rfl rfl szz_65 rfl rfl rfl (by first | exact P0 | exact P1 | exact P2 | exact P3 | exact P4 | exact P5) (by rfl) ?_
   | refine TL.store rfl rfl szz_65 rfl rfl rfl (by first | exact P0 | exact P1 | exact P2 | exact P3 | exact P4 | exact P5) (by first | exact Nat.le_of_ble_eq_true rfl | (simp; done) | (simp; omega)) (by simp only [anL, LnA.l, LgA.l, putL, List.take_succ_cons, List.take_zero, List.drop_succ_cons, List.drop_zero, List.cons_append, List.nil_append, List.length_cons, List.length_nil, Nat.reduceAdd]; rfl) ?_
 refine TL.nil ?_
 refine TE.next ?_
 refine T.seq ?_
 refine T.any ([.blk b10 x.l 65]) [] mix rfl rfl ?_
 refine TA.takeP (i := 0) (ls := #[true, false, false, false, false, false, false, false]) rfl rfl rfl rfl rfl (by kernel_rfl) (by kernel_rfl) (by kernel_rfl) (by repeat (first | with_reducible exact PanicOk.body | with_reducible apply PanicOk.next | with_reducible apply PanicOk.block)) (OpV.move rfl) rfl (by kernel_rfl) ?_
 refine TA.takeP (i := 3) (ls := #[true, false, false, true, false, false, false, false]) rfl rfl rfl rfl rfl (by kernel_rfl) (by kernel_rfl) (by kernel_rfl) (by repeat (first | with_reducible exact PanicOk.body | with_reducible apply PanicOk.next | with_reducible apply PanicOk.block)) (OpV.fieldAddr rfl fo_65_0) rfl (by kernel_rfl) ?_
 refine TA.take (i := 4) (ls := #[true, false, false, true, true, false, false, false]) rfl rfl rfl rfl rfl (by kernel_rfl) (by kernel_rfl) (by kernel_rfl) (by kernel_rfl) (by repeat (first | with_reducible exact PanicOk.body | with_reducible apply PanicOk.next | with_reducible apply PanicOk.block)) ((.cons (by first | exact P0 | exact P1 | exact P2 | exact P3 | exact P4 | exact P5 | exact P6 | exact P7) .nil)) (OpV.load pl_35 rfl (by first | exact Cel.blk P0 rfl | exact Cel.blk P1 rfl | exact Cel.blk P2 rfl | exact Cel.blk P3 rfl | exact Cel.blk P4 rfl | exact Cel.blk P5 rfl | exact Cel.ownA (hatg 0 _ rfl) | exact Cel.ownA (hatg 1 _ rfl) | exact Cel.ownA (hatx 0 _ rfl))) rfl (by kernel_rfl) ?_
 refine TA.takeP (i := 5) (ls := #[true, false, false, true, true, true, false, false]) rfl rfl rfl rfl rfl (by kernel_rfl) (by kernel_rfl) (by kernel_rfl) (by repeat (first | with_reducible exact PanicOk.body | with_reducible apply PanicOk.next | with_reducible apply PanicOk.block)) (OpV.len Tryd.underlying35 rfl) rfl (by kernel_rfl) ?_
 refine TA.one (i := 1) (ls := #[true, true, false, true, true, true, false, false]) (by kernel_rfl) rfl (by kernel_rfl) (fun w1 => ?_)
 refine TL.callx (g := 54) rfl go_54 rfl (fun wz k1 => own_x k1 (rall_c (σ := fun b => wz.heap[b]?) (ls := ((ls.take (k + 1)).drop f)) wz ⟨hr9.mono (fun b o hb => (k1.get (e := .own ρ9) (by first | exact P0 | exact P1 | exact P2 | exact P3 | exact P4 | exact P5 | exact P6 | exact P7) b o hb).2), fun l hl => (h.2 l (List.mem_of_mem_take (List.mem_of_mem_drop hl))).mono (k1.get (e := .fr σ) (by first | exact P0 | exact P1 | exact P2 | exact P3 | exact P4 | exact P5 | exact P6 | exact P7))⟩ (fun b o hb => hb) (by omega) (fun y hy => hbd y (by obtain ⟨l, hl, rfl⟩ := List.mem_map.1 hy; exact List.mem_map_of_mem (List.mem_of_mem_take (List.mem_of_mem_drop hl)))))) rfl ?_
 rintro ⟨Aa, na, ca, ρa⟩ ha
 replace ha : CsR ρa Aa na ca (allV (((ls.take (k + 1)).drop f).map LnA.cells)) := ha
 refine TL.said (t := 37) rfl (show _ = Value.slice Aa na ca from rfl) ?_
 have hna : na = sumK (((ls.map LnA.ln).drop f).map Ln.cells) (k - f) + x.n := by rw [← hall]; exact ha.1.symm
 refine TL.nil ?_
 refine TA.cont ((.cons (by first | exact P0 | exact P1 | exact P2 | exact P3 | exact P4 | exact P5 | exact P6 | exact P7) .nil)) ?_
 refine TA.takeP (i := 2) (ls := #[true, true, true, true, true, true, false, false]) rfl rfl rfl rfl rfl (by kernel_rfl) (by kernel_rfl) (by kernel_rfl) (by repeat (first | with_reducible exact PanicOk.body | with_reducible apply PanicOk.next | with_reducible apply PanicOk.block)) (OpV.len Tryd.underlying35 rfl) rfl (by kernel_rfl) ?_
 refine TA.takeP (i := 6) (ls := #[true, true, true, true, true, true, true, false]) rfl rfl rfl rfl rfl (by kernel_rfl) (by kernel_rfl) (by kernel_rfl) (by repeat (first | with_reducible exact PanicOk.body | with_reducible apply PanicOk.next | with_reducible apply PanicOk.block)) (OpV.sub rfl rfl (by first | exact IntWalk.i64_in _ ⟨by omega, by omega⟩ | rfl)) rfl (by kernel_rfl) ?_
 refine TA.takeP (i := 7) (ls := #[true, true, true, true, true, true, true, true]) rfl rfl rfl rfl rfl (by kernel_rfl) (by kernel_rfl) (by kernel_rfl) (by repeat (first | with_reducible exact PanicOk.body | with_reducible apply PanicOk.next | with_reducible apply PanicOk.block)) (OpV.assign rfl) rfl (by kernel_rfl) ?_
 refine TA.done (by kernel_rfl) ?_
 refine TE.sub (.cons (t := 3) rfl <| .cons (t := 7) rfl <| .cons (t := 11) rfl <| .nil) ?_
 refine TE.next ?_
 refine T.seq ?_
 refine T.quiet mix (by kernel_rfl) ?_
 refine TQ.val (OpV.move rfl) rfl ?_
 refine TQ.val (OpV.move rfl) rfl ?_
 refine TQ.val (OpV.fieldAddr rfl fo_24_1) rfl ?_
 refine TQ.val (OpV.load pl_3 rfl (by first | exact Cel.blk P0 rfl | exact Cel.blk P1 rfl | exact Cel.blk P2 rfl | exact Cel.blk P3 rfl | exact Cel.blk P4 rfl | exact Cel.blk P5 rfl | exact Cel.ownA (hatg 0 _ rfl) | exact Cel.ownA (hatg 1 _ rfl) | exact Cel.ownA (hatx 0 _ rfl))) rfl ?_
 refine TQ.val (OpV.add rfl rfl (by first | exact IntWalk.i64_in _ ⟨by omega, by omega⟩ | rfl)) rfl ?_
 refine TQ.val (OpV.assign rfl) rfl ?_
 refine TQ.val (OpV.assign rfl) rfl ?_
 refine TQ.nil ?_
 refine TE.sub (.cons (t := 4) rfl <| .cons (t := 5) rfl <| .nil) ?_
 refine TE.next ?_
 refine T.ret ?_
 refine TE.retN rfl (.cons (ResV.tmp rfl) <| .cons (ResV.tmp rfl) <| .nil) ?_
 exact fun w1 k1 => ⟨by rw [hto]; exact congrArg (fun q => Ending.returned (Value.tuple #[.int .i64 (i : Int), .int .i64 q])) (by omega), k1.bel⟩
set_option maxRecDepth 100000 in
set_option maxHeartbeats 1000000 in
theorem rfrom_c {σ : Nat → Option Obj} {A : Option Addr} {n c : Nat} {gs : List LgA} (cols cell : Int) (line : Nat) (w : World) (h : GsA σ A n c gs) (hf : fineB (gs.map LgA.lg) cols = true) (hn : n ≤ 131072) (hln : line < n) (h0 : 0 ≤ cell ∧ cell ≤ 2199023255552) (hs : ∀ b o, σ b = some o → w.heap[b]? = some o) : Calls Tryd.prog 24 #[.slice A n c, .int .i64 cols, .int .i64 (line : Int), .int .i64 cell] w (Ret (.agg (anL (frV (gs.map LgA.lg) cols (line : Int) cell).1 (frV (gs.map LgA.lg) cols (line : Int) cell).2).toArray) w) := by
 have hn63 := h.1.2.1
 have hc63 := h.1.2.2.1
 have hl1 := h.1.1
 refine calls_T (vs := [.slice A n c, .int .i64 cols, .int .i64 (line : Int), .int .i64 cell]) (L0 := [(0, .slice A n c), (1, .int .i64 cols), (2, .int .i64 (line : Int)), (3, .int .i64 cell)]) Tryd.func24 rfl rfl rfl rfl (KOk.fr1 hs) ?_
 refine T.seq ?_
 refine T.region ?_
 refine TL.alloc zo_24 rfl ?_
 intro b8
 refine TL.nil ?_
 refine TE.next ?_
 refine T.seq ?_
 refine T.region ?_
 refine TL.val (OpV.assign rfl) rfl ?_
 refine TL.nil ?_
 refine TE.next ?_
 refine T.seq ?_
 refine T.seq ?_
 refine T.region ?_
 refine TL.val (OpV.assign rfl) rfl ?_
 refine TL.nil ?_
 refine TE.next ?_
 refine T.block ?_
 refine T.loop (ι := Nat) (fun r => r ≤ line) (fun r => (line - r)) (fun r => [(0, .slice A n c), (1, .int .i64 cols), (2, .int .i64 (line : Int)), (3, .int .i64 cell), (8, .pointer (some ⟨b8, 0, none⟩)), (9, .int .i64 (rwS cols ((gs.map LgA.lg).take r))), (10, .int .i64 (r : Int))]) (fun r => [.blk b8 (anL 0 0) 24, .fr σ]) 0 (Nat.zero_le _) (.cons (t := 0) rfl <| .cons (t := 1) rfl <| .cons (t := 2) rfl <| .cons (t := 3) rfl <| .cons (t := 8) rfl <| .cons (t := 9) rfl <| .cons (t := 10) rfl <| .nil) (Kle.refl) ?_
 rintro r hR
 refine T.seq ?_
 refine T.seq ?_
 refine T.region ?_
 refine TL.val (OpV.move rfl) rfl ?_
 refine TL.val (OpV.move rfl) rfl ?_
 refine TL.val (OpV.lss rfl rfl) rfl ?_
 refine TL.nil ?_
 refine TE.next ?_
 refine T.cond rfl ?_ ?_
 ·
  intro ht18
  have hrl : r < line := by have h9 := of_decide_eq_true ht18; omega
  obtain ⟨g, hg⟩ := get_of_lt h.1.1 (show r < n by omega)
  obtain ⟨b1, o1, hA, hat⟩ := h.1.2.2.2.2 (by omega)
  obtain ⟨_, rfl, _, hatg⟩ := hat _ g hg
  have hcg := h.2 g (List.mem_of_getElem? hg)
  have hgG : (gs.map LgA.lg)[r]? = some g.lg := by simp [hg]
  have hvg : vW g.cells cols = true := fine_at hf hgG
  have hgl := hcg.1
  have hg30 := (vW_parts hvg).2.1
  have hcb := (vW_parts hvg).1
  have hre := rows_eq hvg
  have hrb := rowsV_bd (xs := g.cells) (cols := cols)
  have hbs := rwS_bd (cols := cols) ((gs.map LgA.lg).take r)
  rw [List.length_take, List.length_map, h.1.1] at hbs
  refine T.skip ?_
  refine TE.next ?_
  refine T.seq ?_
  refine T.block ?_
  refine T.region ?_
  refine TL.val (OpV.move rfl) rfl ?_
  refine TL.val (OpV.move rfl) rfl ?_
  refine TL.val (OpV.move rfl) rfl ?_
  refine TL.val (OpV.indexAddr (j := r) se_34 rfl hA rfl rfl (by omega)) rfl ?_
  refine TL.val (OpV.fieldAddr rfl fo_37_0) rfl ?_
  refine TL.val (OpV.load pl_35 rfl (by first | exact Cel.blk P0 rfl | exact Cel.blk P1 rfl | exact Cel.blk P2 rfl | exact Cel.blk P3 rfl | exact Cel.blk P4 rfl | exact Cel.frA (hatg _ _ rfl))) rfl ?_
  refine TL.val (OpV.move rfl) rfl ?_
  refine TL.callx (g := 57) rfl go_57 rfl (fun wz k1 => own_x k1 (places_c wz cols hcg (k1.get (e := .fr σ) (by first | exact P0 | exact P1 | exact P2 | exact P3 | exact P4 | exact P5 | exact P6 | exact P7)) (by omega) (by omega))) rfl ?_
  rintro ⟨A1, c1, A2, c2, m, ρ⟩ hpl
  refine TL.val (OpV.field rfl (fld_99_2 _ _ _ _ _ _ _ _)) rfl ?_
  refine TL.said (t := 29) rfl (show _ = Value.int .i64 (rowsV g.cells cols) from congrArg _ hre.symm) ?_
  refine TL.val (OpV.add rfl rfl (by first | exact IntWalk.i64_in _ ⟨by omega, by omega⟩ | rfl)) rfl ?_
  refine TL.val (OpV.assign rfl) rfl ?_
  refine TL.nil ?_
  refine TE.out ?_
  refine TE.sub (.cons (t := 0) rfl <| .cons (t := 1) rfl <| .cons (t := 2) rfl <| .cons (t := 3) rfl <| .cons (t := 8) rfl <| .cons (t := 9) rfl <| .cons (t := 10) rfl <| .nil) ?_
  refine TE.next ?_
  refine T.region ?_
  refine TL.val (OpV.move rfl) rfl ?_
  refine TL.val (OpV.add rfl rfl (by first | exact IntWalk.i64_in _ ⟨by omega, by omega⟩ | rfl)) rfl ?_
  refine TL.val (OpV.assign rfl) rfl ?_
  refine TL.nil ?_
  exact TE.meet (r + 1) ⟨by omega, by omega⟩ (.cons (t := 0) (by first | rfl | (simp [lk]; done)) <| .cons (t := 1) (by first | rfl | (simp [lk]; done)) <| .cons (t := 2) (by first | rfl | (simp [lk]; done)) <| .cons (t := 3) (by first | rfl | (simp [lk]; done)) <| .cons (t := 8) (by first | rfl | (simp [lk]; done)) <| .cons (t := 9) (by rw [rwS_snoc hgG]; rfl) <| .cons (t := 10) (by first | rfl | (simp [lk]; done)) <| .nil) (Perm.kle (.cons (by first | exact P0 | exact P1 | exact P2 | exact P3 | exact P4 | exact P5 | exact P6 | exact P7) (.cons (by first | exact P0 | exact P1 | exact P2 | exact P3 | exact P4 | exact P5 | exact P6 | exact P7) .nil)))
 ·
  intro ht18
  have hrl : r = line := by have h9 := of_decide_eq_false ht18; omega
  subst hrl
  obtain ⟨g, hg⟩ := get_of_lt h.1.1 (show r < n by omega)
  obtain ⟨b1, o1, hA, hat⟩ := h.1.2.2.2.2 (by omega)
  obtain ⟨_, rfl, _, hatg⟩ := hat _ g hg
  have hcg := h.2 g (List.mem_of_getElem? hg)
  have hgG : (gs.map LgA.lg)[r]? = some g.lg := by simp [hg]
  have hvg : vW g.cells cols = true := fine_at hf hgG
  have hgl := hcg.1
  have hg30 := (vW_parts hvg).2.1
  have hcb := (vW_parts hvg).1
  have hre := rows_eq hvg
  have hrb := rowsV_bd (xs := g.cells) (cols := cols)
  have hbs := rwS_bd (cols := cols) ((gs.map LgA.lg).take r)
  rw [List.length_take, List.length_map, h.1.1] at hbs
  refine T.exit ?_
  refine TE.pass_exit ?_
  refine TE.pass_exit ?_
  refine TE.here ?_
  refine TE.next ?_
  refine T.seq ?_
  refine T.region ?_
  refine TL.val (OpV.move rfl) rfl ?_
  refine TL.val (OpV.move rfl) rfl ?_
  refine TL.val (OpV.indexAddr (j := r) se_34 rfl hA rfl rfl (by omega)) rfl ?_
  refine TL.val (OpV.fieldAddr rfl fo_37_0) rfl ?_
  refine TL.val (OpV.load pl_35 rfl (by first | exact Cel.blk P0 rfl | exact Cel.blk P1 rfl | exact Cel.blk P2 rfl | exact Cel.blk P3 rfl | exact Cel.blk P4 rfl | exact Cel.frA (hatg _ _ rfl))) rfl ?_
  refine TL.val (OpV.assign rfl) rfl ?_
  refine TL.nil ?_
  refine TE.sub (.cons (t := 1) rfl <| .cons (t := 3) rfl <| .cons (t := 8) rfl <| .cons (t := 9) rfl <| .cons (t := 11) rfl <| .nil) ?_
  refine TE.next ?_
  refine T.seq ?_
  refine T.seq ?_
  refine T.region ?_
  refine TL.val (OpV.move rfl) rfl ?_
  refine TL.val (OpV.move rfl) rfl ?_
  refine TL.val (OpV.len Tryd.underlying35 rfl) rfl ?_
  refine TL.val (OpV.lss rfl rfl) rfl ?_
  refine TL.nil ?_
  refine TE.next ?_
  refine T.cond rfl ?_ ?_
  ·
   intro ht39
   have hcl : cell < (g.cells.length : Int) := by have h9 := of_decide_eq_true ht39; rw [hgl]; exact h9
   obtain ⟨q, rfl⟩ : ∃ q : Nat, cell = (q : Int) := ⟨cell.toNat, by omega⟩
   have hfr : frV (gs.map LgA.lg) cols (r : Int) (q : Int) = (rwS cols ((gs.map LgA.lg).take r) + (rplV cols g.cells q).1, (rplV cols g.cells q).2) := by rw [frV]; simp only [Int.toNat_natCast, hgG]; have h9 := rfrom_in (start := rwS cols ((gs.map LgA.lg).take r)) hvg (Int.natCast_nonneg q) hcl; rw [Int.toNat_natCast] at h9; exact h9
   have hpi := plV_in hvg (q := q) (by omega)
   rw [plV_eq hvg (by omega)] at hpi
   refine T.seq ?_
   refine T.region ?_
   refine TL.val (OpV.move rfl) rfl ?_
   refine TL.val (OpV.move rfl) rfl ?_
   refine TL.val (OpV.move rfl) rfl ?_
   refine TL.call (g := 31) rfl go_31 rfl (fun w1 k1 => rplace_c w1 cols q hcg (k1.get (e := .fr σ) (by first | exact P0 | exact P1 | exact P2 | exact P3 | exact P4 | exact P5 | exact P6 | exact P7)) (by omega) hcb) rfl ?_
   refine TL.alloc zo_24 rfl ?_
   intro b12
   first
     | refine TL.storeAll rfl rfl szz_24 rfl rfl rfl (by first | exact P0 | exact P1 | exact P2 | exact P3 | exact P4) (by rfl) ?_
     | refine TL.store rfl rfl szz_24 rfl rfl rfl (by first | exact P0 | exact P1 | exact P2 | exact P3 | exact P4) (by first | exact Nat.le_of_ble_eq_true rfl | (simp; done) | (simp; omega)) (by simp only [anL, LgA.l, putL, List.take_succ_cons, List.take_zero, List.drop_succ_cons, List.drop_zero, List.cons_append, List.nil_append, List.length_cons, List.length_nil, Nat.reduceAdd]; rfl) ?_
   refine TL.nil ?_
   refine TE.sub (.cons (t := 8) rfl <| .cons (t := 9) rfl <| .cons (t := 12) rfl <| .nil) ?_
   refine TE.next ?_
   refine T.seq ?_
   refine T.region ?_
   refine TL.val (OpV.move rfl) rfl ?_
   refine TL.val (OpV.fieldAddr rfl fo_24_0) rfl ?_
   refine TL.val (OpV.load pl_3 rfl (by first | exact Cel.blk P0 rfl | exact Cel.blk P1 rfl | exact Cel.blk P2 rfl | exact Cel.blk P3 rfl | exact Cel.blk P4 rfl | exact Cel.frA (hatg _ _ rfl))) rfl ?_
   refine TL.val (OpV.add rfl rfl (by first | exact IntWalk.i64_in _ ⟨by omega, by omega⟩ | rfl)) rfl ?_
   refine TL.val (OpV.fieldAddr rfl fo_24_1) rfl ?_
   refine TL.val (OpV.load pl_3 rfl (by first | exact Cel.blk P0 rfl | exact Cel.blk P1 rfl | exact Cel.blk P2 rfl | exact Cel.blk P3 rfl | exact Cel.blk P4 rfl | exact Cel.frA (hatg _ _ rfl))) rfl ?_
   refine TL.val (OpV.build (qs := #[(0, _), (1, _)]) (fun _ f => by simp only [List.map_toArray, List.map_cons, List.map_nil]; rw [f.ev (x := .tmp 47) rfl, f.ev (x := .tmp 49) rfl]) (bld_24_0_1 _ _ )) rfl ?_
   first
     | refine TL.storeAll rfl rfl szz_24 rfl rfl rfl (by first | exact P0 | exact P1 | exact P2 | exact P3 | exact P4) (by rfl) ?_
     | refine TL.store rfl rfl szz_24 rfl rfl rfl (by first | exact P0 | exact P1 | exact P2 | exact P3 | exact P4) (by first | exact Nat.le_of_ble_eq_true rfl | (simp; done) | (simp; omega)) (by simp only [anL, LgA.l, putL, List.take_succ_cons, List.take_zero, List.drop_succ_cons, List.drop_zero, List.cons_append, List.nil_append, List.length_cons, List.length_nil, Nat.reduceAdd]; rfl) ?_
   refine TL.nil ?_
   refine TE.sub (.cons (t := 8) rfl <| .nil) ?_
   refine TE.next ?_
   refine T.ret ?_
   refine TE.pass_ret ?_
   refine TE.ret1 rfl (ResV.cellA rfl ag_24 (by first | exact Cels.blk P0 rfl | exact Cels.blk P1 rfl | exact Cels.blk P2 rfl | exact Cels.blk P3 rfl | exact Cels.blk P4 rfl | exact Cels.frA hatg rfl)) ?_
   exact fun w1 k1 => ⟨by rw [hfr] <;> rfl, k1.bel⟩
  ·
   intro ht39
   have hcl : (g.cells.length : Int) ≤ cell := by have h9 := of_decide_eq_false ht39; rw [hgl]; omega
   have hfr : frV (gs.map LgA.lg) cols (r : Int) cell = (rwS cols ((gs.map LgA.lg).take r) + (rplV cols g.cells g.cells.length).1, (rplV cols g.cells g.cells.length).2 + min (cell - (g.cells.length : Int)) (cols - 1 - (rplV cols g.cells g.cells.length).2)) := by rw [frV]; simp only [Int.toNat_natCast, hgG]; exact rfrom_out hvg hcl
   have hpi := plV_in hvg (q := g.cells.length) (Nat.le_refl _)
   rw [plV_eq hvg (Nat.le_refl _)] at hpi
   refine T.skip ?_
   refine TE.next ?_
   refine T.seq ?_
   refine T.region ?_
   refine TL.val (OpV.move rfl) rfl ?_
   refine TL.val (OpV.move rfl) rfl ?_
   refine TL.val (OpV.move rfl) rfl ?_
   refine TL.val (OpV.len Tryd.underlying35 rfl) rfl ?_
   refine TL.call (g := 31) rfl go_31 rfl (fun w1 k1 => rplace_c w1 cols g.n hcg (k1.get (e := .fr σ) (by first | exact P0 | exact P1 | exact P2 | exact P3 | exact P4 | exact P5 | exact P6 | exact P7)) (by omega) hcb) rfl ?_
   refine TL.said (t := 55) rfl (show _ = Value.agg (anL (rplV cols g.cells g.cells.length).1 (rplV cols g.cells g.cells.length).2).toArray by rw [hgl]) ?_
   refine TL.alloc zo_24 rfl ?_
   intro b13
   first
     | refine TL.storeAll rfl rfl szz_24 rfl rfl rfl (by first | exact P0 | exact P1 | exact P2 | exact P3 | exact P4) (by rfl) ?_
     | refine TL.store rfl rfl szz_24 rfl rfl rfl (by first | exact P0 | exact P1 | exact P2 | exact P3 | exact P4) (by first | exact Nat.le_of_ble_eq_true rfl | (simp; done) | (simp; omega)) (by simp only [anL, LgA.l, putL, List.take_succ_cons, List.take_zero, List.drop_succ_cons, List.drop_zero, List.cons_append, List.nil_append, List.length_cons, List.length_nil, Nat.reduceAdd]; rfl) ?_
   refine TL.nil ?_
   refine TE.sub (.cons (t := 1) rfl <| .cons (t := 3) rfl <| .cons (t := 8) rfl <| .cons (t := 9) rfl <| .cons (t := 11) rfl <| .cons (t := 13) rfl <| .nil) ?_
   refine TE.next ?_
   refine T.seq ?_
   refine T.region ?_
   refine TL.val (OpV.fieldAddr rfl fo_24_1) rfl ?_
   refine TL.val (OpV.load pl_3 rfl (by first | exact Cel.blk P0 rfl | exact Cel.blk P1 rfl | exact Cel.blk P2 rfl | exact Cel.blk P3 rfl | exact Cel.blk P4 rfl | exact Cel.frA (hatg _ _ rfl))) rfl ?_
   refine TL.val (OpV.assign rfl) rfl ?_
   refine TL.nil ?_
   refine TE.next ?_
   refine T.seq ?_
   refine T.seq ?_
   refine T.region ?_
   refine TL.val (OpV.move rfl) rfl ?_
   refine TL.val (OpV.len Tryd.underlying35 rfl) rfl ?_
   refine TL.val (OpV.assign rfl) rfl ?_
   refine TL.nil ?_
   refine TE.next ?_
   refine T.block ?_
   refine T.loop (ι := Nat) (fun j => (j : Int) ≤ max 0 (cell - (g.cells.length : Int)) ∧ (j : Int) ≤ cols - 1 - (rplV cols g.cells g.cells.length).2) (fun j => ((cell - (g.cells.length : Int)).toNat - j)) (fun j => [(1, .int .i64 cols), (3, .int .i64 cell), (8, .pointer (some ⟨b8, 0, none⟩)), (9, .int .i64 (rwS cols ((gs.map LgA.lg).take r))), (13, .pointer (some ⟨b13, 0, none⟩)), (14, .int .i64 ((rplV cols g.cells g.cells.length).2 + (j : Int))), (15, .int .i64 ((g.n : Int) + (j : Int)))]) (fun j => [.blk b13 (anL (rplV cols g.cells g.cells.length).1 (rplV cols g.cells g.cells.length).2) 24, .blk b8 (anL 0 0) 24]) 0 ⟨by omega, by omega⟩ (.cons (t := 1) rfl <| .cons (t := 3) rfl <| .cons (t := 8) rfl <| .cons (t := 9) rfl <| .cons (t := 13) rfl <| .cons (t := 14) (by rw [Int.natCast_zero, Int.add_zero]; rfl) <| .cons (t := 15) (by rw [Int.natCast_zero, Int.add_zero]; rfl) <| .nil) (Perm.kle (.cons (by first | exact P0 | exact P1 | exact P2 | exact P3 | exact P4 | exact P5 | exact P6 | exact P7) (.cons (by first | exact P0 | exact P1 | exact P2 | exact P3 | exact P4 | exact P5 | exact P6 | exact P7) .nil))) ?_
   rintro j hR1
   refine T.seq ?_
   refine T.seq ?_
   refine T.region ?_
   refine TL.val (OpV.move rfl) rfl ?_
   refine TL.val (OpV.move rfl) rfl ?_
   refine TL.val (OpV.lss rfl rfl) rfl ?_
   refine TL.val (OpV.move rfl) rfl ?_
   refine TL.part (t := 63) rfl ?_ ?_
   ·
    intro hg63
    obtain ⟨p1, p2⟩ := hR1
    have hci := of_decide_eq_true hg63
    refine TL.open rfl rfl ?_
    refine TL.val (OpV.move rfl) rfl ?_
    refine TL.open rfl rfl ?_
    refine TL.val (OpV.move rfl) rfl ?_
    refine TL.open rfl rfl ?_
    refine TL.val (OpV.sub rfl rfl (by first | exact IntWalk.i64_in _ ⟨by omega, by omega⟩ | rfl)) rfl ?_
    refine TL.open rfl rfl ?_
    refine TL.val (OpV.lss rfl rfl) rfl ?_
    refine TL.val ((by first | exact OpV.pick_t rfl rfl | exact OpV.pick_f rfl rfl)) rfl ?_
    refine TL.nil ?_
    refine TE.sub (.cons (t := 1) rfl <| .cons (t := 3) rfl <| .cons (t := 8) rfl <| .cons (t := 9) rfl <| .cons (t := 13) rfl <| .cons (t := 14) rfl <| .cons (t := 15) rfl <| .cons (t := 68) rfl <| .nil) ?_
    refine TE.next ?_
    refine T.cond rfl ?_ ?_
    ·
     intro ht68
     have hcc := of_decide_eq_true ht68
     refine T.skip ?_
     refine TE.next ?_
     refine T.seq ?_
     refine T.block ?_
     refine T.region ?_
     refine TL.val (OpV.move rfl) rfl ?_
     refine TL.val (OpV.add rfl rfl (by first | exact IntWalk.i64_in _ ⟨by omega, by omega⟩ | rfl)) rfl ?_
     refine TL.val (OpV.assign rfl) rfl ?_
     refine TL.nil ?_
     refine TE.out ?_
     refine TE.next ?_
     refine T.region ?_
     refine TL.val (OpV.move rfl) rfl ?_
     refine TL.val (OpV.add rfl rfl (by first | exact IntWalk.i64_in _ ⟨by omega, by omega⟩ | rfl)) rfl ?_
     refine TL.val (OpV.assign rfl) rfl ?_
     refine TL.nil ?_
     exact TE.meet (j + 1) ⟨by rw [hgl] at *; omega, by rw [hgl] at *; omega⟩ (.cons (t := 1) (by first | rfl | (simp [lk]; done)) <| .cons (t := 3) (by first | rfl | (simp [lk]; done)) <| .cons (t := 8) (by first | rfl | (simp [lk]; done)) <| .cons (t := 9) (by first | rfl | (simp [lk]; done)) <| .cons (t := 13) (by first | rfl | (simp [lk]; done)) <| .cons (t := 14) (congrArg (fun q => some (Value.int .i64 q)) (by omega)) <| .cons (t := 15) (congrArg (fun q => some (Value.int .i64 q)) (by omega)) <| .nil) (Perm.kle (.cons (by first | exact P0 | exact P1 | exact P2 | exact P3 | exact P4 | exact P5 | exact P6 | exact P7) (.cons (by first | exact P0 | exact P1 | exact P2 | exact P3 | exact P4 | exact P5 | exact P6 | exact P7) .nil)))
    ·
     intro ht68
     have hcc := of_decide_eq_false ht68
     have hcol : (rplV cols g.cells g.cells.length).2 + (j : Int) = (rplV cols g.cells g.cells.length).2 + min (cell - (g.cells.length : Int)) (cols - 1 - (rplV cols g.cells g.cells.length).2) := by rw [hgl] at *; omega
     refine T.exit ?_
     refine TE.pass_exit ?_
     refine TE.pass_exit ?_
     refine TE.here ?_
     refine TE.next ?_
     refine T.seq ?_
     refine T.region ?_
     refine TL.val (OpV.move rfl) rfl ?_
     refine TL.val (OpV.fieldAddr rfl fo_24_0) rfl ?_
     refine TL.val (OpV.load pl_3 rfl (by first | exact Cel.blk P0 rfl | exact Cel.blk P1 rfl | exact Cel.blk P2 rfl | exact Cel.blk P3 rfl | exact Cel.blk P4 rfl | exact Cel.frA (hatg _ _ rfl))) rfl ?_
     refine TL.val (OpV.add rfl rfl (by first | exact IntWalk.i64_in _ ⟨by omega, by omega⟩ | rfl)) rfl ?_
     refine TL.val (OpV.move rfl) rfl ?_
     refine TL.val (OpV.build (qs := #[(0, _), (1, _)]) (fun _ f => by simp only [List.map_toArray, List.map_cons, List.map_nil]; rw [f.ev (x := .tmp 76) rfl, f.ev (x := .tmp 77) rfl]) (bld_24_0_1 _ _ )) rfl ?_
     first
       | refine TL.storeAll rfl rfl szz_24 rfl rfl rfl (by first | exact P0 | exact P1 | exact P2 | exact P3 | exact P4) (by rfl) ?_
       | refine TL.store rfl rfl szz_24 rfl rfl rfl (by first | exact P0 | exact P1 | exact P2 | exact P3 | exact P4) (by first | exact Nat.le_of_ble_eq_true rfl | (simp; done) | (simp; omega)) (by simp only [anL, LgA.l, putL, List.take_succ_cons, List.take_zero, List.drop_succ_cons, List.drop_zero, List.cons_append, List.nil_append, List.length_cons, List.length_nil, Nat.reduceAdd]; rfl) ?_
     refine TL.nil ?_
     refine TE.sub (.cons (t := 8) rfl <| .nil) ?_
     refine TE.next ?_
     refine T.ret ?_
     refine TE.ret1 rfl (ResV.cellA rfl ag_24 (by first | exact Cels.blk P0 rfl | exact Cels.blk P1 rfl | exact Cels.blk P2 rfl | exact Cels.blk P3 rfl | exact Cels.blk P4 rfl | exact Cels.frA hatg rfl)) ?_
     exact fun w1 k1 => ⟨by rw [hfr, ← hcol] <;> rfl, k1.bel⟩
   ·
    intro hg63
    obtain ⟨p1, p2⟩ := hR1
    have hci := of_decide_eq_false hg63
    have hcol : (rplV cols g.cells g.cells.length).2 + (j : Int) = (rplV cols g.cells g.cells.length).2 + min (cell - (g.cells.length : Int)) (cols - 1 - (rplV cols g.cells g.cells.length).2) := by rw [hgl] at *; omega
    refine TL.shut rfl rfl ?_
    refine TL.shut rfl rfl ?_
    refine TL.shut rfl rfl ?_
    refine TL.shut rfl rfl ?_
    refine TL.val ((by first | exact OpV.pick_t rfl rfl | exact OpV.pick_f rfl rfl)) rfl ?_
    refine TL.nil ?_
    refine TE.sub (.cons (t := 1) rfl <| .cons (t := 3) rfl <| .cons (t := 8) rfl <| .cons (t := 9) rfl <| .cons (t := 13) rfl <| .cons (t := 14) rfl <| .cons (t := 15) rfl <| .cons (t := 68) rfl <| .nil) ?_
    refine TE.next ?_
    refine T.no rfl ?_
    refine T.exit ?_
    refine TE.pass_exit ?_
    refine TE.pass_exit ?_
    refine TE.here ?_
    refine TE.next ?_
    refine T.seq ?_
    refine T.region ?_
    refine TL.val (OpV.move rfl) rfl ?_
    refine TL.val (OpV.fieldAddr rfl fo_24_0) rfl ?_
    refine TL.val (OpV.load pl_3 rfl (by first | exact Cel.blk P0 rfl | exact Cel.blk P1 rfl | exact Cel.blk P2 rfl | exact Cel.blk P3 rfl | exact Cel.blk P4 rfl | exact Cel.frA (hatg _ _ rfl))) rfl ?_
    refine TL.val (OpV.add rfl rfl (by first | exact IntWalk.i64_in _ ⟨by omega, by omega⟩ | rfl)) rfl ?_
    refine TL.val (OpV.move rfl) rfl ?_
    refine TL.val (OpV.build (qs := #[(0, _), (1, _)]) (fun _ f => by simp only [List.map_toArray, List.map_cons, List.map_nil]; rw [f.ev (x := .tmp 76) rfl, f.ev (x := .tmp 77) rfl]) (bld_24_0_1 _ _ )) rfl ?_
    first
      | refine TL.storeAll rfl rfl szz_24 rfl rfl rfl (by first | exact P0 | exact P1 | exact P2 | exact P3 | exact P4) (by rfl) ?_
      | refine TL.store rfl rfl szz_24 rfl rfl rfl (by first | exact P0 | exact P1 | exact P2 | exact P3 | exact P4) (by first | exact Nat.le_of_ble_eq_true rfl | (simp; done) | (simp; omega)) (by simp only [anL, LgA.l, putL, List.take_succ_cons, List.take_zero, List.drop_succ_cons, List.drop_zero, List.cons_append, List.nil_append, List.length_cons, List.length_nil, Nat.reduceAdd]; rfl) ?_
    refine TL.nil ?_
    refine TE.sub (.cons (t := 8) rfl <| .nil) ?_
    refine TE.next ?_
    refine T.ret ?_
    refine TE.ret1 rfl (ResV.cellA rfl ag_24 (by first | exact Cels.blk P0 rfl | exact Cels.blk P1 rfl | exact Cels.blk P2 rfl | exact Cels.blk P3 rfl | exact Cels.blk P4 rfl | exact Cels.frA hatg rfl)) ?_
    exact fun w1 k1 => ⟨by rw [hfr, ← hcol] <;> rfl, k1.bel⟩
end Go.Proofs.YtdmpodpdpncobaaDoor
