/-
  The walks of places. Condition: the package-level tables hold what they were laid with.
-/
import Derived.Test.YtdmpodpdpncobaaDoorWe
namespace Go.Proofs.YtdmpodpdpncobaaDoor
open Go.RowKit
set_option linter.unusedSimpArgs false
set_option linter.unusedVariables false

def anL (a b : Int) : List Value := [.int .i64 a, .int .i64 b]
theorem bld_24 (w : World) : (Instr.build 24 #[]).run Tryd.prog w = .ok (.agg (anL 0 0).toArray) w := by kernel_rfl
theorem bld_24_0_1 (a b : Int) (w : World) : (Instr.build 24 #[(0, .int .i64 a), (1, .int .i64 b)]).run Tryd.prog w = .ok (.agg (anL a b).toArray) w := by kernel_rfl
theorem ret_pl {a b : Int} {s : Int × Int} {e f : Int} (h : (a, b) = s) (h' : e = f) : Ending.returned (.tuple #[.agg (anL a b).toArray, .int .i64 e]) = .returned (.tuple #[.agg (anL s.1 s.2).toArray, .int .i64 f]) := by subst h h'; rfl
set_option maxRecDepth 100000 in
set_option maxHeartbeats 1000000 in
theorem place_c {σ : Nat → Option Obj} {A : Option Addr} {n c : Nat} {xs : List Cl} (w : World) (cols p : Int) (L : LaidW w) (h : CsR σ A n c xs) (hs : ∀ b o, σ b = some o → w.heap[b]? = some o) : Calls Tryd.prog 87 #[.slice A n c, .int .i64 cols, .int .i64 p] w (Ret (.tuple #[.agg (anL (placeV xs cols p).1 (placeV xs cols p).2).toArray, .int .i64 (placeE xs cols p)]) w) := by
 have hn63 := h.2.1
 have hc63 := h.2.2.1
 have hl1 := h.1
 refine calls_T (vs := [.slice A n c, .int .i64 cols, .int .i64 p]) (L0 := [(0, .slice A n c), (1, .int .i64 cols), (2, .int .i64 p)]) Tryd.func87 rfl rfl rfl rfl (KOk.fr1 hs) ?_
 refine T.seq ?_
 refine T.region ?_
 refine TL.alloc zo_24 rfl ?_
 intro b6
 refine TL.val (OpV.assign rfl) rfl ?_
 refine TL.nil ?_
 refine TE.next ?_
 refine T.seq ?_
 refine T.block ?_
 refine T.seq ?_
 refine T.region ?_
 refine TL.val (OpV.move rfl) rfl ?_
 refine TL.val (OpV.move rfl) rfl ?_
 refine TL.call (g := 65) rfl go_65 rfl (fun w1 k1 => wvalid_c w1 cols (L.below k1.bel) h (k1.get (e := .fr σ) (by first | exact P0 | exact P1 | exact P2 | exact P3))) rfl ?_
 refine TL.val (OpV.not rfl) rfl ?_
 refine TL.val (OpV.assign rfl) rfl ?_
 refine TL.nil ?_
 refine TE.next ?_
 refine T.cond rfl ?_ ?_
 ·
  intro ht11
  have hv9 : vW xs cols = false := by simpa using ht11
  refine T.seq ?_
  refine T.region ?_
  refine TL.val (OpV.build (qs := #[]) (fun _ _ => by simp) (bld_24)) rfl ?_
  first
    | refine TL.storeAll rfl rfl szz_24 rfl rfl rfl (by first | exact P0 | exact P1 | exact P2 | exact P3 | exact P4) (by rfl) ?_
    | refine TL.store rfl rfl szz_24 rfl rfl rfl (by first | exact P0 | exact P1 | exact P2 | exact P3 | exact P4) (by first | exact Nat.le_of_ble_eq_true rfl | (simp; done) | (simp; omega)) (by simp only [wkL, anL, putL, List.take_succ_cons, List.take_zero, List.drop_succ_cons, List.drop_zero, List.cons_append, List.nil_append, List.length_cons, List.length_nil, Nat.reduceAdd]; rfl) ?_
  refine TL.val (OpV.assign rfl) rfl ?_
  refine TL.nil ?_
  refine TE.sub (.cons (t := 6) rfl <| .cons (t := 7) rfl <| .nil) ?_
  refine TE.next ?_
  refine T.ret ?_
  refine TE.out_ret ?_
  refine TE.pass_ret ?_
  refine TE.retN rfl (.cons (ResV.cellA rfl ag_24 (by first | exact Cels.blk P0 rfl | exact Cels.blk P1 rfl | exact Cels.blk P2 rfl | exact Cels.blk P3 rfl | exact Cels.blk P4 rfl | exact Cels.frA hatx rfl)) <| .cons (ResV.tmp rfl) <| .nil) ?_
  exact fun w1 k1 => ⟨ret_pl (by rw [placeV, hv9]; rfl) (by rw [placeE, hv9]; rfl), k1.bel⟩
 ·
  intro ht11
  have hv9 : vW xs cols = true := by simpa using ht11
  have hv := vW_parts hv9
  refine T.seq ?_
  refine T.region ?_
  refine TL.val (OpV.move rfl) rfl ?_
  refine TL.val (OpV.lss rfl rfl) rfl ?_
  refine TL.val (OpV.move rfl) rfl ?_
  refine TL.part (t := 20) rfl ?_ ?_
  ·
   intro hg20
   have hp9 : inI xs p = false := by have h9 := of_decide_eq_true hg20; simp [inI]; omega
   refine TL.shut rfl rfl ?_
   refine TL.shut rfl rfl ?_
   refine TL.shut rfl rfl ?_
   refine TL.shut rfl rfl ?_
   refine TL.val ((by first | exact OpV.pick_t rfl rfl | exact OpV.pick_f rfl rfl)) rfl ?_
   refine TL.val (OpV.assign rfl) rfl ?_
   refine TL.nil ?_
   refine TE.sub (.cons (t := 0) rfl <| .cons (t := 1) rfl <| .cons (t := 2) rfl <| .cons (t := 6) rfl <| .cons (t := 17) rfl <| .nil) ?_
   refine TE.next ?_
   refine T.yes rfl ?_
   refine T.seq ?_
   refine T.region ?_
   refine TL.val (OpV.build (qs := #[]) (fun _ _ => by simp) (bld_24)) rfl ?_
   first
     | refine TL.storeAll rfl rfl szz_24 rfl rfl rfl (by first | exact P0 | exact P1 | exact P2 | exact P3 | exact P4) (by rfl) ?_
     | refine TL.store rfl rfl szz_24 rfl rfl rfl (by first | exact P0 | exact P1 | exact P2 | exact P3 | exact P4) (by first | exact Nat.le_of_ble_eq_true rfl | (simp; done) | (simp; omega)) (by simp only [wkL, anL, putL, List.take_succ_cons, List.take_zero, List.drop_succ_cons, List.drop_zero, List.cons_append, List.nil_append, List.length_cons, List.length_nil, Nat.reduceAdd]; rfl) ?_
   refine TL.val (OpV.assign rfl) rfl ?_
   refine TL.nil ?_
   refine TE.next ?_
   refine T.ret ?_
   refine TE.out_ret ?_
   refine TE.pass_ret ?_
   refine TE.retN rfl (.cons (ResV.cellA rfl ag_24 (by first | exact Cels.blk P0 rfl | exact Cels.blk P1 rfl | exact Cels.blk P2 rfl | exact Cels.blk P3 rfl | exact Cels.blk P4 rfl | exact Cels.frA hatx rfl)) <| .cons (ResV.tmp rfl) <| .nil) ?_
   exact fun w1 k1 => ⟨ret_pl (by rw [placeV, hv9, hp9]; rfl) (by rw [placeE, hv9, hp9]; rfl), k1.bel⟩
  ·
   intro hg20
   refine TL.open rfl rfl ?_
   refine TL.val (OpV.move rfl) rfl ?_
   refine TL.open rfl rfl ?_
   refine TL.val (OpV.move rfl) rfl ?_
   refine TL.open rfl rfl ?_
   refine TL.val (OpV.len Tryd.underlying35 rfl) rfl ?_
   refine TL.open rfl rfl ?_
   refine TL.val (OpV.gtr rfl rfl) rfl ?_
   refine TL.val ((by first | exact OpV.pick_t rfl rfl | exact OpV.pick_f rfl rfl)) rfl ?_
   refine TL.val (OpV.assign rfl) rfl ?_
   refine TL.nil ?_
   refine TE.sub (.cons (t := 0) rfl <| .cons (t := 1) rfl <| .cons (t := 2) rfl <| .cons (t := 6) rfl <| .cons (t := 17) rfl <| .nil) ?_
   refine TE.next ?_
   refine T.cond rfl ?_ ?_
   ·
    intro ht17
    have hp9 : inI xs p = false := by have h9 := of_decide_eq_true ht17; simp [inI]; omega
    refine T.seq ?_
    refine T.region ?_
    refine TL.val (OpV.build (qs := #[]) (fun _ _ => by simp) (bld_24)) rfl ?_
    first
      | refine TL.storeAll rfl rfl szz_24 rfl rfl rfl (by first | exact P0 | exact P1 | exact P2 | exact P3 | exact P4) (by rfl) ?_
      | refine TL.store rfl rfl szz_24 rfl rfl rfl (by first | exact P0 | exact P1 | exact P2 | exact P3 | exact P4) (by first | exact Nat.le_of_ble_eq_true rfl | (simp; done) | (simp; omega)) (by simp only [wkL, anL, putL, List.take_succ_cons, List.take_zero, List.drop_succ_cons, List.drop_zero, List.cons_append, List.nil_append, List.length_cons, List.length_nil, Nat.reduceAdd]; rfl) ?_
    refine TL.val (OpV.assign rfl) rfl ?_
    refine TL.nil ?_
    refine TE.next ?_
    refine T.ret ?_
    refine TE.out_ret ?_
    refine TE.pass_ret ?_
    refine TE.retN rfl (.cons (ResV.cellA rfl ag_24 (by first | exact Cels.blk P0 rfl | exact Cels.blk P1 rfl | exact Cels.blk P2 rfl | exact Cels.blk P3 rfl | exact Cels.blk P4 rfl | exact Cels.frA hatx rfl)) <| .cons (ResV.tmp rfl) <| .nil) ?_
    exact fun w1 k1 => ⟨ret_pl (by rw [placeV, hv9, hp9]; rfl) (by rw [placeE, hv9, hp9]; rfl), k1.bel⟩
   ·
    intro ht17
    have hp9 : inI xs p = true := by have h9 := of_decide_eq_false ht17; have h8 := of_decide_eq_false hg20; simp [inI]; omega
    obtain ⟨q, rfl⟩ : ∃ q : Nat, p = (q : Int) := ⟨p.toNat, by have h8 := of_decide_eq_false hg20; omega⟩
    have hqn : q ≤ n := by have h9 := of_decide_eq_false ht17; omega
    refine T.skip ?_
    refine TE.out ?_
    refine TE.next ?_
    refine T.seq ?_
    refine T.region ?_
    refine TL.val (OpV.move rfl) rfl ?_
    refine TL.val (OpV.build (qs := #[(0, _)]) (fun _ f => by simp only [List.map_toArray, List.map_cons, List.map_nil]; rw [f.ev (x := .tmp 27) rfl]) (bld_109_0 _ )) rfl ?_
    refine TL.boxA rfl rfl ?_
    intro b29
    refine TL.val (OpV.assign rfl) rfl ?_
    refine TL.nil ?_
    refine TE.next ?_
    refine T.seq ?_
    refine T.seq ?_
    refine T.region ?_
    refine TL.val (OpV.move rfl) rfl ?_
    refine TL.val (OpV.move rfl) rfl ?_
    refine TL.val (OpV.sliceHi (hi := q) se_35 rfl rfl rfl (by omega)) rfl ?_
    have h2 : CsR σ (subA A c 0 16) q c (xs.take q) := by simpa using h.slice (lo := 0) (Nat.zero_le q) hqn
    refine TL.val (OpV.len Tryd.underlying35 rfl) rfl ?_
    refine TL.val (OpV.move rfl) rfl ?_
    refine TL.nil ?_
    refine TE.next ?_
    refine T.block ?_
    refine T.loop (ι := Nat × Int × Int) (fun ⟨i, r, k⟩ => i ≤ q ∧ (r, k) = goW cols (xs.take i) ∧ (i = q → bh xs q = false)) (fun ⟨i, r, k⟩ => q - i) (fun ⟨i, r, k⟩ => [(0, .slice A n c), (1, .int .i64 cols), (2, .int .i64 (q : Int)), (6, .pointer (some ⟨b6, 0, none⟩)), (8, .pointer (some ⟨b29, 0, none⟩)), (32, .slice (subA A c 0 16) q c), (33, .int .i64 (q : Int)), (34, .int .i64 (i : Int))]) (fun ⟨i, r, k⟩ => [.blk b29 (wkL cols r k) 109, .blk b6 (anL 0 0) 24, .fr σ]) (0, 0, 0) ⟨Nat.zero_le _, rfl, fun e => by subst e; exact bh_zero (by omega)⟩ (.cons (t := 0) rfl <| .cons (t := 1) rfl <| .cons (t := 2) rfl <| .cons (t := 6) rfl <| .cons (t := 8) rfl <| .cons (t := 32) rfl <| .cons (t := 33) rfl <| .cons (t := 34) rfl <| .nil) (Perm.kle (.cons (by first | exact P0 | exact P1 | exact P2 | exact P3 | exact P4) (.cons (by first | exact P0 | exact P1 | exact P2 | exact P3 | exact P4) (.cons (by first | exact P0 | exact P1 | exact P2 | exact P3 | exact P4) .nil)))) ?_
    rintro ⟨i, r, k⟩ hR
    refine T.seq ?_
    refine T.region ?_
    refine TL.val (OpV.lss rfl rfl) rfl ?_
    refine TL.nil ?_
    refine TE.next ?_
    refine T.seq ?_
    refine T.cond rfl ?_ ?_
    ·
     intro ht35
     have hR1 : i ≤ q := hR.1
     have hR2 : (r, k) = goW cols (xs.take i) := hR.2.1
     have hR3 : i = q → bh xs q = false := hR.2.2
     clear hR
     have hi : i < q := by have h9 := of_decide_eq_true ht35; omega
     obtain ⟨x, hx⟩ := get_of_lt h.1 (show i < n by omega)
     obtain ⟨b, o, hA, hat⟩ := h2.pos (by omega)
     have hatx := hat i x (by rw [List.getElem?_take, if_pos hi]; exact hx)
     have hgo := goW_take (cols := cols) hx
     rw [← hR2] at hgo
     have hbd := goW_bd hv.1.1 (xs.take i)
     rw [← hR2] at hbd
     simp only [List.length_take] at hbd
     have hw := rowR_w hv.2.2 hx
     have hbh : i + 1 = q → bh xs q = (x.w == 2) := fun e => by subst e; exact bh_at (by omega) (by simpa using hx)
     refine T.skip ?_
     refine TE.next ?_
     refine T.seq ?_
     refine T.block ?_
     refine T.seq ?_
     refine T.region ?_
     refine TL.val (OpV.move rfl) rfl ?_
     refine TL.val (OpV.indexAddr se_35 rfl hA rfl (by rfl) (by first | omega | simp)) rfl ?_
     refine TL.val (OpV.loadA ag_58 rfl (by first | exact Cels.blk P0 rfl | exact Cels.blk P1 rfl | exact Cels.blk P2 rfl | exact Cels.blk P3 rfl | exact Cels.blk P4 rfl | exact Cels.frA hatx rfl)) rfl ?_
     refine TL.alloc zo_58 rfl ?_
     intro b10
     refine TL.val (OpV.assign rfl) rfl ?_
     first
       | refine TL.storeAll rfl rfl szz_58 rfl rfl rfl (by first | exact P0 | exact P1 | exact P2 | exact P3 | exact P4) (by rfl) ?_
       | refine TL.store rfl rfl szz_58 rfl rfl rfl (by first | exact P0 | exact P1 | exact P2 | exact P3 | exact P4) (by first | exact Nat.le_of_ble_eq_true rfl | (simp; done) | (simp; omega)) (by simp only [wkL, anL, putL, List.take_succ_cons, List.take_zero, List.drop_succ_cons, List.drop_zero, List.cons_append, List.nil_append, List.length_cons, List.length_nil, Nat.reduceAdd]; rfl) ?_
     refine TL.nil ?_
     refine TE.next ?_
     refine T.seq ?_
     refine T.seq ?_
     refine T.region ?_
     refine TL.val (OpV.fieldAddr rfl fo_58_2) rfl ?_
     refine TL.val (OpV.load pl_3 rfl (by first | exact Cel.blk P0 rfl | exact Cel.blk P1 rfl | exact Cel.blk P2 rfl | exact Cel.blk P3 rfl | exact Cel.blk P4 rfl | exact Cel.frA (hatx _ _ rfl))) rfl ?_
     refine TL.val (OpV.gtr rfl rfl) rfl ?_
     refine TL.nil ?_
     refine TE.next ?_
     refine T.cond rfl ?_ ?_
     ·
      intro ht41
      refine T.seq ?_
      refine T.region ?_
      refine TL.val (OpV.move rfl) rfl ?_
      refine TL.val (OpV.fieldAddr rfl fo_58_2) rfl ?_
      refine TL.val (OpV.load pl_3 rfl (by first | exact Cel.blk P0 rfl | exact Cel.blk P1 rfl | exact Cel.blk P2 rfl | exact Cel.blk P3 rfl | exact Cel.blk P4 rfl | exact Cel.frA (hatx _ _ rfl))) rfl ?_
      refine TL.callk (g := 66) rfl go_66 rfl (fun w1 k1 => next_c w1 (k1.pick (by first | exact P0 | exact P1 | exact P2 | exact P3 | exact P4)) hv.1 (by omega) (by omega) (by omega)) rfl ?_
      have hnb := nx_bd (s := (r, k)) hv.1.1 x.w hbd.1 hbd.2
      have hfb := fw_bd (of_decide_eq_true ht41) hv.1.1
      have hgo2 : goW cols (xs.take (i + 1)) = ((nx cols (r, k) x.w).1, (nx cols (r, k) x.w).2 + fw cols x.w) := by rw [hgo, stp, if_pos (of_decide_eq_true ht41)]
      refine TL.nil ?_
      refine TE.sub (.cons (t := 0) rfl <| .cons (t := 1) rfl <| .cons (t := 2) rfl <| .cons (t := 6) rfl <| .cons (t := 8) rfl <| .cons (t := 9) rfl <| .cons (t := 10) rfl <| .cons (t := 32) rfl <| .cons (t := 33) rfl <| .cons (t := 34) rfl <| .nil) ?_
      refine TE.next ?_
      refine T.any ([.blk b29 (wkL cols (nx cols (r, k) x.w).1 (nx cols (r, k) x.w).2) 109, .blk b10 x.l 58]) [11] mix rfl rfl ?_
      refine TA.takeP (i := 0) (ls := #[true, false, false, false, false, false, false, false, false, false, false, false]) rfl rfl rfl rfl rfl (by kernel_rfl) (by kernel_rfl) (by kernel_rfl) (by repeat (first | with_reducible exact PanicOk.body | with_reducible apply PanicOk.next | with_reducible apply PanicOk.block)) (OpV.move rfl) rfl (by kernel_rfl) ?_
      refine TA.takeP (i := 1) (ls := #[true, true, false, false, false, false, false, false, false, false, false, false]) rfl rfl rfl rfl rfl (by kernel_rfl) (by kernel_rfl) (by kernel_rfl) (by repeat (first | with_reducible exact PanicOk.body | with_reducible apply PanicOk.next | with_reducible apply PanicOk.block)) (OpV.nil rfl) rfl (by kernel_rfl) ?_
      refine TA.takeP (i := 2) (ls := #[true, true, true, false, false, false, false, false, false, false, false, false]) rfl rfl rfl rfl rfl (by kernel_rfl) (by kernel_rfl) (by kernel_rfl) (by repeat (first | with_reducible exact PanicOk.body | with_reducible apply PanicOk.next | with_reducible apply PanicOk.block)) (OpV.fieldAddr rfl fo_109_2) rfl (by kernel_rfl) ?_
      refine TA.take (i := 3) (ls := #[true, true, true, true, false, false, false, false, false, false, false, false]) rfl rfl rfl rfl rfl (by kernel_rfl) (by kernel_rfl) (by kernel_rfl) (by kernel_rfl) (by repeat (first | with_reducible exact PanicOk.body | with_reducible apply PanicOk.next | with_reducible apply PanicOk.block)) ((.cons (by first | exact P0 | exact P1 | exact P2 | exact P3 | exact P4) (.cons (by first | exact P0 | exact P1 | exact P2 | exact P3 | exact P4) .nil))) (OpV.load pl_3 rfl (by first | exact Cel.blk P0 rfl | exact Cel.blk P1 rfl | exact Cel.blk P2 rfl | exact Cel.blk P3 rfl | exact Cel.blk P4 rfl | exact Cel.frA (hatx _ _ rfl))) rfl (by kernel_rfl) ?_
      refine TA.takeP (i := 4) (ls := #[true, true, true, true, true, false, false, false, false, false, false, false]) rfl rfl rfl rfl rfl (by kernel_rfl) (by kernel_rfl) (by kernel_rfl) (by repeat (first | with_reducible exact PanicOk.body | with_reducible apply PanicOk.next | with_reducible apply PanicOk.block)) (OpV.fieldAddr rfl fo_58_2) rfl (by kernel_rfl) ?_
      refine TA.take (i := 5) (ls := #[true, true, true, true, true, true, false, false, false, false, false, false]) rfl rfl rfl rfl rfl (by kernel_rfl) (by kernel_rfl) (by kernel_rfl) (by kernel_rfl) (by repeat (first | with_reducible exact PanicOk.body | with_reducible apply PanicOk.next | with_reducible apply PanicOk.block)) ((.cons (by first | exact P0 | exact P1 | exact P2 | exact P3 | exact P4) (.cons (by first | exact P0 | exact P1 | exact P2 | exact P3 | exact P4) .nil))) (OpV.load pl_3 rfl (by first | exact Cel.blk P0 rfl | exact Cel.blk P1 rfl | exact Cel.blk P2 rfl | exact Cel.blk P3 rfl | exact Cel.blk P4 rfl | exact Cel.frA (hatx _ _ rfl))) rfl (by kernel_rfl) ?_
      refine TA.takeP (i := 6) (ls := #[true, true, true, true, true, true, true, false, false, false, false, false]) rfl rfl rfl rfl rfl (by kernel_rfl) (by kernel_rfl) (by kernel_rfl) (by repeat (first | with_reducible exact PanicOk.body | with_reducible apply PanicOk.next | with_reducible apply PanicOk.block)) (OpV.move rfl) rfl (by kernel_rfl) ?_
      refine TA.takeP (i := 7) (ls := #[true, true, true, true, true, true, true, true, false, false, false, false]) rfl rfl rfl rfl rfl (by kernel_rfl) (by kernel_rfl) (by kernel_rfl) (by repeat (first | with_reducible exact PanicOk.body | with_reducible apply PanicOk.next | with_reducible apply PanicOk.block)) (OpV.min rfl rfl) rfl (by kernel_rfl) ?_
      refine TA.said (t := 53) rfl (show _ = Value.int .i64 (fw cols x.w) from rfl) ?_
      refine TA.takeP (i := 8) (ls := #[true, true, true, true, true, true, true, true, true, false, false, false]) rfl rfl rfl rfl rfl (by kernel_rfl) (by kernel_rfl) (by kernel_rfl) (by repeat (first | with_reducible exact PanicOk.body | with_reducible apply PanicOk.next | with_reducible apply PanicOk.block)) (OpV.add rfl rfl (by first | exact IntWalk.i64_in _ ⟨by omega, by omega⟩ | rfl)) rfl (by kernel_rfl) ?_
      refine TA.takeP (i := 9) (ls := #[true, true, true, true, true, true, true, true, true, true, false, false]) rfl rfl rfl rfl rfl (by kernel_rfl) (by kernel_rfl) (by kernel_rfl) (by repeat (first | with_reducible exact PanicOk.body | with_reducible apply PanicOk.next | with_reducible apply PanicOk.block)) (OpV.nil rfl) rfl (by kernel_rfl) ?_
      refine TA.takeP (i := 10) (ls := #[true, true, true, true, true, true, true, true, true, true, true, false]) rfl rfl rfl rfl rfl (by kernel_rfl) (by kernel_rfl) (by kernel_rfl) (by repeat (first | with_reducible exact PanicOk.body | with_reducible apply PanicOk.next | with_reducible apply PanicOk.block)) (OpV.fieldAddr rfl fo_109_2) rfl (by kernel_rfl) ?_
      refine TA.one (i := 11) (ls := #[true, true, true, true, true, true, true, true, true, true, true, true]) (by kernel_rfl) rfl (by kernel_rfl) (fun w1 => ?_)
      refine TL.store rfl rfl szz_3 rfl rfl rfl (by first | exact P0 | exact P1 | exact P2 | exact P3 | exact P4) (by first | exact Nat.le_of_ble_eq_true rfl | (simp; done) | (simp; omega)) (by simp only [wkL, anL, putL, List.take_succ_cons, List.take_zero, List.drop_succ_cons, List.drop_zero, List.cons_append, List.nil_append, List.length_cons, List.length_nil, Nat.reduceAdd]; rfl) ?_
      refine TL.nil ?_
      refine TA.bar rfl ?_
      refine TA.done (by kernel_rfl) ?_
      refine TE.sub (.cons (t := 0) rfl <| .cons (t := 1) rfl <| .cons (t := 2) rfl <| .cons (t := 6) rfl <| .cons (t := 8) rfl <| .cons (t := 9) rfl <| .cons (t := 10) rfl <| .cons (t := 32) rfl <| .cons (t := 33) rfl <| .cons (t := 34) rfl <| .nil) ?_
      refine TE.next ?_
      refine T.seq ?_
      refine T.region ?_
      refine TL.val (OpV.fieldAddr rfl fo_58_2) rfl ?_
      refine TL.val (OpV.load pl_3 rfl (by first | exact Cel.blk P0 rfl | exact Cel.blk P1 rfl | exact Cel.blk P2 rfl | exact Cel.blk P3 rfl | exact Cel.blk P4 rfl | exact Cel.frA (hatx _ _ rfl))) rfl ?_
      refine TL.val (OpV.eql rfl rfl) rfl ?_
      refine TL.val (OpV.move rfl) rfl ?_
      refine TL.part (t := 60) rfl ?_ ?_
      ·
       intro hg60
       refine TL.open rfl rfl ?_
       refine TL.val (OpV.move rfl) rfl ?_
       refine TL.open rfl rfl ?_
       refine TL.val (OpV.move rfl) rfl ?_
       refine TL.open rfl rfl ?_
       refine TL.val (OpV.sub rfl rfl (by first | exact IntWalk.i64_in _ ⟨by omega, by omega⟩ | rfl)) rfl ?_
       refine TL.open rfl rfl ?_
       refine TL.val (OpV.eql rfl rfl) rfl ?_
       refine TL.val ((by first | exact OpV.pick_t rfl rfl | exact OpV.pick_f rfl rfl)) rfl ?_
       refine TL.nil ?_
       refine TE.sub (.cons (t := 0) rfl <| .cons (t := 1) rfl <| .cons (t := 2) rfl <| .cons (t := 6) rfl <| .cons (t := 8) rfl <| .cons (t := 32) rfl <| .cons (t := 33) rfl <| .cons (t := 34) rfl <| .cons (t := 65) rfl <| .nil) ?_
       refine TE.next ?_
       refine T.cond rfl ?_ ?_
       ·
        intro ht65
        have hq1 : i + 1 = q := by have h9 := eq_of_beq ht65; omega
        refine T.seq ?_
        refine T.any ([.blk b29 (wkL cols (nx cols (r, k) x.w).1 ((nx cols (r, k) x.w).2 + fw cols x.w)) 109]) [10] mix rfl rfl ?_
        refine TA.takeP (i := 0) (ls := #[true, false, false, false, false, false, false, false, false, false, false, false]) rfl rfl rfl rfl rfl (by kernel_rfl) (by kernel_rfl) (by kernel_rfl) (by repeat (first | with_reducible exact PanicOk.body | with_reducible apply PanicOk.next | with_reducible apply PanicOk.block)) (OpV.move rfl) rfl (by kernel_rfl) ?_
        refine TA.takeP (i := 1) (ls := #[true, true, false, false, false, false, false, false, false, false, false, false]) rfl rfl rfl rfl rfl (by kernel_rfl) (by kernel_rfl) (by kernel_rfl) (by repeat (first | with_reducible exact PanicOk.body | with_reducible apply PanicOk.next | with_reducible apply PanicOk.block)) (OpV.nil rfl) rfl (by kernel_rfl) ?_
        refine TA.takeP (i := 2) (ls := #[true, true, true, false, false, false, false, false, false, false, false, false]) rfl rfl rfl rfl rfl (by kernel_rfl) (by kernel_rfl) (by kernel_rfl) (by repeat (first | with_reducible exact PanicOk.body | with_reducible apply PanicOk.next | with_reducible apply PanicOk.block)) (OpV.fieldAddr rfl fo_109_1) rfl (by kernel_rfl) ?_
        refine TA.take (i := 3) (ls := #[true, true, true, true, false, false, false, false, false, false, false, false]) rfl rfl rfl rfl rfl (by kernel_rfl) (by kernel_rfl) (by kernel_rfl) (by kernel_rfl) (by repeat (first | with_reducible exact PanicOk.body | with_reducible apply PanicOk.next | with_reducible apply PanicOk.block)) ((.cons (by first | exact P0 | exact P1 | exact P2 | exact P3 | exact P4) .nil)) (OpV.load pl_3 rfl (by first | exact Cel.blk P0 rfl | exact Cel.blk P1 rfl | exact Cel.blk P2 rfl | exact Cel.blk P3 rfl | exact Cel.blk P4 rfl | exact Cel.frA (hatx _ _ rfl))) rfl (by kernel_rfl) ?_
        refine TA.takeP (i := 4) (ls := #[true, true, true, true, true, false, false, false, false, false, false, false]) rfl rfl rfl rfl rfl (by kernel_rfl) (by kernel_rfl) (by kernel_rfl) (by repeat (first | with_reducible exact PanicOk.body | with_reducible apply PanicOk.next | with_reducible apply PanicOk.block)) (OpV.move rfl) rfl (by kernel_rfl) ?_
        refine TA.takeP (i := 5) (ls := #[true, true, true, true, true, true, false, false, false, false, false, false]) rfl rfl rfl rfl rfl (by kernel_rfl) (by kernel_rfl) (by kernel_rfl) (by repeat (first | with_reducible exact PanicOk.body | with_reducible apply PanicOk.next | with_reducible apply PanicOk.block)) (OpV.nil rfl) rfl (by kernel_rfl) ?_
        refine TA.takeP (i := 6) (ls := #[true, true, true, true, true, true, true, false, false, false, false, false]) rfl rfl rfl rfl rfl (by kernel_rfl) (by kernel_rfl) (by kernel_rfl) (by repeat (first | with_reducible exact PanicOk.body | with_reducible apply PanicOk.next | with_reducible apply PanicOk.block)) (OpV.fieldAddr rfl fo_109_2) rfl (by kernel_rfl) ?_
        refine TA.take (i := 7) (ls := #[true, true, true, true, true, true, true, true, false, false, false, false]) rfl rfl rfl rfl rfl (by kernel_rfl) (by kernel_rfl) (by kernel_rfl) (by kernel_rfl) (by repeat (first | with_reducible exact PanicOk.body | with_reducible apply PanicOk.next | with_reducible apply PanicOk.block)) ((.cons (by first | exact P0 | exact P1 | exact P2 | exact P3 | exact P4) .nil)) (OpV.load pl_3 rfl (by first | exact Cel.blk P0 rfl | exact Cel.blk P1 rfl | exact Cel.blk P2 rfl | exact Cel.blk P3 rfl | exact Cel.blk P4 rfl | exact Cel.frA (hatx _ _ rfl))) rfl (by kernel_rfl) ?_
        refine TA.takeP (i := 8) (ls := #[true, true, true, true, true, true, true, true, true, false, false, false]) rfl rfl rfl rfl rfl (by kernel_rfl) (by kernel_rfl) (by kernel_rfl) (by repeat (first | with_reducible exact PanicOk.body | with_reducible apply PanicOk.next | with_reducible apply PanicOk.block)) (OpV.sub rfl rfl (by first | exact IntWalk.i64_in _ ⟨by omega, by omega⟩ | rfl)) rfl (by kernel_rfl) ?_
        refine TA.takeP (i := 9) (ls := #[true, true, true, true, true, true, true, true, true, true, false, false]) rfl rfl rfl rfl rfl (by kernel_rfl) (by kernel_rfl) (by kernel_rfl) (by repeat (first | with_reducible exact PanicOk.body | with_reducible apply PanicOk.next | with_reducible apply PanicOk.block)) (OpV.build (qs := #[(0, _), (1, _)]) (fun _ f => by simp only [List.map_toArray, List.map_cons, List.map_nil]; rw [f.ev (x := .tmp 69) rfl, f.ev (x := .tmp 74) rfl]) (bld_24_0_1 _ _ )) rfl (by kernel_rfl) ?_
        refine TA.one (i := 10) (ls := #[true, true, true, true, true, true, true, true, true, true, true, false]) (by kernel_rfl) rfl (by kernel_rfl) (fun w1 => ?_)
        first
          | refine TL.storeAll rfl rfl szz_24 rfl rfl rfl (by first | exact P0 | exact P1 | exact P2 | exact P3 | exact P4) (by rfl) ?_
          | refine TL.store rfl rfl szz_24 rfl rfl rfl (by first | exact P0 | exact P1 | exact P2 | exact P3 | exact P4) (by first | exact Nat.le_of_ble_eq_true rfl | (simp; done) | (simp; omega)) (by simp only [wkL, anL, putL, List.take_succ_cons, List.take_zero, List.drop_succ_cons, List.drop_zero, List.cons_append, List.nil_append, List.length_cons, List.length_nil, Nat.reduceAdd]; rfl) ?_
        refine TL.nil ?_
        refine TA.bar rfl ?_
        refine TA.takeP (i := 11) (ls := #[true, true, true, true, true, true, true, true, true, true, true, true]) rfl rfl rfl rfl rfl (by kernel_rfl) (by kernel_rfl) (by kernel_rfl) (by repeat (first | with_reducible exact PanicOk.body | with_reducible apply PanicOk.next | with_reducible apply PanicOk.block)) (OpV.assign rfl) rfl (by kernel_rfl) ?_
        refine TA.done (by kernel_rfl) ?_
        refine TE.sub (.cons (t := 6) rfl <| .cons (t := 7) rfl <| .nil) ?_
        refine TE.next ?_
        refine T.ret ?_
        refine TE.out_ret ?_
        refine TE.pass_ret ?_
        refine TE.pass_ret ?_
        refine TE.out_ret ?_
        refine TE.pass_ret ?_
        refine TE.retN rfl (.cons (ResV.cellA rfl ag_24 (by first | exact Cels.blk P0 rfl | exact Cels.blk P1 rfl | exact Cels.blk P2 rfl | exact Cels.blk P3 rfl | exact Cels.blk P4 rfl | exact Cels.frA hatx rfl)) <| .cons (ResV.tmp rfl) <| .nil) ?_
        exact fun w1 k1 => ⟨ret_pl (by rw [placeV, hv9, hp9]; simp [plV, ← hq1, hgo2, hq1 ▸ hbh hq1, hg60]) (by rw [placeE, hv9, hp9]; rfl), k1.bel⟩
       ·
        intro ht65
        have hq1 : ¬ i + 1 = q := by intro e; have h9 := beq_eq_false_iff_ne.1 ht65; omega
        refine T.skip ?_
        refine TE.out ?_
        refine TE.next ?_
        refine T.region ?_
        refine TL.val (OpV.add rfl rfl (by first | exact IntWalk.i64_in _ ⟨by omega, by omega⟩ | rfl)) rfl ?_
        refine TL.val (OpV.move rfl) rfl ?_
        refine TL.nil ?_
        exact TE.meet (i + 1, (nx cols (r, k) x.w).1, (nx cols (r, k) x.w).2 + fw cols x.w) ⟨⟨by omega, hgo2.symm, (fun e => absurd e hq1)⟩, by simp only; omega⟩ (.cons (t := 0) (by first | rfl | (simp [lk]; done)) <| .cons (t := 1) (by first | rfl | (simp [lk]; done)) <| .cons (t := 2) (by first | rfl | (simp [lk]; done)) <| .cons (t := 6) (by first | rfl | (simp [lk]; done)) <| .cons (t := 8) (by first | rfl | (simp [lk]; done)) <| .cons (t := 32) (by first | rfl | (simp [lk]; done)) <| .cons (t := 33) (by first | rfl | (simp [lk]; done)) <| .cons (t := 34) (by first | rfl | (simp [lk]; done)) <| .nil) (Perm.kle (.cons (by first | exact P0 | exact P1 | exact P2 | exact P3 | exact P4) (.cons (by first | exact P0 | exact P1 | exact P2 | exact P3 | exact P4) (.cons (by first | exact P0 | exact P1 | exact P2 | exact P3 | exact P4) .nil))))
      ·
       intro hg60
       refine TL.shut rfl rfl ?_
       refine TL.shut rfl rfl ?_
       refine TL.shut rfl rfl ?_
       refine TL.shut rfl rfl ?_
       refine TL.val ((by first | exact OpV.pick_t rfl rfl | exact OpV.pick_f rfl rfl)) rfl ?_
       refine TL.nil ?_
       refine TE.sub (.cons (t := 0) rfl <| .cons (t := 1) rfl <| .cons (t := 2) rfl <| .cons (t := 6) rfl <| .cons (t := 8) rfl <| .cons (t := 32) rfl <| .cons (t := 33) rfl <| .cons (t := 34) rfl <| .cons (t := 65) rfl <| .nil) ?_
       refine TE.next ?_
       refine T.no rfl ?_
       refine T.skip ?_
       refine TE.out ?_
       refine TE.next ?_
       refine T.region ?_
       refine TL.val (OpV.add rfl rfl (by first | exact IntWalk.i64_in _ ⟨by omega, by omega⟩ | rfl)) rfl ?_
       refine TL.val (OpV.move rfl) rfl ?_
       refine TL.nil ?_
       exact TE.meet (i + 1, (nx cols (r, k) x.w).1, (nx cols (r, k) x.w).2 + fw cols x.w) ⟨⟨by omega, hgo2.symm, (fun e => by rw [hbh e]; exact hg60)⟩, by simp only; omega⟩ (.cons (t := 0) (by first | rfl | (simp [lk]; done)) <| .cons (t := 1) (by first | rfl | (simp [lk]; done)) <| .cons (t := 2) (by first | rfl | (simp [lk]; done)) <| .cons (t := 6) (by first | rfl | (simp [lk]; done)) <| .cons (t := 8) (by first | rfl | (simp [lk]; done)) <| .cons (t := 32) (by first | rfl | (simp [lk]; done)) <| .cons (t := 33) (by first | rfl | (simp [lk]; done)) <| .cons (t := 34) (by first | rfl | (simp [lk]; done)) <| .nil) (Perm.kle (.cons (by first | exact P0 | exact P1 | exact P2 | exact P3 | exact P4) (.cons (by first | exact P0 | exact P1 | exact P2 | exact P3 | exact P4) (.cons (by first | exact P0 | exact P1 | exact P2 | exact P3 | exact P4) .nil))))
     ·
      intro ht41
      have hgo2 : goW cols (xs.take (i + 1)) = (r, k) := by rw [hgo, stp, if_neg (of_decide_eq_false ht41)]
      refine T.skip ?_
      refine TE.sub (.cons (t := 0) rfl <| .cons (t := 1) rfl <| .cons (t := 2) rfl <| .cons (t := 6) rfl <| .cons (t := 8) rfl <| .cons (t := 9) rfl <| .cons (t := 10) rfl <| .cons (t := 32) rfl <| .cons (t := 33) rfl <| .cons (t := 34) rfl <| .nil) ?_
      refine TE.next ?_
      refine T.seq ?_
      refine T.region ?_
      refine TL.val (OpV.fieldAddr rfl fo_58_2) rfl ?_
      refine TL.val (OpV.load pl_3 rfl (by first | exact Cel.blk P0 rfl | exact Cel.blk P1 rfl | exact Cel.blk P2 rfl | exact Cel.blk P3 rfl | exact Cel.blk P4 rfl | exact Cel.frA (hatx _ _ rfl))) rfl ?_
      refine TL.val (OpV.eql rfl rfl) rfl ?_
      refine TL.val (OpV.move rfl) rfl ?_
      refine TL.part (t := 60) rfl ?_ ?_
      ·
       intro hg60
       have h9 : x.w = 2 := by simpa using hg60
       have h8 := of_decide_eq_false ht41
       omega
      ·
       intro hg60
       refine TL.shut rfl rfl ?_
       refine TL.shut rfl rfl ?_
       refine TL.shut rfl rfl ?_
       refine TL.shut rfl rfl ?_
       refine TL.val ((by first | exact OpV.pick_t rfl rfl | exact OpV.pick_f rfl rfl)) rfl ?_
       refine TL.nil ?_
       refine TE.sub (.cons (t := 0) rfl <| .cons (t := 1) rfl <| .cons (t := 2) rfl <| .cons (t := 6) rfl <| .cons (t := 8) rfl <| .cons (t := 32) rfl <| .cons (t := 33) rfl <| .cons (t := 34) rfl <| .cons (t := 65) rfl <| .nil) ?_
       refine TE.next ?_
       refine T.no rfl ?_
       refine T.skip ?_
       refine TE.out ?_
       refine TE.next ?_
       refine T.region ?_
       refine TL.val (OpV.add rfl rfl (by first | exact IntWalk.i64_in _ ⟨by omega, by omega⟩ | rfl)) rfl ?_
       refine TL.val (OpV.move rfl) rfl ?_
       refine TL.nil ?_
       exact TE.meet (i + 1, r, k) ⟨⟨by omega, hgo2.symm, (fun e => by rw [hbh e]; exact hg60)⟩, by simp only; omega⟩ (.cons (t := 0) (by first | rfl | (simp [lk]; done)) <| .cons (t := 1) (by first | rfl | (simp [lk]; done)) <| .cons (t := 2) (by first | rfl | (simp [lk]; done)) <| .cons (t := 6) (by first | rfl | (simp [lk]; done)) <| .cons (t := 8) (by first | rfl | (simp [lk]; done)) <| .cons (t := 32) (by first | rfl | (simp [lk]; done)) <| .cons (t := 33) (by first | rfl | (simp [lk]; done)) <| .cons (t := 34) (by first | rfl | (simp [lk]; done)) <| .nil) (Perm.kle (.cons (by first | exact P0 | exact P1 | exact P2 | exact P3 | exact P4) (.cons (by first | exact P0 | exact P1 | exact P2 | exact P3 | exact P4) (.cons (by first | exact P0 | exact P1 | exact P2 | exact P3 | exact P4) .nil))))
    ·
     intro ht35
     have hR1 : i ≤ q := hR.1
     have hR2 : (r, k) = goW cols (xs.take i) := hR.2.1
     have hR3 : i = q → bh xs q = false := hR.2.2
     clear hR
     have hiq : i = q := by have h9 := of_decide_eq_false ht35; omega
     subst hiq
     have hbq := hR3 rfl
     have hbd := goW_bd hv.1.1 (xs.take i)
     rw [← hR2] at hbd
     simp only [List.length_take] at hbd
     refine T.exit ?_
     refine TE.pass_exit ?_
     refine TE.pass_exit ?_
     refine TE.here ?_
     refine TE.next ?_
     refine T.seq ?_
     refine T.seq ?_
     refine T.region ?_
     refine TL.val (OpV.move rfl) rfl ?_
     refine TL.val (OpV.move rfl) rfl ?_
     refine TL.val (OpV.len Tryd.underlying35 rfl) rfl ?_
     refine TL.val (OpV.lss rfl rfl) rfl ?_
     refine TL.nil ?_
     refine TE.sub (.cons (t := 0) rfl <| .cons (t := 1) rfl <| .cons (t := 2) rfl <| .cons (t := 6) rfl <| .cons (t := 8) rfl <| .cons (t := 80) rfl <| .nil) ?_
     refine TE.next ?_
     refine T.cond rfl ?_ ?_
     ·
      intro ht80
      refine T.region ?_
      refine TL.val (OpV.move rfl) rfl ?_
      refine TL.val (OpV.move rfl) rfl ?_
      refine TL.val (OpV.move rfl) rfl ?_
      have hqn2 : i < n := by have h9 := of_decide_eq_true ht80; omega
      obtain ⟨y, hy⟩ := get_of_lt h.1 hqn2
      obtain ⟨b, o, hA, hat⟩ := h.pos (by omega)
      have hatx := hat i y hy
      have hw := rowR_w hv.2.2 hy
      refine TL.val (OpV.indexAddr se_35 rfl hA rfl (by rfl) (by first | omega | simp)) rfl ?_
      refine TL.val (OpV.fieldAddr rfl fo_58_2) rfl ?_
      refine TL.val (OpV.load pl_3 rfl (by first | exact Cel.blk P0 rfl | exact Cel.blk P1 rfl | exact Cel.blk P2 rfl | exact Cel.blk P3 rfl | exact Cel.blk P4 rfl | exact Cel.frA (hatx _ _ rfl))) rfl ?_
      refine TL.callk (g := 66) rfl go_66 rfl (fun w1 k1 => next_c w1 (k1.pick (by first | exact P0 | exact P1 | exact P2 | exact P3 | exact P4)) hv.1 (by omega) (by omega) (by omega)) rfl ?_
      have hnb := nx_bd (s := (r, k)) hv.1.1 y.w hbd.1 hbd.2
      refine TL.nil ?_
      refine TE.sub (.cons (t := 1) rfl <| .cons (t := 6) rfl <| .cons (t := 8) rfl <| .nil) ?_
      refine TE.next ?_
      refine T.seq ?_
      refine T.any ([.blk b29 (wkL cols (nx cols (r, k) y.w).1 (nx cols (r, k) y.w).2) 109]) [12] mix rfl rfl ?_
      refine TA.takeP (i := 0) (ls := #[true, false, false, false, false, false, false, false, false, false, false, false, false, false]) rfl rfl rfl rfl rfl (by kernel_rfl) (by kernel_rfl) (by kernel_rfl) (by repeat (first | with_reducible exact PanicOk.body | with_reducible apply PanicOk.next | with_reducible apply PanicOk.block)) (OpV.move rfl) rfl (by kernel_rfl) ?_
      refine TA.takeP (i := 1) (ls := #[true, true, false, false, false, false, false, false, false, false, false, false, false, false]) rfl rfl rfl rfl rfl (by kernel_rfl) (by kernel_rfl) (by kernel_rfl) (by repeat (first | with_reducible exact PanicOk.body | with_reducible apply PanicOk.next | with_reducible apply PanicOk.block)) (OpV.nil rfl) rfl (by kernel_rfl) ?_
      refine TA.takeP (i := 2) (ls := #[true, true, true, false, false, false, false, false, false, false, false, false, false, false]) rfl rfl rfl rfl rfl (by kernel_rfl) (by kernel_rfl) (by kernel_rfl) (by repeat (first | with_reducible exact PanicOk.body | with_reducible apply PanicOk.next | with_reducible apply PanicOk.block)) (OpV.fieldAddr rfl fo_109_1) rfl (by kernel_rfl) ?_
      refine TA.take (i := 3) (ls := #[true, true, true, true, false, false, false, false, false, false, false, false, false, false]) rfl rfl rfl rfl rfl (by kernel_rfl) (by kernel_rfl) (by kernel_rfl) (by kernel_rfl) (by repeat (first | with_reducible exact PanicOk.body | with_reducible apply PanicOk.next | with_reducible apply PanicOk.block)) ((.cons (by first | exact P0 | exact P1 | exact P2 | exact P3 | exact P4) .nil)) (OpV.load pl_3 rfl (by first | exact Cel.blk P0 rfl | exact Cel.blk P1 rfl | exact Cel.blk P2 rfl | exact Cel.blk P3 rfl | exact Cel.blk P4 rfl | exact Cel.frA (hatx _ _ rfl))) rfl (by kernel_rfl) ?_
      refine TA.takeP (i := 4) (ls := #[true, true, true, true, true, false, false, false, false, false, false, false, false, false]) rfl rfl rfl rfl rfl (by kernel_rfl) (by kernel_rfl) (by kernel_rfl) (by repeat (first | with_reducible exact PanicOk.body | with_reducible apply PanicOk.next | with_reducible apply PanicOk.block)) (OpV.move rfl) rfl (by kernel_rfl) ?_
      refine TA.takeP (i := 5) (ls := #[true, true, true, true, true, true, false, false, false, false, false, false, false, false]) rfl rfl rfl rfl rfl (by kernel_rfl) (by kernel_rfl) (by kernel_rfl) (by repeat (first | with_reducible exact PanicOk.body | with_reducible apply PanicOk.next | with_reducible apply PanicOk.block)) (OpV.nil rfl) rfl (by kernel_rfl) ?_
      refine TA.takeP (i := 6) (ls := #[true, true, true, true, true, true, true, false, false, false, false, false, false, false]) rfl rfl rfl rfl rfl (by kernel_rfl) (by kernel_rfl) (by kernel_rfl) (by repeat (first | with_reducible exact PanicOk.body | with_reducible apply PanicOk.next | with_reducible apply PanicOk.block)) (OpV.fieldAddr rfl fo_109_2) rfl (by kernel_rfl) ?_
      refine TA.take (i := 7) (ls := #[true, true, true, true, true, true, true, true, false, false, false, false, false, false]) rfl rfl rfl rfl rfl (by kernel_rfl) (by kernel_rfl) (by kernel_rfl) (by kernel_rfl) (by repeat (first | with_reducible exact PanicOk.body | with_reducible apply PanicOk.next | with_reducible apply PanicOk.block)) ((.cons (by first | exact P0 | exact P1 | exact P2 | exact P3 | exact P4) .nil)) (OpV.load pl_3 rfl (by first | exact Cel.blk P0 rfl | exact Cel.blk P1 rfl | exact Cel.blk P2 rfl | exact Cel.blk P3 rfl | exact Cel.blk P4 rfl | exact Cel.frA (hatx _ _ rfl))) rfl (by kernel_rfl) ?_
      refine TA.takeP (i := 8) (ls := #[true, true, true, true, true, true, true, true, true, false, false, false, false, false]) rfl rfl rfl rfl rfl (by kernel_rfl) (by kernel_rfl) (by kernel_rfl) (by repeat (first | with_reducible exact PanicOk.body | with_reducible apply PanicOk.next | with_reducible apply PanicOk.block)) (OpV.move rfl) rfl (by kernel_rfl) ?_
      refine TA.takeP (i := 9) (ls := #[true, true, true, true, true, true, true, true, true, true, false, false, false, false]) rfl rfl rfl rfl rfl (by kernel_rfl) (by kernel_rfl) (by kernel_rfl) (by repeat (first | with_reducible exact PanicOk.body | with_reducible apply PanicOk.next | with_reducible apply PanicOk.block)) (OpV.sub rfl rfl (by first | exact IntWalk.i64_in _ ⟨by omega, by omega⟩ | rfl)) rfl (by kernel_rfl) ?_
      refine TA.takeP (i := 10) (ls := #[true, true, true, true, true, true, true, true, true, true, true, false, false, false]) rfl rfl rfl rfl rfl (by kernel_rfl) (by kernel_rfl) (by kernel_rfl) (by repeat (first | with_reducible exact PanicOk.body | with_reducible apply PanicOk.next | with_reducible apply PanicOk.block)) (OpV.min rfl rfl) rfl (by kernel_rfl) ?_
      refine TA.said (t := 98) rfl (show _ = Value.int .i64 (fw (cols - 1) (nx cols (r, k) y.w).2) from rfl) ?_
      refine TA.takeP (i := 11) (ls := #[true, true, true, true, true, true, true, true, true, true, true, true, false, false]) rfl rfl rfl rfl rfl (by kernel_rfl) (by kernel_rfl) (by kernel_rfl) (by repeat (first | with_reducible exact PanicOk.body | with_reducible apply PanicOk.next | with_reducible apply PanicOk.block)) (OpV.build (qs := #[(0, _), (1, _)]) (fun _ f => by simp only [List.map_toArray, List.map_cons, List.map_nil]; rw [f.ev (x := .tmp 91) rfl, f.ev (x := .tmp 98) rfl]) (bld_24_0_1 _ _ )) rfl (by kernel_rfl) ?_
      refine TA.one (i := 12) (ls := #[true, true, true, true, true, true, true, true, true, true, true, true, true, false]) (by kernel_rfl) rfl (by kernel_rfl) (fun w1 => ?_)
      first
        | refine TL.storeAll rfl rfl szz_24 rfl rfl rfl (by first | exact P0 | exact P1 | exact P2 | exact P3 | exact P4) (by rfl) ?_
        | refine TL.store rfl rfl szz_24 rfl rfl rfl (by first | exact P0 | exact P1 | exact P2 | exact P3 | exact P4) (by first | exact Nat.le_of_ble_eq_true rfl | (simp; done) | (simp; omega)) (by simp only [wkL, anL, putL, List.take_succ_cons, List.take_zero, List.drop_succ_cons, List.drop_zero, List.cons_append, List.nil_append, List.length_cons, List.length_nil, Nat.reduceAdd]; rfl) ?_
      refine TL.nil ?_
      refine TA.bar rfl ?_
      refine TA.takeP (i := 13) (ls := #[true, true, true, true, true, true, true, true, true, true, true, true, true, true]) rfl rfl rfl rfl rfl (by kernel_rfl) (by kernel_rfl) (by kernel_rfl) (by repeat (first | with_reducible exact PanicOk.body | with_reducible apply PanicOk.next | with_reducible apply PanicOk.block)) (OpV.assign rfl) rfl (by kernel_rfl) ?_
      refine TA.done (by kernel_rfl) ?_
      refine TE.sub (.cons (t := 6) rfl <| .cons (t := 7) rfl <| .nil) ?_
      refine TE.next ?_
      refine T.ret ?_
      refine TE.retN rfl (.cons (ResV.cellA rfl ag_24 (by first | exact Cels.blk P0 rfl | exact Cels.blk P1 rfl | exact Cels.blk P2 rfl | exact Cels.blk P3 rfl | exact Cels.blk P4 rfl | exact Cels.frA hatx rfl)) <| .cons (ResV.tmp rfl) <| .nil) ?_
      exact fun w1 k1 => ⟨ret_pl (by rw [placeV, hv9, hp9]; simp [plV, hbq, hy, ← hR2, fw]) (by rw [placeE, hv9, hp9]; rfl), k1.bel⟩
     ·
      intro ht80
      have hin : i = n := by have h9 := of_decide_eq_false ht80; omega
      refine T.skip ?_
      refine TE.next ?_
      refine T.seq ?_
      refine T.any ([.blk b29 (wkL cols r k) 109]) [12] mix rfl rfl ?_
      refine TA.takeP (i := 0) (ls := #[true, false, false, false, false, false, false, false, false, false, false, false, false, false]) rfl rfl rfl rfl rfl (by kernel_rfl) (by kernel_rfl) (by kernel_rfl) (by repeat (first | with_reducible exact PanicOk.body | with_reducible apply PanicOk.next | with_reducible apply PanicOk.block)) (OpV.move rfl) rfl (by kernel_rfl) ?_
      refine TA.takeP (i := 1) (ls := #[true, true, false, false, false, false, false, false, false, false, false, false, false, false]) rfl rfl rfl rfl rfl (by kernel_rfl) (by kernel_rfl) (by kernel_rfl) (by repeat (first | with_reducible exact PanicOk.body | with_reducible apply PanicOk.next | with_reducible apply PanicOk.block)) (OpV.nil rfl) rfl (by kernel_rfl) ?_
      refine TA.takeP (i := 2) (ls := #[true, true, true, false, false, false, false, false, false, false, false, false, false, false]) rfl rfl rfl rfl rfl (by kernel_rfl) (by kernel_rfl) (by kernel_rfl) (by repeat (first | with_reducible exact PanicOk.body | with_reducible apply PanicOk.next | with_reducible apply PanicOk.block)) (OpV.fieldAddr rfl fo_109_1) rfl (by kernel_rfl) ?_
      refine TA.take (i := 3) (ls := #[true, true, true, true, false, false, false, false, false, false, false, false, false, false]) rfl rfl rfl rfl rfl (by kernel_rfl) (by kernel_rfl) (by kernel_rfl) (by kernel_rfl) (by repeat (first | with_reducible exact PanicOk.body | with_reducible apply PanicOk.next | with_reducible apply PanicOk.block)) ((.cons (by first | exact P0 | exact P1 | exact P2 | exact P3 | exact P4) .nil)) (OpV.load pl_3 rfl (by first | exact Cel.blk P0 rfl | exact Cel.blk P1 rfl | exact Cel.blk P2 rfl | exact Cel.blk P3 rfl | exact Cel.blk P4 rfl | exact Cel.frA (hatx _ _ rfl))) rfl (by kernel_rfl) ?_
      refine TA.takeP (i := 4) (ls := #[true, true, true, true, true, false, false, false, false, false, false, false, false, false]) rfl rfl rfl rfl rfl (by kernel_rfl) (by kernel_rfl) (by kernel_rfl) (by repeat (first | with_reducible exact PanicOk.body | with_reducible apply PanicOk.next | with_reducible apply PanicOk.block)) (OpV.move rfl) rfl (by kernel_rfl) ?_
      refine TA.takeP (i := 5) (ls := #[true, true, true, true, true, true, false, false, false, false, false, false, false, false]) rfl rfl rfl rfl rfl (by kernel_rfl) (by kernel_rfl) (by kernel_rfl) (by repeat (first | with_reducible exact PanicOk.body | with_reducible apply PanicOk.next | with_reducible apply PanicOk.block)) (OpV.nil rfl) rfl (by kernel_rfl) ?_
      refine TA.takeP (i := 6) (ls := #[true, true, true, true, true, true, true, false, false, false, false, false, false, false]) rfl rfl rfl rfl rfl (by kernel_rfl) (by kernel_rfl) (by kernel_rfl) (by repeat (first | with_reducible exact PanicOk.body | with_reducible apply PanicOk.next | with_reducible apply PanicOk.block)) (OpV.fieldAddr rfl fo_109_2) rfl (by kernel_rfl) ?_
      refine TA.take (i := 7) (ls := #[true, true, true, true, true, true, true, true, false, false, false, false, false, false]) rfl rfl rfl rfl rfl (by kernel_rfl) (by kernel_rfl) (by kernel_rfl) (by kernel_rfl) (by repeat (first | with_reducible exact PanicOk.body | with_reducible apply PanicOk.next | with_reducible apply PanicOk.block)) ((.cons (by first | exact P0 | exact P1 | exact P2 | exact P3 | exact P4) .nil)) (OpV.load pl_3 rfl (by first | exact Cel.blk P0 rfl | exact Cel.blk P1 rfl | exact Cel.blk P2 rfl | exact Cel.blk P3 rfl | exact Cel.blk P4 rfl | exact Cel.frA (hatx _ _ rfl))) rfl (by kernel_rfl) ?_
      refine TA.takeP (i := 8) (ls := #[true, true, true, true, true, true, true, true, true, false, false, false, false, false]) rfl rfl rfl rfl rfl (by kernel_rfl) (by kernel_rfl) (by kernel_rfl) (by repeat (first | with_reducible exact PanicOk.body | with_reducible apply PanicOk.next | with_reducible apply PanicOk.block)) (OpV.move rfl) rfl (by kernel_rfl) ?_
      refine TA.takeP (i := 9) (ls := #[true, true, true, true, true, true, true, true, true, true, false, false, false, false]) rfl rfl rfl rfl rfl (by kernel_rfl) (by kernel_rfl) (by kernel_rfl) (by repeat (first | with_reducible exact PanicOk.body | with_reducible apply PanicOk.next | with_reducible apply PanicOk.block)) (OpV.sub rfl rfl (by first | exact IntWalk.i64_in _ ⟨by omega, by omega⟩ | rfl)) rfl (by kernel_rfl) ?_
      refine TA.takeP (i := 10) (ls := #[true, true, true, true, true, true, true, true, true, true, true, false, false, false]) rfl rfl rfl rfl rfl (by kernel_rfl) (by kernel_rfl) (by kernel_rfl) (by repeat (first | with_reducible exact PanicOk.body | with_reducible apply PanicOk.next | with_reducible apply PanicOk.block)) (OpV.min rfl rfl) rfl (by kernel_rfl) ?_
      refine TA.said (t := 98) rfl (show _ = Value.int .i64 (fw (cols - 1) k) from rfl) ?_
      refine TA.takeP (i := 11) (ls := #[true, true, true, true, true, true, true, true, true, true, true, true, false, false]) rfl rfl rfl rfl rfl (by kernel_rfl) (by kernel_rfl) (by kernel_rfl) (by repeat (first | with_reducible exact PanicOk.body | with_reducible apply PanicOk.next | with_reducible apply PanicOk.block)) (OpV.build (qs := #[(0, _), (1, _)]) (fun _ f => by simp only [List.map_toArray, List.map_cons, List.map_nil]; rw [f.ev (x := .tmp 91) rfl, f.ev (x := .tmp 98) rfl]) (bld_24_0_1 _ _ )) rfl (by kernel_rfl) ?_
      refine TA.one (i := 12) (ls := #[true, true, true, true, true, true, true, true, true, true, true, true, true, false]) (by kernel_rfl) rfl (by kernel_rfl) (fun w1 => ?_)
      first
        | refine TL.storeAll rfl rfl szz_24 rfl rfl rfl (by first | exact P0 | exact P1 | exact P2 | exact P3 | exact P4) (by rfl) ?_
        | refine TL.store rfl rfl szz_24 rfl rfl rfl (by first | exact P0 | exact P1 | exact P2 | exact P3 | exact P4) (by first | exact Nat.le_of_ble_eq_true rfl | (simp; done) | (simp; omega)) (by simp only [wkL, anL, putL, List.take_succ_cons, List.take_zero, List.drop_succ_cons, List.drop_zero, List.cons_append, List.nil_append, List.length_cons, List.length_nil, Nat.reduceAdd]; rfl) ?_
      refine TL.nil ?_
      refine TA.bar rfl ?_
      refine TA.takeP (i := 13) (ls := #[true, true, true, true, true, true, true, true, true, true, true, true, true, true]) rfl rfl rfl rfl rfl (by kernel_rfl) (by kernel_rfl) (by kernel_rfl) (by repeat (first | with_reducible exact PanicOk.body | with_reducible apply PanicOk.next | with_reducible apply PanicOk.block)) (OpV.assign rfl) rfl (by kernel_rfl) ?_
      refine TA.done (by kernel_rfl) ?_
      refine TE.sub (.cons (t := 6) rfl <| .cons (t := 7) rfl <| .nil) ?_
      refine TE.next ?_
      refine T.ret ?_
      refine TE.retN rfl (.cons (ResV.cellA rfl ag_24 (by first | exact Cels.blk P0 rfl | exact Cels.blk P1 rfl | exact Cels.blk P2 rfl | exact Cels.blk P3 rfl | exact Cels.blk P4 rfl | exact Cels.frA hatx rfl)) <| .cons (ResV.tmp rfl) <| .nil) ?_
      exact fun w1 k1 => ⟨ret_pl (by have h9 : xs[i]? = none := (by simp; omega); rw [placeV, hv9, hp9]; simp [plV, hbq, h9, ← hR2, fw]) (by rw [placeE, hv9, hp9]; rfl), k1.bel⟩
end Go.Proofs.YtdmpodpdpncobaaDoor
