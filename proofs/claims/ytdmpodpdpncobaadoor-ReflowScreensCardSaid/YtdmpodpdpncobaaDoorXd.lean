/-
  The walks of Clone, own, even and Screen. Condition: the package-level tables hold what they were laid with.
-/
import Derived.Test.YtdmpodpdpncobaaDoorRfl
import Derived.Test.YtdmpodpdpncobaaDoorUd
namespace Go.Proofs.YtdmpodpdpncobaaDoor
open Go.RowKit
set_option linter.unusedSimpArgs false
set_option linter.unusedVariables false
theorem go_73 : isGo Tryd.prog 73 = true := by kernel_rfl
theorem go_74 : isGo Tryd.prog 74 = true := by kernel_rfl
theorem go_91 : isGo Tryd.prog 91 = true := by kernel_rfl
theorem sl_35_0 (w : World) : (Instr.buildSlice 35 0 #[]).run Tryd.prog w = .ok (.slice (some ⟨w.heap.size, 0, none⟩) 0 0) (w.alloc (.cells ([] : List Value).toArray 58)) := by kernel_rfl
set_option maxRecDepth 100000 in
set_option maxHeartbeats 1000000 in
theorem clone_c {σ : Nat → Option Obj} {A : Option Addr} {n c : Nat} {xs : List Cl} (w : World) (h : CsR σ A n c xs) (hs : ∀ b o, σ b = some o → w.heap[b]? = some o) (hn : n ≤ 1073741824) : Calls Tryd.prog 91 #[.slice A n c] w (fun e w' => ∃ v : SV, e = .returned v.v ∧ (v.n = n ∧ CsR v.σ v.A v.n v.c xs ∧ (0 < n → ∃ b, v.A = some ⟨b, 0, none⟩ ∧ OwR 58 v.σ b xs)) ∧ KOk w [.own v.σ] w') := by
 have hn63 := h.2.1
 have hc63 := h.2.2.1
 have hl1 := h.1
 refine calls_T (vs := [.slice A n c]) (L0 := [(0, .slice A n c)]) Tryd.func91 rfl rfl rfl rfl (KOk.fr1 hs) ?_
 refine T.seq ?_
 refine T.region ?_
 refine TL.val (OpV.assign rfl) rfl ?_
 refine TL.nil ?_
 refine TE.next ?_
 refine T.seq ?_
 refine T.seq ?_
 refine T.region ?_
 refine TL.val (OpV.move rfl) rfl ?_
 refine TL.val (opv_slnil Tryd.underlying35 rfl rfl) rfl ?_
 refine TL.nil ?_
 refine TE.next ?_
 refine T.cond rfl ?_ ?_
 ·
  intro ht4
  have hA : A = none := by simpa using ht4
  have hc0 := h.2.2.2.1 hA
  have hx0 : xs = [] := List.length_eq_zero_iff.1 (by omega)
  refine T.seq ?_
  refine T.region ?_
  refine TL.val (OpV.assign rfl) rfl ?_
  refine TL.nil ?_
  refine TE.next ?_
  refine T.ret ?_
  refine TE.pass_ret ?_
  refine TE.ret1 rfl (ResV.tmp rfl) ?_
  exact fun wz kz => ⟨⟨none, 0, 0, fun _ => none⟩, rfl, ⟨by simp only; omega, by rw [hx0]; exact CsR_nil _, fun h9 => by omega⟩, Perm.kle (.cons .here .nil) wz (KOk.ownNil kz)⟩
 ·
  intro ht4
  refine T.skip ?_
  refine TE.next ?_
  refine T.seq ?_
  refine T.region ?_
  refine TL.slit (qs := #[]) (fun _ _ => by simp) (sl_35_0) rfl ?_
  intro b5
  refine TL.kle (Kle.blkRow (m := 0) (z := 16) rfl (by decide)) ?_
  refine TL.val (OpV.move rfl) rfl ?_
  obtain ⟨ti7, hi7, hz7, hs7, hb7⟩ := info_parts inf_58
  refine TL.append rfl rfl Tryd.underlying35 hi7 hz7 hs7 hb7 rfl (by omega) (by first | exact P0 | exact P1 | exact P2 | exact P3) (Src.cs (by first | exact P0 | exact P1 | exact P2 | exact P3 | exact P4 | exact P5 | exact P6 | exact P7) h) (fun h9 => h.2.2.2.1 h9) (one_fl _) (by omega) (by omega) rfl ?_
  clear hi7 hz7 hs7 hb7 ti7
  intro A7 c7 hn7
  refine TL.val (OpV.assign rfl) rfl ?_
  refine TL.nil ?_
  refine TE.next ?_
  refine T.ret ?_
  refine TE.ret1 rfl (ResV.tmp rfl) ?_
  intro wz kz
  rw [Nat.zero_add, List.nil_append] at kz
  by_cases h0 : 0 < n
  · obtain ⟨bq, csq, π, ⟨r1, r2, r4, r5, r6, r7⟩, k2⟩ := rowIntoW (e := 58) (z := 16) (A := A7) (m := n) (c := c7) (xs := fl xs) (τ := fun _ => none) (KOk.ownNil kz) (by first | exact P0 | exact P1 | exact P2 | exact P3 | exact P4 | exact P5 | exact P6 | exact P7) (by first | exact P0 | exact P1 | exact P2 | exact P3 | exact P4 | exact P5 | exact P6 | exact P7) h0
    exact ⟨⟨A7, n, c7, π⟩, by rw [Nat.zero_add]; rfl, ⟨rfl, CsR.of_row r2 hl1, fun _ => ⟨bq, r1, csq, r4, r5⟩⟩, Perm.kle (.cons .here .nil) wz k2⟩
  · obtain ⟨π, r2, k2⟩ := KOk.rowOwn (kz.pick (e := .row 58 16 A7 n c7 (fl xs)) (by first | exact P0 | exact P1 | exact P2 | exact P3 | exact P4 | exact P5 | exact P6 | exact P7))
    exact ⟨⟨A7, n, c7, π⟩, by rw [Nat.zero_add]; rfl, ⟨rfl, CsR.of_row r2 hl1, fun h9 => absurd h9 h0⟩, Perm.kle (.cons .here .nil) wz k2⟩
set_option maxRecDepth 100000 in
set_option maxHeartbeats 400000 in
theorem own_c {σ : Nat → Option Obj} (x : LnA) (w : World) (h : CsR σ x.A x.n x.c x.cells) (hs : ∀ b o, σ b = some o → w.heap[b]? = some o) (hn : x.n ≤ 1073741824) : Calls Tryd.prog 74 #[.agg x.l.toArray] w (fun e w' => ∃ v : SV, e = .returned (.agg (LnA.mk v.A x.n v.c x.cells x.soft).l.toArray) ∧ (CsR v.σ v.A x.n v.c x.cells ∧ (0 < x.n → ∃ b, v.A = some ⟨b, 0, none⟩ ∧ OwR 58 v.σ b x.cells)) ∧ KOk w [.own v.σ] w') := by
 refine calls_T (vs := [.agg x.l.toArray]) (L0 := [(0, .agg x.l.toArray)]) Tryd.func74 rfl rfl rfl rfl (KOk.fr1 hs) ?_
 refine T.seq ?_
 refine T.region ?_
 refine TL.boxA rfl rfl ?_
 intro b1
 refine TL.alloc zo_65 rfl ?_
 intro b2
 refine TL.nil ?_
 refine TE.next ?_
 refine T.seq ?_
 refine T.region ?_
 refine TL.val (OpV.fieldAddr rfl fo_65_0) rfl ?_
 refine TL.val (OpV.load pl_35 rfl (by first | exact Cel.blk P0 rfl | exact Cel.blk P1 rfl | exact Cel.blk P2 rfl | exact Cel.blk P3 rfl)) rfl ?_
 refine TL.callx (g := 91) rfl go_91 rfl (fun wz k1 => own_x k1 (clone_c wz h (k1.get (e := .fr σ) (by first | exact P0 | exact P1 | exact P2 | exact P3 | exact P4 | exact P5 | exact P6 | exact P7)) hn)) rfl ?_
 rintro ⟨A9, n9, c9, ρ9⟩ ⟨e1, e2, e3⟩
 replace e1 : n9 = x.n := e1
 replace e2 : CsR ρ9 A9 n9 c9 x.cells := e2
 subst e1
 refine TL.said (t := 5) rfl (show SV.v ⟨A9, x.n, c9, ρ9⟩ = Value.slice A9 x.n c9 from rfl) ?_
 refine TL.val (OpV.fieldAddr rfl fo_65_0) rfl ?_
 refine TL.store rfl rfl szz_35 rfl rfl rfl (by first | exact P0 | exact P1 | exact P2 | exact P3) (by first | exact Nat.le_of_ble_eq_true rfl | (simp; done) | (simp; omega)) (by simp only [LnA.l, putL, List.take_succ_cons, List.take_zero, List.drop_succ_cons, List.drop_zero, List.cons_append, List.nil_append, List.length_cons, List.length_nil, Nat.reduceAdd]; rfl) ?_
 refine TL.nil ?_
 refine TE.next ?_
 refine T.seq ?_
 refine T.region ?_
 refine TL.val (OpV.loadA ag_65 rfl (by first | exact Cels.blk P0 rfl | exact Cels.blk P1 rfl | exact Cels.blk P2 rfl | exact Cels.blk P3 rfl)) rfl ?_
 first
   | refine TL.storeAll rfl rfl szz_65 rfl rfl rfl (by first | exact P0 | exact P1 | exact P2 | exact P3) (by rfl) ?_
   | refine TL.store rfl rfl szz_65 rfl rfl rfl (by first | exact P0 | exact P1 | exact P2 | exact P3) (by first | exact Nat.le_of_ble_eq_true rfl | (simp; done) | (simp; omega)) (by simp only [LnA.l, putL, List.take_succ_cons, List.take_zero, List.drop_succ_cons, List.drop_zero, List.cons_append, List.nil_append, List.length_cons, List.length_nil, Nat.reduceAdd]; rfl) ?_
 refine TL.nil ?_
 refine TE.sub (.cons (t := 2) rfl <| .nil) ?_
 refine TE.next ?_
 refine T.ret ?_
 refine TE.ret1 rfl (ResV.cellA rfl ag_65 (by first | exact Cels.blk P0 rfl | exact Cels.blk P1 rfl | exact Cels.blk P2 rfl | exact Cels.blk P3 rfl)) ?_
 exact fun wz kz => ⟨⟨A9, x.n, c9, ρ9⟩, rfl, ⟨e2, e3⟩, Perm.kle (.cons (by first | exact P0 | exact P1 | exact P2 | exact P3 | exact P4 | exact P5 | exact P6 | exact P7) .nil) wz kz⟩
set_option maxRecDepth 100000 in
set_option maxHeartbeats 1000000 in
theorem even_c {σ : Nat → Option Obj} {A : Option Addr} {n c : Nat} {ls : List LnA} (w : World) (L : LaidW w) (h : LsA σ A n c ls) (hs : ∀ b o, σ b = some o → w.heap[b]? = some o) (hn : n ≤ 131072) : Calls Tryd.prog 73 #[.slice A n c] w (Ret (.bool (evenV (ls.map LnA.ln))) w) := by
 have hn63 := h.1.2.1
 have hc63 := h.1.2.2.1
 have hl1 := h.1.1
 have hXl : (ls.map LnA.ln).length = n := by rw [List.length_map]; exact hl1
 refine calls_T (vs := [.slice A n c]) (L0 := [(0, .slice A n c)]) Tryd.func73 rfl rfl rfl rfl (KOk.fr1 hs) ?_
 refine T.seq ?_
 refine T.region ?_
 refine TL.val (OpV.assign rfl) rfl ?_
 refine TL.nil ?_
 refine TE.next ?_
 refine T.seq ?_
 refine T.seq ?_
 refine T.region ?_
 refine TL.val (OpV.move rfl) rfl ?_
 refine TL.callx (g := 32) rfl go_32 rfl (fun wz k1 => own_x k1 (ulines_c wz (L.below k1.bel) h (k1.get (e := .fr σ) (by first | exact P0 | exact P1 | exact P2 | exact P3 | exact P4 | exact P5 | exact P6 | exact P7)) hn)) rfl ?_
 rintro ⟨A6, n6, c6, ρ⟩ ⟨gs, hgs, hge⟩
 refine TL.said (t := 9) rfl (show _ = Value.tuple #[.slice A6 n6 c6, .int .i64 (linesE (ls.map LnA.ln))] from rfl) ?_
 refine TL.val (OpV.move rfl) rfl ?_
 refine TL.val (OpV.extract rfl rfl) rfl ?_
 refine TL.val (OpV.extract rfl rfl) rfl ?_
 refine TL.val (OpV.assign rfl) rfl ?_
 refine TL.val (OpV.assign rfl) rfl ?_
 refine TL.nil ?_
 refine TE.sub (.cons (t := 0) rfl <| .cons (t := 4) rfl <| .nil) ?_
 refine TE.next ?_
 refine T.seq ?_
 refine T.region ?_
 refine TL.val (OpV.move rfl) rfl ?_
 refine TL.val (OpV.neq rfl rfl) rfl ?_
 refine TL.val (OpV.move rfl) rfl ?_
 refine TL.part (t := 14) rfl ?_ ?_
 ·
  intro hg14
  have hev : evenV (ls.map LnA.ln) = false := by rw [evenV, show vLs (ls.map LnA.ln) = false by cases hv : vLs (ls.map LnA.ln) with | false => rfl | true => (rw [linesE, hv] at hg14; cases hg14)]; rfl
  refine TL.shut rfl rfl ?_
  refine TL.shut rfl rfl ?_
  refine TL.shut rfl rfl ?_
  refine TL.val ((by first | exact OpV.pick_t rfl rfl | exact OpV.pick_f rfl rfl)) rfl ?_
  refine TL.nil ?_
  refine TE.sub (.cons (t := 0) rfl <| .cons (t := 18) rfl <| .nil) ?_
  refine TE.next ?_
  refine T.yes rfl ?_
  refine T.seq ?_
  refine T.region ?_
  refine TL.val (OpV.assign rfl) rfl ?_
  refine TL.nil ?_
  refine TE.next ?_
  refine T.ret ?_
  refine TE.pass_ret ?_
  refine TE.ret1 rfl (ResV.tmp rfl) ?_
  exact fun w1 k1 => ⟨ret_bool hev.symm, k1.bel⟩
 ·
  intro hg14
  have hv : vLs (ls.map LnA.ln) = true := by cases hv : vLs (ls.map LnA.ln) with | true => rfl | false => (rw [linesE, hv] at hg14; cases hg14)
  refine TL.open rfl rfl ?_
  refine TL.val (OpV.move rfl) rfl ?_
  refine TL.open rfl rfl ?_
  refine TL.val (OpV.len Tryd.underlying22 rfl) rfl ?_
  refine TL.open rfl rfl ?_
  refine TL.val (OpV.gtr rfl rfl) rfl ?_
  refine TL.said (t := 17) rfl (show _ = Value.bool false from congrArg Value.bool (decide_eq_false (by omega))) ?_
  refine TL.val ((by first | exact OpV.pick_t rfl rfl | exact OpV.pick_f rfl rfl)) rfl ?_
  refine TL.nil ?_
  refine TE.sub (.cons (t := 0) rfl <| .cons (t := 18) rfl <| .nil) ?_
  refine TE.next ?_
  refine T.no rfl ?_
  refine T.skip ?_
  refine TE.next ?_
  refine T.seq ?_
  refine T.seq ?_
  refine T.region ?_
  refine TL.val (OpV.move rfl) rfl ?_
  refine TL.val (OpV.len Tryd.underlying22 rfl) rfl ?_
  refine TL.val (OpV.move rfl) rfl ?_
  refine TL.nil ?_
  refine TE.next ?_
  refine T.block ?_
  refine T.loop (ι := Nat) (fun i => i ≤ n ∧ ((ls.map LnA.ln).take i).all (fun x => decide (x.cells.length = hdN (ls.map LnA.ln))) = true) (fun i => (n - i)) (fun i => [(0, .slice A n c), (19, .slice A n c), (20, .int .i64 (n : Int)), (21, .int .i64 (i : Int))]) (fun i => [.fr σ]) 0 ⟨Nat.zero_le _, rfl⟩ (.cons (t := 0) rfl <| .cons (t := 19) rfl <| .cons (t := 20) rfl <| .cons (t := 21) rfl <| .nil) (Perm.kle (.cons (by first | exact P0 | exact P1 | exact P2 | exact P3 | exact P4 | exact P5 | exact P6 | exact P7) .nil)) ?_
  rintro i hR
  refine T.seq ?_
  refine T.region ?_
  refine TL.val (OpV.lss rfl rfl) rfl ?_
  refine TL.nil ?_
  refine TE.next ?_
  refine T.seq ?_
  refine T.cond rfl ?_ ?_
  ·
   intro ht22
   obtain ⟨q1, q2⟩ := hR
   have hi : i < n := by have h9 := of_decide_eq_true ht22; omega
   obtain ⟨x, hx⟩ := get_of_lt h.1.1 hi
   obtain ⟨y, hy⟩ := get_of_lt h.1.1 (show 0 < n by omega)
   obtain ⟨b, o, hA, hat⟩ := h.1.2.2.2.2 (by omega)
   obtain ⟨_, rfl, _, hatx⟩ := hat _ x hx
   obtain ⟨_, rfl, _, haty⟩ := hat _ y hy
   have hlx : x.cells.length = x.n := (h.2 x (List.mem_of_getElem? hx)).1
   have hly : y.cells.length = y.n := (h.2 y (List.mem_of_getElem? hy)).1
   have hXx : (ls.map LnA.ln)[i]? = some x.ln := by simp [hx]
   have hXy : (ls.map LnA.ln)[0]? = some y.ln := by simp [hy]
   have hdy := hdN_get hXy
   replace hdy : hdN _ = y.cells.length := hdy
   refine T.skip ?_
   refine TE.next ?_
   refine T.seq ?_
   refine T.block ?_
   refine T.seq ?_
   refine T.region ?_
   refine TL.val (OpV.indexAddr (j := i) se_22 rfl hA rfl rfl (by omega)) rfl ?_
   refine TL.val (OpV.loadA ag_65 rfl (by first | exact Cels.blk P0 rfl | exact Cels.blk P1 rfl | exact Cels.blk P2 rfl | exact Cels.blk P3 rfl | exact Cels.frA hatx rfl | exact Cels.frA haty rfl)) rfl ?_
   refine TL.alloc zo_65 rfl ?_
   intro b6
   first
     | refine TL.storeAll rfl rfl szz_65 rfl rfl rfl (by first | exact P0 | exact P1 | exact P2 | exact P3) (by rfl) ?_
     | refine TL.store rfl rfl szz_65 rfl rfl rfl (by first | exact P0 | exact P1 | exact P2 | exact P3) (by first | exact Nat.le_of_ble_eq_true rfl | (simp; done) | (simp; omega)) (by simp only [LnA.l, putL, List.take_succ_cons, List.take_zero, List.drop_succ_cons, List.drop_zero, List.cons_append, List.nil_append, List.length_cons, List.length_nil, Nat.reduceAdd]; rfl) ?_
   refine TL.nil ?_
   refine TE.next ?_
   refine T.seq ?_
   refine T.quiet mix (by kernel_rfl) ?_
   refine TQ.val (OpV.fieldAddr rfl fo_65_0) rfl ?_
   refine TQ.val (OpV.load pl_35 rfl (by first | exact Cel.blk P0 rfl | exact Cel.blk P1 rfl | exact Cel.blk P2 rfl | exact Cel.blk P3 rfl | exact Cel.frA (hatx _ _ rfl) | exact Cel.frA (haty _ _ rfl))) rfl ?_
   refine TQ.val (OpV.len Tryd.underlying35 rfl) rfl ?_
   refine TQ.val (OpV.move rfl) rfl ?_
   refine TQ.val (OpV.indexAddr (j := 0) se_22 rfl hA rfl rfl (by omega)) rfl ?_
   refine TQ.val (OpV.fieldAddr rfl fo_65_0) rfl ?_
   refine TQ.val (OpV.load pl_35 rfl (by first | exact Cel.blk P0 rfl | exact Cel.blk P1 rfl | exact Cel.blk P2 rfl | exact Cel.blk P3 rfl | exact Cel.frA (hatx _ _ rfl) | exact Cel.frA (haty _ _ rfl))) rfl ?_
   refine TQ.val (OpV.len Tryd.underlying35 rfl) rfl ?_
   refine TQ.val (OpV.neq rfl rfl) rfl ?_
   refine TQ.nil ?_
   refine TE.sub (.cons (t := 0) rfl <| .cons (t := 19) rfl <| .cons (t := 20) rfl <| .cons (t := 21) rfl <| .cons (t := 33) rfl <| .nil) ?_
   refine TE.next ?_
   refine T.cond rfl ?_ ?_
   ·
    intro ht33
    have hev : evenV (ls.map LnA.ln) = false := even_no hXx (show x.cells.length ≠ _ by rw [hdy, hlx, hly]; intro e; have h9 : ((x.n : Int) != (y.n : Int)) = true := ht33; rw [e] at h9; simp at h9)
    refine T.seq ?_
    refine T.region ?_
    refine TL.val (OpV.assign rfl) rfl ?_
    refine TL.nil ?_
    refine TE.next ?_
    refine T.ret ?_
    refine TE.out_ret ?_
    refine TE.pass_ret ?_
    refine TE.pass_ret ?_
    refine TE.out_ret ?_
    refine TE.pass_ret ?_
    refine TE.ret1 rfl (ResV.tmp rfl) ?_
    exact fun w1 k1 => ⟨ret_bool hev.symm, k1.bel⟩
   ·
    intro ht33
    have hxd : decide (x.ln.cells.length = hdN (ls.map LnA.ln)) = true := decide_eq_true (show x.cells.length = _ by rw [hdy, hlx, hly]; have h9 : ((x.n : Int) != (y.n : Int)) = false := ht33; simp at h9; omega)
    refine T.skip ?_
    refine TE.out ?_
    refine TE.next ?_
    refine T.region ?_
    refine TL.val (OpV.add rfl rfl (by first | exact IntWalk.i64_in _ ⟨by omega, by omega⟩ | rfl)) rfl ?_
    refine TL.val (OpV.move rfl) rfl ?_
    refine TL.nil ?_
    exact TE.meet (i + 1) ⟨⟨by omega, by rw [all_step hXx, q2]; exact hxd⟩, by omega⟩ (.cons (t := 0) (by first | rfl | (simp [lk]; done)) <| .cons (t := 19) (by first | rfl | (simp [lk]; done)) <| .cons (t := 20) (by first | rfl | (simp [lk]; done)) <| .cons (t := 21) (by first | rfl | (simp [lk]; done)) <| .nil) (Perm.kle (.cons (by first | exact P0 | exact P1 | exact P2 | exact P3 | exact P4 | exact P5 | exact P6 | exact P7) .nil))
  ·
   intro ht22
   obtain ⟨q1, q2⟩ := hR
   have hall : (ls.map LnA.ln).all (fun x => decide (x.cells.length = hdN (ls.map LnA.ln))) = true := by rwa [List.take_of_length_le (by have h9 := of_decide_eq_false ht22; omega)] at q2
   have hev : evenV (ls.map LnA.ln) = true := by rw [evenV, hv, hall]; rfl
   refine T.exit ?_
   refine TE.pass_exit ?_
   refine TE.pass_exit ?_
   refine TE.here ?_
   refine TE.next ?_
   refine T.seq ?_
   refine T.region ?_
   refine TL.val (OpV.assign rfl) rfl ?_
   refine TL.nil ?_
   refine TE.next ?_
   refine T.ret ?_
   refine TE.ret1 rfl (ResV.tmp rfl) ?_
   exact fun w1 k1 => ⟨ret_bool hev.symm, k1.bel⟩
set_option maxRecDepth 100000 in
set_option maxHeartbeats 1000000 in
theorem reven_c {σ : Nat → Option Obj} {A : Option Addr} {n c : Nat} {ls : List LnA} (w : World) (h : LsA σ A n c ls) (hs : ∀ b o, σ b = some o → w.heap[b]? = some o) (hn : n ≤ 131072) : Calls Tryd.prog 48 #[.slice A n c] w (Ret (.bool (evenV (ls.map LnA.ln))) w) := by
 have hn63 := h.1.2.1
 have hc63 := h.1.2.2.1
 have hl1 := h.1.1
 have hXl : (ls.map LnA.ln).length = n := by rw [List.length_map]; exact hl1
 refine calls_T (vs := [.slice A n c]) (L0 := [(0, .slice A n c)]) Tryd.func48 rfl rfl rfl rfl (KOk.fr1 hs) ?_
 refine T.seq ?_
 refine T.region ?_
 refine TL.val (OpV.assign rfl) rfl ?_
 refine TL.nil ?_
 refine TE.next ?_
 refine T.seq ?_
 refine T.seq ?_
 refine T.region ?_
 refine TL.val (OpV.assign rfl) rfl ?_
 refine TL.nil ?_
 refine TE.next ?_
 refine T.block ?_
 refine T.loop (ι := Nat) (fun i => i ≤ n ∧ ((ls.map LnA.ln).take i).all (fun x => decide (x.cells.length = hdN (ls.map LnA.ln))) = true) (fun i => (n - i)) (fun i => [(0, .slice A n c), (3, .int .i64 (i : Int))]) (fun i => [.fr σ]) 0 ⟨Nat.zero_le _, rfl⟩ (.cons (t := 0) rfl <| .cons (t := 3) rfl <| .nil) (Perm.kle (.cons (by first | exact P0 | exact P1 | exact P2 | exact P3 | exact P4 | exact P5 | exact P6 | exact P7) .nil)) ?_
 rintro i hR
 refine T.seq ?_
 refine T.seq ?_
 refine T.region ?_
 refine TL.val (OpV.move rfl) rfl ?_
 refine TL.val (OpV.move rfl) rfl ?_
 refine TL.val (OpV.len Tryd.underlying22 rfl) rfl ?_
 refine TL.val (OpV.lss rfl rfl) rfl ?_
 refine TL.nil ?_
 refine TE.next ?_
 refine T.cond rfl ?_ ?_
 ·
  intro ht7
  obtain ⟨q1, q2⟩ := hR
  have hi : i < n := by have h9 := of_decide_eq_true ht7; omega
  obtain ⟨x, hx⟩ := get_of_lt h.1.1 hi
  obtain ⟨y, hy⟩ := get_of_lt h.1.1 (show 0 < n by omega)
  obtain ⟨b, o, hA, hat⟩ := h.1.2.2.2.2 (by omega)
  obtain ⟨_, rfl, _, hatx⟩ := hat _ x hx
  obtain ⟨_, rfl, _, haty⟩ := hat _ y hy
  have hlx : x.cells.length = x.n := (h.2 x (List.mem_of_getElem? hx)).1
  have hly : y.cells.length = y.n := (h.2 y (List.mem_of_getElem? hy)).1
  have hXx : (ls.map LnA.ln)[i]? = some x.ln := by simp [hx]
  have hXy : (ls.map LnA.ln)[0]? = some y.ln := by simp [hy]
  have hdy := hdN_get hXy
  replace hdy : hdN _ = y.cells.length := hdy
  refine T.skip ?_
  refine TE.next ?_
  refine T.seq ?_
  refine T.block ?_
  refine T.seq ?_
  refine T.quiet mix (by kernel_rfl) ?_
  refine TQ.val (OpV.move rfl) rfl ?_
  refine TQ.val (OpV.move rfl) rfl ?_
  refine TQ.val (OpV.indexAddr (j := i) se_22 rfl hA rfl rfl (by omega)) rfl ?_
  refine TQ.val (OpV.fieldAddr rfl fo_65_0) rfl ?_
  refine TQ.val (OpV.load pl_35 rfl (by first | exact Cel.blk P0 rfl | exact Cel.blk P1 rfl | exact Cel.blk P2 rfl | exact Cel.blk P3 rfl | exact Cel.frA (hatx _ _ rfl) | exact Cel.frA (haty _ _ rfl))) rfl ?_
  refine TQ.val (OpV.len Tryd.underlying35 rfl) rfl ?_
  refine TQ.val (OpV.move rfl) rfl ?_
  refine TQ.val (OpV.indexAddr (j := 0) se_22 rfl hA rfl rfl (by omega)) rfl ?_
  refine TQ.val (OpV.fieldAddr rfl fo_65_0) rfl ?_
  refine TQ.val (OpV.load pl_35 rfl (by first | exact Cel.blk P0 rfl | exact Cel.blk P1 rfl | exact Cel.blk P2 rfl | exact Cel.blk P3 rfl | exact Cel.frA (hatx _ _ rfl) | exact Cel.frA (haty _ _ rfl))) rfl ?_
  refine TQ.val (OpV.len Tryd.underlying35 rfl) rfl ?_
  refine TQ.val (OpV.neq rfl rfl) rfl ?_
  refine TQ.nil ?_
  refine TE.sub (.cons (t := 0) rfl <| .cons (t := 3) rfl <| .cons (t := 21) rfl <| .nil) ?_
  refine TE.next ?_
  refine T.cond rfl ?_ ?_
  ·
   intro ht21
   have hev : evenV (ls.map LnA.ln) = false := even_no hXx (show x.cells.length ≠ _ by rw [hdy, hlx, hly]; intro e; have h9 : ((x.n : Int) != (y.n : Int)) = true := ht21; rw [e] at h9; simp at h9)
   refine T.seq ?_
   refine T.region ?_
   refine TL.val (OpV.assign rfl) rfl ?_
   refine TL.nil ?_
   refine TE.next ?_
   refine T.ret ?_
   refine TE.out_ret ?_
   refine TE.pass_ret ?_
   refine TE.pass_ret ?_
   refine TE.out_ret ?_
   refine TE.pass_ret ?_
   refine TE.ret1 rfl (ResV.tmp rfl) ?_
   exact fun w1 k1 => ⟨ret_bool hev.symm, k1.bel⟩
  ·
   intro ht21
   have hxd : decide (x.ln.cells.length = hdN (ls.map LnA.ln)) = true := decide_eq_true (show x.cells.length = _ by rw [hdy, hlx, hly]; have h9 : ((x.n : Int) != (y.n : Int)) = false := ht21; simp at h9; omega)
   refine T.skip ?_
   refine TE.out ?_
   refine TE.next ?_
   refine T.region ?_
   refine TL.val (OpV.move rfl) rfl ?_
   refine TL.val (OpV.add rfl rfl (by first | exact IntWalk.i64_in _ ⟨by omega, by omega⟩ | rfl)) rfl ?_
   refine TL.val (OpV.assign rfl) rfl ?_
   refine TL.nil ?_
   exact TE.meet (i + 1) ⟨⟨by omega, by rw [all_step hXx, q2]; exact hxd⟩, by omega⟩ (.cons (t := 0) (by first | rfl | (simp [lk]; done)) <| .cons (t := 3) (by first | rfl | (simp [lk]; done)) <| .nil) (Perm.kle (.cons (by first | exact P0 | exact P1 | exact P2 | exact P3 | exact P4 | exact P5 | exact P6 | exact P7) .nil))
 ·
  intro ht7
  obtain ⟨q1, q2⟩ := hR
  have hall : (ls.map LnA.ln).all (fun x => decide (x.cells.length = hdN (ls.map LnA.ln))) = true := by rwa [List.take_of_length_le (by have h9 := of_decide_eq_false ht7; omega)] at q2
  refine T.exit ?_
  refine TE.pass_exit ?_
  refine TE.pass_exit ?_
  refine TE.here ?_
  refine TE.next ?_
  refine T.seq ?_
  refine T.region ?_
  refine TL.val (OpV.move rfl) rfl ?_
  refine TL.call (g := 16) rfl go_16 rfl (fun w1 k1 => ruvalid_c w1 h (k1.get (e := .fr σ) (by first | exact P0 | exact P1 | exact P2 | exact P3 | exact P4 | exact P5 | exact P6 | exact P7))) rfl ?_
  refine TL.val (OpV.move rfl) rfl ?_
  refine TL.part (t := 24) rfl ?_ ?_
  ·
   intro hg24
   refine TL.open rfl rfl ?_
   refine TL.val (OpV.move rfl) rfl ?_
   refine TL.open rfl rfl ?_
   refine TL.val (OpV.len Tryd.underlying22 rfl) rfl ?_
   refine TL.open rfl rfl ?_
   refine TL.val (OpV.leq rfl rfl) rfl ?_
   refine TL.said (t := 27) rfl (show _ = Value.bool true from congrArg Value.bool (decide_eq_true (by omega))) ?_
   refine TL.val ((by first | exact OpV.pick_t rfl rfl | exact OpV.pick_f rfl rfl)) rfl ?_
   refine TL.val (OpV.assign rfl) rfl ?_
   refine TL.nil ?_
   refine TE.sub (.cons (t := 2) rfl <| .nil) ?_
   refine TE.next ?_
   refine T.ret ?_
   refine TE.ret1 rfl (ResV.tmp rfl) ?_
   exact fun w1 k1 => ⟨ret_bool (by rw [evenV, hall]; first | rw [show vLs (ls.map LnA.ln) = true from hg24]; rfl | rw [show vLs (ls.map LnA.ln) = false from hg24]; rfl), k1.bel⟩
  ·
   intro hg24
   refine TL.shut rfl rfl ?_
   refine TL.shut rfl rfl ?_
   refine TL.shut rfl rfl ?_
   refine TL.val ((by first | exact OpV.pick_t rfl rfl | exact OpV.pick_f rfl rfl)) rfl ?_
   refine TL.val (OpV.assign rfl) rfl ?_
   refine TL.nil ?_
   refine TE.sub (.cons (t := 2) rfl <| .nil) ?_
   refine TE.next ?_
   refine T.ret ?_
   refine TE.ret1 rfl (ResV.tmp rfl) ?_
   exact fun w1 k1 => ⟨ret_bool (by rw [evenV, hall]; first | rw [show vLs (ls.map LnA.ln) = true from hg24]; rfl | rw [show vLs (ls.map LnA.ln) = false from hg24]; rfl), k1.bel⟩
theorem bld30_65 (A : Option Addr) (n c : Nat) (w : World) : (Instr.build 65 #[(0, .slice A n c)]).run Tryd.prog w = .ok (.agg [Value.slice A n c, Value.bool false].toArray) w := by kernel_rfl
set_option maxRecDepth 100000 in
set_option maxHeartbeats 1000000 in
theorem scr_c {σ : Nat → Option Obj} {A : Option Addr} {n c : Nat} {ls : List LnA} (rows must : Int) (w : World) (L : LaidW w) (h : LsA σ A n c ls) (hs : ∀ b o, σ b = some o → w.heap[b]? = some o) (hn : n ≤ 131072) : Calls Tryd.prog 39 #[.slice A n c, .int .i64 rows, .int .i64 must] w (fun e w' => ∃ v : SV, e = .returned (.tuple #[.int .i64 (scrT (ls.map LnA.ln) rows must), v.v, .int .i64 (scrE (ls.map LnA.ln) rows must)]) ∧ (∃ ls', LsO 58 v.σ (hdN (ls.map LnA.ln)) v.A v.n v.c ls' ∧ ls'.map LnA.ln = scrV (ls.map LnA.ln) rows must) ∧ KOk w [.own v.σ] w') := by
 have hn63 := h.1.2.1
 have hc63 := h.1.2.2.1
 have hl1 := h.1.1
 have hXl : (ls.map LnA.ln).length = n := by rw [List.length_map]; exact hl1
 refine calls_T (vs := [.slice A n c, .int .i64 rows, .int .i64 must]) (L0 := [(0, .slice A n c), (1, .int .i64 rows), (2, .int .i64 must)]) Tryd.func39 rfl rfl rfl rfl (KOk.fr1 hs) ?_
 refine T.seq ?_
 refine T.region ?_
 refine TL.val (OpV.assign rfl) rfl ?_
 refine TL.val (OpV.assign rfl) rfl ?_
 refine TL.val (OpV.assign rfl) rfl ?_
 refine TL.nil ?_
 refine TE.next ?_
 refine T.seq ?_
 refine T.block ?_
 refine T.seq ?_
 refine T.region ?_
 refine TL.val (OpV.move rfl) rfl ?_
 refine TL.call (g := 73) rfl go_73 rfl (fun w1 k1 => even_c w1 (L.below k1.bel) h (k1.get (e := .fr σ) (by first | exact P0 | exact P1 | exact P2 | exact P3 | exact P4 | exact P5 | exact P6 | exact P7)) hn) rfl ?_
 refine TL.val (OpV.not rfl) rfl ?_
 refine TL.val (OpV.move rfl) rfl ?_
 refine TL.part (t := 17) rfl ?_ ?_
 ·
  intro hg17
  have hev : evenV (ls.map LnA.ln) = false := by simpa using hg17
  have hse : scrE (ls.map LnA.ln) rows must = 2 := by rw [scrE, hev, Bool.false_and, if_neg (by decide)]
  refine TL.shut rfl rfl ?_
  refine TL.shut rfl rfl ?_
  refine TL.val ((by first | exact OpV.pick_t rfl rfl | exact OpV.pick_f rfl rfl)) rfl ?_
  refine TL.val (OpV.move rfl) rfl ?_
  refine TL.shut rfl rfl ?_
  refine TL.shut rfl rfl ?_
  refine TL.val ((by first | exact OpV.pick_t rfl rfl | exact OpV.pick_f rfl rfl)) rfl ?_
  refine TL.val (OpV.assign rfl) rfl ?_
  refine TL.nil ?_
  refine TE.sub (.cons (t := 0) rfl <| .cons (t := 1) rfl <| .cons (t := 2) rfl <| .cons (t := 7) rfl <| .cons (t := 13) rfl <| .nil) ?_
  refine TE.next ?_
  refine T.yes rfl ?_
  refine T.seq ?_
  refine T.region ?_
  refine TL.val (OpV.assign rfl) rfl ?_
  refine TL.val (OpV.assign rfl) rfl ?_
  refine TL.val (OpV.assign rfl) rfl ?_
  refine TL.nil ?_
  refine TE.next ?_
  refine T.ret ?_
  refine TE.out_ret ?_
  refine TE.pass_ret ?_
  refine TE.retN rfl (.cons (ResV.tmp rfl) <| .cons (ResV.tmp rfl) <| .cons (ResV.tmp rfl) <| .nil) ?_
  exact fun wz kz => ⟨⟨none, 0, 0, fun _ => none⟩, by rw [scrT, hse]; rfl, ⟨[], LsO.nil, by rw [scrV, hse]; rfl⟩, Perm.kle (.cons .here .nil) wz (KOk.ownNil kz)⟩
 ·
  intro hg17
  have hev : evenV (ls.map LnA.ln) = true := by simpa using hg17
  refine TL.open rfl rfl ?_
  refine TL.val (OpV.move rfl) rfl ?_
  refine TL.open rfl rfl ?_
  refine TL.val (OpV.lss rfl rfl) rfl ?_
  refine TL.val ((by first | exact OpV.pick_t rfl rfl | exact OpV.pick_f rfl rfl)) rfl ?_
  refine TL.val (OpV.move rfl) rfl ?_
  refine TL.part (t := 21) rfl ?_ ?_
  ·
   intro hg21
   have hse : scrE (ls.map LnA.ln) rows must = 2 := by rw [scrE, decide_eq_false (by have h9 := of_decide_eq_true hg21; omega), Bool.false_and, Bool.and_false, if_neg (by decide)]
   refine TL.shut rfl rfl ?_
   refine TL.shut rfl rfl ?_
   refine TL.val ((by first | exact OpV.pick_t rfl rfl | exact OpV.pick_f rfl rfl)) rfl ?_
   refine TL.val (OpV.assign rfl) rfl ?_
   refine TL.nil ?_
   refine TE.sub (.cons (t := 0) rfl <| .cons (t := 1) rfl <| .cons (t := 2) rfl <| .cons (t := 7) rfl <| .cons (t := 13) rfl <| .nil) ?_
   refine TE.next ?_
   refine T.yes rfl ?_
   refine T.seq ?_
   refine T.region ?_
   refine TL.val (OpV.assign rfl) rfl ?_
   refine TL.val (OpV.assign rfl) rfl ?_
   refine TL.val (OpV.assign rfl) rfl ?_
   refine TL.nil ?_
   refine TE.next ?_
   refine T.ret ?_
   refine TE.out_ret ?_
   refine TE.pass_ret ?_
   refine TE.retN rfl (.cons (ResV.tmp rfl) <| .cons (ResV.tmp rfl) <| .cons (ResV.tmp rfl) <| .nil) ?_
   exact fun wz kz => ⟨⟨none, 0, 0, fun _ => none⟩, by rw [scrT, hse]; rfl, ⟨[], LsO.nil, by rw [scrV, hse]; rfl⟩, Perm.kle (.cons .here .nil) wz (KOk.ownNil kz)⟩
  ·
   intro hg21
   refine TL.open rfl rfl ?_
   refine TL.val (OpV.move rfl) rfl ?_
   refine TL.open rfl rfl ?_
   refine TL.val (OpV.gtr rfl rfl) rfl ?_
   refine TL.val ((by first | exact OpV.pick_t rfl rfl | exact OpV.pick_f rfl rfl)) rfl ?_
   refine TL.val (OpV.assign rfl) rfl ?_
   refine TL.nil ?_
   refine TE.sub (.cons (t := 0) rfl <| .cons (t := 1) rfl <| .cons (t := 2) rfl <| .cons (t := 7) rfl <| .cons (t := 13) rfl <| .nil) ?_
   refine TE.next ?_
   refine T.cond rfl ?_ ?_
   ·
    intro ht13
    have hse : scrE (ls.map LnA.ln) rows must = 2 := by rw [scrE, decide_eq_false (show ¬ rows ≤ 1000 by have h9 := of_decide_eq_true ht13; omega), Bool.and_false, Bool.and_false, if_neg (by decide)]
    refine T.seq ?_
    refine T.region ?_
    refine TL.val (OpV.assign rfl) rfl ?_
    refine TL.val (OpV.assign rfl) rfl ?_
    refine TL.val (OpV.assign rfl) rfl ?_
    refine TL.nil ?_
    refine TE.next ?_
    refine T.ret ?_
    refine TE.out_ret ?_
    refine TE.pass_ret ?_
    refine TE.retN rfl (.cons (ResV.tmp rfl) <| .cons (ResV.tmp rfl) <| .cons (ResV.tmp rfl) <| .nil) ?_
    exact fun wz kz => ⟨⟨none, 0, 0, fun _ => none⟩, by rw [scrT, hse]; rfl, ⟨[], LsO.nil, by rw [scrV, hse]; rfl⟩, Perm.kle (.cons .here .nil) wz (KOk.ownNil kz)⟩
   ·
    intro ht13
    have e1 := of_decide_eq_false hg21
    have e2 := of_decide_eq_false ht13
    refine T.seq ?_
    refine T.region ?_
    refine TL.val (OpV.move rfl) rfl ?_
    refine TL.val (OpV.lss rfl rfl) rfl ?_
    refine TL.val (OpV.move rfl) rfl ?_
    refine TL.part (t := 28) rfl ?_ ?_
    ·
     intro hg28
     have hse : scrE (ls.map LnA.ln) rows must = 3 := by rw [scrE, hev, decide_eq_true (show 1 ≤ rows by omega), decide_eq_true (show rows ≤ 1000 by omega), decide_eq_false (show ¬ 0 ≤ must by have h9 := of_decide_eq_true hg28; omega)]; rfl
     refine TL.shut rfl rfl ?_
     refine TL.shut rfl rfl ?_
     refine TL.shut rfl rfl ?_
     refine TL.shut rfl rfl ?_
     refine TL.val ((by first | exact OpV.pick_t rfl rfl | exact OpV.pick_f rfl rfl)) rfl ?_
     refine TL.val (OpV.assign rfl) rfl ?_
     refine TL.nil ?_
     refine TE.sub (.cons (t := 0) rfl <| .cons (t := 1) rfl <| .cons (t := 2) rfl <| .cons (t := 7) rfl <| .cons (t := 25) rfl <| .nil) ?_
     refine TE.next ?_
     refine T.yes rfl ?_
     refine T.seq ?_
     refine T.region ?_
     refine TL.val (OpV.assign rfl) rfl ?_
     refine TL.val (OpV.assign rfl) rfl ?_
     refine TL.val (OpV.assign rfl) rfl ?_
     refine TL.nil ?_
     refine TE.next ?_
     refine T.ret ?_
     refine TE.out_ret ?_
     refine TE.pass_ret ?_
     refine TE.retN rfl (.cons (ResV.tmp rfl) <| .cons (ResV.tmp rfl) <| .cons (ResV.tmp rfl) <| .nil) ?_
     exact fun wz kz => ⟨⟨none, 0, 0, fun _ => none⟩, by rw [scrT, hse]; rfl, ⟨[], LsO.nil, by rw [scrV, hse]; rfl⟩, Perm.kle (.cons .here .nil) wz (KOk.ownNil kz)⟩
    ·
     intro hg28
     refine TL.open rfl rfl ?_
     refine TL.val (OpV.move rfl) rfl ?_
     refine TL.open rfl rfl ?_
     refine TL.val (OpV.move rfl) rfl ?_
     refine TL.open rfl rfl ?_
     refine TL.val (OpV.len Tryd.underlying22 rfl) rfl ?_
     refine TL.open rfl rfl ?_
     refine TL.val (OpV.geq rfl rfl) rfl ?_
     refine TL.val ((by first | exact OpV.pick_t rfl rfl | exact OpV.pick_f rfl rfl)) rfl ?_
     refine TL.val (OpV.assign rfl) rfl ?_
     refine TL.nil ?_
     refine TE.sub (.cons (t := 0) rfl <| .cons (t := 1) rfl <| .cons (t := 2) rfl <| .cons (t := 7) rfl <| .cons (t := 25) rfl <| .nil) ?_
     refine TE.next ?_
     refine T.cond rfl ?_ ?_
     ·
      intro ht25
      have hse : scrE (ls.map LnA.ln) rows must = 3 := by rw [scrE, hev, decide_eq_true (show 1 ≤ rows by omega), decide_eq_true (show rows ≤ 1000 by omega), decide_eq_false (show ¬ must < _ by rw [hXl]; have h9 := of_decide_eq_true ht25; omega), Bool.and_false]; rfl
      refine T.seq ?_
      refine T.region ?_
      refine TL.val (OpV.assign rfl) rfl ?_
      refine TL.val (OpV.assign rfl) rfl ?_
      refine TL.val (OpV.assign rfl) rfl ?_
      refine TL.nil ?_
      refine TE.next ?_
      refine T.ret ?_
      refine TE.out_ret ?_
      refine TE.pass_ret ?_
      refine TE.retN rfl (.cons (ResV.tmp rfl) <| .cons (ResV.tmp rfl) <| .cons (ResV.tmp rfl) <| .nil) ?_
      exact fun wz kz => ⟨⟨none, 0, 0, fun _ => none⟩, by rw [scrT, hse]; rfl, ⟨[], LsO.nil, by rw [scrV, hse]; rfl⟩, Perm.kle (.cons .here .nil) wz (KOk.ownNil kz)⟩
     ·
      intro ht25
      have e3 := of_decide_eq_false hg28
      have e4 := of_decide_eq_false ht25
      obtain ⟨r, rfl⟩ : ∃ r : Nat, rows = (r : Int) := ⟨rows.toNat, by omega⟩
      have hse : scrE (ls.map LnA.ln) (r : Int) must = 0 := by rw [scrE, hev, decide_eq_true (show (1 : Int) ≤ r by omega), decide_eq_true (show (r : Int) ≤ 1000 by omega), decide_eq_true (show 0 ≤ must by omega), decide_eq_true (show must < _ by rw [hXl]; omega)]; rfl
      obtain ⟨tp, htp⟩ : ∃ q : Nat, topV (n : Int) (r : Int) must = (q : Int) := ⟨(topV (n : Int) (r : Int) must).toNat, by unfold topV; (repeat' split) <;> omega⟩
      have htn : (tp : Int) ≤ must := by rw [← htp]; unfold topV; (repeat' split) <;> omega
      obtain ⟨hi, hhi⟩ : ∃ q, q = min n (tp + r) := ⟨_, rfl⟩
      obtain ⟨n5, hn5⟩ : ∃ q, q = hi - tp := ⟨_, rfl⟩
      have hsl := SlR.slice h.1 (lo := tp) (hi := hi) (by omega) (by omega)
      obtain ⟨ks, hks⟩ : ∃ q, q = (ls.take hi).drop tp := ⟨_, rfl⟩
      obtain ⟨A5, hA5⟩ : ∃ q, q = subA A c tp 2 := ⟨_, rfl⟩
      rw [← hks, ← hA5, ← hn5] at hsl
      have hkm : ∀ l ∈ ks, l ∈ ls := fun l hl => by rw [hks] at hl; exact List.mem_of_mem_take (List.mem_of_mem_drop hl)
      have hkl := hsl.1
      have hvX : vLs (ls.map LnA.ln) = true := by rw [evenV, Bool.and_eq_true] at hev; exact hev.1
      obtain ⟨m, hm⟩ : ∃ q, q = hdN (ls.map LnA.ln) := ⟨_, rfl⟩
      have hrow : ∀ l ∈ ls, l.n = m ∧ l.cells.length = l.n ∧ l.n ≤ 1000 := fun l hl => by obtain ⟨i, hi, e⟩ := List.getElem_of_mem hl; have h9 := even_row hev (i := i) (x := l.ln) (by rw [List.getElem?_map, List.getElem?_eq_getElem hi, e]; rfl); have h8 := (h.2 l hl).1; have h7 := vLs_row hvX (List.mem_map_of_mem (f := LnA.ln) hl); replace h9 : l.cells.length = _ := h9; replace h7 : l.cells.length ≤ 1000 := h7; omega
      refine T.skip ?_
      refine TE.out ?_
      refine TE.next ?_
      refine T.seq ?_
      refine T.region ?_
      refine TL.val (OpV.move rfl) rfl ?_
      refine TL.val (OpV.len Tryd.underlying22 rfl) rfl ?_
      refine TL.val (OpV.move rfl) rfl ?_
      refine TL.val (OpV.sub rfl rfl (by first | exact IntWalk.i64_in _ ⟨by omega, by omega⟩ | rfl)) rfl ?_
      refine TL.val (OpV.max rfl rfl) rfl ?_
      refine TL.val (OpV.move rfl) rfl ?_
      refine TL.val (OpV.min rfl rfl) rfl ?_
      refine TL.val (OpV.assign rfl) rfl ?_
      refine TL.said (t := 6) rfl (show _ = Value.int .i64 (tp : Int) from congrArg _ htp) ?_
      refine TL.nil ?_
      refine TE.sub (.cons (t := 0) rfl <| .cons (t := 1) rfl <| .cons (t := 6) rfl <| .cons (t := 7) rfl <| .nil) ?_
      refine TE.next ?_
      refine T.seq ?_
      refine T.seq ?_
      refine T.region ?_
      refine TL.val (OpV.move rfl) rfl ?_
      refine TL.val (OpV.move rfl) rfl ?_
      refine TL.val (OpV.move rfl) rfl ?_
      refine TL.val (OpV.len Tryd.underlying22 rfl) rfl ?_
      refine TL.val (OpV.move rfl) rfl ?_
      refine TL.val (OpV.move rfl) rfl ?_
      refine TL.val (OpV.add rfl rfl (by first | exact IntWalk.i64_in _ ⟨by omega, by omega⟩ | rfl)) rfl ?_
      refine TL.val (OpV.min rfl rfl) rfl ?_
      refine TL.val (OpV.sliceLH (lo := tp) (hi := hi) se_22 rfl rfl rfl rfl (by split <;> omega) (by omega) (by omega)) rfl ?_
      refine TL.said (t := 49) rfl (show _ = Value.slice A5 n5 (c - tp) by rw [← hA5, hn5]) ?_
      refine TL.val (OpV.len Tryd.underlying22 rfl) rfl ?_
      refine TL.val (OpV.move rfl) rfl ?_
      refine TL.nil ?_
      refine TE.sub (.cons (t := 0) rfl <| .cons (t := 1) rfl <| .cons (t := 6) rfl <| .cons (t := 7) rfl <| .cons (t := 49) rfl <| .cons (t := 50) rfl <| .cons (t := 51) rfl <| .nil) ?_
      refine TE.next ?_
      refine T.block ?_
      refine T.loop (ι := Nat × FV) (fun ⟨q, As, cs, os, τ⟩ => q ≤ n5 ∧ os.length = q ∧ os.map LnA.ln = (ks.take q).map LnA.ln ∧ RO 58 τ m os ∧ (As = none → cs = 0)) (fun ⟨q, As, cs, os, τ⟩ => (n5 - q)) (fun ⟨q, As, cs, os, τ⟩ => [(0, .slice A n c), (1, .int .i64 (r : Int)), (6, .int .i64 (tp : Int)), (7, .slice As os.length cs), (49, .slice A5 n5 (c - tp)), (50, .int .i64 (n5 : Int)), (51, .int .i64 (q : Int))]) (fun ⟨q, As, cs, os, τ⟩ => [.row 65 2 As os.length cs (fll os), .own τ, .fr σ]) (0, FV.mk none 0 [] (fun _ => none)) ⟨Nat.zero_le _, rfl, rfl, RO.nil, fun _ => rfl⟩ (.cons (t := 0) rfl <| .cons (t := 1) rfl <| .cons (t := 6) rfl <| .cons (t := 7) rfl <| .cons (t := 49) rfl <| .cons (t := 50) rfl <| .cons (t := 51) rfl <| .nil) ((fun wz kz => Perm.kle (.cons (by first | exact P0 | exact P1 | exact P2 | exact P3 | exact P4 | exact P5 | exact P6 | exact P7) (.cons (by first | exact P0 | exact P1 | exact P2 | exact P3 | exact P4 | exact P5 | exact P6 | exact P7) (.cons (by first | exact P0 | exact P1 | exact P2 | exact P3 | exact P4 | exact P5 | exact P6 | exact P7) .nil))) wz (Kle.nilRow 65 2 wz (KOk.ownNil kz)))) ?_
      rintro ⟨q, As, cs, os, τ⟩ hR
      refine T.seq ?_
      refine T.region ?_
      refine TL.val (OpV.lss rfl rfl) rfl ?_
      refine TL.nil ?_
      refine TE.next ?_
      refine T.seq ?_
      refine T.cond rfl ?_ ?_
      ·
       intro ht52
       obtain ⟨q1, q2, q3, q4, q5⟩ := hR
       have hq : q < n5 := by have h9 := of_decide_eq_true ht52; omega
       obtain ⟨x, hx⟩ := get_of_lt hsl.1 hq
       obtain ⟨b2, o2, hA2, hat2⟩ := hsl.2.2.2.2 (by omega)
       obtain ⟨_, rfl, _, hatx⟩ := hat2 _ x hx
       have hxl := hkm x (List.mem_of_getElem? hx)
       have hcx := h.2 x hxl
       have hxm := (hrow x hxl).1
       have hx1000 := (hrow x hxl).2.2
       refine T.skip ?_
       refine TE.next ?_
       refine T.seq ?_
       refine T.block ?_
       refine T.seq ?_
       refine T.region ?_
       refine TL.val (OpV.indexAddr (j := q) se_22 rfl hA2 rfl rfl (by omega)) rfl ?_
       refine TL.val (OpV.loadA ag_65 rfl (by first | exact Cels.blk P0 rfl | exact Cels.blk P1 rfl | exact Cels.blk P2 rfl | exact Cels.blk P3 rfl | exact Cels.blk P4 rfl | exact Cels.blk P5 rfl | exact Cels.blk P6 rfl | exact Cels.frA hatx rfl | exact Cels.frA hatz rfl)) rfl ?_
       refine TL.alloc zo_65 rfl ?_
       intro b10
       first
         | refine TL.storeAll rfl rfl szz_65 rfl rfl rfl (by first | exact P0 | exact P1 | exact P2 | exact P3 | exact P4 | exact P5 | exact P6) (by rfl) ?_
         | refine TL.store rfl rfl szz_65 rfl rfl rfl (by first | exact P0 | exact P1 | exact P2 | exact P3 | exact P4 | exact P5 | exact P6) (by first | exact Nat.le_of_ble_eq_true rfl | (simp; done) | (simp; omega)) (by simp only [LnA.l, putL, List.take_succ_cons, List.take_zero, List.drop_succ_cons, List.drop_zero, List.cons_append, List.nil_append, List.length_cons, List.length_nil, Nat.reduceAdd]; rfl) ?_
       refine TL.nil ?_
       refine TE.next ?_
       refine T.region ?_
       refine TL.val (OpV.move rfl) rfl ?_
       refine TL.val (OpV.loadA ag_65 rfl (by first | exact Cels.blk P0 rfl | exact Cels.blk P1 rfl | exact Cels.blk P2 rfl | exact Cels.blk P3 rfl | exact Cels.blk P4 rfl | exact Cels.blk P5 rfl | exact Cels.blk P6 rfl | exact Cels.frA hatx rfl | exact Cels.frA hatz rfl)) rfl ?_
       refine TL.callx (g := 74) rfl go_74 rfl (fun wz k1 => own_x k1 (own_c x wz hcx (k1.get (e := .fr σ) (by first | exact P0 | exact P1 | exact P2 | exact P3 | exact P4 | exact P5 | exact P6 | exact P7)) (by omega))) rfl ?_
       rintro ⟨A9, n9, c9, ρ9⟩ ⟨e5, e6⟩
       replace e5 : CsR ρ9 A9 x.n c9 x.cells := e5
       refine TL.said (t := 57) rfl (show _ = Value.agg (LnA.mk A9 x.n c9 x.cells x.soft).l.toArray from rfl) ?_
       refine TL.slit (qs := #[(0, _)]) (fun _ f => by simp only [List.map_toArray, List.map_cons, List.map_nil]; rw [f.ev (x := .tmp 57) rfl]) (sl_22_1_0 (LnA.mk A9 x.n c9 x.cells x.soft)) rfl ?_
       intro b58
       obtain ⟨ti59, hi59, hz59, hs59, hb59⟩ := info_parts inf_65
       refine TL.append rfl rfl Tryd.underlying22 hi59 hz59 hs59 hb59 rfl (by omega) (by first | exact P0 | exact P1 | exact P2 | exact P3 | exact P4 | exact P5 | exact P6) (by first | exact Src.nil | exact Src.blk P0 rfl | exact Src.blk P1 rfl | exact Src.blk P2 rfl | exact Src.blk P3 rfl | exact Src.blk P4 rfl | exact Src.blk P5 rfl | exact Src.blk P6 rfl | exact Src.row P0 | exact Src.row P1 | exact Src.row P2 | exact Src.row P3 | exact Src.row P4 | exact Src.row P5 | exact Src.row P6) (fun h => by cases h) rfl (by omega) (by omega) rfl ?_
       clear hi59 hz59 hs59 hb59 ti59
       intro A59 c59 hn59
       refine TL.val (OpV.assign rfl) rfl ?_
       refine TL.nil ?_
       refine TE.out ?_
       refine TE.sub (.cons (t := 0) rfl <| .cons (t := 1) rfl <| .cons (t := 6) rfl <| .cons (t := 7) rfl <| .cons (t := 49) rfl <| .cons (t := 50) rfl <| .cons (t := 51) rfl <| .nil) ?_
       refine TE.next ?_
       refine T.ex (ι := Nat → Option Obj) (R := fun π => RO 58 π m (os ++ [(LnA.mk A9 x.n c9 x.cells x.soft)])) (K2 := fun π => [.row 65 2 A59 (os.length + 1) c59 (fll os ++ (LnA.mk A9 x.n c9 x.cells x.soft).l), .own π, .fr σ]) (fun wz kz => ?_) ?_
       · skip
         obtain ⟨π, ⟨f1, f2, f3⟩, k2⟩ := own2d ((kz.pick (e := .own τ) (by first | exact P0 | exact P1 | exact P2 | exact P3 | exact P4 | exact P5 | exact P6 | exact P7)).pick (e := .own ρ9) (by first | exact P0 | exact P1 | exact P2 | exact P3 | exact P4 | exact P5 | exact P6 | exact P7))
         exact ⟨π, q4.snoc f1 f2 f3 e5 hxm (fun h9 => e6 (by omega)), Perm.kle (.cons (by first | exact P0 | exact P1 | exact P2 | exact P3 | exact P4 | exact P5 | exact P6 | exact P7) (.cons (by first | exact P0 | exact P1 | exact P2 | exact P3 | exact P4 | exact P5 | exact P6 | exact P7) (.cons (by first | exact P0 | exact P1 | exact P2 | exact P3 | exact P4 | exact P5 | exact P6 | exact P7) .nil))) wz k2⟩
       rintro π hπ
       replace hπ : RO 58 π m (os ++ [(LnA.mk A9 x.n c9 x.cells x.soft)]) := hπ
       refine T.region ?_
       refine TL.val (OpV.add rfl rfl (by first | exact IntWalk.i64_in _ ⟨by omega, by omega⟩ | rfl)) rfl ?_
       refine TL.val (OpV.move rfl) rfl ?_
       refine TL.nil ?_
       exact TE.meet (q + 1, FV.mk A59 c59 (os ++ [(LnA.mk A9 x.n c9 x.cells x.soft)]) π) ⟨⟨by omega, by rw [List.length_append, q2]; rfl, by rw [List.map_append, q3, take_snoc hx, List.map_append]; rfl, hπ, hn59⟩, by (try simp only); omega⟩ (.cons (t := 0) (by first | rfl | (simp [lk]; done)) <| .cons (t := 1) (by first | rfl | (simp [lk]; done)) <| .cons (t := 6) (by first | rfl | (simp [lk]; done)) <| .cons (t := 7) (by simp only [List.length_append, List.length_cons, List.length_nil]; rfl) <| .cons (t := 49) (by first | rfl | (simp [lk]; done)) <| .cons (t := 50) (by first | rfl | (simp [lk]; done)) <| .cons (t := 51) (by first | rfl | (simp [lk]; done)) <| .nil) ((by simp only [fll_snoc, List.length_append, List.length_cons, List.length_nil]; exact Perm.kle (.cons (by first | exact P0 | exact P1 | exact P2 | exact P3 | exact P4 | exact P5 | exact P6 | exact P7) (.cons (by first | exact P0 | exact P1 | exact P2 | exact P3 | exact P4 | exact P5 | exact P6 | exact P7) (.cons (by first | exact P0 | exact P1 | exact P2 | exact P3 | exact P4 | exact P5 | exact P6 | exact P7) .nil)))))
      ·
       intro ht52
       obtain ⟨q1, q2, q3, q4, q5⟩ := hR
       have hq : n5 = q := by have h9 := of_decide_eq_false ht52; omega
       rw [List.take_of_length_le (by omega)] at q3
       subst hq
       refine T.exit ?_
       refine TE.pass_exit ?_
       refine TE.pass_exit ?_
       refine TE.here ?_
       refine TE.next ?_
       refine T.seq ?_
       refine T.block ?_
       refine T.loop (ι := FV) (fun ⟨As, cs, os, τ⟩ => n5 ≤ os.length ∧ os.length ≤ r ∧ os.map LnA.ln = ks.map LnA.ln ++ List.replicate (os.length - n5) (blankR m) ∧ RO 58 τ m os ∧ (As = none → cs = 0)) (fun ⟨As, cs, os, τ⟩ => (r - os.length)) (fun ⟨As, cs, os, τ⟩ => [(0, .slice A n c), (1, .int .i64 (r : Int)), (6, .int .i64 (tp : Int)), (7, .slice As os.length cs)]) (fun ⟨As, cs, os, τ⟩ => [.row 65 2 As os.length cs (fll os), .own τ, .fr σ]) (FV.mk As cs os τ) ⟨by omega, by omega, by rw [q3, q2, Nat.sub_self]; simp, q4, q5⟩ (.cons (t := 0) rfl <| .cons (t := 1) rfl <| .cons (t := 6) rfl <| .cons (t := 7) rfl <| .nil) (Kle.refl) ?_
       rintro ⟨As, cs, os, τ⟩ hR1
       refine T.seq ?_
       refine T.seq ?_
       refine T.region ?_
       refine TL.val (OpV.move rfl) rfl ?_
       refine TL.val (OpV.len Tryd.underlying22 rfl) rfl ?_
       refine TL.val (OpV.move rfl) rfl ?_
       refine TL.val (OpV.lss rfl rfl) rfl ?_
       refine TL.nil ?_
       refine TE.next ?_
       refine T.cond rfl ?_ ?_
       ·
        intro ht64
        obtain ⟨p1, p2, p3, p4, p5⟩ := hR1
        have hor : os.length < r := by have h9 := of_decide_eq_true ht64; omega
        obtain ⟨z, hz⟩ := get_of_lt h.1.1 (show 0 < n by omega)
        obtain ⟨bz, oz, hAz, hatz0⟩ := h.1.2.2.2.2 (by omega)
        obtain ⟨_, rfl, _, hatz⟩ := hatz0 _ z hz
        have hzm := (hrow z (List.mem_of_getElem? hz)).1
        have hz1000 := (hrow z (List.mem_of_getElem? hz)).2.2
        refine T.skip ?_
        refine TE.next ?_
        refine T.block ?_
        refine T.seq ?_
        refine T.region ?_
        refine TL.val (OpV.move rfl) rfl ?_
        refine TL.val (OpV.indexAddr (j := 0) se_22 rfl hAz rfl rfl (by omega)) rfl ?_
        refine TL.val (OpV.fieldAddr rfl fo_65_0) rfl ?_
        refine TL.val (OpV.load pl_35 rfl (by first | exact Cel.blk P0 rfl | exact Cel.blk P1 rfl | exact Cel.blk P2 rfl | exact Cel.blk P3 rfl | exact Cel.blk P4 rfl | exact Cel.blk P5 rfl | exact Cel.blk P6 rfl | exact Cel.frA (hatx _ _ rfl) | exact Cel.frA (hatz _ _ rfl))) rfl ?_
        refine TL.val (OpV.len Tryd.underlying35 rfl) rfl ?_
        obtain ⟨ti, hi9, hz9, hsz, hbt⟩ := info_parts inf_58
        refine TL.make (m := m) (cs := Cl.zero.l) Tryd.underlying35 hi9 hz9 hsz rfl rfl (by decide) rfl (by rw [hzm]) (by rw [hbt]; omega) (by omega) rfl ?_
        clear hi9 hz9 hsz hbt ti
        intro b70
        rw [zeros_fl]
        refine TL.val (OpV.build (qs := #[(0, _)]) (fun _ f => by simp only [List.map_toArray, List.map_cons, List.map_nil]; rw [f.ev (x := .tmp 70) rfl]) (bld30_65 (some ⟨b70, 0, none⟩) m m )) rfl ?_
        refine TL.alloc zo_65 rfl ?_
        intro b11
        first
          | refine TL.storeAll rfl rfl szz_65 rfl rfl rfl (by first | exact P0 | exact P1 | exact P2 | exact P3 | exact P4 | exact P5 | exact P6) (by rfl) ?_
          | refine TL.store rfl rfl szz_65 rfl rfl rfl (by first | exact P0 | exact P1 | exact P2 | exact P3 | exact P4 | exact P5 | exact P6) (by first | exact Nat.le_of_ble_eq_true rfl | (simp; done) | (simp; omega)) (by simp only [LnA.l, putL, List.take_succ_cons, List.take_zero, List.drop_succ_cons, List.drop_zero, List.cons_append, List.nil_append, List.length_cons, List.length_nil, Nat.reduceAdd]; rfl) ?_
        refine TL.nil ?_
        refine TE.sub (.cons (t := 0) rfl <| .cons (t := 1) rfl <| .cons (t := 6) rfl <| .cons (t := 7) rfl <| .cons (t := 11) rfl <| .nil) ?_
        refine TE.next ?_
        refine T.seq ?_
        refine T.seq ?_
        refine T.region ?_
        refine TL.val (OpV.fieldAddr rfl fo_65_0) rfl ?_
        refine TL.val (OpV.load pl_35 rfl (by first | exact Cel.blk P0 rfl | exact Cel.blk P1 rfl | exact Cel.blk P2 rfl | exact Cel.blk P3 rfl | exact Cel.blk P4 rfl | exact Cel.blk P5 rfl | exact Cel.blk P6 rfl | exact Cel.frA (hatx _ _ rfl) | exact Cel.frA (hatz _ _ rfl))) rfl ?_
        refine TL.val (OpV.len Tryd.underlying35 rfl) rfl ?_
        refine TL.val (OpV.move rfl) rfl ?_
        refine TL.nil ?_
        refine TE.next ?_
        refine T.block ?_
        refine T.loop (ι := Nat) (fun q => q ≤ m) (fun q => (m - q)) (fun q => [(0, .slice A n c), (1, .int .i64 (r : Int)), (6, .int .i64 (tp : Int)), (7, .slice As os.length cs), (11, .pointer (some ⟨b11, 0, none⟩)), (74, .int .i64 (m : Int)), (75, .int .i64 (q : Int))]) (fun q => [.blk b70 (fl (List.replicate q (blank Pen.zero) ++ List.replicate (m - q) Cl.zero)) 58, .blk b11 [.slice (some ⟨b70, 0, none⟩) m m, .bool false] 65, .row 65 2 As os.length cs (fll os), .own τ, .fr σ]) 0 (Nat.zero_le _) (.cons (t := 0) rfl <| .cons (t := 1) rfl <| .cons (t := 6) rfl <| .cons (t := 7) rfl <| .cons (t := 11) rfl <| .cons (t := 74) rfl <| .cons (t := 75) rfl <| .nil) (Perm.kle (.cons (by first | exact P0 | exact P1 | exact P2 | exact P3 | exact P4 | exact P5 | exact P6 | exact P7) (.cons (by first | exact P0 | exact P1 | exact P2 | exact P3 | exact P4 | exact P5 | exact P6 | exact P7) (.cons (by first | exact P0 | exact P1 | exact P2 | exact P3 | exact P4 | exact P5 | exact P6 | exact P7) (.cons (by first | exact P0 | exact P1 | exact P2 | exact P3 | exact P4 | exact P5 | exact P6 | exact P7) (.cons (by first | exact P0 | exact P1 | exact P2 | exact P3 | exact P4 | exact P5 | exact P6 | exact P7) .nil)))))) ?_
        rintro q hR2
        refine T.seq ?_
        refine T.region ?_
        refine TL.val (OpV.lss rfl rfl) rfl ?_
        refine TL.nil ?_
        refine TE.next ?_
        refine T.seq ?_
        refine T.cond rfl ?_ ?_
        ·
         intro ht76
         have hq : q < m := by have h9 := of_decide_eq_true ht76; omega
         refine T.skip ?_
         refine TE.next ?_
         refine T.seq ?_
         refine T.block ?_
         refine T.seq ?_
         refine T.region ?_
         refine TL.val (OpV.move rfl) rfl ?_
         refine TL.val (OpV.assign rfl) rfl ?_
         refine TL.nil ?_
         refine TE.next ?_
         refine T.region ?_
         refine TL.val (OpV.fieldAddr rfl fo_65_0) rfl ?_
         refine TL.val (OpV.load pl_35 rfl (by first | exact Cel.blk P0 rfl | exact Cel.blk P1 rfl | exact Cel.blk P2 rfl | exact Cel.blk P3 rfl | exact Cel.blk P4 rfl | exact Cel.blk P5 rfl | exact Cel.blk P6 rfl | exact Cel.frA (hatx _ _ rfl) | exact Cel.frA (hatz _ _ rfl))) rfl ?_
         refine TL.val (OpV.move rfl) rfl ?_
         refine TL.val (OpV.indexAddr (j := q) se_35 rfl rfl rfl rfl (by omega)) rfl ?_
         refine TL.val (OpV.fieldAddr rfl fo_58_2) rfl ?_
         refine TL.store (vs := [Value.int .i64 1]) (cs' := (fl (List.replicate (q + 1) (blank Pen.zero) ++ List.replicate (m - (q + 1)) Cl.zero))) rfl rfl szz_3 rfl rfl rfl (by first | exact P0 | exact P1 | exact P2 | exact P3 | exact P4 | exact P5 | exact P6 | exact P7) (by rw [length_fl]; simp only [List.length_append, List.length_replicate, List.length_cons, List.length_nil]; omega) (by rw [Nat.zero_add, putL_flAt _ q 4 Cl.zero (blank Pen.zero) _ (show (List.replicate q (blank Pen.zero) ++ List.replicate (m - q) Cl.zero)[q]? = some Cl.zero from by rw [List.getElem?_append_right (by rw [List.length_replicate]; exact Nat.le_refl _), List.length_replicate, Nat.sub_self, List.getElem?_replicate, if_pos (by omega)]) (by decide) rfl, set_rep q m (by omega)]) ?_
         refine TL.nil ?_
         refine TE.out ?_
         refine TE.sub (.cons (t := 0) rfl <| .cons (t := 1) rfl <| .cons (t := 6) rfl <| .cons (t := 7) rfl <| .cons (t := 11) rfl <| .cons (t := 74) rfl <| .cons (t := 75) rfl <| .nil) ?_
         refine TE.next ?_
         refine T.region ?_
         refine TL.val (OpV.add rfl rfl (by first | exact IntWalk.i64_in _ ⟨by omega, by omega⟩ | rfl)) rfl ?_
         refine TL.val (OpV.move rfl) rfl ?_
         refine TL.nil ?_
         exact TE.meet (q + 1) ⟨by omega, by omega⟩ (.cons (t := 0) (by first | rfl | (simp [lk]; done)) <| .cons (t := 1) (by first | rfl | (simp [lk]; done)) <| .cons (t := 6) (by first | rfl | (simp [lk]; done)) <| .cons (t := 7) (by first | rfl | (simp [lk]; done)) <| .cons (t := 11) (by first | rfl | (simp [lk]; done)) <| .cons (t := 74) (by first | rfl | (simp [lk]; done)) <| .cons (t := 75) (by first | rfl | (simp [lk]; done)) <| .nil) (Perm.kle (.cons (by first | exact P0 | exact P1 | exact P2 | exact P3 | exact P4 | exact P5 | exact P6 | exact P7) (.cons (by first | exact P0 | exact P1 | exact P2 | exact P3 | exact P4 | exact P5 | exact P6 | exact P7) (.cons (by first | exact P0 | exact P1 | exact P2 | exact P3 | exact P4 | exact P5 | exact P6 | exact P7) (.cons (by first | exact P0 | exact P1 | exact P2 | exact P3 | exact P4 | exact P5 | exact P6 | exact P7) (.cons (by first | exact P0 | exact P1 | exact P2 | exact P3 | exact P4 | exact P5 | exact P6 | exact P7) .nil))))))
        ·
         intro ht76
         have hq : m = q := by have h9 := of_decide_eq_false ht76; omega
         subst hq
         rw [show List.replicate m (blank Pen.zero) ++ List.replicate (m - m) Cl.zero = List.replicate m (blank Pen.zero) by rw [Nat.sub_self]; simp]
         refine T.exit ?_
         refine TE.pass_exit ?_
         refine TE.pass_exit ?_
         refine TE.here ?_
         refine TE.next ?_
         refine T.ex (ι := Nat → Option Obj) (R := fun π => RO 58 π m (os ++ [(LnA.mk (some ⟨b70, 0, none⟩) m m (List.replicate m (blank Pen.zero)) false)])) (K2 := fun π => [.blk b11 [.slice (some ⟨b70, 0, none⟩) m m, .bool false] 65, .row 65 2 As os.length cs (fll os), .own π, .fr σ]) (fun wz kz => ?_) ?_
         · skip
           obtain ⟨π, ⟨f1, f2, f3⟩, k2⟩ := own2d ((Kle.blkOwn wz (((kz.pick (e := .own τ) (by first | exact P0 | exact P1 | exact P2 | exact P3 | exact P4 | exact P5 | exact P6 | exact P7)).pick (e := .blk b70 (fl (List.replicate m (blank Pen.zero))) 58) (by first | exact P0 | exact P1 | exact P2 | exact P3 | exact P4 | exact P5 | exact P6 | exact P7)))))
           exact ⟨π, p4.snoc f1 f2 f3 (CsR.of_blk (m := m) (List.length_replicate ..) (by omega)) rfl (fun _ => ⟨b70, rfl, _, σ1_self _ _, List.take_length⟩), Perm.kle (.cons (by first | exact P0 | exact P1 | exact P2 | exact P3 | exact P4 | exact P5 | exact P6 | exact P7) (.cons (by first | exact P0 | exact P1 | exact P2 | exact P3 | exact P4 | exact P5 | exact P6 | exact P7) (.cons (by first | exact P0 | exact P1 | exact P2 | exact P3 | exact P4 | exact P5 | exact P6 | exact P7) (.cons (by first | exact P0 | exact P1 | exact P2 | exact P3 | exact P4 | exact P5 | exact P6 | exact P7) .nil)))) wz k2⟩
         rintro π hπ
         replace hπ : RO 58 π m (os ++ [(LnA.mk (some ⟨b70, 0, none⟩) m m (List.replicate m (blank Pen.zero)) false)]) := hπ
         refine T.region ?_
         refine TL.val (OpV.move rfl) rfl ?_
         refine TL.val (OpV.loadA ag_65 rfl (by first | exact Cels.blk P0 rfl | exact Cels.blk P1 rfl | exact Cels.blk P2 rfl | exact Cels.blk P3 rfl | exact Cels.blk P4 rfl | exact Cels.blk P5 rfl | exact Cels.blk P6 rfl | exact Cels.frA hatx rfl | exact Cels.frA hatz rfl)) rfl ?_
         refine TL.said (t := 85) rfl (show _ = Value.agg (LnA.mk (some ⟨b70, 0, none⟩) m m (List.replicate m (blank Pen.zero)) false).l.toArray from rfl) ?_
         refine TL.slit (qs := #[(0, _)]) (fun _ f => by simp only [List.map_toArray, List.map_cons, List.map_nil]; rw [f.ev (x := .tmp 85) rfl]) (sl_22_1_0 (LnA.mk (some ⟨b70, 0, none⟩) m m (List.replicate m (blank Pen.zero)) false)) rfl ?_
         intro b86
         obtain ⟨ti87, hi87, hz87, hs87, hb87⟩ := info_parts inf_65
         refine TL.append rfl rfl Tryd.underlying22 hi87 hz87 hs87 hb87 rfl (by omega) (by first | exact P0 | exact P1 | exact P2 | exact P3 | exact P4 | exact P5 | exact P6) (by first | exact Src.nil | exact Src.blk P0 rfl | exact Src.blk P1 rfl | exact Src.blk P2 rfl | exact Src.blk P3 rfl | exact Src.blk P4 rfl | exact Src.blk P5 rfl | exact Src.blk P6 rfl | exact Src.row P0 | exact Src.row P1 | exact Src.row P2 | exact Src.row P3 | exact Src.row P4 | exact Src.row P5 | exact Src.row P6) (fun h => by cases h) rfl (by omega) (by omega) rfl ?_
         clear hi87 hz87 hs87 hb87 ti87
         intro A87 c87 hn87
         refine TL.val (OpV.assign rfl) rfl ?_
         refine TL.nil ?_
         refine TE.out ?_
         exact TE.meet (FV.mk A87 c87 (os ++ [(LnA.mk (some ⟨b70, 0, none⟩) m m (List.replicate m (blank Pen.zero)) false)]) π) ⟨⟨by simp only [List.length_append]; omega, by simp only [List.length_append, List.length_cons, List.length_nil]; omega, by simp only [List.map_append, p3, List.length_append, List.length_cons, List.length_nil, List.append_assoc]; rw [show os.length + (0 + 1) - n5 = os.length - n5 + 1 by omega, List.replicate_succ']; rfl, hπ, hn87⟩, by simp only [List.length_append, List.length_cons, List.length_nil]; omega⟩ (.cons (t := 0) (by first | rfl | (simp [lk]; done)) <| .cons (t := 1) (by first | rfl | (simp [lk]; done)) <| .cons (t := 6) (by first | rfl | (simp [lk]; done)) <| .cons (t := 7) (by simp only [List.length_append, List.length_cons, List.length_nil]; rfl) <| .nil) ((by simp only [fll_snoc, List.length_append, List.length_cons, List.length_nil]; exact Perm.kle (.cons (by first | exact P0 | exact P1 | exact P2 | exact P3 | exact P4 | exact P5 | exact P6 | exact P7) (.cons (by first | exact P0 | exact P1 | exact P2 | exact P3 | exact P4 | exact P5 | exact P6 | exact P7) (.cons (by first | exact P0 | exact P1 | exact P2 | exact P3 | exact P4 | exact P5 | exact P6 | exact P7) .nil)))))
       ·
        intro ht64
        obtain ⟨p1, p2, p3, p4, p5⟩ := hR1
        have hor : os.length = r := by have h9 := of_decide_eq_false ht64; omega
        refine T.exit ?_
        refine TE.pass_exit ?_
        refine TE.pass_exit ?_
        refine TE.here ?_
        refine TE.next ?_
        refine T.seq ?_
        refine T.region ?_
        refine TL.val (OpV.move rfl) rfl ?_
        refine TL.val (OpV.move rfl) rfl ?_
        refine TL.val (OpV.assign rfl) rfl ?_
        refine TL.val (OpV.assign rfl) rfl ?_
        refine TL.val (OpV.assign rfl) rfl ?_
        refine TL.nil ?_
        refine TE.sub (.cons (t := 6) rfl <| .cons (t := 7) rfl <| .cons (t := 8) rfl <| .nil) ?_
        refine TE.next ?_
        refine T.ret ?_
        refine TE.retN rfl (.cons (ResV.tmp rfl) <| .cons (ResV.tmp rfl) <| .cons (ResV.tmp rfl) <| .nil) ?_
        intro wz kz
        obtain ⟨bq, csq, π, ⟨r1, r2, r4, r5, r6, r7⟩, k2⟩ := rowIntoW (e := 65) (z := 2) (A := As) (m := os.length) (c := cs) (xs := fll os) (τ := τ) kz (by first | exact P0 | exact P1 | exact P2 | exact P3 | exact P4 | exact P5 | exact P6 | exact P7) (by first | exact P0 | exact P1 | exact P2 | exact P3 | exact P4 | exact P5 | exact P6 | exact P7) (by omega)
        refine ⟨⟨As, os.length, cs, π⟩, ?_, ⟨os, by rw [← hm]; exact p4.lsO r7 r1 r6 (SlR.of_row LnA.l_length r2 rfl), ?_⟩, Perm.kle (.cons .here .nil) wz k2⟩
        · rw [scrT, hse, if_pos rfl, hXl, htp]; rfl
        · rw [scrV, hse, if_pos rfl, p3, screenV, hXl, htp, Int.toNat_natCast, Int.toNat_natCast, ← hhi, ← hm, hor, ← hn5, ← List.map_take, ← List.map_drop, ← hks]
end Go.Proofs.YtdmpodpdpncobaaDoor
