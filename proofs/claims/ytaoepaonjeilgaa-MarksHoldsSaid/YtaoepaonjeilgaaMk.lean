/-
  The walk of alike. No condition.
-/
import Derived.Test.YtaoepaonjeilgaaMj
namespace Go.Proofs.Ytaoepaonjeilgaa
open Go.RowKit
set_option linter.unusedSimpArgs false
set_option linter.unusedVariables false
theorem go_10 : isGo Try.prog 10 = true := by kernel_rfl
theorem go_11 : isGo Try.prog 11 = true := by kernel_rfl
theorem go_16 : isGo Try.prog 16 = true := by kernel_rfl
theorem go_22 : isGo Try.prog 22 = true := by kernel_rfl
theorem go_23 : isGo Try.prog 23 = true := by kernel_rfl
theorem go_30 : isGo Try.prog 30 = true := by kernel_rfl
theorem go_31 : isGo Try.prog 31 = true := by kernel_rfl
set_option maxRecDepth 100000 in
set_option maxHeartbeats 1000000 in
theorem alike_c {σ τ : Nat → Option Obj} {bm : Nat} {xs : List Mk} {A : Option Addr} {c : Nat} (line : Int) (w : World) (hm : MoR σ bm xs) (hl : MsR τ A xs.length c xs) (hok : MOk xs) (hs : ∀ b o, σ b = some o → w.heap[b]? = some o) (ht : ∀ b o, τ b = some o → w.heap[b]? = some o) : Calls Try.prog 21 #[.pointer (some ⟨bm, 0, none⟩), .slice A xs.length c, .int .i64 line] w (Ret (.bool true) w) := by
 have hn63 := hl.2.1
 have hc63 := hl.2.2.1
 have hn := hok.2.2
 obtain ⟨w0, hw0⟩ : ∃ w0, w0 = w := ⟨_, rfl⟩
 rw [← hw0] at hs ht ⊢
 refine calls_T (vs := [.pointer (some ⟨bm, 0, none⟩), .slice A xs.length c, .int .i64 line]) (L0 := [(0, .pointer (some ⟨bm, 0, none⟩)), (1, .slice A xs.length c), (2, .int .i64 line)]) Try.func21 rfl rfl rfl rfl (KOk.frs hs ht) ?_
 refine T.seq ?_
 refine T.region ?_
 refine TL.val (OpV.assign rfl) rfl ?_
 refine TL.nil ?_
 refine TE.next ?_
 refine T.seq ?_
 refine T.seq ?_
 refine T.region ?_
 refine TL.val (OpV.move rfl) rfl ?_
 refine TL.val (OpV.peql Try.underlying23 rfl rfl) rfl ?_
 refine TL.said (t := 15) rfl (show _ = Value.bool false from congrArg Value.bool (rfl)) ?_
 refine TL.val (OpV.move rfl) rfl ?_
 refine TL.open rfl rfl ?_
 refine TL.val (OpV.move rfl) rfl ?_
 refine TL.open rfl rfl ?_
 refine TL.call (g := 10) rfl go_10 rfl (fun w1 k1 => len_c w1 hm (k1.get (e := .fr σ) (by first | exact P0 | exact P1 | exact P2 | exact P3 | exact P4 | exact P5 | exact P6))) rfl ?_
 refine TL.open rfl rfl ?_
 refine TL.val (OpV.move rfl) rfl ?_
 refine TL.open rfl rfl ?_
 refine TL.val (OpV.len Try.underlying24 rfl) rfl ?_
 refine TL.open rfl rfl ?_
 refine TL.val (OpV.neq rfl rfl) rfl ?_
 refine TL.said (t := 21) rfl (show _ = Value.bool false from congrArg Value.bool (by simp)) ?_
 refine TL.val ((by first | exact OpV.pick_t rfl rfl | exact OpV.pick_f rfl rfl)) rfl ?_
 refine TL.nil ?_
 refine TE.sub (.cons (t := 0) rfl <| .cons (t := 1) rfl <| .cons (t := 2) rfl <| .cons (t := 22) rfl <| .nil) ?_
 refine TE.next ?_
 refine T.no rfl ?_
 refine T.skip ?_
 refine TE.next ?_
 refine T.seq ?_
 refine T.seq ?_
 refine T.region ?_
 refine TL.val (OpV.assign rfl) rfl ?_
 refine TL.nil ?_
 refine TE.next ?_
 refine T.block ?_
 refine T.loop (ι := Nat) (fun u => u ≤ 2) (fun u => (2 - u)) (fun u => [(0, .pointer (some ⟨bm, 0, none⟩)), (1, .slice A xs.length c), (2, .int .i64 line), (7, .int .i64 (u : Int))]) (fun u => [.fr σ, .fr τ]) 0 (Nat.zero_le _) (.cons (t := 0) rfl <| .cons (t := 1) rfl <| .cons (t := 2) rfl <| .cons (t := 7) rfl <| .nil) (Kle.refl) ?_
 rintro u hU
 refine T.seq ?_
 refine T.seq ?_
 refine T.region ?_
 refine TL.val (OpV.move rfl) rfl ?_
 refine TL.val (OpV.lss rfl rfl) rfl ?_
 refine TL.nil ?_
 refine TE.next ?_
 refine T.cond rfl ?_ ?_
 ·
  intro ht24
  try simp only [decide_eq_true_eq, decide_eq_false_iff_not, beq_iff_eq, beq_eq_false_iff_ne, bne_iff_ne, bne_eq_false_iff_eq, Bool.not_eq_true', Bool.not_eq_false', ne_eq] at ht24
  refine T.skip ?_
  refine TE.next ?_
  refine T.seq ?_
  refine T.block ?_
  refine T.seq ?_
  refine T.region ?_
  refine TL.val (OpV.move rfl) rfl ?_
  refine TL.callx (g := 16) rfl go_16 rfl (fun wz k1 => add_x k1 (all_c wz hm (k1.get (e := .fr σ) (by first | exact P0 | exact P1 | exact P2 | exact P3 | exact P4 | exact P5 | exact P6)) (by omega))) rfl ?_
  rintro ⟨A2, c2⟩ hA2
  replace hA2 : A2 = none → c2 = 0 := hA2
  refine TL.val (OpV.assign rfl) rfl ?_
  refine TL.nil ?_
  refine TE.next ?_
  refine T.seq ?_
  refine T.seq ?_
  refine T.region ?_
  refine TL.val (OpV.move rfl) rfl ?_
  refine TL.val (OpV.len Try.underlying24 rfl) rfl ?_
  refine TL.val (OpV.move rfl) rfl ?_
  refine TL.val (OpV.len Try.underlying24 rfl) rfl ?_
  refine TL.val (OpV.neq rfl rfl) rfl ?_
  refine TL.said (t := 33) rfl (show _ = Value.bool false from congrArg Value.bool (by simp)) ?_
  refine TL.nil ?_
  refine TE.sub (.cons (t := 0) rfl <| .cons (t := 1) rfl <| .cons (t := 2) rfl <| .cons (t := 7) rfl <| .cons (t := 8) rfl <| .cons (t := 33) rfl <| .nil) ?_
  refine TE.next ?_
  refine T.no rfl ?_
  refine T.skip ?_
  refine TE.next ?_
  refine T.seq ?_
  refine T.region ?_
  refine TL.val (OpV.assign rfl) rfl ?_
  refine TL.nil ?_
  refine TE.next ?_
  refine T.block ?_
  refine T.loop (ι := Nat × Option Addr) (fun ⟨i, A2⟩ => i ≤ xs.length) (fun ⟨i, A2⟩ => (xs.length - i)) (fun ⟨i, A2⟩ => [(0, .pointer (some ⟨bm, 0, none⟩)), (1, .slice A xs.length c), (2, .int .i64 line), (7, .int .i64 (u : Int)), (8, .slice A2 xs.length c2), (9, .int .i64 (i : Int))]) (fun ⟨i, A2⟩ => [.row 31 3 A2 xs.length c2 (ml (spo xs i ++ xs.drop i)), .fr σ, .fr τ]) (0, A2) (Nat.zero_le _) (.cons (t := 0) rfl <| .cons (t := 1) rfl <| .cons (t := 2) rfl <| .cons (t := 7) rfl <| .cons (t := 8) rfl <| .cons (t := 9) rfl <| .nil) (Perm.kle (.cons (by first | exact P0 | exact P1 | exact P2 | exact P3 | exact P4 | exact P5 | exact P6) (.cons (by first | exact P0 | exact P1 | exact P2 | exact P3 | exact P4 | exact P5 | exact P6) (.cons (by first | exact P0 | exact P1 | exact P2 | exact P3 | exact P4 | exact P5 | exact P6) .nil)))) ?_
  rintro ⟨i, A2⟩ hR
  refine T.seq ?_
  refine T.seq ?_
  refine T.region ?_
  refine TL.val (OpV.move rfl) rfl ?_
  refine TL.val (OpV.move rfl) rfl ?_
  refine TL.val (OpV.len Try.underlying24 rfl) rfl ?_
  refine TL.val (OpV.lss rfl rfl) rfl ?_
  refine TL.nil ?_
  refine TE.next ?_
  refine T.cond rfl ?_ ?_
  ·
   intro ht37
   try simp only [decide_eq_true_eq, decide_eq_false_iff_not, beq_iff_eq, beq_eq_false_iff_ne, bne_iff_ne, bne_eq_false_iff_eq, Bool.not_eq_true', Bool.not_eq_false', ne_eq] at ht37
   have hi : i < xs.length := by omega
   obtain ⟨x, hx⟩ := get_of_lt rfl hi
   obtain ⟨b, o, hA, hat⟩ := hl.pos (by omega)
   have hatx := hat i x hx
   have hsl := spo_len (xs := xs) (Nat.le_of_lt hi)
   have hdr := drop_get hx
   have hln : (spo xs i ++ x :: xs.drop (i + 1)).length = xs.length := by rw [List.length_append, List.length_cons, hsl, List.length_drop]; omega
   refine T.kle (show Kle w0 _ [.row 31 3 A2 xs.length c2 (ml (spo xs i ++ x :: xs.drop (i + 1))), .fr σ, .fr τ] by rw [← hdr]; exact Kle.refl) ?_
   refine T.ex (fun wz kz => rowAt (e := 31) (A := A2) (n := xs.length) (c := c2) (p := spo xs i) (r := xs.drop (i + 1)) (x := x) kz hln (by first | exact P0 | exact P1 | exact P2 | exact P3 | exact P4 | exact P5 | exact P6)) ?_
   rintro ⟨bq, post⟩ ⟨p1, p2, p3, p4⟩
   simp only at p1 p2
   refine T.skip ?_
   refine TE.next ?_
   refine T.seq ?_
   refine T.block ?_
   refine T.seq ?_
   refine T.seq ?_
   refine T.quiet mix (by kernel_rfl) ?_
   refine TQ.val (OpV.move rfl) rfl ?_
   refine TQ.val (OpV.move rfl) rfl ?_
   refine TQ.val (OpV.indexAddr (j := i) se_24 rfl p1 rfl rfl (by omega)) rfl ?_
   refine TQ.val (OpV.loadA ag_31 rfl (Cels.blkAt x.l (by first | exact P0 | exact P1 | exact P2 | exact P3 | exact P4 | exact P5 | exact P6) (at_take hsl) rfl)) rfl ?_
   refine TQ.val (OpV.move rfl) rfl ?_
   refine TQ.val (OpV.move rfl) rfl ?_
   refine TQ.val (OpV.indexAddr (j := i) se_24 rfl hA rfl rfl (by omega)) rfl ?_
   refine TQ.val (OpV.loadA ag_31 rfl (by first | exact Cels.blk P0 rfl | exact Cels.blk P1 rfl | exact Cels.blk P2 rfl | exact Cels.blk P3 rfl | exact Cels.blk P4 rfl | exact Cels.blk P5 rfl | exact Cels.frA hatx rfl | exact Cels.ownA (hatz) rfl)) rfl ?_
   refine TQ.val (OpV.aneq rfl rfl eg_31 (eq_31 x x)) rfl ?_
   refine TQ.said (t := 48) rfl (show _ = Value.bool false from congrArg Value.bool (by simp)) ?_
   refine TQ.nil ?_
   refine TE.sub (.cons (t := 0) rfl <| .cons (t := 1) rfl <| .cons (t := 2) rfl <| .cons (t := 7) rfl <| .cons (t := 8) rfl <| .cons (t := 9) rfl <| .cons (t := 48) rfl <| .nil) ?_
   refine TE.next ?_
   refine T.no rfl ?_
   refine T.skip ?_
   refine TE.next ?_
   refine T.region ?_
   refine TL.val (OpV.move rfl) rfl ?_
   refine TL.val (OpV.move rfl) rfl ?_
   refine TL.val (OpV.indexAddr (j := i) se_24 rfl p1 rfl rfl (by omega)) rfl ?_
   refine TL.val (OpV.fieldAddr rfl fo_31_0) rfl ?_
   refine TL.said (t := 52) rfl (show _ = Value.pointer (some ⟨bq, (spo xs i).length * 3 + 0, none⟩) by rw [Nat.zero_add, hsl]) ?_
   refine TL.store (o := (spo xs i).length * 3 + 0) (cs' := (ml (spo xs i) ++ (({ x with ln := 77 } : Mk).l ++ (ml (xs.drop (i + 1)) ++ post)))) rfl rfl szz_3 rfl rfl rfl (by first | exact P0 | exact P1 | exact P2 | exact P3 | exact P4 | exact P5 | exact P6) (at_len (Nat.le_of_ble_eq_true rfl)) (at_store (x := x) (x' := ({ x with ln := 77 } : Mk)) rfl (Nat.le_of_ble_eq_true rfl)) ?_
   refine TL.nil ?_
   refine TE.out ?_
   refine TE.next ?_
   refine T.region ?_
   refine TL.val (OpV.move rfl) rfl ?_
   refine TL.val (OpV.add rfl rfl (by first | exact IntWalk.i64_in _ ⟨by omega, by omega⟩ | rfl)) rfl ?_
   refine TL.val (OpV.assign rfl) rfl ?_
   refine TL.nil ?_
   exact TE.meet (i + 1, some ⟨bq, 0, none⟩) ⟨by simp only; omega, by simp only; omega⟩ (.cons (t := 0) (by first | rfl | (simp [lk]; done)) <| .cons (t := 1) (by first | rfl | (simp [lk]; done)) <| .cons (t := 2) (by first | rfl | (simp [lk]; done)) <| .cons (t := 7) (by first | rfl | (simp [lk]; done)) <| .cons (t := 8) (by rw [← p1]; rfl) <| .cons (t := 9) (by first | rfl | (simp [lk]; done)) <| .nil) ((Kle.trans (Kle.pick (e := .blk bq (ml (spo xs i) ++ (({ x with ln := 77 } : Mk).l ++ (ml (xs.drop (i + 1)) ++ post))) 31) (by first | exact P0 | exact P1 | exact P2 | exact P3 | exact P4 | exact P5 | exact P6)) (Kle.trans (Kle.atRow (by rw [List.length_append, List.length_cons, hsl, List.length_drop]; omega) p2 p3 p4) (by show Kle w0 _ [.row 31 3 (some ⟨bq, 0, none⟩) xs.length c2 (ml (spo xs (i + 1) ++ xs.drop (i + 1))), .fr σ, .fr τ]; rw [spo_succ hx, List.append_assoc, List.cons_append, List.nil_append]; exact Perm.kle (.cons (by first | exact P0 | exact P1 | exact P2 | exact P3 | exact P4 | exact P5 | exact P6) (.cons (by first | exact P0 | exact P1 | exact P2 | exact P3 | exact P4 | exact P5 | exact P6) (.cons (by first | exact P0 | exact P1 | exact P2 | exact P3 | exact P4 | exact P5 | exact P6) .nil)))))))
  ·
   intro ht37
   try simp only [decide_eq_true_eq, decide_eq_false_iff_not, beq_iff_eq, beq_eq_false_iff_ne, bne_iff_ne, bne_eq_false_iff_eq, Bool.not_eq_true', Bool.not_eq_false', ne_eq] at ht37
   refine T.exit ?_
   refine TE.pass_exit ?_
   refine TE.pass_exit ?_
   refine TE.here ?_
   refine TE.out ?_
   refine TE.next ?_
   refine T.region ?_
   refine TL.val (OpV.move rfl) rfl ?_
   refine TL.val (OpV.add rfl rfl (by first | exact IntWalk.i64_in _ ⟨by omega, by omega⟩ | rfl)) rfl ?_
   refine TL.val (OpV.assign rfl) rfl ?_
   refine TL.nil ?_
   exact TE.meet (u + 1) ⟨by omega, by omega⟩ (.cons (t := 0) (by first | rfl | (simp [lk]; done)) <| .cons (t := 1) (by first | rfl | (simp [lk]; done)) <| .cons (t := 2) (by first | rfl | (simp [lk]; done)) <| .cons (t := 7) (by first | rfl | (simp [lk]; done)) <| .nil) (Perm.kle (.cons (by first | exact P0 | exact P1 | exact P2 | exact P3 | exact P4 | exact P5 | exact P6) (.cons (by first | exact P0 | exact P1 | exact P2 | exact P3 | exact P4 | exact P5 | exact P6) .nil)))
 ·
  intro ht24
  try simp only [decide_eq_true_eq, decide_eq_false_iff_not, beq_iff_eq, beq_eq_false_iff_ne, bne_iff_ne, bne_eq_false_iff_eq, Bool.not_eq_true', Bool.not_eq_false', ne_eq] at ht24
  refine T.exit ?_
  refine TE.pass_exit ?_
  refine TE.pass_exit ?_
  refine TE.here ?_
  refine TE.next ?_
  refine T.seq ?_
  refine T.region ?_
  refine TL.val (OpV.move rfl) rfl ?_
  refine TL.callx (g := 30) rfl go_30 rfl (fun wz k1 => add_x k1 (grouped_c wz hl (k1.get (e := .fr τ) (by first | exact P0 | exact P1 | exact P2 | exact P3 | exact P4 | exact P5 | exact P6)) hn hok.kinds)) rfl ?_
  rintro ⟨A3, c3⟩ hA3
  refine TL.val (OpV.assign rfl) rfl ?_
  refine TL.nil ?_
  refine TE.next ?_
  refine T.seq ?_
  refine T.seq ?_
  refine T.region ?_
  refine TL.val (OpV.move rfl) rfl ?_
  refine TL.callx (g := 11) rfl go_11 rfl (fun wz k1 => add_x k1 (commands_c wz hm (k1.get (e := .fr σ) (by first | exact P0 | exact P1 | exact P2 | exact P3 | exact P4 | exact P5 | exact P6)) hn)) rfl ?_
  rintro ⟨A4, c4⟩ hA4
  refine TL.val (OpV.move rfl) rfl ?_
  refine TL.call (g := 23) rfl go_23 rfl (fun w1 k1 => eqs_c w1 (KOk.row_sl (e := 41) (A := A4) (m := (cmdsV xs).length) (c := c4) (f := Cm.l) (xs := cmdsV xs) Cm.l_length k1 (by first | exact P0 | exact P1 | exact P2 | exact P3 | exact P4 | exact P5 | exact P6) rfl) (KOk.row_sl (e := 41) (A := A3) (m := (cmdsV xs).length) (c := c3) (f := Cm.l) (xs := cmdsV xs) Cm.l_length k1 (by first | exact P0 | exact P1 | exact P2 | exact P3 | exact P4 | exact P5 | exact P6) rfl) (fun _ _ h => h)) rfl ?_
  refine TL.val (OpV.not rfl) rfl ?_
  refine TL.said (t := 59) rfl (show _ = Value.bool false from congrArg Value.bool (by simp)) ?_
  refine TL.nil ?_
  refine TE.sub (.cons (t := 0) rfl <| .cons (t := 2) rfl <| .cons (t := 10) rfl <| .cons (t := 59) rfl <| .nil) ?_
  refine TE.next ?_
  refine T.no rfl ?_
  refine T.skip ?_
  refine TE.next ?_
  refine T.seq ?_
  refine T.ex (fun wz kz => KOk.rowOwn (kz.pick (e := .row 41 9 A3 (cmdsV xs).length c3 (cl (cmdsV xs))) (by first | exact P0 | exact P1 | exact P2 | exact P3 | exact P4 | exact P5 | exact P6))) ?_
  rintro σg hσg
  have hg : CmR σg A3 (cmdsV xs).length c3 (cmdsV xs) := SlR.of_row Cm.l_length hσg rfl
  have hn63 := hg.2.1
  have hc63 := hg.2.2.1
  refine T.region ?_
  refine TL.val (OpV.build (qs := #[]) (fun _ _ => by simp) (bld_41)) rfl ?_
  refine TL.alloc zo_41 rfl ?_
  intro b11
  first
    | refine TL.storeAll rfl rfl szz_41 rfl rfl rfl (by first | exact P0 | exact P1 | exact P2 | exact P3 | exact P4 | exact P5) (by rfl) ?_
    | refine TL.store rfl rfl szz_41 rfl rfl rfl (by first | exact P0 | exact P1 | exact P2 | exact P3 | exact P4 | exact P5) (by first | exact Nat.le_of_ble_eq_true rfl | (simp; done) | (simp; omega)) (by simp only [Mk.l, Cm.l, putL, List.take_succ_cons, List.take_zero, List.drop_succ_cons, List.drop_zero, List.cons_append, List.nil_append, List.length_cons, List.length_nil, Nat.reduceAdd]; rfl) ?_
  refine TL.val (OpV.assign rfl) rfl ?_
  refine TL.nil ?_
  refine TE.next ?_
  refine T.seq ?_
  refine T.seq ?_
  refine T.region ?_
  refine TL.val (OpV.assign rfl) rfl ?_
  refine TL.nil ?_
  refine TE.next ?_
  refine T.block ?_
  refine T.loop (ι := Nat) (fun i => i ≤ (cmdsV xs).length) (fun i => ((cmdsV xs).length - i)) (fun i => [(0, .pointer (some ⟨bm, 0, none⟩)), (2, .int .i64 line), (10, .slice A3 (cmdsV xs).length c3), (11, .pointer (some ⟨b11, 0, none⟩)), (12, .int .i64 (atF line ((cmdsV xs).take i)).2), (13, .int .i64 (i : Int))]) (fun i => [.blk b11 (atF line ((cmdsV xs).take i)).1.l 41, .own σg, .fr σ, .fr τ]) 0 (Nat.zero_le _) (.cons (t := 0) rfl <| .cons (t := 2) rfl <| .cons (t := 10) rfl <| .cons (t := 11) rfl <| .cons (t := 12) rfl <| .cons (t := 13) rfl <| .nil) (Perm.kle (.cons (by first | exact P0 | exact P1 | exact P2 | exact P3 | exact P4 | exact P5 | exact P6) (.cons (by first | exact P0 | exact P1 | exact P2 | exact P3 | exact P4 | exact P5 | exact P6) (.cons (by first | exact P0 | exact P1 | exact P2 | exact P3 | exact P4 | exact P5 | exact P6) (.cons (by first | exact P0 | exact P1 | exact P2 | exact P3 | exact P4 | exact P5 | exact P6) .nil))))) ?_
  rintro i hR
  refine T.seq ?_
  refine T.seq ?_
  refine T.region ?_
  refine TL.val (OpV.move rfl) rfl ?_
  refine TL.val (OpV.move rfl) rfl ?_
  refine TL.val (OpV.len Try.underlying34 rfl) rfl ?_
  refine TL.val (OpV.lss rfl rfl) rfl ?_
  refine TL.nil ?_
  refine TE.next ?_
  refine T.cond rfl ?_ ?_
  ·
   intro ht64
   try simp only [decide_eq_true_eq, decide_eq_false_iff_not, beq_iff_eq, beq_eq_false_iff_ne, bne_iff_ne, bne_eq_false_iff_eq, Bool.not_eq_true', Bool.not_eq_false', ne_eq] at ht64
   have hi : i < (cmdsV xs).length := by omega
   obtain ⟨z, hz⟩ := get_of_lt rfl hi
   obtain ⟨bg, og, hAg, hatg⟩ := hg.pos (by omega)
   have hatz := hatg i z hz
   have hs : atF line ((cmdsV xs).take (i + 1)) = atS line (atF line ((cmdsV xs).take i)) z := by rw [take_snoc hz, atF_snoc]
   refine T.skip ?_
   refine TE.next ?_
   refine T.seq ?_
   refine T.block ?_
   refine T.seq ?_
   refine T.region ?_
   refine TL.val (OpV.move rfl) rfl ?_
   refine TL.val (OpV.move rfl) rfl ?_
   refine TL.val (OpV.indexAddr (j := i) se_34 rfl hAg rfl rfl (by omega)) rfl ?_
   refine TL.val (OpV.loadA ag_41 rfl (by first | exact Cels.blk P0 rfl | exact Cels.blk P1 rfl | exact Cels.blk P2 rfl | exact Cels.blk P3 rfl | exact Cels.blk P4 rfl | exact Cels.blk P5 rfl | exact Cels.frA hatx rfl | exact Cels.ownA (hatz) rfl)) rfl ?_
   refine TL.call (g := 31) rfl go_31 rfl (fun w1 k1 => first_c z w1) rfl ?_
   refine TL.val (OpV.move rfl) rfl ?_
   refine TL.val (OpV.leq rfl rfl) rfl ?_
   refine TL.nil ?_
   refine TE.sub (.cons (t := 0) rfl <| .cons (t := 2) rfl <| .cons (t := 10) rfl <| .cons (t := 11) rfl <| .cons (t := 12) rfl <| .cons (t := 13) rfl <| .cons (t := 73) rfl <| .nil) ?_
   refine TE.next ?_
   refine T.cond rfl ?_ ?_
   ·
    intro ht73
    try simp only [decide_eq_true_eq, decide_eq_false_iff_not, beq_iff_eq, beq_eq_false_iff_ne, bne_iff_ne, bne_eq_false_iff_eq, Bool.not_eq_true', Bool.not_eq_false', ne_eq] at ht73
    rw [atS, if_pos ht73] at hs
    refine T.region ?_
    refine TL.val (OpV.move rfl) rfl ?_
    refine TL.val (OpV.move rfl) rfl ?_
    refine TL.val (OpV.indexAddr (j := i) se_34 rfl hAg rfl rfl (by omega)) rfl ?_
    refine TL.val (OpV.loadA ag_41 rfl (by first | exact Cels.blk P0 rfl | exact Cels.blk P1 rfl | exact Cels.blk P2 rfl | exact Cels.blk P3 rfl | exact Cels.blk P4 rfl | exact Cels.blk P5 rfl | exact Cels.frA hatx rfl | exact Cels.ownA (hatz) rfl)) rfl ?_
    first
      | refine TL.storeAll rfl rfl szz_41 rfl rfl rfl (by first | exact P0 | exact P1 | exact P2 | exact P3 | exact P4 | exact P5) (by rfl) ?_
      | refine TL.store rfl rfl szz_41 rfl rfl rfl (by first | exact P0 | exact P1 | exact P2 | exact P3 | exact P4 | exact P5) (by first | exact Nat.le_of_ble_eq_true rfl | (simp; done) | (simp; omega)) (by simp only [Mk.l, Cm.l, putL, List.take_succ_cons, List.take_zero, List.drop_succ_cons, List.drop_zero, List.cons_append, List.nil_append, List.length_cons, List.length_nil, Nat.reduceAdd]; rfl) ?_
    refine TL.val (OpV.assign rfl) rfl ?_
    refine TL.nil ?_
    refine TE.out ?_
    refine TE.next ?_
    refine T.region ?_
    refine TL.val (OpV.move rfl) rfl ?_
    refine TL.val (OpV.add rfl rfl (by first | exact IntWalk.i64_in _ ⟨by omega, by omega⟩ | rfl)) rfl ?_
    refine TL.val (OpV.assign rfl) rfl ?_
    refine TL.nil ?_
    exact TE.meet (i + 1) ⟨by omega, by omega⟩ (.cons (t := 0) (by first | rfl | (simp [lk]; done)) <| .cons (t := 2) (by first | rfl | (simp [lk]; done)) <| .cons (t := 10) (by first | rfl | (simp [lk]; done)) <| .cons (t := 11) (by first | rfl | (simp [lk]; done)) <| .cons (t := 12) (by rw [hs]; rfl) <| .cons (t := 13) (by first | rfl | (simp [lk]; done)) <| .nil) ((by rw [hs]; exact Perm.kle (.cons (by first | exact P0 | exact P1 | exact P2 | exact P3 | exact P4 | exact P5 | exact P6) (.cons (by first | exact P0 | exact P1 | exact P2 | exact P3 | exact P4 | exact P5 | exact P6) (.cons (by first | exact P0 | exact P1 | exact P2 | exact P3 | exact P4 | exact P5 | exact P6) (.cons (by first | exact P0 | exact P1 | exact P2 | exact P3 | exact P4 | exact P5 | exact P6) .nil))))))
   ·
    intro ht73
    try simp only [decide_eq_true_eq, decide_eq_false_iff_not, beq_iff_eq, beq_eq_false_iff_ne, bne_iff_ne, bne_eq_false_iff_eq, Bool.not_eq_true', Bool.not_eq_false', ne_eq] at ht73
    rw [atS, if_neg ht73] at hs
    refine T.skip ?_
    refine TE.out ?_
    refine TE.next ?_
    refine T.region ?_
    refine TL.val (OpV.move rfl) rfl ?_
    refine TL.val (OpV.add rfl rfl (by first | exact IntWalk.i64_in _ ⟨by omega, by omega⟩ | rfl)) rfl ?_
    refine TL.val (OpV.assign rfl) rfl ?_
    refine TL.nil ?_
    exact TE.meet (i + 1) ⟨by omega, by omega⟩ (.cons (t := 0) (by first | rfl | (simp [lk]; done)) <| .cons (t := 2) (by first | rfl | (simp [lk]; done)) <| .cons (t := 10) (by first | rfl | (simp [lk]; done)) <| .cons (t := 11) (by first | rfl | (simp [lk]; done)) <| .cons (t := 12) (by rw [hs]; rfl) <| .cons (t := 13) (by first | rfl | (simp [lk]; done)) <| .nil) ((by rw [hs]; exact Perm.kle (.cons (by first | exact P0 | exact P1 | exact P2 | exact P3 | exact P4 | exact P5 | exact P6) (.cons (by first | exact P0 | exact P1 | exact P2 | exact P3 | exact P4 | exact P5 | exact P6) (.cons (by first | exact P0 | exact P1 | exact P2 | exact P3 | exact P4 | exact P5 | exact P6) (.cons (by first | exact P0 | exact P1 | exact P2 | exact P3 | exact P4 | exact P5 | exact P6) .nil))))))
  ·
   intro ht64
   try simp only [decide_eq_true_eq, decide_eq_false_iff_not, beq_iff_eq, beq_eq_false_iff_ne, bne_iff_ne, bne_eq_false_iff_eq, Bool.not_eq_true', Bool.not_eq_false', ne_eq] at ht64
   have hX : (cmdsV xs).take i = cmdsV xs := List.take_of_length_le (by omega)
   rw [hX]
   refine T.exit ?_
   refine TE.pass_exit ?_
   refine TE.pass_exit ?_
   refine TE.here ?_
   refine TE.next ?_
   refine T.seq ?_
   refine T.region ?_
   refine TL.val (OpV.move rfl) rfl ?_
   refine TL.val (OpV.move rfl) rfl ?_
   refine TL.val (OpV.loadA ag_41 rfl (Cels.blkAt (atF line (cmdsV xs)).1.l (by first | exact P0 | exact P1 | exact P2 | exact P3 | exact P4 | exact P5 | exact P6) rfl rfl)) rfl ?_
   refine TL.val (OpV.move rfl) rfl ?_
   refine TL.call (g := 22) rfl go_22 rfl (fun w1 k1 => ats_c line _ _ w1 hm hn (k1.get (e := .fr σ) (by first | exact P0 | exact P1 | exact P2 | exact P3 | exact P4 | exact P5 | exact P6))) rfl ?_
   refine TL.val (OpV.assign rfl) rfl ?_
   refine TL.nil ?_
   refine TE.sub (.cons (t := 6) rfl <| .nil) ?_
   refine TE.next ?_
   refine T.ret ?_
   refine TE.ret1 rfl (ResV.tmp rfl) ?_
   exact fun w1 k1 => ⟨ret_b (w := w) (w' := w) (by rw [at_law hok]; simp), k1.bel⟩
end Go.Proofs.Ytaoepaonjeilgaa
