/-
  The walks of Clone, Len, All, Copy and Put. No condition.
-/
import Derived.Test.YtaoepaonjeilgaaMa
namespace Go.Proofs.Ytaoepaonjeilgaa
open Go.RowKit
set_option linter.unusedSimpArgs false
set_option linter.unusedVariables false
theorem fo_26_0 : fOff Try.prog 26 0 = some 0 := by kernel_rfl
theorem go_29 : isGo Try.prog 29 = true := by kernel_rfl
theorem inf_31 : (Try.prog.info? 31).map (fun i => (i.zero, i.size, i.bytes)) = some (some (.agg #[.int .i64 0, .int .i64 0, .int .i64 0]), 3, 24) := by kernel_rfl
theorem mix : Try.prog.follows .mixedOrders = true := by kernel_rfl
theorem pl_24 : plainT Try.prog 24 = true := by kernel_rfl
theorem se_24 : sEl Try.prog 24 = some (31, 3) := by kernel_rfl
theorem szz_24 : sz Try.prog 24 = some 1 := by kernel_rfl
theorem bld_26_0 (A : Option Addr) (n c : Nat) (w : World) : (Instr.build 26 #[(0, .slice A n c)]).run Try.prog w = .ok (.agg [Value.slice A n c].toArray) w := by kernel_rfl
theorem sl_24_1_0 (x : Mk) (w : World) : (Instr.buildSlice 24 1 #[(0, .agg x.l.toArray)]).run Try.prog w = .ok (.slice (some ⟨w.heap.size, 0, none⟩) 1 1) (w.alloc (.cells x.l.toArray 31)) := by kernel_rfl
set_option maxRecDepth 100000 in
set_option maxHeartbeats 400000 in
theorem clone_c {σ : Nat → Option Obj} {A : Option Addr} {n c : Nat} {xs : List Mk} (w : World) (h : MsR σ A n c xs) (hs : ∀ b o, σ b = some o → w.heap[b]? = some o) (hn : n ≤ 1073741824) : Calls Try.prog 29 #[.slice A n c] w (fun e w' => ∃ i : Option Addr × Nat, e = .returned (.slice i.1 n i.2) ∧ (i.1 = none → i.2 = 0) ∧ KOk w [.row 31 3 i.1 n i.2 (ml xs)] w') := by
 have hn63 := h.2.1
 have hc63 := h.2.2.1
 have hl1 := h.1
 refine calls_T (vs := [.slice A n c]) (L0 := [(0, .slice A n c)]) Try.func29 rfl rfl rfl rfl (KOk.fr1 hs) ?_
 refine T.seq ?_
 refine T.region ?_
 refine TL.val (OpV.assign rfl) rfl ?_
 refine TL.nil ?_
 refine TE.next ?_
 refine T.seq ?_
 refine T.seq ?_
 refine T.region ?_
 refine TL.val (OpV.move rfl) rfl ?_
 refine TL.val (opv_slnil Try.underlying24 rfl rfl) rfl ?_
 refine TL.nil ?_
 refine TE.next ?_
 refine T.cond rfl ?_ ?_
 ·
  intro ht4
  have hA : A = none := by simpa using ht4
  have hc0 := h.2.2.2.1 hA
  have hx0 : xs = [] := List.length_eq_zero_iff.1 (by omega)
  have hn0 : n = 0 := by omega
  refine T.seq ?_
  refine T.region ?_
  refine TL.val (OpV.assign rfl) rfl ?_
  refine TL.nil ?_
  refine TE.next ?_
  refine T.ret ?_
  refine TE.pass_ret ?_
  refine TE.ret1 rfl (ResV.tmp rfl) ?_
  exact fun wz kz => ⟨(none, 0), by rw [hn0], fun _ => rfl, by rw [hx0, hn0]; exact Perm.kle (.cons .here .nil) wz (Kle.nilRow 31 3 wz kz)⟩
 ·
  intro ht4
  refine T.skip ?_
  refine TE.next ?_
  refine T.seq ?_
  refine T.region ?_
  refine TL.slit (qs := #[]) (fun _ _ => by simp) (sl_24_0) rfl ?_
  intro b5
  refine TL.kle (Kle.blkRow (m := 0) (z := 3) rfl (by decide)) ?_
  refine TL.val (OpV.move rfl) rfl ?_
  obtain ⟨ti7, hi7, hz7, hs7, hb7⟩ := info_parts inf_31
  refine TL.append rfl rfl Try.underlying24 hi7 hz7 hs7 hb7 rfl (by omega) (by first | exact P0 | exact P1 | exact P2 | exact P3) (Src.sl Mk.l_length (by decide) (fun wz kz => kz.get (e := .fr σ) (by first | exact P0 | exact P1 | exact P2 | exact P3 | exact P4 | exact P5 | exact P6)) h) (fun h9 => h.2.2.2.1 h9) (ml_one _) (by omega) (by omega) rfl ?_
  clear hi7 hz7 hs7 hb7 ti7
  intro A7 c7 hn7
  refine TL.val (OpV.assign rfl) rfl ?_
  refine TL.nil ?_
  refine TE.next ?_
  refine T.ret ?_
  refine TE.ret1 rfl (ResV.tmp rfl) ?_
  intro wz kz
  rw [Nat.zero_add, List.nil_append] at kz
  exact ⟨(A7, c7), by rw [Nat.zero_add], hn7, Perm.kle (.cons (by first | exact P0 | exact P1 | exact P2 | exact P3 | exact P4 | exact P5 | exact P6) .nil) wz kz⟩
set_option maxRecDepth 100000 in
set_option maxHeartbeats 400000 in
theorem len_c {σ : Nat → Option Obj} {bm : Nat} {xs : List Mk} (w : World) (hm : MoR σ bm xs) (hs : ∀ b o, σ b = some o → w.heap[b]? = some o) : Calls Try.prog 10 #[.pointer (some ⟨bm, 0, none⟩)] w (Ret (.int .i64 (xs.length : Int)) w) := by
 obtain ⟨A, c, hm1, h⟩ := hm
 have hn63 := h.2.1
 have hc63 := h.2.2.1
 refine calls_T (vs := [.pointer (some ⟨bm, 0, none⟩)]) (L0 := [(0, .pointer (some ⟨bm, 0, none⟩))]) Try.func10 rfl rfl rfl rfl (KOk.fr1 hs) ?_
 refine T.seq ?_
 refine T.region ?_
 refine TL.val (OpV.assign rfl) rfl ?_
 refine TL.nil ?_
 refine TE.next ?_
 refine T.seq ?_
 refine T.seq ?_
 refine T.region ?_
 refine TL.val (OpV.move rfl) rfl ?_
 refine TL.val (OpV.peql Try.underlying23 rfl rfl) rfl ?_
 refine TL.said (t := 4) rfl (show _ = Value.bool false from congrArg Value.bool (rfl)) ?_
 refine TL.nil ?_
 refine TE.next ?_
 refine T.no rfl ?_
 refine T.skip ?_
 refine TE.next ?_
 refine T.seq ?_
 refine T.region ?_
 refine TL.val (OpV.move rfl) rfl ?_
 refine TL.val (OpV.nil rfl) rfl ?_
 refine TL.val (OpV.fieldAddr rfl fo_26_0) rfl ?_
 refine TL.val (OpV.load pl_24 rfl (by first | exact Cel.blk P0 rfl | exact Cel.blk P1 rfl | exact Cel.blk P2 rfl | exact Cel.blk P3 rfl | exact Cel.frA (hm1))) rfl ?_
 refine TL.val (OpV.len Try.underlying24 rfl) rfl ?_
 refine TL.val (OpV.assign rfl) rfl ?_
 refine TL.nil ?_
 refine TE.sub (.cons (t := 2) rfl <| .nil) ?_
 refine TE.next ?_
 refine T.ret ?_
 refine TE.ret1 rfl (ResV.tmp rfl) ?_
 exact fun w1 k1 => ⟨rfl, k1.bel⟩
set_option maxRecDepth 100000 in
set_option maxHeartbeats 400000 in
theorem len_nil (w : World) : Calls Try.prog 10 #[.pointer none] w (Ret (.int .i64 0) w) := by
 refine calls_T (vs := [.pointer none]) (L0 := [(0, .pointer none)]) Try.func10 rfl rfl rfl rfl (KOk.none w) ?_
 refine T.seq ?_
 refine T.region ?_
 refine TL.val (OpV.assign rfl) rfl ?_
 refine TL.nil ?_
 refine TE.next ?_
 refine T.seq ?_
 refine T.seq ?_
 refine T.region ?_
 refine TL.val (OpV.move rfl) rfl ?_
 refine TL.val (OpV.peql Try.underlying23 rfl rfl) rfl ?_
 refine TL.said (t := 4) rfl (show _ = Value.bool true from congrArg Value.bool (rfl)) ?_
 refine TL.nil ?_
 refine TE.next ?_
 refine T.yes rfl ?_
 refine T.seq ?_
 refine T.region ?_
 refine TL.val (OpV.assign rfl) rfl ?_
 refine TL.nil ?_
 refine TE.next ?_
 refine T.ret ?_
 refine TE.pass_ret ?_
 refine TE.ret1 rfl (ResV.tmp rfl) ?_
 exact fun w1 k1 => ⟨rfl, k1.bel⟩
set_option maxRecDepth 100000 in
set_option maxHeartbeats 400000 in
theorem all_c {σ : Nat → Option Obj} {bm : Nat} {xs : List Mk} (w : World) (hm : MoR σ bm xs) (hs : ∀ b o, σ b = some o → w.heap[b]? = some o) (hn : xs.length ≤ 1073741824) : Calls Try.prog 16 #[.pointer (some ⟨bm, 0, none⟩)] w (fun e w' => ∃ i : Option Addr × Nat, e = .returned (.slice i.1 xs.length i.2) ∧ (i.1 = none → i.2 = 0) ∧ KOk w [.row 31 3 i.1 xs.length i.2 (ml xs)] w') := by
 obtain ⟨A, c, hm1, h⟩ := hm
 have hn63 := h.2.1
 have hc63 := h.2.2.1
 refine calls_T (vs := [.pointer (some ⟨bm, 0, none⟩)]) (L0 := [(0, .pointer (some ⟨bm, 0, none⟩))]) Try.func16 rfl rfl rfl rfl (KOk.fr1 hs) ?_
 refine T.seq ?_
 refine T.region ?_
 refine TL.val (OpV.assign rfl) rfl ?_
 refine TL.nil ?_
 refine TE.next ?_
 refine T.seq ?_
 refine T.seq ?_
 refine T.region ?_
 refine TL.val (OpV.move rfl) rfl ?_
 refine TL.val (OpV.peql Try.underlying23 rfl rfl) rfl ?_
 refine TL.said (t := 4) rfl (show _ = Value.bool false from congrArg Value.bool (rfl)) ?_
 refine TL.nil ?_
 refine TE.next ?_
 refine T.no rfl ?_
 refine T.skip ?_
 refine TE.next ?_
 refine T.seq ?_
 refine T.region ?_
 refine TL.val (OpV.move rfl) rfl ?_
 refine TL.val (OpV.nil rfl) rfl ?_
 refine TL.val (OpV.fieldAddr rfl fo_26_0) rfl ?_
 refine TL.val (OpV.load pl_24 rfl (by first | exact Cel.blk P0 rfl | exact Cel.blk P1 rfl | exact Cel.blk P2 rfl | exact Cel.blk P3 rfl | exact Cel.frA (hm1))) rfl ?_
 refine TL.callx (g := 29) rfl go_29 rfl (fun wz k1 => add_x k1 (clone_c wz h (k1.get (e := .fr σ) (by first | exact P0 | exact P1 | exact P2 | exact P3 | exact P4 | exact P5)) hn)) rfl ?_
 rintro ⟨A2, c2⟩ hA2
 replace hA2 : A2 = none → c2 = 0 := hA2
 refine TL.val (OpV.assign rfl) rfl ?_
 refine TL.nil ?_
 refine TE.sub (.cons (t := 2) rfl <| .nil) ?_
 refine TE.next ?_
 refine T.ret ?_
 refine TE.ret1 rfl (ResV.tmp rfl) ?_
 exact fun w1 k1 => ⟨(A2, c2), rfl, hA2, Perm.kle (.cons (by first | exact P0 | exact P1 | exact P2 | exact P3 | exact P4 | exact P5 | exact P6) .nil) w1 k1⟩
set_option maxRecDepth 100000 in
set_option maxHeartbeats 400000 in
theorem all_nil (w : World) : Calls Try.prog 16 #[.pointer none] w (Ret (.slice none 0 0) w) := by
 refine calls_T (vs := [.pointer none]) (L0 := [(0, .pointer none)]) Try.func16 rfl rfl rfl rfl (KOk.none w) ?_
 refine T.seq ?_
 refine T.region ?_
 refine TL.val (OpV.assign rfl) rfl ?_
 refine TL.nil ?_
 refine TE.next ?_
 refine T.seq ?_
 refine T.seq ?_
 refine T.region ?_
 refine TL.val (OpV.move rfl) rfl ?_
 refine TL.val (OpV.peql Try.underlying23 rfl rfl) rfl ?_
 refine TL.said (t := 4) rfl (show _ = Value.bool true from congrArg Value.bool (rfl)) ?_
 refine TL.nil ?_
 refine TE.next ?_
 refine T.yes rfl ?_
 refine T.seq ?_
 refine T.region ?_
 refine TL.val (OpV.assign rfl) rfl ?_
 refine TL.nil ?_
 refine TE.next ?_
 refine T.ret ?_
 refine TE.pass_ret ?_
 refine TE.ret1 rfl (ResV.tmp rfl) ?_
 exact fun w1 k1 => ⟨rfl, k1.bel⟩
set_option maxRecDepth 100000 in
set_option maxHeartbeats 400000 in
theorem copy_c {σ : Nat → Option Obj} {bm : Nat} {xs : List Mk} (w : World) (hm : MoR σ bm xs) (hs : ∀ b o, σ b = some o → w.heap[b]? = some o) (hn : xs.length ≤ 1073741824) : Calls Try.prog 20 #[.pointer (some ⟨bm, 0, none⟩)] w (fun e w' => ∃ i : Nat × Option Addr × Nat, e = .returned (.pointer (some ⟨i.1, 0, none⟩)) ∧ (i.2.1 = none → i.2.2 = 0) ∧ KOk w [.blk i.1 [.slice i.2.1 xs.length i.2.2] 26, .row 31 3 i.2.1 xs.length i.2.2 (ml xs)] w') := by
 obtain ⟨A, c, hm1, h⟩ := hm
 have hn63 := h.2.1
 have hc63 := h.2.2.1
 refine calls_T (vs := [.pointer (some ⟨bm, 0, none⟩)]) (L0 := [(0, .pointer (some ⟨bm, 0, none⟩))]) Try.func20 rfl rfl rfl rfl (KOk.fr1 hs) ?_
 refine T.seq ?_
 refine T.region ?_
 refine TL.val (OpV.assign rfl) rfl ?_
 refine TL.nil ?_
 refine TE.next ?_
 refine T.seq ?_
 refine T.seq ?_
 refine T.region ?_
 refine TL.val (OpV.move rfl) rfl ?_
 refine TL.val (OpV.peql Try.underlying23 rfl rfl) rfl ?_
 refine TL.said (t := 4) rfl (show _ = Value.bool false from congrArg Value.bool (rfl)) ?_
 refine TL.nil ?_
 refine TE.next ?_
 refine T.no rfl ?_
 refine T.skip ?_
 refine TE.next ?_
 refine T.seq ?_
 refine T.region ?_
 refine TL.val (OpV.move rfl) rfl ?_
 refine TL.val (OpV.nil rfl) rfl ?_
 refine TL.val (OpV.fieldAddr rfl fo_26_0) rfl ?_
 refine TL.val (OpV.load pl_24 rfl (by first | exact Cel.blk P0 rfl | exact Cel.blk P1 rfl | exact Cel.blk P2 rfl | exact Cel.blk P3 rfl | exact Cel.frA (hm1))) rfl ?_
 refine TL.callx (g := 29) rfl go_29 rfl (fun wz k1 => add_x k1 (clone_c wz h (k1.get (e := .fr σ) (by first | exact P0 | exact P1 | exact P2 | exact P3 | exact P4 | exact P5)) hn)) rfl ?_
 rintro ⟨A2, c2⟩ hA2
 replace hA2 : A2 = none → c2 = 0 := hA2
 refine TL.val (OpV.build (qs := #[(0, _)]) (fun _ f => by simp only [List.map_toArray, List.map_cons, List.map_nil]; rw [f.ev (x := .tmp 9) rfl]) (bld_26_0 A2 xs.length c2 )) rfl ?_
 refine TL.boxA rfl rfl ?_
 intro b11
 refine TL.val (OpV.assign rfl) rfl ?_
 refine TL.nil ?_
 refine TE.sub (.cons (t := 2) rfl <| .nil) ?_
 refine TE.next ?_
 refine T.ret ?_
 refine TE.ret1 rfl (ResV.tmp rfl) ?_
 exact fun w1 k1 => ⟨(b11, A2, c2), rfl, hA2, Perm.kle (.cons (by first | exact P0 | exact P1 | exact P2 | exact P3 | exact P4 | exact P5 | exact P6) (.cons (by first | exact P0 | exact P1 | exact P2 | exact P3 | exact P4 | exact P5 | exact P6) .nil)) w1 k1⟩
set_option maxRecDepth 100000 in
set_option maxHeartbeats 400000 in
theorem copy_nil (w : World) : Calls Try.prog 20 #[.pointer none] w (Ret (.pointer none) w) := by
 refine calls_T (vs := [.pointer none]) (L0 := [(0, .pointer none)]) Try.func20 rfl rfl rfl rfl (KOk.none w) ?_
 refine T.seq ?_
 refine T.region ?_
 refine TL.val (OpV.assign rfl) rfl ?_
 refine TL.nil ?_
 refine TE.next ?_
 refine T.seq ?_
 refine T.seq ?_
 refine T.region ?_
 refine TL.val (OpV.move rfl) rfl ?_
 refine TL.val (OpV.peql Try.underlying23 rfl rfl) rfl ?_
 refine TL.said (t := 4) rfl (show _ = Value.bool true from congrArg Value.bool (rfl)) ?_
 refine TL.nil ?_
 refine TE.next ?_
 refine T.yes rfl ?_
 refine T.seq ?_
 refine T.region ?_
 refine TL.val (OpV.assign rfl) rfl ?_
 refine TL.nil ?_
 refine TE.next ?_
 refine T.ret ?_
 refine TE.pass_ret ?_
 refine TE.ret1 rfl (ResV.tmp rfl) ?_
 exact fun w1 k1 => ⟨rfl, k1.bel⟩
set_option maxRecDepth 100000 in
set_option maxHeartbeats 400000 in
theorem put_c {w0 w : World} {bm : Nat} {A : Option Addr} {c : Nat} {xs : List Mk} {K : List Ent} (x : Mk) (hA : A = none → c = 0) (hn : xs.length ≤ 1000) (k : KOk w0 (.blk bm [.slice A xs.length c] 26 :: .row 31 3 A xs.length c (ml xs) :: K) w) : Calls Try.prog 8 #[.pointer (some ⟨bm, 0, none⟩), .agg x.l.toArray] w (fun e w' => ∃ i : Option Addr × Nat, e = .returned (.int .i64 (putE xs x)) ∧ (i.1 = none → i.2 = 0) ∧ KOk w0 (.blk bm [.slice i.1 (putX xs x).length i.2] 26 :: .row 31 3 i.1 (putX xs x).length i.2 (ml (putX xs x)) :: K) w') := by
 refine calls_T (vs := [.pointer (some ⟨bm, 0, none⟩), .agg x.l.toArray]) (L0 := [(0, .pointer (some ⟨bm, 0, none⟩)), (1, .agg x.l.toArray)]) Try.func8 rfl rfl rfl rfl (k) ?_
 refine T.seq ?_
 refine T.region ?_
 refine TL.boxA rfl rfl ?_
 intro b3
 refine TL.val (OpV.assign rfl) rfl ?_
 refine TL.nil ?_
 refine TE.next ?_
 refine T.seq ?_
 refine T.block ?_
 refine T.seq ?_
 refine T.region ?_
 refine TL.val (OpV.move rfl) rfl ?_
 refine TL.val (OpV.peql Try.underlying23 rfl rfl) rfl ?_
 refine TL.said (t := 7) rfl (show _ = Value.bool false from congrArg Value.bool (rfl)) ?_
 refine TL.val (OpV.assign rfl) rfl ?_
 refine TL.nil ?_
 refine TE.next ?_
 refine T.no rfl ?_
 refine T.seq ?_
 refine T.region ?_
 refine TL.val (OpV.fieldAddr rfl fo_31_0) rfl ?_
 refine TL.val (OpV.load pl_3 rfl (by first | exact Cel.blk P0 rfl | exact Cel.blk P1 rfl | exact Cel.blk P2 rfl | exact Cel.blk P3 rfl)) rfl ?_
 refine TL.val (OpV.lss rfl rfl) rfl ?_
 refine TL.val (OpV.move rfl) rfl ?_
 refine TL.part (t := 12) rfl ?_ ?_
 ·
  intro hg12
  try simp only [decide_eq_true_eq, decide_eq_false_iff_not, beq_iff_eq, beq_eq_false_iff_ne, bne_iff_ne, bne_eq_false_iff_eq, Bool.not_eq_true', Bool.not_eq_false', ne_eq] at hg12
  refine TL.shut rfl rfl ?_
  refine TL.shut rfl rfl ?_
  refine TL.shut rfl rfl ?_
  refine TL.val ((by first | exact OpV.pick_t rfl rfl | exact OpV.pick_f rfl rfl)) rfl ?_
  refine TL.val (OpV.move rfl) rfl ?_
  refine TL.shut rfl rfl ?_
  refine TL.shut rfl rfl ?_
  refine TL.shut rfl rfl ?_
  refine TL.shut rfl rfl ?_
  refine TL.val ((by first | exact OpV.pick_t rfl rfl | exact OpV.pick_f rfl rfl)) rfl ?_
  refine TL.val (OpV.move rfl) rfl ?_
  refine TL.shut rfl rfl ?_
  refine TL.shut rfl rfl ?_
  refine TL.shut rfl rfl ?_
  refine TL.val ((by first | exact OpV.pick_t rfl rfl | exact OpV.pick_f rfl rfl)) rfl ?_
  refine TL.val (OpV.move rfl) rfl ?_
  refine TL.shut rfl rfl ?_
  refine TL.shut rfl rfl ?_
  refine TL.shut rfl rfl ?_
  refine TL.val ((by first | exact OpV.pick_t rfl rfl | exact OpV.pick_f rfl rfl)) rfl ?_
  refine TL.val (OpV.move rfl) rfl ?_
  refine TL.shut rfl rfl ?_
  refine TL.shut rfl rfl ?_
  refine TL.shut rfl rfl ?_
  refine TL.shut rfl rfl ?_
  refine TL.shutU rfl rfl ?_
  refine TL.shutU rfl rfl ?_
  refine TL.shutU rfl rfl ?_
  refine TL.shut rfl rfl ?_
  refine TL.val ((by first | exact OpV.pick_t rfl rfl | exact OpV.pick_f rfl rfl)) rfl ?_
  refine TL.val (OpV.assign rfl) rfl ?_
  refine TL.nil ?_
  refine TE.sub (.cons (t := 0) rfl <| .cons (t := 3) rfl <| .cons (t := 8) rfl <| .nil) ?_
  refine TE.next ?_
  refine T.yes rfl ?_
  refine T.seq ?_
  refine T.region ?_
  refine TL.val (OpV.assign rfl) rfl ?_
  refine TL.nil ?_
  refine TE.next ?_
  refine T.ret ?_
  refine TE.out_ret ?_
  refine TE.pass_ret ?_
  refine TE.ret1 rfl (ResV.tmp rfl) ?_
  have hok : okM x = false := decide_eq_false (by (try simp only [kindB, Bool.and_eq_true, Bool.and_eq_false_iff, decide_eq_true_eq, decide_eq_false_iff_not] at *); omega)
  have hE : putE xs x = 2 := by rw [putE, hok]; rfl
  exact fun w1 k1 => ⟨(A, c), by rw [hE], hA, by rw [putX, hE, if_neg (by decide)]; exact Perm.kle (.cons (by first | exact P0 | exact P1 | exact P2 | exact P3 | exact P4 | exact P5 | exact P6) (.cons (by first | exact P0 | exact P1 | exact P2 | exact P3 | exact P4 | exact P5 | exact P6) .all)) w1 k1.tail⟩
 ·
  intro hg12
  try simp only [decide_eq_true_eq, decide_eq_false_iff_not, beq_iff_eq, beq_eq_false_iff_ne, bne_iff_ne, bne_eq_false_iff_eq, Bool.not_eq_true', Bool.not_eq_false', ne_eq] at hg12
  refine TL.open rfl rfl ?_
  refine TL.val (OpV.fieldAddr rfl fo_31_0) rfl ?_
  refine TL.open rfl rfl ?_
  refine TL.val (OpV.load pl_3 rfl (by first | exact Cel.blk P0 rfl | exact Cel.blk P1 rfl | exact Cel.blk P2 rfl | exact Cel.blk P3 rfl)) rfl ?_
  refine TL.open rfl rfl ?_
  refine TL.val (OpV.gtr rfl rfl) rfl ?_
  refine TL.val ((by first | exact OpV.pick_t rfl rfl | exact OpV.pick_f rfl rfl)) rfl ?_
  refine TL.val (OpV.move rfl) rfl ?_
  refine TL.part (t := 17) rfl ?_ ?_
  ·
   intro hg17
   try simp only [decide_eq_true_eq, decide_eq_false_iff_not, beq_iff_eq, beq_eq_false_iff_ne, bne_iff_ne, bne_eq_false_iff_eq, Bool.not_eq_true', Bool.not_eq_false', ne_eq] at hg17
   refine TL.shut rfl rfl ?_
   refine TL.shut rfl rfl ?_
   refine TL.shut rfl rfl ?_
   refine TL.shut rfl rfl ?_
   refine TL.val ((by first | exact OpV.pick_t rfl rfl | exact OpV.pick_f rfl rfl)) rfl ?_
   refine TL.val (OpV.move rfl) rfl ?_
   refine TL.shut rfl rfl ?_
   refine TL.shut rfl rfl ?_
   refine TL.shut rfl rfl ?_
   refine TL.val ((by first | exact OpV.pick_t rfl rfl | exact OpV.pick_f rfl rfl)) rfl ?_
   refine TL.val (OpV.move rfl) rfl ?_
   refine TL.shut rfl rfl ?_
   refine TL.shut rfl rfl ?_
   refine TL.shut rfl rfl ?_
   refine TL.val ((by first | exact OpV.pick_t rfl rfl | exact OpV.pick_f rfl rfl)) rfl ?_
   refine TL.val (OpV.move rfl) rfl ?_
   refine TL.shut rfl rfl ?_
   refine TL.shut rfl rfl ?_
   refine TL.shut rfl rfl ?_
   refine TL.shut rfl rfl ?_
   refine TL.shutU rfl rfl ?_
   refine TL.shutU rfl rfl ?_
   refine TL.shutU rfl rfl ?_
   refine TL.shut rfl rfl ?_
   refine TL.val ((by first | exact OpV.pick_t rfl rfl | exact OpV.pick_f rfl rfl)) rfl ?_
   refine TL.val (OpV.assign rfl) rfl ?_
   refine TL.nil ?_
   refine TE.sub (.cons (t := 0) rfl <| .cons (t := 3) rfl <| .cons (t := 8) rfl <| .nil) ?_
   refine TE.next ?_
   refine T.yes rfl ?_
   refine T.seq ?_
   refine T.region ?_
   refine TL.val (OpV.assign rfl) rfl ?_
   refine TL.nil ?_
   refine TE.next ?_
   refine T.ret ?_
   refine TE.out_ret ?_
   refine TE.pass_ret ?_
   refine TE.ret1 rfl (ResV.tmp rfl) ?_
   have hok : okM x = false := decide_eq_false (by (try simp only [kindB, Bool.and_eq_true, Bool.and_eq_false_iff, decide_eq_true_eq, decide_eq_false_iff_not] at *); omega)
   have hE : putE xs x = 2 := by rw [putE, hok]; rfl
   exact fun w1 k1 => ⟨(A, c), by rw [hE], hA, by rw [putX, hE, if_neg (by decide)]; exact Perm.kle (.cons (by first | exact P0 | exact P1 | exact P2 | exact P3 | exact P4 | exact P5 | exact P6) (.cons (by first | exact P0 | exact P1 | exact P2 | exact P3 | exact P4 | exact P5 | exact P6) .all)) w1 k1.tail⟩
  ·
   intro hg17
   try simp only [decide_eq_true_eq, decide_eq_false_iff_not, beq_iff_eq, beq_eq_false_iff_ne, bne_iff_ne, bne_eq_false_iff_eq, Bool.not_eq_true', Bool.not_eq_false', ne_eq] at hg17
   refine TL.open rfl rfl ?_
   refine TL.val (OpV.fieldAddr rfl fo_31_1) rfl ?_
   refine TL.open rfl rfl ?_
   refine TL.val (OpV.load pl_29 rfl (by first | exact Cel.blk P0 rfl | exact Cel.blk P1 rfl | exact Cel.blk P2 rfl | exact Cel.blk P3 rfl)) rfl ?_
   refine TL.open rfl rfl ?_
   refine TL.call (g := 24) rfl go_24 rfl (fun w1 k1 => kind_c x.kd w1) rfl ?_
   refine TL.open rfl rfl ?_
   refine TL.val (OpV.not rfl) rfl ?_
   refine TL.val ((by first | exact OpV.pick_t rfl rfl | exact OpV.pick_f rfl rfl)) rfl ?_
   refine TL.val (OpV.move rfl) rfl ?_
   refine TL.part (t := 23) rfl ?_ ?_
   ·
    intro hg23
    try simp only [decide_eq_true_eq, decide_eq_false_iff_not, beq_iff_eq, beq_eq_false_iff_ne, bne_iff_ne, bne_eq_false_iff_eq, Bool.not_eq_true', Bool.not_eq_false', ne_eq] at hg23
    refine TL.shut rfl rfl ?_
    refine TL.shut rfl rfl ?_
    refine TL.shut rfl rfl ?_
    refine TL.val ((by first | exact OpV.pick_t rfl rfl | exact OpV.pick_f rfl rfl)) rfl ?_
    refine TL.val (OpV.move rfl) rfl ?_
    refine TL.shut rfl rfl ?_
    refine TL.shut rfl rfl ?_
    refine TL.shut rfl rfl ?_
    refine TL.val ((by first | exact OpV.pick_t rfl rfl | exact OpV.pick_f rfl rfl)) rfl ?_
    refine TL.val (OpV.move rfl) rfl ?_
    refine TL.shut rfl rfl ?_
    refine TL.shut rfl rfl ?_
    refine TL.shut rfl rfl ?_
    refine TL.shut rfl rfl ?_
    refine TL.shutU rfl rfl ?_
    refine TL.shutU rfl rfl ?_
    refine TL.shutU rfl rfl ?_
    refine TL.shut rfl rfl ?_
    refine TL.val ((by first | exact OpV.pick_t rfl rfl | exact OpV.pick_f rfl rfl)) rfl ?_
    refine TL.val (OpV.assign rfl) rfl ?_
    refine TL.nil ?_
    refine TE.sub (.cons (t := 0) rfl <| .cons (t := 3) rfl <| .cons (t := 8) rfl <| .nil) ?_
    refine TE.next ?_
    refine T.yes rfl ?_
    refine T.seq ?_
    refine T.region ?_
    refine TL.val (OpV.assign rfl) rfl ?_
    refine TL.nil ?_
    refine TE.next ?_
    refine T.ret ?_
    refine TE.out_ret ?_
    refine TE.pass_ret ?_
    refine TE.ret1 rfl (ResV.tmp rfl) ?_
    have hok : okM x = false := decide_eq_false (by (try simp only [kindB, Bool.and_eq_true, Bool.and_eq_false_iff, decide_eq_true_eq, decide_eq_false_iff_not] at *); omega)
    have hE : putE xs x = 2 := by rw [putE, hok]; rfl
    exact fun w1 k1 => ⟨(A, c), by rw [hE], hA, by rw [putX, hE, if_neg (by decide)]; exact Perm.kle (.cons (by first | exact P0 | exact P1 | exact P2 | exact P3 | exact P4 | exact P5 | exact P6) (.cons (by first | exact P0 | exact P1 | exact P2 | exact P3 | exact P4 | exact P5 | exact P6) .all)) w1 k1.tail⟩
   ·
    intro hg23
    try simp only [decide_eq_true_eq, decide_eq_false_iff_not, beq_iff_eq, beq_eq_false_iff_ne, bne_iff_ne, bne_eq_false_iff_eq, Bool.not_eq_true', Bool.not_eq_false', ne_eq] at hg23
    refine TL.open rfl rfl ?_
    refine TL.val (OpV.fieldAddr rfl fo_31_2) rfl ?_
    refine TL.open rfl rfl ?_
    refine TL.val (OpV.load pl_3 rfl (by first | exact Cel.blk P0 rfl | exact Cel.blk P1 rfl | exact Cel.blk P2 rfl | exact Cel.blk P3 rfl)) rfl ?_
    refine TL.open rfl rfl ?_
    refine TL.val (OpV.lss rfl rfl) rfl ?_
    refine TL.val ((by first | exact OpV.pick_t rfl rfl | exact OpV.pick_f rfl rfl)) rfl ?_
    refine TL.val (OpV.move rfl) rfl ?_
    refine TL.part (t := 28) rfl ?_ ?_
    ·
     intro hg28
     try simp only [decide_eq_true_eq, decide_eq_false_iff_not, beq_iff_eq, beq_eq_false_iff_ne, bne_iff_ne, bne_eq_false_iff_eq, Bool.not_eq_true', Bool.not_eq_false', ne_eq] at hg28
     refine TL.shut rfl rfl ?_
     refine TL.shut rfl rfl ?_
     refine TL.shut rfl rfl ?_
     refine TL.val ((by first | exact OpV.pick_t rfl rfl | exact OpV.pick_f rfl rfl)) rfl ?_
     refine TL.val (OpV.move rfl) rfl ?_
     refine TL.shut rfl rfl ?_
     refine TL.shut rfl rfl ?_
     refine TL.shut rfl rfl ?_
     refine TL.shut rfl rfl ?_
     refine TL.shutU rfl rfl ?_
     refine TL.shutU rfl rfl ?_
     refine TL.shutU rfl rfl ?_
     refine TL.shut rfl rfl ?_
     refine TL.val ((by first | exact OpV.pick_t rfl rfl | exact OpV.pick_f rfl rfl)) rfl ?_
     refine TL.val (OpV.assign rfl) rfl ?_
     refine TL.nil ?_
     refine TE.sub (.cons (t := 0) rfl <| .cons (t := 3) rfl <| .cons (t := 8) rfl <| .nil) ?_
     refine TE.next ?_
     refine T.yes rfl ?_
     refine T.seq ?_
     refine T.region ?_
     refine TL.val (OpV.assign rfl) rfl ?_
     refine TL.nil ?_
     refine TE.next ?_
     refine T.ret ?_
     refine TE.out_ret ?_
     refine TE.pass_ret ?_
     refine TE.ret1 rfl (ResV.tmp rfl) ?_
     have hok : okM x = false := decide_eq_false (by (try simp only [kindB, Bool.and_eq_true, Bool.and_eq_false_iff, decide_eq_true_eq, decide_eq_false_iff_not] at *); omega)
     have hE : putE xs x = 2 := by rw [putE, hok]; rfl
     exact fun w1 k1 => ⟨(A, c), by rw [hE], hA, by rw [putX, hE, if_neg (by decide)]; exact Perm.kle (.cons (by first | exact P0 | exact P1 | exact P2 | exact P3 | exact P4 | exact P5 | exact P6) (.cons (by first | exact P0 | exact P1 | exact P2 | exact P3 | exact P4 | exact P5 | exact P6) .all)) w1 k1.tail⟩
    ·
     intro hg28
     try simp only [decide_eq_true_eq, decide_eq_false_iff_not, beq_iff_eq, beq_eq_false_iff_ne, bne_iff_ne, bne_eq_false_iff_eq, Bool.not_eq_true', Bool.not_eq_false', ne_eq] at hg28
     refine TL.open rfl rfl ?_
     refine TL.val (OpV.fieldAddr rfl fo_31_2) rfl ?_
     refine TL.open rfl rfl ?_
     refine TL.val (OpV.load pl_3 rfl (by first | exact Cel.blk P0 rfl | exact Cel.blk P1 rfl | exact Cel.blk P2 rfl | exact Cel.blk P3 rfl)) rfl ?_
     refine TL.open rfl rfl ?_
     refine TL.val (OpV.gtr rfl rfl) rfl ?_
     refine TL.val ((by first | exact OpV.pick_t rfl rfl | exact OpV.pick_f rfl rfl)) rfl ?_
     refine TL.val (OpV.move rfl) rfl ?_
     refine TL.part (t := 33) rfl ?_ ?_
     ·
      intro hg33
      try simp only [decide_eq_true_eq, decide_eq_false_iff_not, beq_iff_eq, beq_eq_false_iff_ne, bne_iff_ne, bne_eq_false_iff_eq, Bool.not_eq_true', Bool.not_eq_false', ne_eq] at hg33
      refine TL.shut rfl rfl ?_
      refine TL.shut rfl rfl ?_
      refine TL.shut rfl rfl ?_
      refine TL.shut rfl rfl ?_
      refine TL.shutU rfl rfl ?_
      refine TL.shutU rfl rfl ?_
      refine TL.shutU rfl rfl ?_
      refine TL.shut rfl rfl ?_
      refine TL.val ((by first | exact OpV.pick_t rfl rfl | exact OpV.pick_f rfl rfl)) rfl ?_
      refine TL.val (OpV.assign rfl) rfl ?_
      refine TL.nil ?_
      refine TE.sub (.cons (t := 0) rfl <| .cons (t := 3) rfl <| .cons (t := 8) rfl <| .nil) ?_
      refine TE.next ?_
      refine T.yes rfl ?_
      refine T.seq ?_
      refine T.region ?_
      refine TL.val (OpV.assign rfl) rfl ?_
      refine TL.nil ?_
      refine TE.next ?_
      refine T.ret ?_
      refine TE.out_ret ?_
      refine TE.pass_ret ?_
      refine TE.ret1 rfl (ResV.tmp rfl) ?_
      have hok : okM x = false := decide_eq_false (by (try simp only [kindB, Bool.and_eq_true, Bool.and_eq_false_iff, decide_eq_true_eq, decide_eq_false_iff_not] at *); omega)
      have hE : putE xs x = 2 := by rw [putE, hok]; rfl
      exact fun w1 k1 => ⟨(A, c), by rw [hE], hA, by rw [putX, hE, if_neg (by decide)]; exact Perm.kle (.cons (by first | exact P0 | exact P1 | exact P2 | exact P3 | exact P4 | exact P5 | exact P6) (.cons (by first | exact P0 | exact P1 | exact P2 | exact P3 | exact P4 | exact P5 | exact P6) .all)) w1 k1.tail⟩
     ·
      intro hg33
      try simp only [decide_eq_true_eq, decide_eq_false_iff_not, beq_iff_eq, beq_eq_false_iff_ne, bne_iff_ne, bne_eq_false_iff_eq, Bool.not_eq_true', Bool.not_eq_false', ne_eq] at hg33
      refine TL.open rfl rfl ?_
      refine TL.val (OpV.fieldAddr rfl fo_31_2) rfl ?_
      refine TL.open rfl rfl ?_
      refine TL.val (OpV.load pl_3 rfl (by first | exact Cel.blk P0 rfl | exact Cel.blk P1 rfl | exact Cel.blk P2 rfl | exact Cel.blk P3 rfl)) rfl ?_
      refine TL.open rfl rfl ?_
      refine TL.val (OpV.neq rfl rfl) rfl ?_
      refine TL.open rfl rfl ?_
      refine TL.val (OpV.move rfl) rfl ?_
      refine TL.part (t := 37) rfl ?_ ?_
      ·
       intro hg37
       try simp only [decide_eq_true_eq, decide_eq_false_iff_not, beq_iff_eq, beq_eq_false_iff_ne, bne_iff_ne, bne_eq_false_iff_eq, Bool.not_eq_true', Bool.not_eq_false', ne_eq] at hg37
       refine TL.open rfl rfl ?_
       refine TL.val (OpV.fieldAddr rfl fo_31_1) rfl ?_
       refine TL.open rfl rfl ?_
       refine TL.val (OpV.load pl_29 rfl (by first | exact Cel.blk P0 rfl | exact Cel.blk P1 rfl | exact Cel.blk P2 rfl | exact Cel.blk P3 rfl)) rfl ?_
       refine TL.open rfl rfl ?_
       refine TL.val (OpV.neq rfl rfl) rfl ?_
       refine TL.open rfl rfl ?_
       refine TL.val ((by first | exact OpV.pick_t rfl rfl | exact OpV.pick_f rfl rfl)) rfl ?_
       refine TL.val ((by first | exact OpV.pick_t rfl rfl | exact OpV.pick_f rfl rfl)) rfl ?_
       refine TL.val (OpV.assign rfl) rfl ?_
       refine TL.nil ?_
       refine TE.sub (.cons (t := 0) rfl <| .cons (t := 3) rfl <| .cons (t := 8) rfl <| .nil) ?_
       refine TE.next ?_
       refine T.cond rfl ?_ ?_
       ·
        intro ht8
        try simp only [decide_eq_true_eq, decide_eq_false_iff_not, beq_iff_eq, beq_eq_false_iff_ne, bne_iff_ne, bne_eq_false_iff_eq, Bool.not_eq_true', Bool.not_eq_false', ne_eq] at ht8
        refine T.seq ?_
        refine T.region ?_
        refine TL.val (OpV.assign rfl) rfl ?_
        refine TL.nil ?_
        refine TE.next ?_
        refine T.ret ?_
        refine TE.out_ret ?_
        refine TE.pass_ret ?_
        refine TE.ret1 rfl (ResV.tmp rfl) ?_
        have hok : okM x = false := decide_eq_false (by (try simp only [kindB, Bool.and_eq_true, Bool.and_eq_false_iff, decide_eq_true_eq, decide_eq_false_iff_not] at *); omega)
        have hE : putE xs x = 2 := by rw [putE, hok]; rfl
        exact fun w1 k1 => ⟨(A, c), by rw [hE], hA, by rw [putX, hE, if_neg (by decide)]; exact Perm.kle (.cons (by first | exact P0 | exact P1 | exact P2 | exact P3 | exact P4 | exact P5 | exact P6) (.cons (by first | exact P0 | exact P1 | exact P2 | exact P3 | exact P4 | exact P5 | exact P6) .all)) w1 k1.tail⟩
       ·
        intro ht8
        try simp only [decide_eq_true_eq, decide_eq_false_iff_not, beq_iff_eq, beq_eq_false_iff_ne, bne_iff_ne, bne_eq_false_iff_eq, Bool.not_eq_true', Bool.not_eq_false', ne_eq] at ht8
        refine T.seq ?_
        have hok : okM x = true := decide_eq_true (by (try simp only [kindB, Bool.and_eq_true, Bool.and_eq_false_iff, decide_eq_true_eq, decide_eq_false_iff_not] at *); omega)
        refine T.ex (fun wz kz => KOk.rowA (e := 31) (z := 3) (A := A) (m := xs.length) (c := c) (xs := ml xs) kz (by first | exact P0 | exact P1 | exact P2 | exact P3 | exact P4 | exact P5 | exact P6)) ?_
        rintro bA hbA
        refine T.quiet mix (by kernel_rfl) ?_
        refine TQ.val (OpV.move rfl) rfl ?_
        refine TQ.val (OpV.nil rfl) rfl ?_
        refine TQ.val (OpV.fieldAddr rfl fo_26_0) rfl ?_
        refine TQ.val (OpV.load pl_24 rfl (by first | exact Cel.blk P0 rfl | exact Cel.blk P1 rfl | exact Cel.blk P2 rfl | exact Cel.blk P3 rfl)) rfl ?_
        refine TQ.val (OpV.len Try.underlying24 rfl) rfl ?_
        refine TQ.val (OpV.gtr rfl rfl) rfl ?_
        refine TQ.val (OpV.move rfl) rfl ?_
        refine TQ.part (t := 50) rfl ?_ ?_
        ·
         intro hg50
         try simp only [decide_eq_true_eq, decide_eq_false_iff_not, beq_iff_eq, beq_eq_false_iff_ne, bne_iff_ne, bne_eq_false_iff_eq, Bool.not_eq_true', Bool.not_eq_false', ne_eq] at hg50
         obtain rfl := hbA (by omega)
         obtain ⟨y, hy⟩ := get_of_lt rfl (show xs.length - 1 < xs.length by omega)
         have hyl : lastM xs = some y := hy
         have hbf : beforeB xs x = decide (x.ln < y.ln) := by rw [beforeB, hyl]
         have hc0 : (ml xs)[(xs.length - 1) * 3]? = some (.int .i64 y.ln) := get_flat Mk.l_length xs (xs.length - 1) 0 y _ hy rfl
         refine TQ.open rfl rfl ?_
         refine TQ.val (OpV.fieldAddr rfl fo_31_0) rfl ?_
         refine TQ.open rfl rfl ?_
         refine TQ.val (OpV.load pl_3 rfl (by first | exact Cel.blk P0 rfl | exact Cel.blk P1 rfl | exact Cel.blk P2 rfl | exact Cel.blk P3 rfl)) rfl ?_
         refine TQ.open rfl rfl ?_
         refine TQ.val (OpV.move rfl) rfl ?_
         refine TQ.open rfl rfl ?_
         refine TQ.val (OpV.nil rfl) rfl ?_
         refine TQ.open rfl rfl ?_
         refine TQ.val (OpV.fieldAddr rfl fo_26_0) rfl ?_
         refine TQ.open rfl rfl ?_
         refine TQ.val (OpV.load pl_24 rfl (by first | exact Cel.blk P0 rfl | exact Cel.blk P1 rfl | exact Cel.blk P2 rfl | exact Cel.blk P3 rfl)) rfl ?_
         refine TQ.open rfl rfl ?_
         refine TQ.val (OpV.move rfl) rfl ?_
         refine TQ.open rfl rfl ?_
         refine TQ.val (OpV.nil rfl) rfl ?_
         refine TQ.open rfl rfl ?_
         refine TQ.val (OpV.fieldAddr rfl fo_26_0) rfl ?_
         refine TQ.open rfl rfl ?_
         refine TQ.val (OpV.load pl_24 rfl (by first | exact Cel.blk P0 rfl | exact Cel.blk P1 rfl | exact Cel.blk P2 rfl | exact Cel.blk P3 rfl)) rfl ?_
         refine TQ.open rfl rfl ?_
         refine TQ.val (OpV.len Try.underlying24 rfl) rfl ?_
         refine TQ.open rfl rfl ?_
         refine TQ.val (OpV.sub rfl rfl (by first | exact IntWalk.i64_in _ ⟨by omega, by omega⟩ | rfl)) rfl ?_
         refine TQ.open rfl rfl ?_
         refine TQ.val (OpV.indexAddr (j := (xs.length - 1)) se_24 rfl rfl rfl (by omega) (by omega)) rfl ?_
         refine TQ.open rfl rfl ?_
         refine TQ.val (OpV.fieldAddr rfl fo_31_0) rfl ?_
         refine TQ.open rfl rfl ?_
         refine TQ.val (OpV.load pl_3 rfl (Cel.row (s := none) (by first | exact P0 | exact P1 | exact P2 | exact P3 | exact P4 | exact P5 | exact P6) (by simpa using hc0))) rfl ?_
         refine TQ.open rfl rfl ?_
         refine TQ.val (OpV.lss rfl rfl) rfl ?_
         refine TQ.val ((by first | exact OpV.pick_t rfl rfl | exact OpV.pick_f rfl rfl)) rfl ?_
         refine TQ.val (OpV.assign rfl) rfl ?_
         refine TQ.nil ?_
         refine TE.sub (.cons (t := 0) rfl <| .cons (t := 3) rfl <| .cons (t := 43) rfl <| .nil) ?_
         refine TE.next ?_
         refine T.cond rfl ?_ ?_
         ·
          intro ht43
          try simp only [decide_eq_true_eq, decide_eq_false_iff_not, beq_iff_eq, beq_eq_false_iff_ne, bne_iff_ne, bne_eq_false_iff_eq, Bool.not_eq_true', Bool.not_eq_false', ne_eq] at ht43
          refine T.seq ?_
          refine T.region ?_
          refine TL.val (OpV.assign rfl) rfl ?_
          refine TL.nil ?_
          refine TE.next ?_
          refine T.ret ?_
          refine TE.out_ret ?_
          refine TE.pass_ret ?_
          refine TE.ret1 rfl (ResV.tmp rfl) ?_
          have hE : putE xs x = 13 := by rw [putE, hok, hbf]; simp [*]
          exact fun w1 k1 => ⟨(_, c), by rw [hE], hA, by rw [putX, hE, if_neg (by decide)]; exact Perm.kle (.cons (by first | exact P0 | exact P1 | exact P2 | exact P3 | exact P4 | exact P5 | exact P6) (.cons (by first | exact P0 | exact P1 | exact P2 | exact P3 | exact P4 | exact P5 | exact P6) .all)) w1 k1.tail⟩
         ·
          intro ht43
          try simp only [decide_eq_true_eq, decide_eq_false_iff_not, beq_iff_eq, beq_eq_false_iff_ne, bne_iff_ne, bne_eq_false_iff_eq, Bool.not_eq_true', Bool.not_eq_false', ne_eq] at ht43
          refine T.seq ?_
          refine T.region ?_
          refine TL.val (OpV.move rfl) rfl ?_
          refine TL.val (OpV.nil rfl) rfl ?_
          refine TL.val (OpV.fieldAddr rfl fo_26_0) rfl ?_
          refine TL.val (OpV.load pl_24 rfl (by first | exact Cel.blk P0 rfl | exact Cel.blk P1 rfl | exact Cel.blk P2 rfl | exact Cel.blk P3 rfl)) rfl ?_
          refine TL.val (OpV.len Try.underlying24 rfl) rfl ?_
          refine TL.val (OpV.geq rfl rfl) rfl ?_
          refine TL.val (OpV.assign rfl) rfl ?_
          refine TL.nil ?_
          refine TE.sub (.cons (t := 0) rfl <| .cons (t := 3) rfl <| .cons (t := 68) rfl <| .nil) ?_
          refine TE.next ?_
          refine T.cond rfl ?_ ?_
          ·
           intro ht68
           try simp only [decide_eq_true_eq, decide_eq_false_iff_not, beq_iff_eq, beq_eq_false_iff_ne, bne_iff_ne, bne_eq_false_iff_eq, Bool.not_eq_true', Bool.not_eq_false', ne_eq] at ht68
           refine T.seq ?_
           refine T.region ?_
           refine TL.val (OpV.assign rfl) rfl ?_
           refine TL.nil ?_
           refine TE.next ?_
           refine T.ret ?_
           refine TE.out_ret ?_
           refine TE.pass_ret ?_
           refine TE.ret1 rfl (ResV.tmp rfl) ?_
           have hE : putE xs x = 7 := by rw [putE, hok, hbf]; simp only [if_pos]; rw [if_neg (by simp [*]), if_pos (by omega)]
           exact fun w1 k1 => ⟨(_, c), by rw [hE], hA, by rw [putX, hE, if_neg (by decide)]; exact Perm.kle (.cons (by first | exact P0 | exact P1 | exact P2 | exact P3 | exact P4 | exact P5 | exact P6) (.cons (by first | exact P0 | exact P1 | exact P2 | exact P3 | exact P4 | exact P5 | exact P6) .all)) w1 k1.tail⟩
          ·
           intro ht68
           try simp only [decide_eq_true_eq, decide_eq_false_iff_not, beq_iff_eq, beq_eq_false_iff_ne, bne_iff_ne, bne_eq_false_iff_eq, Bool.not_eq_true', Bool.not_eq_false', ne_eq] at ht68
           refine T.skip ?_
           refine TE.out ?_
           refine TE.next ?_
           refine T.seq ?_
           refine T.any ([.blk bm [.slice (some ⟨bA, 0, none⟩) xs.length c] 26, .blk b3 x.l 31]) [10] mix rfl rfl ?_
           refine TA.takeP (i := 0) (ls := #[true, false, false, false, false, false, false, false, false, false, false]) rfl rfl rfl rfl rfl (by kernel_rfl) (by kernel_rfl) (by kernel_rfl) (by repeat (first | with_reducible exact PanicOk.body | with_reducible apply PanicOk.next | with_reducible apply PanicOk.block)) (OpV.move rfl) rfl (by kernel_rfl) ?_
           refine TA.takeP (i := 1) (ls := #[true, true, false, false, false, false, false, false, false, false, false]) rfl rfl rfl rfl rfl (by kernel_rfl) (by kernel_rfl) (by kernel_rfl) (by repeat (first | with_reducible exact PanicOk.body | with_reducible apply PanicOk.next | with_reducible apply PanicOk.block)) (OpV.move rfl) rfl (by kernel_rfl) ?_
           refine TA.takeP (i := 2) (ls := #[true, true, true, false, false, false, false, false, false, false, false]) rfl rfl rfl rfl rfl (by kernel_rfl) (by kernel_rfl) (by kernel_rfl) (by repeat (first | with_reducible exact PanicOk.body | with_reducible apply PanicOk.next | with_reducible apply PanicOk.block)) (OpV.nil rfl) rfl (by kernel_rfl) ?_
           refine TA.takeP (i := 3) (ls := #[true, true, true, true, false, false, false, false, false, false, false]) rfl rfl rfl rfl rfl (by kernel_rfl) (by kernel_rfl) (by kernel_rfl) (by repeat (first | with_reducible exact PanicOk.body | with_reducible apply PanicOk.next | with_reducible apply PanicOk.block)) (OpV.fieldAddr rfl fo_26_0) rfl (by kernel_rfl) ?_
           refine TA.take (i := 4) (ls := #[true, true, true, true, true, false, false, false, false, false, false]) rfl rfl rfl rfl rfl (by kernel_rfl) (by kernel_rfl) (by kernel_rfl) (by kernel_rfl) (by repeat (first | with_reducible exact PanicOk.body | with_reducible apply PanicOk.next | with_reducible apply PanicOk.block)) ((.cons (by first | exact P0 | exact P1 | exact P2 | exact P3 | exact P4 | exact P5 | exact P6) (.cons (by first | exact P0 | exact P1 | exact P2 | exact P3 | exact P4 | exact P5 | exact P6) .nil))) (OpV.load pl_24 rfl (by first | exact Cel.blk P0 rfl | exact Cel.blk P1 rfl | exact Cel.blk P2 rfl | exact Cel.blk P3 rfl)) rfl (by kernel_rfl) ?_
           refine TA.take (i := 5) (ls := #[true, true, true, true, true, true, false, false, false, false, false]) rfl rfl rfl rfl rfl (by kernel_rfl) (by kernel_rfl) (by kernel_rfl) (by kernel_rfl) (by repeat (first | with_reducible exact PanicOk.body | with_reducible apply PanicOk.next | with_reducible apply PanicOk.block)) ((.cons (by first | exact P0 | exact P1 | exact P2 | exact P3 | exact P4 | exact P5 | exact P6) (.cons (by first | exact P0 | exact P1 | exact P2 | exact P3 | exact P4 | exact P5 | exact P6) .nil))) (OpV.loadA ag_31 rfl (by first | exact Cels.blk P0 rfl | exact Cels.blk P1 rfl | exact Cels.blk P2 rfl | exact Cels.blk P3 rfl)) rfl (by kernel_rfl) ?_
           refine TA.one (i := 6) (ls := #[true, true, true, true, true, true, true, false, false, false, false]) (by kernel_rfl) rfl (by kernel_rfl) (fun w1 => ?_)
           refine TL.slit (qs := #[(0, _)]) (fun _ f => by simp only [List.map_toArray, List.map_cons, List.map_nil]; rw [f.ev (x := .tmp 80) rfl]) (sl_24_1_0 x) rfl ?_
           intro b81
           refine TL.nil ?_
           refine TA.cont ((.cons (by first | exact P0 | exact P1 | exact P2 | exact P3 | exact P4 | exact P5 | exact P6) (.cons (by first | exact P0 | exact P1 | exact P2 | exact P3 | exact P4 | exact P5 | exact P6) .nil))) ?_
           refine TA.one (i := 7) (ls := #[true, true, true, true, true, true, true, true, false, false, false]) (by kernel_rfl) rfl (by kernel_rfl) (fun w1 => ?_)
           obtain ⟨ti82, hi82, hz82, hs82, hb82⟩ := info_parts inf_31
           refine TL.append rfl rfl Try.underlying24 hi82 hz82 hs82 hb82 rfl (by omega) (by first | exact P0 | exact P1 | exact P2 | exact P3) (by first | exact Src.nil | exact Src.blk P0 rfl | exact Src.blk P1 rfl | exact Src.blk P2 rfl | exact Src.blk P3 rfl | exact Src.row P0 | exact Src.row P1 | exact Src.row P2 | exact Src.row P3) (fun h => by cases h) rfl (by omega) (by omega) rfl ?_
           clear hi82 hz82 hs82 hb82 ti82
           intro A82 c82 hn82
           refine TL.nil ?_
           refine TA.cont ((.cons (by first | exact P0 | exact P1 | exact P2 | exact P3 | exact P4 | exact P5 | exact P6) (.cons (by first | exact P0 | exact P1 | exact P2 | exact P3 | exact P4 | exact P5 | exact P6) .nil))) ?_
           refine TA.takeP (i := 8) (ls := #[true, true, true, true, true, true, true, true, true, false, false]) rfl rfl rfl rfl rfl (by kernel_rfl) (by kernel_rfl) (by kernel_rfl) (by repeat (first | with_reducible exact PanicOk.body | with_reducible apply PanicOk.next | with_reducible apply PanicOk.block)) (OpV.nil rfl) rfl (by kernel_rfl) ?_
           refine TA.takeP (i := 9) (ls := #[true, true, true, true, true, true, true, true, true, true, false]) rfl rfl rfl rfl rfl (by kernel_rfl) (by kernel_rfl) (by kernel_rfl) (by repeat (first | with_reducible exact PanicOk.body | with_reducible apply PanicOk.next | with_reducible apply PanicOk.block)) (OpV.fieldAddr rfl fo_26_0) rfl (by kernel_rfl) ?_
           refine TA.one (i := 10) (ls := #[true, true, true, true, true, true, true, true, true, true, true]) (by kernel_rfl) rfl (by kernel_rfl) (fun w1 => ?_)
           refine TL.store rfl rfl szz_24 rfl rfl rfl (by first | exact P0 | exact P1 | exact P2 | exact P3) (by first | exact Nat.le_of_ble_eq_true rfl | (simp; done) | (simp; omega)) (by simp only [Mk.l, putL, List.take_succ_cons, List.take_zero, List.drop_succ_cons, List.drop_zero, List.cons_append, List.nil_append, List.length_cons, List.length_nil, Nat.reduceAdd]; rfl) ?_
           refine TL.nil ?_
           refine TA.bar rfl ?_
           refine TA.done (by kernel_rfl) ?_
           refine TE.sub (.nil) ?_
           refine TE.next ?_
           refine T.seq ?_
           refine T.region ?_
           refine TL.val (OpV.assign rfl) rfl ?_
           refine TL.nil ?_
           refine TE.next ?_
           refine T.ret ?_
           refine TE.ret1 rfl (ResV.tmp rfl) ?_
           have hE : putE xs x = 0 := by rw [putE, hok, hbf]; simp only [if_pos]; rw [if_neg (by simp [*]), if_neg (by omega)]
           exact fun w1 k1 => ⟨(A82, c82), by rw [hE], hn82, by rw [putX, hE, if_pos rfl, ml_snoc, List.length_append]; exact Perm.kle (.cons (by first | exact P0 | exact P1 | exact P2 | exact P3 | exact P4 | exact P5 | exact P6) (.cons (by first | exact P0 | exact P1 | exact P2 | exact P3 | exact P4 | exact P5 | exact P6) (.drop (.drop .all)))) w1 k1⟩
        ·
         intro hg50
         try simp only [decide_eq_true_eq, decide_eq_false_iff_not, beq_iff_eq, beq_eq_false_iff_ne, bne_iff_ne, bne_eq_false_iff_eq, Bool.not_eq_true', Bool.not_eq_false', ne_eq] at hg50
         have hx0 : xs = [] := List.length_eq_zero_iff.1 (by omega)
         have hbf : beforeB xs x = false := by rw [hx0]; rfl
         refine TQ.shut rfl rfl ?_
         refine TQ.shut rfl rfl ?_
         refine TQ.shut rfl rfl ?_
         refine TQ.shut rfl rfl ?_
         refine TQ.shut rfl rfl ?_
         refine TQ.shut rfl rfl ?_
         refine TQ.shut rfl rfl ?_
         refine TQ.shut rfl rfl ?_
         refine TQ.shut rfl rfl ?_
         refine TQ.shut rfl rfl ?_
         refine TQ.shut rfl rfl ?_
         refine TQ.shut rfl rfl ?_
         refine TQ.shut rfl rfl ?_
         refine TQ.shut rfl rfl ?_
         refine TQ.shut rfl rfl ?_
         refine TQ.shut rfl rfl ?_
         refine TQ.val ((by first | exact OpV.pick_t rfl rfl | exact OpV.pick_f rfl rfl)) rfl ?_
         refine TQ.val (OpV.assign rfl) rfl ?_
         refine TQ.nil ?_
         refine TE.sub (.cons (t := 0) rfl <| .cons (t := 3) rfl <| .cons (t := 43) rfl <| .nil) ?_
         refine TE.next ?_
         refine T.no rfl ?_
         refine T.seq ?_
         refine T.region ?_
         refine TL.val (OpV.move rfl) rfl ?_
         refine TL.val (OpV.nil rfl) rfl ?_
         refine TL.val (OpV.fieldAddr rfl fo_26_0) rfl ?_
         refine TL.val (OpV.load pl_24 rfl (by first | exact Cel.blk P0 rfl | exact Cel.blk P1 rfl | exact Cel.blk P2 rfl | exact Cel.blk P3 rfl)) rfl ?_
         refine TL.val (OpV.len Try.underlying24 rfl) rfl ?_
         refine TL.val (OpV.geq rfl rfl) rfl ?_
         refine TL.val (OpV.assign rfl) rfl ?_
         refine TL.nil ?_
         refine TE.sub (.cons (t := 0) rfl <| .cons (t := 3) rfl <| .cons (t := 68) rfl <| .nil) ?_
         refine TE.next ?_
         refine T.cond rfl ?_ ?_
         ·
          intro ht68
          try simp only [decide_eq_true_eq, decide_eq_false_iff_not, beq_iff_eq, beq_eq_false_iff_ne, bne_iff_ne, bne_eq_false_iff_eq, Bool.not_eq_true', Bool.not_eq_false', ne_eq] at ht68
          refine T.seq ?_
          refine T.region ?_
          refine TL.val (OpV.assign rfl) rfl ?_
          refine TL.nil ?_
          refine TE.next ?_
          refine T.ret ?_
          refine TE.out_ret ?_
          refine TE.pass_ret ?_
          refine TE.ret1 rfl (ResV.tmp rfl) ?_
          have hE : putE xs x = 7 := by rw [putE, hok, hbf]; simp only [if_pos]; rw [if_neg (by simp [*]), if_pos (by omega)]
          exact fun w1 k1 => ⟨(_, c), by rw [hE], hA, by rw [putX, hE, if_neg (by decide)]; exact Perm.kle (.cons (by first | exact P0 | exact P1 | exact P2 | exact P3 | exact P4 | exact P5 | exact P6) (.cons (by first | exact P0 | exact P1 | exact P2 | exact P3 | exact P4 | exact P5 | exact P6) .all)) w1 k1.tail⟩
         ·
          intro ht68
          try simp only [decide_eq_true_eq, decide_eq_false_iff_not, beq_iff_eq, beq_eq_false_iff_ne, bne_iff_ne, bne_eq_false_iff_eq, Bool.not_eq_true', Bool.not_eq_false', ne_eq] at ht68
          refine T.skip ?_
          refine TE.out ?_
          refine TE.next ?_
          refine T.seq ?_
          refine T.any ([.blk bm [.slice A xs.length c] 26, .blk b3 x.l 31]) [10] mix rfl rfl ?_
          refine TA.takeP (i := 0) (ls := #[true, false, false, false, false, false, false, false, false, false, false]) rfl rfl rfl rfl rfl (by kernel_rfl) (by kernel_rfl) (by kernel_rfl) (by repeat (first | with_reducible exact PanicOk.body | with_reducible apply PanicOk.next | with_reducible apply PanicOk.block)) (OpV.move rfl) rfl (by kernel_rfl) ?_
          refine TA.takeP (i := 1) (ls := #[true, true, false, false, false, false, false, false, false, false, false]) rfl rfl rfl rfl rfl (by kernel_rfl) (by kernel_rfl) (by kernel_rfl) (by repeat (first | with_reducible exact PanicOk.body | with_reducible apply PanicOk.next | with_reducible apply PanicOk.block)) (OpV.move rfl) rfl (by kernel_rfl) ?_
          refine TA.takeP (i := 2) (ls := #[true, true, true, false, false, false, false, false, false, false, false]) rfl rfl rfl rfl rfl (by kernel_rfl) (by kernel_rfl) (by kernel_rfl) (by repeat (first | with_reducible exact PanicOk.body | with_reducible apply PanicOk.next | with_reducible apply PanicOk.block)) (OpV.nil rfl) rfl (by kernel_rfl) ?_
          refine TA.takeP (i := 3) (ls := #[true, true, true, true, false, false, false, false, false, false, false]) rfl rfl rfl rfl rfl (by kernel_rfl) (by kernel_rfl) (by kernel_rfl) (by repeat (first | with_reducible exact PanicOk.body | with_reducible apply PanicOk.next | with_reducible apply PanicOk.block)) (OpV.fieldAddr rfl fo_26_0) rfl (by kernel_rfl) ?_
          refine TA.take (i := 4) (ls := #[true, true, true, true, true, false, false, false, false, false, false]) rfl rfl rfl rfl rfl (by kernel_rfl) (by kernel_rfl) (by kernel_rfl) (by kernel_rfl) (by repeat (first | with_reducible exact PanicOk.body | with_reducible apply PanicOk.next | with_reducible apply PanicOk.block)) ((.cons (by first | exact P0 | exact P1 | exact P2 | exact P3 | exact P4 | exact P5 | exact P6) (.cons (by first | exact P0 | exact P1 | exact P2 | exact P3 | exact P4 | exact P5 | exact P6) .nil))) (OpV.load pl_24 rfl (by first | exact Cel.blk P0 rfl | exact Cel.blk P1 rfl | exact Cel.blk P2 rfl | exact Cel.blk P3 rfl)) rfl (by kernel_rfl) ?_
          refine TA.take (i := 5) (ls := #[true, true, true, true, true, true, false, false, false, false, false]) rfl rfl rfl rfl rfl (by kernel_rfl) (by kernel_rfl) (by kernel_rfl) (by kernel_rfl) (by repeat (first | with_reducible exact PanicOk.body | with_reducible apply PanicOk.next | with_reducible apply PanicOk.block)) ((.cons (by first | exact P0 | exact P1 | exact P2 | exact P3 | exact P4 | exact P5 | exact P6) (.cons (by first | exact P0 | exact P1 | exact P2 | exact P3 | exact P4 | exact P5 | exact P6) .nil))) (OpV.loadA ag_31 rfl (by first | exact Cels.blk P0 rfl | exact Cels.blk P1 rfl | exact Cels.blk P2 rfl | exact Cels.blk P3 rfl)) rfl (by kernel_rfl) ?_
          refine TA.one (i := 6) (ls := #[true, true, true, true, true, true, true, false, false, false, false]) (by kernel_rfl) rfl (by kernel_rfl) (fun w1 => ?_)
          refine TL.slit (qs := #[(0, _)]) (fun _ f => by simp only [List.map_toArray, List.map_cons, List.map_nil]; rw [f.ev (x := .tmp 80) rfl]) (sl_24_1_0 x) rfl ?_
          intro b81
          refine TL.nil ?_
          refine TA.cont ((.cons (by first | exact P0 | exact P1 | exact P2 | exact P3 | exact P4 | exact P5 | exact P6) (.cons (by first | exact P0 | exact P1 | exact P2 | exact P3 | exact P4 | exact P5 | exact P6) .nil))) ?_
          refine TA.one (i := 7) (ls := #[true, true, true, true, true, true, true, true, false, false, false]) (by kernel_rfl) rfl (by kernel_rfl) (fun w1 => ?_)
          obtain ⟨ti82, hi82, hz82, hs82, hb82⟩ := info_parts inf_31
          refine TL.append rfl rfl Try.underlying24 hi82 hz82 hs82 hb82 rfl (by omega) (by first | exact P0 | exact P1 | exact P2 | exact P3) (by first | exact Src.nil | exact Src.blk P0 rfl | exact Src.blk P1 rfl | exact Src.blk P2 rfl | exact Src.blk P3 rfl | exact Src.row P0 | exact Src.row P1 | exact Src.row P2 | exact Src.row P3) (fun h => by cases h) rfl (by omega) (by omega) rfl ?_
          clear hi82 hz82 hs82 hb82 ti82
          intro A82 c82 hn82
          refine TL.nil ?_
          refine TA.cont ((.cons (by first | exact P0 | exact P1 | exact P2 | exact P3 | exact P4 | exact P5 | exact P6) (.cons (by first | exact P0 | exact P1 | exact P2 | exact P3 | exact P4 | exact P5 | exact P6) .nil))) ?_
          refine TA.takeP (i := 8) (ls := #[true, true, true, true, true, true, true, true, true, false, false]) rfl rfl rfl rfl rfl (by kernel_rfl) (by kernel_rfl) (by kernel_rfl) (by repeat (first | with_reducible exact PanicOk.body | with_reducible apply PanicOk.next | with_reducible apply PanicOk.block)) (OpV.nil rfl) rfl (by kernel_rfl) ?_
          refine TA.takeP (i := 9) (ls := #[true, true, true, true, true, true, true, true, true, true, false]) rfl rfl rfl rfl rfl (by kernel_rfl) (by kernel_rfl) (by kernel_rfl) (by repeat (first | with_reducible exact PanicOk.body | with_reducible apply PanicOk.next | with_reducible apply PanicOk.block)) (OpV.fieldAddr rfl fo_26_0) rfl (by kernel_rfl) ?_
          refine TA.one (i := 10) (ls := #[true, true, true, true, true, true, true, true, true, true, true]) (by kernel_rfl) rfl (by kernel_rfl) (fun w1 => ?_)
          refine TL.store rfl rfl szz_24 rfl rfl rfl (by first | exact P0 | exact P1 | exact P2 | exact P3) (by first | exact Nat.le_of_ble_eq_true rfl | (simp; done) | (simp; omega)) (by simp only [Mk.l, putL, List.take_succ_cons, List.take_zero, List.drop_succ_cons, List.drop_zero, List.cons_append, List.nil_append, List.length_cons, List.length_nil, Nat.reduceAdd]; rfl) ?_
          refine TL.nil ?_
          refine TA.bar rfl ?_
          refine TA.done (by kernel_rfl) ?_
          refine TE.sub (.nil) ?_
          refine TE.next ?_
          refine T.seq ?_
          refine T.region ?_
          refine TL.val (OpV.assign rfl) rfl ?_
          refine TL.nil ?_
          refine TE.next ?_
          refine T.ret ?_
          refine TE.ret1 rfl (ResV.tmp rfl) ?_
          have hE : putE xs x = 0 := by rw [putE, hok, hbf]; simp only [if_pos]; rw [if_neg (by simp [*]), if_neg (by omega)]
          exact fun w1 k1 => ⟨(A82, c82), by rw [hE], hn82, by rw [putX, hE, if_pos rfl, ml_snoc, List.length_append]; exact Perm.kle (.cons (by first | exact P0 | exact P1 | exact P2 | exact P3 | exact P4 | exact P5 | exact P6) (.cons (by first | exact P0 | exact P1 | exact P2 | exact P3 | exact P4 | exact P5 | exact P6) (.drop (.drop .all)))) w1 k1⟩
      ·
       intro hg37
       try simp only [decide_eq_true_eq, decide_eq_false_iff_not, beq_iff_eq, beq_eq_false_iff_ne, bne_iff_ne, bne_eq_false_iff_eq, Bool.not_eq_true', Bool.not_eq_false', ne_eq] at hg37
       refine TL.shut rfl rfl ?_
       refine TL.shut rfl rfl ?_
       refine TL.shut rfl rfl ?_
       refine TL.open rfl rfl ?_
       refine TL.val ((by first | exact OpV.pick_t rfl rfl | exact OpV.pick_f rfl rfl)) rfl ?_
       refine TL.val ((by first | exact OpV.pick_t rfl rfl | exact OpV.pick_f rfl rfl)) rfl ?_
       refine TL.val (OpV.assign rfl) rfl ?_
       refine TL.nil ?_
       refine TE.sub (.cons (t := 0) rfl <| .cons (t := 3) rfl <| .cons (t := 8) rfl <| .nil) ?_
       refine TE.next ?_
       refine T.no rfl ?_
       refine T.seq ?_
       have hok : okM x = true := decide_eq_true (by (try simp only [kindB, Bool.and_eq_true, Bool.and_eq_false_iff, decide_eq_true_eq, decide_eq_false_iff_not] at *); omega)
       refine T.ex (fun wz kz => KOk.rowA (e := 31) (z := 3) (A := A) (m := xs.length) (c := c) (xs := ml xs) kz (by first | exact P0 | exact P1 | exact P2 | exact P3 | exact P4 | exact P5 | exact P6)) ?_
       rintro bA hbA
       refine T.quiet mix (by kernel_rfl) ?_
       refine TQ.val (OpV.move rfl) rfl ?_
       refine TQ.val (OpV.nil rfl) rfl ?_
       refine TQ.val (OpV.fieldAddr rfl fo_26_0) rfl ?_
       refine TQ.val (OpV.load pl_24 rfl (by first | exact Cel.blk P0 rfl | exact Cel.blk P1 rfl | exact Cel.blk P2 rfl | exact Cel.blk P3 rfl)) rfl ?_
       refine TQ.val (OpV.len Try.underlying24 rfl) rfl ?_
       refine TQ.val (OpV.gtr rfl rfl) rfl ?_
       refine TQ.val (OpV.move rfl) rfl ?_
       refine TQ.part (t := 50) rfl ?_ ?_
       ·
        intro hg50
        try simp only [decide_eq_true_eq, decide_eq_false_iff_not, beq_iff_eq, beq_eq_false_iff_ne, bne_iff_ne, bne_eq_false_iff_eq, Bool.not_eq_true', Bool.not_eq_false', ne_eq] at hg50
        obtain rfl := hbA (by omega)
        obtain ⟨y, hy⟩ := get_of_lt rfl (show xs.length - 1 < xs.length by omega)
        have hyl : lastM xs = some y := hy
        have hbf : beforeB xs x = decide (x.ln < y.ln) := by rw [beforeB, hyl]
        have hc0 : (ml xs)[(xs.length - 1) * 3]? = some (.int .i64 y.ln) := get_flat Mk.l_length xs (xs.length - 1) 0 y _ hy rfl
        refine TQ.open rfl rfl ?_
        refine TQ.val (OpV.fieldAddr rfl fo_31_0) rfl ?_
        refine TQ.open rfl rfl ?_
        refine TQ.val (OpV.load pl_3 rfl (by first | exact Cel.blk P0 rfl | exact Cel.blk P1 rfl | exact Cel.blk P2 rfl | exact Cel.blk P3 rfl)) rfl ?_
        refine TQ.open rfl rfl ?_
        refine TQ.val (OpV.move rfl) rfl ?_
        refine TQ.open rfl rfl ?_
        refine TQ.val (OpV.nil rfl) rfl ?_
        refine TQ.open rfl rfl ?_
        refine TQ.val (OpV.fieldAddr rfl fo_26_0) rfl ?_
        refine TQ.open rfl rfl ?_
        refine TQ.val (OpV.load pl_24 rfl (by first | exact Cel.blk P0 rfl | exact Cel.blk P1 rfl | exact Cel.blk P2 rfl | exact Cel.blk P3 rfl)) rfl ?_
        refine TQ.open rfl rfl ?_
        refine TQ.val (OpV.move rfl) rfl ?_
        refine TQ.open rfl rfl ?_
        refine TQ.val (OpV.nil rfl) rfl ?_
        refine TQ.open rfl rfl ?_
        refine TQ.val (OpV.fieldAddr rfl fo_26_0) rfl ?_
        refine TQ.open rfl rfl ?_
        refine TQ.val (OpV.load pl_24 rfl (by first | exact Cel.blk P0 rfl | exact Cel.blk P1 rfl | exact Cel.blk P2 rfl | exact Cel.blk P3 rfl)) rfl ?_
        refine TQ.open rfl rfl ?_
        refine TQ.val (OpV.len Try.underlying24 rfl) rfl ?_
        refine TQ.open rfl rfl ?_
        refine TQ.val (OpV.sub rfl rfl (by first | exact IntWalk.i64_in _ ⟨by omega, by omega⟩ | rfl)) rfl ?_
        refine TQ.open rfl rfl ?_
        refine TQ.val (OpV.indexAddr (j := (xs.length - 1)) se_24 rfl rfl rfl (by omega) (by omega)) rfl ?_
        refine TQ.open rfl rfl ?_
        refine TQ.val (OpV.fieldAddr rfl fo_31_0) rfl ?_
        refine TQ.open rfl rfl ?_
        refine TQ.val (OpV.load pl_3 rfl (Cel.row (s := none) (by first | exact P0 | exact P1 | exact P2 | exact P3 | exact P4 | exact P5 | exact P6) (by simpa using hc0))) rfl ?_
        refine TQ.open rfl rfl ?_
        refine TQ.val (OpV.lss rfl rfl) rfl ?_
        refine TQ.val ((by first | exact OpV.pick_t rfl rfl | exact OpV.pick_f rfl rfl)) rfl ?_
        refine TQ.val (OpV.assign rfl) rfl ?_
        refine TQ.nil ?_
        refine TE.sub (.cons (t := 0) rfl <| .cons (t := 3) rfl <| .cons (t := 43) rfl <| .nil) ?_
        refine TE.next ?_
        refine T.cond rfl ?_ ?_
        ·
         intro ht43
         try simp only [decide_eq_true_eq, decide_eq_false_iff_not, beq_iff_eq, beq_eq_false_iff_ne, bne_iff_ne, bne_eq_false_iff_eq, Bool.not_eq_true', Bool.not_eq_false', ne_eq] at ht43
         refine T.seq ?_
         refine T.region ?_
         refine TL.val (OpV.assign rfl) rfl ?_
         refine TL.nil ?_
         refine TE.next ?_
         refine T.ret ?_
         refine TE.out_ret ?_
         refine TE.pass_ret ?_
         refine TE.ret1 rfl (ResV.tmp rfl) ?_
         have hE : putE xs x = 13 := by rw [putE, hok, hbf]; simp [*]
         exact fun w1 k1 => ⟨(_, c), by rw [hE], hA, by rw [putX, hE, if_neg (by decide)]; exact Perm.kle (.cons (by first | exact P0 | exact P1 | exact P2 | exact P3 | exact P4 | exact P5 | exact P6) (.cons (by first | exact P0 | exact P1 | exact P2 | exact P3 | exact P4 | exact P5 | exact P6) .all)) w1 k1.tail⟩
        ·
         intro ht43
         try simp only [decide_eq_true_eq, decide_eq_false_iff_not, beq_iff_eq, beq_eq_false_iff_ne, bne_iff_ne, bne_eq_false_iff_eq, Bool.not_eq_true', Bool.not_eq_false', ne_eq] at ht43
         refine T.seq ?_
         refine T.region ?_
         refine TL.val (OpV.move rfl) rfl ?_
         refine TL.val (OpV.nil rfl) rfl ?_
         refine TL.val (OpV.fieldAddr rfl fo_26_0) rfl ?_
         refine TL.val (OpV.load pl_24 rfl (by first | exact Cel.blk P0 rfl | exact Cel.blk P1 rfl | exact Cel.blk P2 rfl | exact Cel.blk P3 rfl)) rfl ?_
         refine TL.val (OpV.len Try.underlying24 rfl) rfl ?_
         refine TL.val (OpV.geq rfl rfl) rfl ?_
         refine TL.val (OpV.assign rfl) rfl ?_
         refine TL.nil ?_
         refine TE.sub (.cons (t := 0) rfl <| .cons (t := 3) rfl <| .cons (t := 68) rfl <| .nil) ?_
         refine TE.next ?_
         refine T.cond rfl ?_ ?_
         ·
          intro ht68
          try simp only [decide_eq_true_eq, decide_eq_false_iff_not, beq_iff_eq, beq_eq_false_iff_ne, bne_iff_ne, bne_eq_false_iff_eq, Bool.not_eq_true', Bool.not_eq_false', ne_eq] at ht68
          refine T.seq ?_
          refine T.region ?_
          refine TL.val (OpV.assign rfl) rfl ?_
          refine TL.nil ?_
          refine TE.next ?_
          refine T.ret ?_
          refine TE.out_ret ?_
          refine TE.pass_ret ?_
          refine TE.ret1 rfl (ResV.tmp rfl) ?_
          have hE : putE xs x = 7 := by rw [putE, hok, hbf]; simp only [if_pos]; rw [if_neg (by simp [*]), if_pos (by omega)]
          exact fun w1 k1 => ⟨(_, c), by rw [hE], hA, by rw [putX, hE, if_neg (by decide)]; exact Perm.kle (.cons (by first | exact P0 | exact P1 | exact P2 | exact P3 | exact P4 | exact P5 | exact P6) (.cons (by first | exact P0 | exact P1 | exact P2 | exact P3 | exact P4 | exact P5 | exact P6) .all)) w1 k1.tail⟩
         ·
          intro ht68
          try simp only [decide_eq_true_eq, decide_eq_false_iff_not, beq_iff_eq, beq_eq_false_iff_ne, bne_iff_ne, bne_eq_false_iff_eq, Bool.not_eq_true', Bool.not_eq_false', ne_eq] at ht68
          refine T.skip ?_
          refine TE.out ?_
          refine TE.next ?_
          refine T.seq ?_
          refine T.any ([.blk bm [.slice (some ⟨bA, 0, none⟩) xs.length c] 26, .blk b3 x.l 31]) [10] mix rfl rfl ?_
          refine TA.takeP (i := 0) (ls := #[true, false, false, false, false, false, false, false, false, false, false]) rfl rfl rfl rfl rfl (by kernel_rfl) (by kernel_rfl) (by kernel_rfl) (by repeat (first | with_reducible exact PanicOk.body | with_reducible apply PanicOk.next | with_reducible apply PanicOk.block)) (OpV.move rfl) rfl (by kernel_rfl) ?_
          refine TA.takeP (i := 1) (ls := #[true, true, false, false, false, false, false, false, false, false, false]) rfl rfl rfl rfl rfl (by kernel_rfl) (by kernel_rfl) (by kernel_rfl) (by repeat (first | with_reducible exact PanicOk.body | with_reducible apply PanicOk.next | with_reducible apply PanicOk.block)) (OpV.move rfl) rfl (by kernel_rfl) ?_
          refine TA.takeP (i := 2) (ls := #[true, true, true, false, false, false, false, false, false, false, false]) rfl rfl rfl rfl rfl (by kernel_rfl) (by kernel_rfl) (by kernel_rfl) (by repeat (first | with_reducible exact PanicOk.body | with_reducible apply PanicOk.next | with_reducible apply PanicOk.block)) (OpV.nil rfl) rfl (by kernel_rfl) ?_
          refine TA.takeP (i := 3) (ls := #[true, true, true, true, false, false, false, false, false, false, false]) rfl rfl rfl rfl rfl (by kernel_rfl) (by kernel_rfl) (by kernel_rfl) (by repeat (first | with_reducible exact PanicOk.body | with_reducible apply PanicOk.next | with_reducible apply PanicOk.block)) (OpV.fieldAddr rfl fo_26_0) rfl (by kernel_rfl) ?_
          refine TA.take (i := 4) (ls := #[true, true, true, true, true, false, false, false, false, false, false]) rfl rfl rfl rfl rfl (by kernel_rfl) (by kernel_rfl) (by kernel_rfl) (by kernel_rfl) (by repeat (first | with_reducible exact PanicOk.body | with_reducible apply PanicOk.next | with_reducible apply PanicOk.block)) ((.cons (by first | exact P0 | exact P1 | exact P2 | exact P3 | exact P4 | exact P5 | exact P6) (.cons (by first | exact P0 | exact P1 | exact P2 | exact P3 | exact P4 | exact P5 | exact P6) .nil))) (OpV.load pl_24 rfl (by first | exact Cel.blk P0 rfl | exact Cel.blk P1 rfl | exact Cel.blk P2 rfl | exact Cel.blk P3 rfl)) rfl (by kernel_rfl) ?_
          refine TA.take (i := 5) (ls := #[true, true, true, true, true, true, false, false, false, false, false]) rfl rfl rfl rfl rfl (by kernel_rfl) (by kernel_rfl) (by kernel_rfl) (by kernel_rfl) (by repeat (first | with_reducible exact PanicOk.body | with_reducible apply PanicOk.next | with_reducible apply PanicOk.block)) ((.cons (by first | exact P0 | exact P1 | exact P2 | exact P3 | exact P4 | exact P5 | exact P6) (.cons (by first | exact P0 | exact P1 | exact P2 | exact P3 | exact P4 | exact P5 | exact P6) .nil))) (OpV.loadA ag_31 rfl (by first | exact Cels.blk P0 rfl | exact Cels.blk P1 rfl | exact Cels.blk P2 rfl | exact Cels.blk P3 rfl)) rfl (by kernel_rfl) ?_
          refine TA.one (i := 6) (ls := #[true, true, true, true, true, true, true, false, false, false, false]) (by kernel_rfl) rfl (by kernel_rfl) (fun w1 => ?_)
          refine TL.slit (qs := #[(0, _)]) (fun _ f => by simp only [List.map_toArray, List.map_cons, List.map_nil]; rw [f.ev (x := .tmp 80) rfl]) (sl_24_1_0 x) rfl ?_
          intro b81
          refine TL.nil ?_
          refine TA.cont ((.cons (by first | exact P0 | exact P1 | exact P2 | exact P3 | exact P4 | exact P5 | exact P6) (.cons (by first | exact P0 | exact P1 | exact P2 | exact P3 | exact P4 | exact P5 | exact P6) .nil))) ?_
          refine TA.one (i := 7) (ls := #[true, true, true, true, true, true, true, true, false, false, false]) (by kernel_rfl) rfl (by kernel_rfl) (fun w1 => ?_)
          obtain ⟨ti82, hi82, hz82, hs82, hb82⟩ := info_parts inf_31
          refine TL.append rfl rfl Try.underlying24 hi82 hz82 hs82 hb82 rfl (by omega) (by first | exact P0 | exact P1 | exact P2 | exact P3) (by first | exact Src.nil | exact Src.blk P0 rfl | exact Src.blk P1 rfl | exact Src.blk P2 rfl | exact Src.blk P3 rfl | exact Src.row P0 | exact Src.row P1 | exact Src.row P2 | exact Src.row P3) (fun h => by cases h) rfl (by omega) (by omega) rfl ?_
          clear hi82 hz82 hs82 hb82 ti82
          intro A82 c82 hn82
          refine TL.nil ?_
          refine TA.cont ((.cons (by first | exact P0 | exact P1 | exact P2 | exact P3 | exact P4 | exact P5 | exact P6) (.cons (by first | exact P0 | exact P1 | exact P2 | exact P3 | exact P4 | exact P5 | exact P6) .nil))) ?_
          refine TA.takeP (i := 8) (ls := #[true, true, true, true, true, true, true, true, true, false, false]) rfl rfl rfl rfl rfl (by kernel_rfl) (by kernel_rfl) (by kernel_rfl) (by repeat (first | with_reducible exact PanicOk.body | with_reducible apply PanicOk.next | with_reducible apply PanicOk.block)) (OpV.nil rfl) rfl (by kernel_rfl) ?_
          refine TA.takeP (i := 9) (ls := #[true, true, true, true, true, true, true, true, true, true, false]) rfl rfl rfl rfl rfl (by kernel_rfl) (by kernel_rfl) (by kernel_rfl) (by repeat (first | with_reducible exact PanicOk.body | with_reducible apply PanicOk.next | with_reducible apply PanicOk.block)) (OpV.fieldAddr rfl fo_26_0) rfl (by kernel_rfl) ?_
          refine TA.one (i := 10) (ls := #[true, true, true, true, true, true, true, true, true, true, true]) (by kernel_rfl) rfl (by kernel_rfl) (fun w1 => ?_)
          refine TL.store rfl rfl szz_24 rfl rfl rfl (by first | exact P0 | exact P1 | exact P2 | exact P3) (by first | exact Nat.le_of_ble_eq_true rfl | (simp; done) | (simp; omega)) (by simp only [Mk.l, putL, List.take_succ_cons, List.take_zero, List.drop_succ_cons, List.drop_zero, List.cons_append, List.nil_append, List.length_cons, List.length_nil, Nat.reduceAdd]; rfl) ?_
          refine TL.nil ?_
          refine TA.bar rfl ?_
          refine TA.done (by kernel_rfl) ?_
          refine TE.sub (.nil) ?_
          refine TE.next ?_
          refine T.seq ?_
          refine T.region ?_
          refine TL.val (OpV.assign rfl) rfl ?_
          refine TL.nil ?_
          refine TE.next ?_
          refine T.ret ?_
          refine TE.ret1 rfl (ResV.tmp rfl) ?_
          have hE : putE xs x = 0 := by rw [putE, hok, hbf]; simp only [if_pos]; rw [if_neg (by simp [*]), if_neg (by omega)]
          exact fun w1 k1 => ⟨(A82, c82), by rw [hE], hn82, by rw [putX, hE, if_pos rfl, ml_snoc, List.length_append]; exact Perm.kle (.cons (by first | exact P0 | exact P1 | exact P2 | exact P3 | exact P4 | exact P5 | exact P6) (.cons (by first | exact P0 | exact P1 | exact P2 | exact P3 | exact P4 | exact P5 | exact P6) (.drop (.drop .all)))) w1 k1⟩
       ·
        intro hg50
        try simp only [decide_eq_true_eq, decide_eq_false_iff_not, beq_iff_eq, beq_eq_false_iff_ne, bne_iff_ne, bne_eq_false_iff_eq, Bool.not_eq_true', Bool.not_eq_false', ne_eq] at hg50
        have hx0 : xs = [] := List.length_eq_zero_iff.1 (by omega)
        have hbf : beforeB xs x = false := by rw [hx0]; rfl
        refine TQ.shut rfl rfl ?_
        refine TQ.shut rfl rfl ?_
        refine TQ.shut rfl rfl ?_
        refine TQ.shut rfl rfl ?_
        refine TQ.shut rfl rfl ?_
        refine TQ.shut rfl rfl ?_
        refine TQ.shut rfl rfl ?_
        refine TQ.shut rfl rfl ?_
        refine TQ.shut rfl rfl ?_
        refine TQ.shut rfl rfl ?_
        refine TQ.shut rfl rfl ?_
        refine TQ.shut rfl rfl ?_
        refine TQ.shut rfl rfl ?_
        refine TQ.shut rfl rfl ?_
        refine TQ.shut rfl rfl ?_
        refine TQ.shut rfl rfl ?_
        refine TQ.val ((by first | exact OpV.pick_t rfl rfl | exact OpV.pick_f rfl rfl)) rfl ?_
        refine TQ.val (OpV.assign rfl) rfl ?_
        refine TQ.nil ?_
        refine TE.sub (.cons (t := 0) rfl <| .cons (t := 3) rfl <| .cons (t := 43) rfl <| .nil) ?_
        refine TE.next ?_
        refine T.no rfl ?_
        refine T.seq ?_
        refine T.region ?_
        refine TL.val (OpV.move rfl) rfl ?_
        refine TL.val (OpV.nil rfl) rfl ?_
        refine TL.val (OpV.fieldAddr rfl fo_26_0) rfl ?_
        refine TL.val (OpV.load pl_24 rfl (by first | exact Cel.blk P0 rfl | exact Cel.blk P1 rfl | exact Cel.blk P2 rfl | exact Cel.blk P3 rfl)) rfl ?_
        refine TL.val (OpV.len Try.underlying24 rfl) rfl ?_
        refine TL.val (OpV.geq rfl rfl) rfl ?_
        refine TL.val (OpV.assign rfl) rfl ?_
        refine TL.nil ?_
        refine TE.sub (.cons (t := 0) rfl <| .cons (t := 3) rfl <| .cons (t := 68) rfl <| .nil) ?_
        refine TE.next ?_
        refine T.cond rfl ?_ ?_
        ·
         intro ht68
         try simp only [decide_eq_true_eq, decide_eq_false_iff_not, beq_iff_eq, beq_eq_false_iff_ne, bne_iff_ne, bne_eq_false_iff_eq, Bool.not_eq_true', Bool.not_eq_false', ne_eq] at ht68
         refine T.seq ?_
         refine T.region ?_
         refine TL.val (OpV.assign rfl) rfl ?_
         refine TL.nil ?_
         refine TE.next ?_
         refine T.ret ?_
         refine TE.out_ret ?_
         refine TE.pass_ret ?_
         refine TE.ret1 rfl (ResV.tmp rfl) ?_
         have hE : putE xs x = 7 := by rw [putE, hok, hbf]; simp only [if_pos]; rw [if_neg (by simp [*]), if_pos (by omega)]
         exact fun w1 k1 => ⟨(_, c), by rw [hE], hA, by rw [putX, hE, if_neg (by decide)]; exact Perm.kle (.cons (by first | exact P0 | exact P1 | exact P2 | exact P3 | exact P4 | exact P5 | exact P6) (.cons (by first | exact P0 | exact P1 | exact P2 | exact P3 | exact P4 | exact P5 | exact P6) .all)) w1 k1.tail⟩
        ·
         intro ht68
         try simp only [decide_eq_true_eq, decide_eq_false_iff_not, beq_iff_eq, beq_eq_false_iff_ne, bne_iff_ne, bne_eq_false_iff_eq, Bool.not_eq_true', Bool.not_eq_false', ne_eq] at ht68
         refine T.skip ?_
         refine TE.out ?_
         refine TE.next ?_
         refine T.seq ?_
         refine T.any ([.blk bm [.slice A xs.length c] 26, .blk b3 x.l 31]) [10] mix rfl rfl ?_
         refine TA.takeP (i := 0) (ls := #[true, false, false, false, false, false, false, false, false, false, false]) rfl rfl rfl rfl rfl (by kernel_rfl) (by kernel_rfl) (by kernel_rfl) (by repeat (first | with_reducible exact PanicOk.body | with_reducible apply PanicOk.next | with_reducible apply PanicOk.block)) (OpV.move rfl) rfl (by kernel_rfl) ?_
         refine TA.takeP (i := 1) (ls := #[true, true, false, false, false, false, false, false, false, false, false]) rfl rfl rfl rfl rfl (by kernel_rfl) (by kernel_rfl) (by kernel_rfl) (by repeat (first | with_reducible exact PanicOk.body | with_reducible apply PanicOk.next | with_reducible apply PanicOk.block)) (OpV.move rfl) rfl (by kernel_rfl) ?_
         refine TA.takeP (i := 2) (ls := #[true, true, true, false, false, false, false, false, false, false, false]) rfl rfl rfl rfl rfl (by kernel_rfl) (by kernel_rfl) (by kernel_rfl) (by repeat (first | with_reducible exact PanicOk.body | with_reducible apply PanicOk.next | with_reducible apply PanicOk.block)) (OpV.nil rfl) rfl (by kernel_rfl) ?_
         refine TA.takeP (i := 3) (ls := #[true, true, true, true, false, false, false, false, false, false, false]) rfl rfl rfl rfl rfl (by kernel_rfl) (by kernel_rfl) (by kernel_rfl) (by repeat (first | with_reducible exact PanicOk.body | with_reducible apply PanicOk.next | with_reducible apply PanicOk.block)) (OpV.fieldAddr rfl fo_26_0) rfl (by kernel_rfl) ?_
         refine TA.take (i := 4) (ls := #[true, true, true, true, true, false, false, false, false, false, false]) rfl rfl rfl rfl rfl (by kernel_rfl) (by kernel_rfl) (by kernel_rfl) (by kernel_rfl) (by repeat (first | with_reducible exact PanicOk.body | with_reducible apply PanicOk.next | with_reducible apply PanicOk.block)) ((.cons (by first | exact P0 | exact P1 | exact P2 | exact P3 | exact P4 | exact P5 | exact P6) (.cons (by first | exact P0 | exact P1 | exact P2 | exact P3 | exact P4 | exact P5 | exact P6) .nil))) (OpV.load pl_24 rfl (by first | exact Cel.blk P0 rfl | exact Cel.blk P1 rfl | exact Cel.blk P2 rfl | exact Cel.blk P3 rfl)) rfl (by kernel_rfl) ?_
         refine TA.take (i := 5) (ls := #[true, true, true, true, true, true, false, false, false, false, false]) rfl rfl rfl rfl rfl (by kernel_rfl) (by kernel_rfl) (by kernel_rfl) (by kernel_rfl) (by repeat (first | with_reducible exact PanicOk.body | with_reducible apply PanicOk.next | with_reducible apply PanicOk.block)) ((.cons (by first | exact P0 | exact P1 | exact P2 | exact P3 | exact P4 | exact P5 | exact P6) (.cons (by first | exact P0 | exact P1 | exact P2 | exact P3 | exact P4 | exact P5 | exact P6) .nil))) (OpV.loadA ag_31 rfl (by first | exact Cels.blk P0 rfl | exact Cels.blk P1 rfl | exact Cels.blk P2 rfl | exact Cels.blk P3 rfl)) rfl (by kernel_rfl) ?_
         refine TA.one (i := 6) (ls := #[true, true, true, true, true, true, true, false, false, false, false]) (by kernel_rfl) rfl (by kernel_rfl) (fun w1 => ?_)
         refine TL.slit (qs := #[(0, _)]) (fun _ f => by simp only [List.map_toArray, List.map_cons, List.map_nil]; rw [f.ev (x := .tmp 80) rfl]) (sl_24_1_0 x) rfl ?_
         intro b81
         refine TL.nil ?_
         refine TA.cont ((.cons (by first | exact P0 | exact P1 | exact P2 | exact P3 | exact P4 | exact P5 | exact P6) (.cons (by first | exact P0 | exact P1 | exact P2 | exact P3 | exact P4 | exact P5 | exact P6) .nil))) ?_
         refine TA.one (i := 7) (ls := #[true, true, true, true, true, true, true, true, false, false, false]) (by kernel_rfl) rfl (by kernel_rfl) (fun w1 => ?_)
         obtain ⟨ti82, hi82, hz82, hs82, hb82⟩ := info_parts inf_31
         refine TL.append rfl rfl Try.underlying24 hi82 hz82 hs82 hb82 rfl (by omega) (by first | exact P0 | exact P1 | exact P2 | exact P3) (by first | exact Src.nil | exact Src.blk P0 rfl | exact Src.blk P1 rfl | exact Src.blk P2 rfl | exact Src.blk P3 rfl | exact Src.row P0 | exact Src.row P1 | exact Src.row P2 | exact Src.row P3) (fun h => by cases h) rfl (by omega) (by omega) rfl ?_
         clear hi82 hz82 hs82 hb82 ti82
         intro A82 c82 hn82
         refine TL.nil ?_
         refine TA.cont ((.cons (by first | exact P0 | exact P1 | exact P2 | exact P3 | exact P4 | exact P5 | exact P6) (.cons (by first | exact P0 | exact P1 | exact P2 | exact P3 | exact P4 | exact P5 | exact P6) .nil))) ?_
         refine TA.takeP (i := 8) (ls := #[true, true, true, true, true, true, true, true, true, false, false]) rfl rfl rfl rfl rfl (by kernel_rfl) (by kernel_rfl) (by kernel_rfl) (by repeat (first | with_reducible exact PanicOk.body | with_reducible apply PanicOk.next | with_reducible apply PanicOk.block)) (OpV.nil rfl) rfl (by kernel_rfl) ?_
         refine TA.takeP (i := 9) (ls := #[true, true, true, true, true, true, true, true, true, true, false]) rfl rfl rfl rfl rfl (by kernel_rfl) (by kernel_rfl) (by kernel_rfl) (by repeat (first | with_reducible exact PanicOk.body | with_reducible apply PanicOk.next | with_reducible apply PanicOk.block)) (OpV.fieldAddr rfl fo_26_0) rfl (by kernel_rfl) ?_
         refine TA.one (i := 10) (ls := #[true, true, true, true, true, true, true, true, true, true, true]) (by kernel_rfl) rfl (by kernel_rfl) (fun w1 => ?_)
         refine TL.store rfl rfl szz_24 rfl rfl rfl (by first | exact P0 | exact P1 | exact P2 | exact P3) (by first | exact Nat.le_of_ble_eq_true rfl | (simp; done) | (simp; omega)) (by simp only [Mk.l, putL, List.take_succ_cons, List.take_zero, List.drop_succ_cons, List.drop_zero, List.cons_append, List.nil_append, List.length_cons, List.length_nil, Nat.reduceAdd]; rfl) ?_
         refine TL.nil ?_
         refine TA.bar rfl ?_
         refine TA.done (by kernel_rfl) ?_
         refine TE.sub (.nil) ?_
         refine TE.next ?_
         refine T.seq ?_
         refine T.region ?_
         refine TL.val (OpV.assign rfl) rfl ?_
         refine TL.nil ?_
         refine TE.next ?_
         refine T.ret ?_
         refine TE.ret1 rfl (ResV.tmp rfl) ?_
         have hE : putE xs x = 0 := by rw [putE, hok, hbf]; simp only [if_pos]; rw [if_neg (by simp [*]), if_neg (by omega)]
         exact fun w1 k1 => ⟨(A82, c82), by rw [hE], hn82, by rw [putX, hE, if_pos rfl, ml_snoc, List.length_append]; exact Perm.kle (.cons (by first | exact P0 | exact P1 | exact P2 | exact P3 | exact P4 | exact P5 | exact P6) (.cons (by first | exact P0 | exact P1 | exact P2 | exact P3 | exact P4 | exact P5 | exact P6) (.drop (.drop .all)))) w1 k1⟩
set_option maxRecDepth 100000 in
set_option maxHeartbeats 400000 in
theorem put_nil (x : Mk) (w : World) : Calls Try.prog 8 #[.pointer none, .agg x.l.toArray] w (Ret (.int .i64 1) w) := by
 refine calls_T (vs := [.pointer none, .agg x.l.toArray]) (L0 := [(0, .pointer none), (1, .agg x.l.toArray)]) Try.func8 rfl rfl rfl rfl (KOk.none w) ?_
 refine T.seq ?_
 refine T.region ?_
 refine TL.boxA rfl rfl ?_
 intro b3
 refine TL.val (OpV.assign rfl) rfl ?_
 refine TL.nil ?_
 refine TE.next ?_
 refine T.seq ?_
 refine T.block ?_
 refine T.seq ?_
 refine T.region ?_
 refine TL.val (OpV.move rfl) rfl ?_
 refine TL.val (OpV.peql Try.underlying23 rfl rfl) rfl ?_
 refine TL.said (t := 7) rfl (show _ = Value.bool true from congrArg Value.bool (rfl)) ?_
 refine TL.val (OpV.assign rfl) rfl ?_
 refine TL.nil ?_
 refine TE.next ?_
 refine T.yes rfl ?_
 refine T.seq ?_
 refine T.region ?_
 refine TL.val (OpV.assign rfl) rfl ?_
 refine TL.nil ?_
 refine TE.next ?_
 refine T.ret ?_
 refine TE.out_ret ?_
 refine TE.pass_ret ?_
 refine TE.ret1 rfl (ResV.tmp rfl) ?_
 exact fun w1 k1 => ⟨rfl, k1.bel⟩
end Go.Proofs.Ytaoepaonjeilgaa
