/-
  The walks of what compares commands, and of Evict. No condition.
-/
import Derived.Test.YtaoepaonjeilgaaMb
namespace Go.Proofs.Ytaoepaonjeilgaa
open Go.RowKit
set_option linter.unusedSimpArgs false
set_option linter.unusedVariables false
theorem ag_41 : aggT Try.prog 41 = some 9 := by kernel_rfl
theorem eg_41 : Try.prog.eqGuardType Try.prog.depth 41 = false := by kernel_rfl
theorem se_34 : sEl Try.prog 34 = some (41, 9) := by kernel_rfl
set_option maxRecDepth 100000 in
set_option maxHeartbeats 400000 in
theorem eqs_c {σ : Nat → Option Obj} {A A2 : Option Addr} {n c n2 c2 : Nat} {xs ys : List Cm} (w : World) (h : CmR σ A n c xs) (h2 : CmR σ A2 n2 c2 ys) (hs : ∀ b o, σ b = some o → w.heap[b]? = some o) : Calls Try.prog 23 #[.slice A n c, .slice A2 n2 c2] w (Ret (.bool (decide (xs = ys))) w) := by
 have hn63 := h.2.1
 have hc63 := h.2.2.1
 have hl1 := h.1
 have hn64 := h2.2.1
 have hc64 := h2.2.2.1
 have hl2 := h2.1
 refine calls_T (vs := [.slice A n c, .slice A2 n2 c2]) (L0 := [(0, .slice A n c), (1, .slice A2 n2 c2)]) Try.func23 rfl rfl rfl rfl (KOk.fr1 hs) ?_
 refine T.seq ?_
 refine T.region ?_
 refine TL.val (OpV.assign rfl) rfl ?_
 refine TL.nil ?_
 refine TE.next ?_
 refine T.seq ?_
 refine T.seq ?_
 refine T.region ?_
 refine TL.val (OpV.move rfl) rfl ?_
 refine TL.val (OpV.len Try.underlying34 rfl) rfl ?_
 refine TL.val (OpV.move rfl) rfl ?_
 refine TL.val (OpV.len Try.underlying34 rfl) rfl ?_
 refine TL.val (OpV.neq rfl rfl) rfl ?_
 refine TL.nil ?_
 refine TE.next ?_
 refine T.cond rfl ?_ ?_
 ·
  intro ht10
  try simp only [decide_eq_true_eq, decide_eq_false_iff_not, beq_iff_eq, beq_eq_false_iff_ne, bne_iff_ne, bne_eq_false_iff_eq, Bool.not_eq_true', Bool.not_eq_false', ne_eq] at ht10
  have hv : decide (xs = ys) = false := decide_eq_false fun e => ht10 (by rw [← hl1, ← hl2, e])
  refine T.seq ?_
  refine T.region ?_
  refine TL.val (OpV.assign rfl) rfl ?_
  refine TL.nil ?_
  refine TE.sub (.cons (t := 4) rfl <| .nil) ?_
  refine TE.next ?_
  refine T.ret ?_
  refine TE.pass_ret ?_
  refine TE.ret1 rfl (ResV.tmp rfl) ?_
  exact fun w1 k1 => ⟨ret_b (w := w) (w' := w) hv.symm, k1.bel⟩
 ·
  intro ht10
  try simp only [decide_eq_true_eq, decide_eq_false_iff_not, beq_iff_eq, beq_eq_false_iff_ne, bne_iff_ne, bne_eq_false_iff_eq, Bool.not_eq_true', Bool.not_eq_false', ne_eq] at ht10
  have hnn : n = n2 := by omega
  refine T.skip ?_
  refine TE.next ?_
  refine T.seq ?_
  refine T.seq ?_
  refine T.region ?_
  refine TL.val (OpV.assign rfl) rfl ?_
  refine TL.nil ?_
  refine TE.next ?_
  refine T.block ?_
  refine T.loop (ι := Nat) (fun i => i ≤ n ∧ xs.take i = ys.take i) (fun i => (n - i)) (fun i => [(0, .slice A n c), (1, .slice A2 n2 c2), (5, .int .i64 (i : Int))]) (fun i => [.fr σ]) 0 ⟨Nat.zero_le _, rfl⟩ (.cons (t := 0) rfl <| .cons (t := 1) rfl <| .cons (t := 5) rfl <| .nil) (Kle.refl) ?_
  rintro i hR
  refine T.seq ?_
  refine T.seq ?_
  refine T.region ?_
  refine TL.val (OpV.move rfl) rfl ?_
  refine TL.val (OpV.move rfl) rfl ?_
  refine TL.val (OpV.len Try.underlying34 rfl) rfl ?_
  refine TL.val (OpV.lss rfl rfl) rfl ?_
  refine TL.nil ?_
  refine TE.next ?_
  refine T.cond rfl ?_ ?_
  ·
   intro ht14
   try simp only [decide_eq_true_eq, decide_eq_false_iff_not, beq_iff_eq, beq_eq_false_iff_ne, bne_iff_ne, bne_eq_false_iff_eq, Bool.not_eq_true', Bool.not_eq_false', ne_eq] at ht14
   have hi : i < n := by omega
   obtain ⟨p, hpx⟩ := get_of_lt h.1 hi
   obtain ⟨b, o, hA, hat⟩ := h.pos (by omega)
   have hatp := hat i p hpx
   obtain ⟨q, hqy⟩ := get_of_lt h2.1 (show i < n2 by omega)
   obtain ⟨b2, o2, hA2, hat2⟩ := h2.pos (by omega)
   have hatq := hat2 i q hqy
   refine T.skip ?_
   refine TE.next ?_
   refine T.seq ?_
   refine T.block ?_
   refine T.seq ?_
   refine T.quiet mix (by kernel_rfl) ?_
   refine TQ.val (OpV.move rfl) rfl ?_
   refine TQ.val (OpV.move rfl) rfl ?_
   refine TQ.val (OpV.indexAddr (j := i) se_34 rfl hA rfl rfl (by omega)) rfl ?_
   refine TQ.val (OpV.loadA ag_41 rfl (by first | exact Cels.blk P0 rfl | exact Cels.blk P1 rfl | exact Cels.blk P2 rfl | exact Cels.blk P3 rfl | exact Cels.frA hatp rfl | exact Cels.frA hatq rfl)) rfl ?_
   refine TQ.val (OpV.move rfl) rfl ?_
   refine TQ.val (OpV.move rfl) rfl ?_
   refine TQ.val (OpV.indexAddr (j := i) se_34 rfl hA2 rfl rfl (by omega)) rfl ?_
   refine TQ.val (OpV.loadA ag_41 rfl (by first | exact Cels.blk P0 rfl | exact Cels.blk P1 rfl | exact Cels.blk P2 rfl | exact Cels.blk P3 rfl | exact Cels.frA hatp rfl | exact Cels.frA hatq rfl)) rfl ?_
   refine TQ.val (OpV.aneq rfl rfl eg_41 (eq_41 p q)) rfl ?_
   refine TQ.nil ?_
   refine TE.sub (.cons (t := 0) rfl <| .cons (t := 1) rfl <| .cons (t := 5) rfl <| .cons (t := 25) rfl <| .nil) ?_
   refine TE.next ?_
   refine T.cond rfl ?_ ?_
   ·
    intro ht25
    try simp only [decide_eq_true_eq, decide_eq_false_iff_not, beq_iff_eq, beq_eq_false_iff_ne, bne_iff_ne, bne_eq_false_iff_eq, Bool.not_eq_true', Bool.not_eq_false', ne_eq] at ht25
    have hv : decide (xs = ys) = false := decide_eq_false fun e => by subst e; rw [hpx] at hqy; cases hqy; simp at ht25
    refine T.seq ?_
    refine T.region ?_
    refine TL.val (OpV.assign rfl) rfl ?_
    refine TL.nil ?_
    refine TE.next ?_
    refine T.ret ?_
    refine TE.out_ret ?_
    refine TE.pass_ret ?_
    refine TE.pass_ret ?_
    refine TE.out_ret ?_
    refine TE.pass_ret ?_
    refine TE.ret1 rfl (ResV.tmp rfl) ?_
    exact fun w1 k1 => ⟨ret_b (w := w) (w' := w) hv.symm, k1.bel⟩
   ·
    intro ht25
    try simp only [decide_eq_true_eq, decide_eq_false_iff_not, beq_iff_eq, beq_eq_false_iff_ne, bne_iff_ne, bne_eq_false_iff_eq, Bool.not_eq_true', Bool.not_eq_false', ne_eq] at ht25
    have hpq : p = q := by simpa using ht25
    refine T.skip ?_
    refine TE.out ?_
    refine TE.next ?_
    refine T.region ?_
    refine TL.val (OpV.move rfl) rfl ?_
    refine TL.val (OpV.add rfl rfl (by first | exact IntWalk.i64_in _ ⟨by omega, by omega⟩ | rfl)) rfl ?_
    refine TL.val (OpV.assign rfl) rfl ?_
    refine TL.nil ?_
    exact TE.meet (i + 1) ⟨⟨by omega, by rw [take_snoc hpx, take_snoc hqy, hR.2, hpq]⟩, by omega⟩ (.cons (t := 0) (by first | rfl | (simp [lk]; done)) <| .cons (t := 1) (by first | rfl | (simp [lk]; done)) <| .cons (t := 5) (by first | rfl | (simp [lk]; done)) <| .nil) (Kle.refl)
  ·
   intro ht14
   try simp only [decide_eq_true_eq, decide_eq_false_iff_not, beq_iff_eq, beq_eq_false_iff_ne, bne_iff_ne, bne_eq_false_iff_eq, Bool.not_eq_true', Bool.not_eq_false', ne_eq] at ht14
   have hv : decide (xs = ys) = true := decide_eq_true (by have h9 := hR.2; rwa [List.take_of_length_le (by omega), List.take_of_length_le (by omega)] at h9)
   refine T.exit ?_
   refine TE.pass_exit ?_
   refine TE.pass_exit ?_
   refine TE.here ?_
   refine TE.next ?_
   refine T.seq ?_
   refine T.region ?_
   refine TL.val (OpV.assign rfl) rfl ?_
   refine TL.nil ?_
   refine TE.sub (.cons (t := 4) rfl <| .nil) ?_
   refine TE.next ?_
   refine T.ret ?_
   refine TE.ret1 rfl (ResV.tmp rfl) ?_
   exact fun w1 k1 => ⟨ret_b (w := w) (w' := w) hv.symm, k1.bel⟩
set_option maxRecDepth 100000 in
set_option maxHeartbeats 400000 in
theorem evict_c {w0 w : World} {bm : Nat} {A : Option Addr} {c : Nat} {xs : List Mk} {K : List Ent} (line : Int) (hA : A = none → c = 0) (hn : xs.length ≤ 1000) (k : KOk w0 (.blk bm [.slice A xs.length c] 26 :: .row 31 3 A xs.length c (ml xs) :: K) w) : Calls Try.prog 17 #[.pointer (some ⟨bm, 0, none⟩), .int .i64 line] w (fun e w' => ∃ i : Option Addr × Nat, e = .returned (.tuple #[.int .i64 (evR line xs), .int .i64 (evE line)]) ∧ (i.1 = none → i.2 = 0) ∧ KOk w0 (.blk bm [.slice i.1 (evX line xs).length i.2] 26 :: .row 31 3 i.1 (evX line xs).length i.2 (ml (evX line xs)) :: K) w') := by
 refine calls_T (vs := [.pointer (some ⟨bm, 0, none⟩), .int .i64 line]) (L0 := [(0, .pointer (some ⟨bm, 0, none⟩)), (1, .int .i64 line)]) Try.func17 rfl rfl rfl rfl (k) ?_
 refine T.seq ?_
 refine T.region ?_
 refine TL.val (OpV.assign rfl) rfl ?_
 refine TL.val (OpV.assign rfl) rfl ?_
 refine TL.nil ?_
 refine TE.next ?_
 refine T.seq ?_
 refine T.block ?_
 refine T.seq ?_
 refine T.region ?_
 refine TL.val (OpV.move rfl) rfl ?_
 refine TL.val (OpV.peql Try.underlying23 rfl rfl) rfl ?_
 refine TL.said (t := 9) rfl (show _ = Value.bool false from congrArg Value.bool (rfl)) ?_
 refine TL.val (OpV.assign rfl) rfl ?_
 refine TL.nil ?_
 refine TE.next ?_
 refine T.no rfl ?_
 refine T.seq ?_
 refine T.region ?_
 refine TL.val (OpV.move rfl) rfl ?_
 refine TL.val (OpV.lss rfl rfl) rfl ?_
 refine TL.val (OpV.move rfl) rfl ?_
 refine TL.part (t := 13) rfl ?_ ?_
 ·
  intro hg13
  try simp only [decide_eq_true_eq, decide_eq_false_iff_not, beq_iff_eq, beq_eq_false_iff_ne, bne_iff_ne, bne_eq_false_iff_eq, Bool.not_eq_true', Bool.not_eq_false', ne_eq] at hg13
  refine TL.shut rfl rfl ?_
  refine TL.shut rfl rfl ?_
  refine TL.val ((by first | exact OpV.pick_t rfl rfl | exact OpV.pick_f rfl rfl)) rfl ?_
  refine TL.val (OpV.assign rfl) rfl ?_
  refine TL.nil ?_
  refine TE.sub (.cons (t := 0) rfl <| .cons (t := 1) rfl <| .cons (t := 10) rfl <| .nil) ?_
  refine TE.next ?_
  refine T.yes rfl ?_
  refine T.seq ?_
  refine T.region ?_
  refine TL.val (OpV.assign rfl) rfl ?_
  refine TL.val (OpV.assign rfl) rfl ?_
  refine TL.nil ?_
  refine TE.next ?_
  refine T.ret ?_
  refine TE.out_ret ?_
  refine TE.pass_ret ?_
  refine TE.retN rfl (.cons (ResV.tmp rfl) <| .cons (ResV.tmp rfl) <| .nil) ?_
  have hE : evE line = 2 := by rw [evE, if_neg (by omega)]
  exact fun w1 k1 => ⟨(A, c), by rw [evR, hE]; rfl, hA, by rw [evX, hE, if_neg (by decide)]; exact k1⟩
 ·
  intro hg13
  try simp only [decide_eq_true_eq, decide_eq_false_iff_not, beq_iff_eq, beq_eq_false_iff_ne, bne_iff_ne, bne_eq_false_iff_eq, Bool.not_eq_true', Bool.not_eq_false', ne_eq] at hg13
  refine TL.open rfl rfl ?_
  refine TL.val (OpV.move rfl) rfl ?_
  refine TL.open rfl rfl ?_
  refine TL.val (OpV.gtr rfl rfl) rfl ?_
  refine TL.val ((by first | exact OpV.pick_t rfl rfl | exact OpV.pick_f rfl rfl)) rfl ?_
  refine TL.val (OpV.assign rfl) rfl ?_
  refine TL.nil ?_
  refine TE.sub (.cons (t := 0) rfl <| .cons (t := 1) rfl <| .cons (t := 10) rfl <| .nil) ?_
  refine TE.next ?_
  refine T.cond rfl ?_ ?_
  ·
   intro ht10
   try simp only [decide_eq_true_eq, decide_eq_false_iff_not, beq_iff_eq, beq_eq_false_iff_ne, bne_iff_ne, bne_eq_false_iff_eq, Bool.not_eq_true', Bool.not_eq_false', ne_eq] at ht10
   refine T.seq ?_
   refine T.region ?_
   refine TL.val (OpV.assign rfl) rfl ?_
   refine TL.val (OpV.assign rfl) rfl ?_
   refine TL.nil ?_
   refine TE.next ?_
   refine T.ret ?_
   refine TE.out_ret ?_
   refine TE.pass_ret ?_
   refine TE.retN rfl (.cons (ResV.tmp rfl) <| .cons (ResV.tmp rfl) <| .nil) ?_
   have hE : evE line = 2 := by rw [evE, if_neg (by omega)]
   exact fun w1 k1 => ⟨(A, c), by rw [evR, hE]; rfl, hA, by rw [evX, hE, if_neg (by decide)]; exact k1⟩
  ·
   intro ht10
   try simp only [decide_eq_true_eq, decide_eq_false_iff_not, beq_iff_eq, beq_eq_false_iff_ne, bne_iff_ne, bne_eq_false_iff_eq, Bool.not_eq_true', Bool.not_eq_false', ne_eq] at ht10
   refine T.skip ?_
   refine TE.out ?_
   refine TE.next ?_
   refine T.seq ?_
   have hE : evE line = 0 := by rw [evE, if_pos (by omega)]
   refine T.ex (fun wz kz => KOk.rowOwn (kz.pick (e := .row 31 3 A xs.length c (ml xs)) (by first | exact P0 | exact P1 | exact P2 | exact P3 | exact P4 | exact P5 | exact P6))) ?_
   rintro ρ hro
   have h : MsR ρ A xs.length c xs := SlR.of_row Mk.l_length hro rfl
   have hn63 := h.2.1
   have hc63 := h.2.2.1
   refine T.region ?_
   refine TL.val (OpV.assign rfl) rfl ?_
   refine TL.nil ?_
   refine TE.next ?_
   refine T.seq ?_
   refine T.block ?_
   refine T.loop (ι := Nat) (fun i => i ≤ xs.length ∧ i + evN line (xs.drop i) = evN line xs) (fun i => (xs.length - i)) (fun i => [(0, .pointer (some ⟨bm, 0, none⟩)), (1, .int .i64 line), (6, .int .i64 (i : Int))]) (fun i => .own ρ :: .blk bm [.slice A xs.length c] 26 :: K) 0 ⟨Nat.zero_le _, by rw [List.drop_zero, Nat.zero_add]⟩ (.cons (t := 0) rfl <| .cons (t := 1) rfl <| .cons (t := 6) rfl <| .nil) (Kle.refl) ?_
   rintro i hR
   refine T.seq ?_
   refine T.seq ?_
   refine T.region ?_
   refine TL.val (OpV.move rfl) rfl ?_
   refine TL.val (OpV.move rfl) rfl ?_
   refine TL.val (OpV.nil rfl) rfl ?_
   refine TL.val (OpV.fieldAddr rfl fo_26_0) rfl ?_
   refine TL.val (OpV.load pl_24 rfl (by first | exact Cel.blk P0 rfl | exact Cel.blk P1 rfl | exact Cel.blk P2 rfl | exact Cel.blk P3 rfl | exact Cel.ownA (haty _ _ rfl))) rfl ?_
   refine TL.val (OpV.len Try.underlying24 rfl) rfl ?_
   refine TL.val (OpV.lss rfl rfl) rfl ?_
   refine TL.val (OpV.move rfl) rfl ?_
   refine TL.part (t := 24) rfl ?_ ?_
   ·
    intro hg24
    try simp only [decide_eq_true_eq, decide_eq_false_iff_not, beq_iff_eq, beq_eq_false_iff_ne, bne_iff_ne, bne_eq_false_iff_eq, Bool.not_eq_true', Bool.not_eq_false', ne_eq] at hg24
    obtain ⟨y, hy⟩ := get_of_lt rfl (show i < xs.length by omega)
    obtain ⟨b, o, hA, hat⟩ := h.pos (by omega)
    have haty := hat i y hy
    refine TL.open rfl rfl ?_
    refine TL.val (OpV.move rfl) rfl ?_
    refine TL.open rfl rfl ?_
    refine TL.val (OpV.nil rfl) rfl ?_
    refine TL.open rfl rfl ?_
    refine TL.val (OpV.fieldAddr rfl fo_26_0) rfl ?_
    refine TL.open rfl rfl ?_
    refine TL.val (OpV.load pl_24 rfl (by first | exact Cel.blk P0 rfl | exact Cel.blk P1 rfl | exact Cel.blk P2 rfl | exact Cel.blk P3 rfl | exact Cel.ownA (haty _ _ rfl))) rfl ?_
    refine TL.open rfl rfl ?_
    refine TL.val (OpV.move rfl) rfl ?_
    refine TL.open rfl rfl ?_
    refine TL.val (OpV.indexAddr (j := i) se_24 rfl hA rfl rfl (by omega)) rfl ?_
    refine TL.open rfl rfl ?_
    refine TL.val (OpV.fieldAddr rfl fo_31_0) rfl ?_
    refine TL.open rfl rfl ?_
    refine TL.val (OpV.load pl_3 rfl (by first | exact Cel.blk P0 rfl | exact Cel.blk P1 rfl | exact Cel.blk P2 rfl | exact Cel.blk P3 rfl | exact Cel.ownA (haty _ _ rfl))) rfl ?_
    refine TL.open rfl rfl ?_
    refine TL.val (OpV.move rfl) rfl ?_
    refine TL.open rfl rfl ?_
    refine TL.val (OpV.lss rfl rfl) rfl ?_
    refine TL.val ((by first | exact OpV.pick_t rfl rfl | exact OpV.pick_f rfl rfl)) rfl ?_
    refine TL.nil ?_
    refine TE.sub (.cons (t := 0) rfl <| .cons (t := 1) rfl <| .cons (t := 6) rfl <| .cons (t := 35) rfl <| .nil) ?_
    refine TE.next ?_
    refine T.cond rfl ?_ ?_
    ·
     intro ht35
     try simp only [decide_eq_true_eq, decide_eq_false_iff_not, beq_iff_eq, beq_eq_false_iff_ne, bne_iff_ne, bne_eq_false_iff_eq, Bool.not_eq_true', Bool.not_eq_false', ne_eq] at ht35
     have hd : evN line (xs.drop i) = evN line (xs.drop (i + 1)) + 1 := by rw [drop_get hy, evN, if_pos ht35]
     refine T.skip ?_
     refine TE.next ?_
     refine T.block ?_
     refine T.region ?_
     refine TL.val (OpV.move rfl) rfl ?_
     refine TL.val (OpV.add rfl rfl (by first | exact IntWalk.i64_in _ ⟨by omega, by omega⟩ | rfl)) rfl ?_
     refine TL.val (OpV.assign rfl) rfl ?_
     refine TL.nil ?_
     refine TE.out ?_
     exact TE.meet (i + 1) ⟨⟨by omega, by omega⟩, by omega⟩ (.cons (t := 0) (by first | rfl | (simp [lk]; done)) <| .cons (t := 1) (by first | rfl | (simp [lk]; done)) <| .cons (t := 6) (by first | rfl | (simp [lk]; done)) <| .nil) (Kle.refl)
    ·
     intro ht35
     try simp only [decide_eq_true_eq, decide_eq_false_iff_not, beq_iff_eq, beq_eq_false_iff_ne, bne_iff_ne, bne_eq_false_iff_eq, Bool.not_eq_true', Bool.not_eq_false', ne_eq] at ht35
     have hd : evN line (xs.drop i) = 0 := by rw [drop_get hy, evN, if_neg ht35]
     refine T.exit ?_
     refine TE.pass_exit ?_
     refine TE.pass_exit ?_
     refine TE.here ?_
     refine TE.next ?_
     refine T.seq ?_
     refine T.region ?_
     refine TL.val (OpV.move rfl) rfl ?_
     refine TL.val (OpV.move rfl) rfl ?_
     refine TL.val (OpV.nil rfl) rfl ?_
     refine TL.val (OpV.fieldAddr rfl fo_26_0) rfl ?_
     refine TL.val (OpV.load pl_24 rfl (by first | exact Cel.blk P0 rfl | exact Cel.blk P1 rfl | exact Cel.blk P2 rfl | exact Cel.blk P3 rfl | exact Cel.ownA (haty _ _ rfl))) rfl ?_
     refine TL.val (OpV.move rfl) rfl ?_
     refine TL.val (OpV.sliceLo se_24 rfl rfl rfl (by omega)) rfl ?_
     refine TL.callx (g := 29) rfl go_29 rfl (fun wz k1 => add_x k1 (clone_c wz (h.slice (lo := i) (by omega)) (fun b o hb => (k1.get (e := .own ρ) (by first | exact P0 | exact P1 | exact P2 | exact P3 | exact P4 | exact P5 | exact P6) b o hb).2) (by omega))) rfl ?_
     rintro ⟨A2, c2⟩ hA2
     replace hA2 : A2 = none → c2 = 0 := hA2
     refine TL.val (OpV.nil rfl) rfl ?_
     refine TL.val (OpV.fieldAddr rfl fo_26_0) rfl ?_
     refine TL.store rfl rfl szz_24 rfl rfl rfl (by first | exact P0 | exact P1 | exact P2 | exact P3) (by first | exact Nat.le_of_ble_eq_true rfl | (simp; done) | (simp; omega)) (by simp only [Mk.l, putL, List.take_succ_cons, List.take_zero, List.drop_succ_cons, List.drop_zero, List.cons_append, List.nil_append, List.length_cons, List.length_nil, Nat.reduceAdd]; rfl) ?_
     refine TL.nil ?_
     refine TE.sub (.cons (t := 6) rfl <| .nil) ?_
     refine TE.next ?_
     refine T.seq ?_
     refine T.region ?_
     refine TL.val (OpV.move rfl) rfl ?_
     refine TL.val (OpV.assign rfl) rfl ?_
     refine TL.val (OpV.assign rfl) rfl ?_
     refine TL.nil ?_
     refine TE.next ?_
     refine T.ret ?_
     refine TE.retN rfl (.cons (ResV.tmp rfl) <| .cons (ResV.tmp rfl) <| .nil) ?_
     have hN : i = evN line xs := by omega
     have hX : evX line xs = xs.drop i := by rw [evX, hE, if_pos rfl, hN]
     exact fun w1 k1 => ⟨(A2, c2), by rw [evR, hE, if_pos rfl, hN], hA2, by rw [hX, List.length_drop]; exact Perm.kle (.cons (by first | exact P0 | exact P1 | exact P2 | exact P3 | exact P4 | exact P5 | exact P6) (.cons (by first | exact P0 | exact P1 | exact P2 | exact P3 | exact P4 | exact P5 | exact P6) (.drop .all))) w1 k1⟩
   ·
    intro hg24
    try simp only [decide_eq_true_eq, decide_eq_false_iff_not, beq_iff_eq, beq_eq_false_iff_ne, bne_iff_ne, bne_eq_false_iff_eq, Bool.not_eq_true', Bool.not_eq_false', ne_eq] at hg24
    have hd : evN line (xs.drop i) = 0 := by rw [List.drop_of_length_le (by omega)]; rfl
    refine TL.shut rfl rfl ?_
    refine TL.shut rfl rfl ?_
    refine TL.shut rfl rfl ?_
    refine TL.shut rfl rfl ?_
    refine TL.shut rfl rfl ?_
    refine TL.shut rfl rfl ?_
    refine TL.shut rfl rfl ?_
    refine TL.shut rfl rfl ?_
    refine TL.shut rfl rfl ?_
    refine TL.shut rfl rfl ?_
    refine TL.val ((by first | exact OpV.pick_t rfl rfl | exact OpV.pick_f rfl rfl)) rfl ?_
    refine TL.nil ?_
    refine TE.sub (.cons (t := 0) rfl <| .cons (t := 1) rfl <| .cons (t := 6) rfl <| .cons (t := 35) rfl <| .nil) ?_
    refine TE.next ?_
    refine T.no rfl ?_
    refine T.exit ?_
    refine TE.pass_exit ?_
    refine TE.pass_exit ?_
    refine TE.here ?_
    refine TE.next ?_
    refine T.seq ?_
    refine T.region ?_
    refine TL.val (OpV.move rfl) rfl ?_
    refine TL.val (OpV.move rfl) rfl ?_
    refine TL.val (OpV.nil rfl) rfl ?_
    refine TL.val (OpV.fieldAddr rfl fo_26_0) rfl ?_
    refine TL.val (OpV.load pl_24 rfl (by first | exact Cel.blk P0 rfl | exact Cel.blk P1 rfl | exact Cel.blk P2 rfl | exact Cel.blk P3 rfl | exact Cel.ownA (haty _ _ rfl))) rfl ?_
    refine TL.val (OpV.move rfl) rfl ?_
    refine TL.val (OpV.sliceLo se_24 rfl rfl rfl (by omega)) rfl ?_
    refine TL.callx (g := 29) rfl go_29 rfl (fun wz k1 => add_x k1 (clone_c wz (h.slice (lo := i) (by omega)) (fun b o hb => (k1.get (e := .own ρ) (by first | exact P0 | exact P1 | exact P2 | exact P3 | exact P4 | exact P5 | exact P6) b o hb).2) (by omega))) rfl ?_
    rintro ⟨A2, c2⟩ hA2
    replace hA2 : A2 = none → c2 = 0 := hA2
    refine TL.val (OpV.nil rfl) rfl ?_
    refine TL.val (OpV.fieldAddr rfl fo_26_0) rfl ?_
    refine TL.store rfl rfl szz_24 rfl rfl rfl (by first | exact P0 | exact P1 | exact P2 | exact P3) (by first | exact Nat.le_of_ble_eq_true rfl | (simp; done) | (simp; omega)) (by simp only [Mk.l, putL, List.take_succ_cons, List.take_zero, List.drop_succ_cons, List.drop_zero, List.cons_append, List.nil_append, List.length_cons, List.length_nil, Nat.reduceAdd]; rfl) ?_
    refine TL.nil ?_
    refine TE.sub (.cons (t := 6) rfl <| .nil) ?_
    refine TE.next ?_
    refine T.seq ?_
    refine T.region ?_
    refine TL.val (OpV.move rfl) rfl ?_
    refine TL.val (OpV.assign rfl) rfl ?_
    refine TL.val (OpV.assign rfl) rfl ?_
    refine TL.nil ?_
    refine TE.next ?_
    refine T.ret ?_
    refine TE.retN rfl (.cons (ResV.tmp rfl) <| .cons (ResV.tmp rfl) <| .nil) ?_
    have hN : i = evN line xs := by omega
    have hX : evX line xs = xs.drop i := by rw [evX, hE, if_pos rfl, hN]
    exact fun w1 k1 => ⟨(A2, c2), by rw [evR, hE, if_pos rfl, hN], hA2, by rw [hX, List.length_drop]; exact Perm.kle (.cons (by first | exact P0 | exact P1 | exact P2 | exact P3 | exact P4 | exact P5 | exact P6) (.cons (by first | exact P0 | exact P1 | exact P2 | exact P3 | exact P4 | exact P5 | exact P6) (.drop .all))) w1 k1⟩
set_option maxRecDepth 100000 in
set_option maxHeartbeats 400000 in
theorem evict_nil (line : Int) (w : World) : Calls Try.prog 17 #[.pointer none, .int .i64 line] w (Ret (.tuple #[.int .i64 0, .int .i64 1]) w) := by
 refine calls_T (vs := [.pointer none, .int .i64 line]) (L0 := [(0, .pointer none), (1, .int .i64 line)]) Try.func17 rfl rfl rfl rfl (KOk.none w) ?_
 refine T.seq ?_
 refine T.region ?_
 refine TL.val (OpV.assign rfl) rfl ?_
 refine TL.val (OpV.assign rfl) rfl ?_
 refine TL.nil ?_
 refine TE.next ?_
 refine T.seq ?_
 refine T.block ?_
 refine T.seq ?_
 refine T.region ?_
 refine TL.val (OpV.move rfl) rfl ?_
 refine TL.val (OpV.peql Try.underlying23 rfl rfl) rfl ?_
 refine TL.said (t := 9) rfl (show _ = Value.bool true from congrArg Value.bool (rfl)) ?_
 refine TL.val (OpV.assign rfl) rfl ?_
 refine TL.nil ?_
 refine TE.next ?_
 refine T.yes rfl ?_
 refine T.seq ?_
 refine T.region ?_
 refine TL.val (OpV.assign rfl) rfl ?_
 refine TL.val (OpV.assign rfl) rfl ?_
 refine TL.nil ?_
 refine TE.next ?_
 refine T.ret ?_
 refine TE.out_ret ?_
 refine TE.pass_ret ?_
 refine TE.retN rfl (.cons (ResV.tmp rfl) <| .cons (ResV.tmp rfl) <| .nil) ?_
 exact fun w1 k1 => ⟨rfl, k1.bel⟩
end Go.Proofs.Ytaoepaonjeilgaa
