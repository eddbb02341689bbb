/-
  The walks of kinds and marks. No condition.
-/
import Derived.Test.YtaoepaonjeilgaaMrm
namespace Go.Proofs.Ytaoepaonjeilgaa
open Go.RowKit
set_option linter.unusedSimpArgs false
set_option linter.unusedVariables false
theorem ag_31 : aggT Try.prog 31 = some 3 := by kernel_rfl
theorem fo_31_0 : fOff Try.prog 31 0 = some 0 := by kernel_rfl
theorem fo_31_1 : fOff Try.prog 31 1 = some 1 := by kernel_rfl
theorem fo_31_2 : fOff Try.prog 31 2 = some 2 := by kernel_rfl
theorem fo_41_0 : fOff Try.prog 41 0 = some 0 := by kernel_rfl
theorem fo_41_1 : fOff Try.prog 41 1 = some 1 := by kernel_rfl
theorem fo_41_2 : fOff Try.prog 41 2 = some 2 := by kernel_rfl
theorem fo_41_3 : fOff Try.prog 41 3 = some 3 := by kernel_rfl
theorem fo_41_4 : fOff Try.prog 41 4 = some 4 := by kernel_rfl
theorem fo_41_5 : fOff Try.prog 41 5 = some 5 := by kernel_rfl
theorem fo_41_6 : fOff Try.prog 41 6 = some 6 := by kernel_rfl
theorem go_24 : isGo Try.prog 24 = true := by kernel_rfl
theorem go_33 : isGo Try.prog 33 = true := by kernel_rfl
theorem go_34 : isGo Try.prog 34 = true := by kernel_rfl
theorem go_35 : isGo Try.prog 35 = true := by kernel_rfl
theorem go_38 : isGo Try.prog 38 = true := by kernel_rfl
theorem pl_29 : plainT Try.prog 29 = true := by kernel_rfl
theorem pl_3 : plainT Try.prog 3 = true := by kernel_rfl
theorem pl_4 : plainT Try.prog 4 = true := by kernel_rfl
theorem se_38 : sEl Try.prog 38 = some (29, 1) := by kernel_rfl
theorem szz_31 : sz Try.prog 31 = some 3 := by kernel_rfl
theorem zo_31 : zOf Try.prog 31 = some [.int .i64 0, .int .i64 0, .int .i64 0] := by kernel_rfl
theorem bld_31_0_1 (a b : Int) (w : World) : (Instr.build 31 #[(0, .int .i64 a), (1, .int .i64 b)]).run Try.prog w = .ok (.agg (Mk.mk a b 0).l.toArray) w := by kernel_rfl
theorem sl_24_0 (w : World) : (Instr.buildSlice 24 0 #[]).run Try.prog w = .ok (.slice (some ⟨w.heap.size, 0, none⟩) 0 0) (w.alloc (.cells ([] : List Value).toArray 31)) := by kernel_rfl
theorem eq_41 (x y : Cm) (w : World) : (Op.equal 41 (.agg x.l.toArray) (.agg y.l.toArray)).run Try.prog w = .ok (decide (x = y)) w := by
  obtain ⟨a1, a2, a3, a4, a5, a6, a7, a8, a9⟩ := x
  obtain ⟨b1, b2, b3, b4, b5, b6, b7, b8, b9⟩ := y
  have e2 : decide (Cm.mk a1 a2 a3 a4 a5 a6 a7 a8 a9 = Cm.mk b1 b2 b3 b4 b5 b6 b7 b8 b9) = (a1 == b1 && (a2 == b2 && (a3 == b3 && (a4 == b4 && (a5 == b5 && (a6 == b6 && (a7 == b7 && (a8 == b8 && a9 == b9)))))))) := by rw [Bool.eq_iff_iff]; simp
  rw [e2]
  show (Op.equalIn (9998 + 2) _ _ _).run _ _ = _
  simp [go_sem, part, Cm.l]
  clear e2
  by_cases h1 : a1 = b1 <;> by_cases h2 : a2 = b2 <;> by_cases h3 : a3 = b3 <;> by_cases h4 : a4 = b4 <;> by_cases h5 : a5 = b5 <;> by_cases h6 : a6 = b6 <;> by_cases h7 : a7 = b7 <;> by_cases h8 : a8 = b8 <;> by_cases h9 : a9 = b9 <;> simp [*]
theorem eq_31 (x y : Mk) (w : World) : (Op.equal 31 (.agg x.l.toArray) (.agg y.l.toArray)).run Try.prog w = .ok (decide (x = y)) w := by
  obtain ⟨a1, a2, a3⟩ := x
  obtain ⟨b1, b2, b3⟩ := y
  have e2 : decide (Mk.mk a1 a2 a3 = Mk.mk b1 b2 b3) = (a1 == b1 && (a2 == b2 && a3 == b3)) := by rw [Bool.eq_iff_iff]; simp
  rw [e2]
  show (Op.equalIn (9998 + 2) _ _ _).run _ _ = _
  simp [go_sem, part, Mk.l]
  clear e2
  by_cases h1 : a1 = b1 <;> by_cases h2 : a2 = b2 <;> by_cases h3 : a3 = b3 <;> simp [*]
set_option maxRecDepth 100000 in
set_option maxHeartbeats 400000 in
theorem kind_c (k : Int) (w : World) : Calls Try.prog 24 #[.int .i64 k] w (Ret (.bool (kindB k)) w) := by
 refine calls_T (vs := [.int .i64 k]) (L0 := [(0, .int .i64 k)]) Try.func24 rfl rfl rfl rfl (KOk.none w) ?_
 refine T.seq ?_
 refine T.region ?_
 refine TL.val (OpV.assign rfl) rfl ?_
 refine TL.nil ?_
 refine TE.next ?_
 refine T.seq ?_
 refine T.region ?_
 refine TL.val (OpV.move rfl) rfl ?_
 refine TL.val (OpV.geq rfl rfl) rfl ?_
 refine TL.val (OpV.move rfl) rfl ?_
 refine TL.part (t := 5) rfl ?_ ?_
 ·
  intro hg5
  refine TL.open rfl rfl ?_
  refine TL.val (OpV.move rfl) rfl ?_
  refine TL.open rfl rfl ?_
  refine TL.val (OpV.leq rfl rfl) rfl ?_
  refine TL.val ((by first | exact OpV.pick_t rfl rfl | exact OpV.pick_f rfl rfl)) rfl ?_
  refine TL.val (OpV.assign rfl) rfl ?_
  refine TL.nil ?_
  refine TE.sub (.cons (t := 2) rfl <| .nil) ?_
  refine TE.next ?_
  refine T.ret ?_
  refine TE.ret1 rfl (ResV.tmp rfl) ?_
  exact fun w1 k1 => ⟨by rw [kindB, hg5] <;> rfl, k1.bel⟩
 ·
  intro hg5
  refine TL.shut rfl rfl ?_
  refine TL.shut rfl rfl ?_
  refine TL.val ((by first | exact OpV.pick_t rfl rfl | exact OpV.pick_f rfl rfl)) rfl ?_
  refine TL.val (OpV.assign rfl) rfl ?_
  refine TL.nil ?_
  refine TE.sub (.cons (t := 2) rfl <| .nil) ?_
  refine TE.next ?_
  refine T.ret ?_
  refine TE.ret1 rfl (ResV.tmp rfl) ?_
  exact fun w1 k1 => ⟨by rw [kindB, hg5] <;> rfl, k1.bel⟩
set_option maxRecDepth 100000 in
set_option maxHeartbeats 400000 in
theorem notkind_c (k : Int) (w : World) : Calls Try.prog 34 #[.int .i64 k] w (Ret (.bool (!kindB k)) w) := by
 refine calls_T (vs := [.int .i64 k]) (L0 := [(0, .int .i64 k)]) Try.func34 rfl rfl rfl rfl (KOk.none w) ?_
 refine T.seq ?_
 refine T.region ?_
 refine TL.val (OpV.assign rfl) rfl ?_
 refine TL.nil ?_
 refine TE.next ?_
 refine T.seq ?_
 refine T.region ?_
 refine TL.val (OpV.move rfl) rfl ?_
 refine TL.call (g := 24) rfl go_24 rfl (fun w1 k1 => kind_c k w1) rfl ?_
 refine TL.val (OpV.not rfl) rfl ?_
 refine TL.val (OpV.assign rfl) rfl ?_
 refine TL.nil ?_
 refine TE.next ?_
 refine T.ret ?_
 refine TE.ret1 rfl (ResV.tmp rfl) ?_
 exact fun w1 k1 => ⟨rfl, k1.bel⟩
set_option maxRecDepth 100000 in
set_option maxHeartbeats 400000 in
theorem index_c {σ : Nat → Option Obj} {A : Option Addr} {n c : Nat} {ks : List Int} (k : Int) (w : World) (h : IsR σ A n c ks) (hs : ∀ b o, σ b = some o → w.heap[b]? = some o) : Calls Try.prog 35 #[.slice A n c, .int .i64 k] w (fun e w' => ∃ r : Int, e = .returned (.int .i64 r) ∧ decide (0 ≤ r) = ks.any (fun q => k == q) ∧ Below w.heap.size w w') := by
 have hn63 := h.2.1
 have hc63 := h.2.2.1
 have hl1 := h.1
 refine calls_T (vs := [.slice A n c, .int .i64 k]) (L0 := [(0, .slice A n c), (1, .int .i64 k)]) Try.func35 rfl rfl rfl rfl (KOk.fr1 hs) ?_
 refine T.seq ?_
 refine T.region ?_
 refine TL.val (OpV.assign rfl) rfl ?_
 refine TL.nil ?_
 refine TE.next ?_
 refine T.seq ?_
 refine T.seq ?_
 refine T.region ?_
 refine TL.val (OpV.move rfl) rfl ?_
 refine TL.val (OpV.len Try.underlying38 rfl) rfl ?_
 refine TL.val (OpV.move rfl) rfl ?_
 refine TL.nil ?_
 refine TE.next ?_
 refine T.block ?_
 refine T.loop (ι := Nat) (fun i => i ≤ n ∧ (ks.take i).any (fun q => k == q) = false) (fun i => (n - i)) (fun i => [(0, .slice A n c), (1, .int .i64 k), (7, .int .i64 (n : Int)), (8, .int .i64 (i : Int))]) (fun i => [.fr σ]) 0 ⟨Nat.zero_le _, rfl⟩ (.cons (t := 0) rfl <| .cons (t := 1) rfl <| .cons (t := 7) rfl <| .cons (t := 8) rfl <| .nil) (Kle.refl) ?_
 rintro i hR
 refine T.seq ?_
 refine T.region ?_
 refine TL.val (OpV.lss rfl rfl) rfl ?_
 refine TL.nil ?_
 refine TE.next ?_
 refine T.seq ?_
 refine T.cond rfl ?_ ?_
 ·
  intro ht9
  try simp only [decide_eq_true_eq, decide_eq_false_iff_not, beq_iff_eq, beq_eq_false_iff_ne, bne_iff_ne, bne_eq_false_iff_eq, Bool.not_eq_true', Bool.not_eq_false', ne_eq] at ht9
  have hi : i < n := by omega
  obtain ⟨q, hq⟩ := get_of_lt h.1 hi
  obtain ⟨b, o, hA, hat⟩ := h.pos (by omega)
  have hatq := hat i q hq
  refine T.skip ?_
  refine TE.next ?_
  refine T.seq ?_
  refine T.block ?_
  refine T.seq ?_
  refine T.region ?_
  refine TL.val (OpV.move rfl) rfl ?_
  refine TL.val (OpV.assign rfl) rfl ?_
  refine TL.nil ?_
  refine TE.next ?_
  refine T.seq ?_
  refine T.region ?_
  refine TL.val (OpV.move rfl) rfl ?_
  refine TL.val (OpV.move rfl) rfl ?_
  refine TL.val (OpV.move rfl) rfl ?_
  refine TL.val (OpV.indexAddr se_38 rfl hA rfl (by rfl) (by first | omega | simp)) rfl ?_
  refine TL.val (OpV.load pl_29 rfl (by first | exact Cel.blk P0 rfl | exact Cel.blk P1 rfl | exact Cel.blk P2 rfl | exact Cel.blk P3 rfl | exact Cel.frA (hatq 0 _ rfl))) rfl ?_
  refine TL.val (OpV.eql rfl rfl) rfl ?_
  refine TL.nil ?_
  refine TE.sub (.cons (t := 0) rfl <| .cons (t := 1) rfl <| .cons (t := 5) rfl <| .cons (t := 7) rfl <| .cons (t := 8) rfl <| .cons (t := 16) rfl <| .nil) ?_
  refine TE.next ?_
  refine T.cond rfl ?_ ?_
  ·
   intro ht16
   try simp only [decide_eq_true_eq, decide_eq_false_iff_not, beq_iff_eq, beq_eq_false_iff_ne, bne_iff_ne, bne_eq_false_iff_eq, Bool.not_eq_true', Bool.not_eq_false', ne_eq] at ht16
   have hp : ks.any (fun q => k == q) = true := List.any_eq_true.2 ⟨q, List.mem_of_getElem? hq, beq_iff_eq.2 ht16⟩
   refine T.seq ?_
   refine T.region ?_
   refine TL.val (OpV.move rfl) rfl ?_
   refine TL.val (OpV.assign rfl) rfl ?_
   refine TL.nil ?_
   refine TE.sub (.cons (t := 4) rfl <| .nil) ?_
   refine TE.next ?_
   refine T.ret ?_
   refine TE.out_ret ?_
   refine TE.pass_ret ?_
   refine TE.pass_ret ?_
   refine TE.out_ret ?_
   refine TE.pass_ret ?_
   refine TE.ret1 rfl (ResV.tmp rfl) ?_
   exact fun w1 k1 => ⟨_, rfl, by rw [hp]; exact decide_eq_true (by omega), k1.bel⟩
  ·
   intro ht16
   try simp only [decide_eq_true_eq, decide_eq_false_iff_not, beq_iff_eq, beq_eq_false_iff_ne, bne_iff_ne, bne_eq_false_iff_eq, Bool.not_eq_true', Bool.not_eq_false', ne_eq] at ht16
   refine T.skip ?_
   refine TE.out ?_
   refine TE.next ?_
   refine T.region ?_
   refine TL.val (OpV.add rfl rfl (by first | exact IntWalk.i64_in _ ⟨by omega, by omega⟩ | rfl)) rfl ?_
   refine TL.val (OpV.move rfl) rfl ?_
   refine TL.nil ?_
   exact TE.meet (i + 1) ⟨⟨by omega, by rw [take_snoc hq, List.any_append, hR.2]; simpa using ht16⟩, by omega⟩ (.cons (t := 0) (by first | rfl | (simp [lk]; done)) <| .cons (t := 1) (by first | rfl | (simp [lk]; done)) <| .cons (t := 7) (by first | rfl | (simp [lk]; done)) <| .cons (t := 8) (by first | rfl | (simp [lk]; done)) <| .nil) (Kle.refl)
 ·
  intro ht9
  try simp only [decide_eq_true_eq, decide_eq_false_iff_not, beq_iff_eq, beq_eq_false_iff_ne, bne_iff_ne, bne_eq_false_iff_eq, Bool.not_eq_true', Bool.not_eq_false', ne_eq] at ht9
  have hp : ks.any (fun q => k == q) = false := by rw [show ks = ks.take i by rw [List.take_of_length_le (by omega)]]; exact hR.2
  refine T.exit ?_
  refine TE.pass_exit ?_
  refine TE.pass_exit ?_
  refine TE.here ?_
  refine TE.next ?_
  refine T.seq ?_
  refine T.region ?_
  refine TL.val (OpV.assign rfl) rfl ?_
  refine TL.nil ?_
  refine TE.next ?_
  refine T.ret ?_
  refine TE.ret1 rfl (ResV.tmp rfl) ?_
  exact fun w1 k1 => ⟨_, rfl, by rw [hp]; rfl, k1.bel⟩
set_option maxRecDepth 100000 in
set_option maxHeartbeats 400000 in
theorem indexf_c {σ : Nat → Option Obj} {A : Option Addr} {n c : Nat} {ks : List Int} (w : World) (h : IsR σ A n c ks) (hs : ∀ b o, σ b = some o → w.heap[b]? = some o) : Calls Try.prog 38 #[.slice A n c, .func (.func 34) #[] #[]] w (fun e w' => ∃ r : Int, e = .returned (.int .i64 r) ∧ decide (0 ≤ r) = ks.any (fun q => !kindB q) ∧ Below w.heap.size w w') := by
 have hn63 := h.2.1
 have hc63 := h.2.2.1
 have hl1 := h.1
 refine calls_T (vs := [.slice A n c, .func (.func 34) #[] #[]]) (L0 := [(0, .slice A n c), (1, .func (.func 34) #[] #[])]) Try.func38 rfl rfl rfl rfl (KOk.fr1 hs) ?_
 refine T.seq ?_
 refine T.region ?_
 refine TL.val (OpV.assign rfl) rfl ?_
 refine TL.nil ?_
 refine TE.next ?_
 refine T.seq ?_
 refine T.seq ?_
 refine T.region ?_
 refine TL.val (OpV.move rfl) rfl ?_
 refine TL.val (OpV.len Try.underlying38 rfl) rfl ?_
 refine TL.val (OpV.move rfl) rfl ?_
 refine TL.nil ?_
 refine TE.next ?_
 refine T.block ?_
 refine T.loop (ι := Nat) (fun i => i ≤ n ∧ (ks.take i).any (fun q => !kindB q) = false) (fun i => (n - i)) (fun i => [(0, .slice A n c), (1, .func (.func 34) #[] #[]), (7, .int .i64 (n : Int)), (8, .int .i64 (i : Int))]) (fun i => [.fr σ]) 0 ⟨Nat.zero_le _, rfl⟩ (.cons (t := 0) rfl <| .cons (t := 1) rfl <| .cons (t := 7) rfl <| .cons (t := 8) rfl <| .nil) (Kle.refl) ?_
 rintro i hR
 refine T.seq ?_
 refine T.region ?_
 refine TL.val (OpV.lss rfl rfl) rfl ?_
 refine TL.nil ?_
 refine TE.next ?_
 refine T.seq ?_
 refine T.cond rfl ?_ ?_
 ·
  intro ht9
  try simp only [decide_eq_true_eq, decide_eq_false_iff_not, beq_iff_eq, beq_eq_false_iff_ne, bne_iff_ne, bne_eq_false_iff_eq, Bool.not_eq_true', Bool.not_eq_false', ne_eq] at ht9
  have hi : i < n := by omega
  obtain ⟨q, hq⟩ := get_of_lt h.1 hi
  obtain ⟨b, o, hA, hat⟩ := h.pos (by omega)
  have hatq := hat i q hq
  refine T.skip ?_
  refine TE.next ?_
  refine T.seq ?_
  refine T.block ?_
  refine T.seq ?_
  refine T.region ?_
  refine TL.val (OpV.move rfl) rfl ?_
  refine TL.val (OpV.assign rfl) rfl ?_
  refine TL.nil ?_
  refine TE.next ?_
  refine T.seq ?_
  refine T.region ?_
  refine TL.val (OpV.move rfl) rfl ?_
  refine TL.val (OpV.move rfl) rfl ?_
  refine TL.val (OpV.move rfl) rfl ?_
  refine TL.val (OpV.indexAddr se_38 rfl hA rfl (by rfl) (by first | omega | simp)) rfl ?_
  refine TL.val (OpV.load pl_29 rfl (by first | exact Cel.blk P0 rfl | exact Cel.blk P1 rfl | exact Cel.blk P2 rfl | exact Cel.blk P3 rfl | exact Cel.frA (hatq 0 _ rfl))) rfl ?_
  refine TL.call (g := 34) rfl go_34 rfl (fun w1 k1 => notkind_c q w1) rfl ?_
  refine TL.nil ?_
  refine TE.sub (.cons (t := 0) rfl <| .cons (t := 1) rfl <| .cons (t := 5) rfl <| .cons (t := 7) rfl <| .cons (t := 8) rfl <| .cons (t := 16) rfl <| .nil) ?_
  refine TE.next ?_
  refine T.cond rfl ?_ ?_
  ·
   intro ht16
   try simp only [decide_eq_true_eq, decide_eq_false_iff_not, beq_iff_eq, beq_eq_false_iff_ne, bne_iff_ne, bne_eq_false_iff_eq, Bool.not_eq_true', Bool.not_eq_false', ne_eq] at ht16
   have hp : ks.any (fun q => !kindB q) = true := List.any_eq_true.2 ⟨q, List.mem_of_getElem? hq, by simpa using ht16⟩
   refine T.seq ?_
   refine T.region ?_
   refine TL.val (OpV.move rfl) rfl ?_
   refine TL.val (OpV.assign rfl) rfl ?_
   refine TL.nil ?_
   refine TE.sub (.cons (t := 4) rfl <| .nil) ?_
   refine TE.next ?_
   refine T.ret ?_
   refine TE.out_ret ?_
   refine TE.pass_ret ?_
   refine TE.pass_ret ?_
   refine TE.out_ret ?_
   refine TE.pass_ret ?_
   refine TE.ret1 rfl (ResV.tmp rfl) ?_
   exact fun w1 k1 => ⟨_, rfl, by rw [hp]; exact decide_eq_true (by omega), k1.bel⟩
  ·
   intro ht16
   try simp only [decide_eq_true_eq, decide_eq_false_iff_not, beq_iff_eq, beq_eq_false_iff_ne, bne_iff_ne, bne_eq_false_iff_eq, Bool.not_eq_true', Bool.not_eq_false', ne_eq] at ht16
   refine T.skip ?_
   refine TE.out ?_
   refine TE.next ?_
   refine T.region ?_
   refine TL.val (OpV.add rfl rfl (by first | exact IntWalk.i64_in _ ⟨by omega, by omega⟩ | rfl)) rfl ?_
   refine TL.val (OpV.move rfl) rfl ?_
   refine TL.nil ?_
   exact TE.meet (i + 1) ⟨⟨by omega, by rw [take_snoc hq, List.any_append, hR.2]; simpa using ht16⟩, by omega⟩ (.cons (t := 0) (by first | rfl | (simp [lk]; done)) <| .cons (t := 1) (by first | rfl | (simp [lk]; done)) <| .cons (t := 7) (by first | rfl | (simp [lk]; done)) <| .cons (t := 8) (by first | rfl | (simp [lk]; done)) <| .nil) (Kle.refl)
 ·
  intro ht9
  try simp only [decide_eq_true_eq, decide_eq_false_iff_not, beq_iff_eq, beq_eq_false_iff_ne, bne_iff_ne, bne_eq_false_iff_eq, Bool.not_eq_true', Bool.not_eq_false', ne_eq] at ht9
  have hp : ks.any (fun q => !kindB q) = false := by rw [show ks = ks.take i by rw [List.take_of_length_le (by omega)]]; exact hR.2
  refine T.exit ?_
  refine TE.pass_exit ?_
  refine TE.pass_exit ?_
  refine TE.here ?_
  refine TE.next ?_
  refine T.seq ?_
  refine T.region ?_
  refine TL.val (OpV.assign rfl) rfl ?_
  refine TL.nil ?_
  refine TE.next ?_
  refine T.ret ?_
  refine TE.ret1 rfl (ResV.tmp rfl) ?_
  exact fun w1 k1 => ⟨_, rfl, by rw [hp]; rfl, k1.bel⟩
set_option maxRecDepth 100000 in
set_option maxHeartbeats 400000 in
theorem contains_c {σ : Nat → Option Obj} {A : Option Addr} {n c : Nat} {ks : List Int} (k : Int) (w : World) (h : IsR σ A n c ks) (hs : ∀ b o, σ b = some o → w.heap[b]? = some o) : Calls Try.prog 27 #[.slice A n c, .int .i64 k] w (Ret (.bool (hasK ks k)) w) := by
 refine calls_T (vs := [.slice A n c, .int .i64 k]) (L0 := [(0, .slice A n c), (1, .int .i64 k)]) Try.func27 rfl rfl rfl rfl (KOk.fr1 hs) ?_
 refine T.seq ?_
 refine T.region ?_
 refine TL.val (OpV.assign rfl) rfl ?_
 refine TL.nil ?_
 refine TE.next ?_
 refine T.seq ?_
 refine T.region ?_
 refine TL.val (OpV.move rfl) rfl ?_
 refine TL.val (OpV.move rfl) rfl ?_
 refine TL.callx (g := 35) rfl go_35 rfl (fun wz k1 => bel_x k1 (index_c k wz h (k1.get (e := .fr σ) (by first | exact P0 | exact P1 | exact P2 | exact P3 | exact P4 | exact P5)))) rfl ?_
 rintro r hr
 refine TL.val (OpV.geq rfl rfl) rfl ?_
 refine TL.val (OpV.assign rfl) rfl ?_
 refine TL.nil ?_
 refine TE.next ?_
 refine T.ret ?_
 refine TE.ret1 rfl (ResV.tmp rfl) ?_
 exact fun w1 k1 => ⟨ret_b (w := w) (w' := w) hr, k1.bel⟩
set_option maxRecDepth 100000 in
set_option maxHeartbeats 400000 in
theorem containsf_c {σ : Nat → Option Obj} {A : Option Addr} {n c : Nat} {ks : List Int} (w : World) (h : IsR σ A n c ks) (hs : ∀ b o, σ b = some o → w.heap[b]? = some o) : Calls Try.prog 33 #[.slice A n c, .func (.func 34) #[] #[]] w (Ret (.bool (ks.any (fun q => !kindB q))) w) := by
 refine calls_T (vs := [.slice A n c, .func (.func 34) #[] #[]]) (L0 := [(0, .slice A n c), (1, .func (.func 34) #[] #[])]) Try.func33 rfl rfl rfl rfl (KOk.fr1 hs) ?_
 refine T.seq ?_
 refine T.region ?_
 refine TL.val (OpV.assign rfl) rfl ?_
 refine TL.nil ?_
 refine TE.next ?_
 refine T.seq ?_
 refine T.region ?_
 refine TL.val (OpV.move rfl) rfl ?_
 refine TL.val (OpV.move rfl) rfl ?_
 refine TL.callx (g := 38) rfl go_38 rfl (fun wz k1 => bel_x k1 (indexf_c wz h (k1.get (e := .fr σ) (by first | exact P0 | exact P1 | exact P2 | exact P3 | exact P4 | exact P5)))) rfl ?_
 rintro r hr
 refine TL.val (OpV.geq rfl rfl) rfl ?_
 refine TL.val (OpV.assign rfl) rfl ?_
 refine TL.nil ?_
 refine TE.next ?_
 refine T.ret ?_
 refine TE.ret1 rfl (ResV.tmp rfl) ?_
 exact fun w1 k1 => ⟨ret_b (w := w) (w' := w) hr, k1.bel⟩
set_option maxRecDepth 100000 in
set_option maxHeartbeats 400000 in
theorem check_c {σ : Nat → Option Obj} {A : Option Addr} {n c : Nat} {ks : List Int} (p : Addr) (w : World) (h : IsR σ A n c ks) (hs : ∀ b o, σ b = some o → w.heap[b]? = some o) : Calls Try.prog 26 #[.pointer (some p), .slice A n c] w (Ret (.int .i64 (chkE ks)) w) := by
 have hn63 := h.2.1
 have hc63 := h.2.2.1
 have hl1 := h.1
 refine calls_T (vs := [.pointer (some p), .slice A n c]) (L0 := [(0, .pointer (some p)), (1, .slice A n c)]) Try.func26 rfl rfl rfl rfl (KOk.fr1 hs) ?_
 refine T.seq ?_
 refine T.region ?_
 refine TL.val (OpV.assign rfl) rfl ?_
 refine TL.nil ?_
 refine TE.next ?_
 refine T.seq ?_
 refine T.block ?_
 refine T.seq ?_
 refine T.region ?_
 refine TL.val (OpV.move rfl) rfl ?_
 refine TL.val (OpV.peql Try.underlying23 rfl rfl) rfl ?_
 refine TL.said (t := 7) rfl (show _ = Value.bool false from congrArg Value.bool (rfl)) ?_
 refine TL.val (OpV.assign rfl) rfl ?_
 refine TL.nil ?_
 refine TE.next ?_
 refine T.no rfl ?_
 refine T.seq ?_
 refine T.region ?_
 refine TL.val (OpV.move rfl) rfl ?_
 refine TL.val (OpV.len Try.underlying38 rfl) rfl ?_
 refine TL.val (OpV.eql rfl rfl) rfl ?_
 refine TL.val (OpV.move rfl) rfl ?_
 refine TL.part (t := 12) rfl ?_ ?_
 ·
  intro hg12
  try simp only [decide_eq_true_eq, decide_eq_false_iff_not, beq_iff_eq, beq_eq_false_iff_ne, bne_iff_ne, bne_eq_false_iff_eq, Bool.not_eq_true', Bool.not_eq_false', ne_eq] at hg12
  refine TL.shut rfl rfl ?_
  refine TL.shut rfl rfl ?_
  refine TL.val ((by first | exact OpV.pick_t rfl rfl | exact OpV.pick_f rfl rfl)) rfl ?_
  refine TL.val (OpV.assign rfl) rfl ?_
  refine TL.nil ?_
  refine TE.sub (.cons (t := 8) rfl <| .nil) ?_
  refine TE.next ?_
  refine T.yes rfl ?_
  refine T.seq ?_
  refine T.region ?_
  refine TL.val (OpV.assign rfl) rfl ?_
  refine TL.nil ?_
  refine TE.next ?_
  refine T.ret ?_
  refine TE.out_ret ?_
  refine TE.pass_ret ?_
  refine TE.ret1 rfl (ResV.tmp rfl) ?_
  exact fun w1 k1 => ⟨by rw [chkE, if_pos (by first | exact .inl (by omega) | exact .inr ht8)], k1.bel⟩
 ·
  intro hg12
  try simp only [decide_eq_true_eq, decide_eq_false_iff_not, beq_iff_eq, beq_eq_false_iff_ne, bne_iff_ne, bne_eq_false_iff_eq, Bool.not_eq_true', Bool.not_eq_false', ne_eq] at hg12
  refine TL.open rfl rfl ?_
  refine TL.val (OpV.move rfl) rfl ?_
  refine TL.open rfl rfl ?_
  refine TL.call (g := 33) rfl go_33 rfl (fun w1 k1 => containsf_c w1 h (k1.get (e := .fr σ) (by first | exact P0 | exact P1 | exact P2 | exact P3 | exact P4 | exact P5))) rfl ?_
  refine TL.val ((by first | exact OpV.pick_t rfl rfl | exact OpV.pick_f rfl rfl)) rfl ?_
  refine TL.val (OpV.assign rfl) rfl ?_
  refine TL.nil ?_
  refine TE.sub (.cons (t := 8) rfl <| .nil) ?_
  refine TE.next ?_
  refine T.cond rfl ?_ ?_
  ·
   intro ht8
   try simp only [decide_eq_true_eq, decide_eq_false_iff_not, beq_iff_eq, beq_eq_false_iff_ne, bne_iff_ne, bne_eq_false_iff_eq, Bool.not_eq_true', Bool.not_eq_false', ne_eq] at ht8
   refine T.seq ?_
   refine T.region ?_
   refine TL.val (OpV.assign rfl) rfl ?_
   refine TL.nil ?_
   refine TE.next ?_
   refine T.ret ?_
   refine TE.out_ret ?_
   refine TE.pass_ret ?_
   refine TE.ret1 rfl (ResV.tmp rfl) ?_
   exact fun w1 k1 => ⟨by rw [chkE, if_pos (by first | exact .inl (by omega) | exact .inr ht8)], k1.bel⟩
  ·
   intro ht8
   try simp only [decide_eq_true_eq, decide_eq_false_iff_not, beq_iff_eq, beq_eq_false_iff_ne, bne_iff_ne, bne_eq_false_iff_eq, Bool.not_eq_true', Bool.not_eq_false', ne_eq] at ht8
   refine T.skip ?_
   refine TE.out ?_
   refine TE.next ?_
   refine T.seq ?_
   refine T.region ?_
   refine TL.val (OpV.assign rfl) rfl ?_
   refine TL.nil ?_
   refine TE.next ?_
   refine T.ret ?_
   refine TE.ret1 rfl (ResV.tmp rfl) ?_
   exact fun w1 k1 => ⟨by rw [chkE, if_neg (fun e => e.elim (fun e => by omega) (fun e => by rw [ht8] at e; cases e))], k1.bel⟩
set_option maxRecDepth 100000 in
set_option maxHeartbeats 400000 in
theorem check_nil (v : Value) (w : World) : Calls Try.prog 26 #[.pointer none, v] w (Ret (.int .i64 1) w) := by
 refine calls_T (vs := [.pointer none, v]) (L0 := [(0, .pointer none), (1, v)]) Try.func26 rfl rfl rfl rfl (KOk.none w) ?_
 refine T.seq ?_
 refine T.region ?_
 refine TL.val (OpV.assign rfl) rfl ?_
 refine TL.nil ?_
 refine TE.next ?_
 refine T.seq ?_
 refine T.block ?_
 refine T.seq ?_
 refine T.region ?_
 refine TL.val (OpV.move rfl) rfl ?_
 refine TL.val (OpV.peql Try.underlying23 rfl rfl) rfl ?_
 refine TL.said (t := 7) rfl (show _ = Value.bool true from congrArg Value.bool (rfl)) ?_
 refine TL.val (OpV.assign rfl) rfl ?_
 refine TL.nil ?_
 refine TE.next ?_
 refine T.yes rfl ?_
 refine T.seq ?_
 refine T.region ?_
 refine TL.val (OpV.assign rfl) rfl ?_
 refine TL.nil ?_
 refine TE.next ?_
 refine T.ret ?_
 refine TE.out_ret ?_
 refine TE.pass_ret ?_
 refine TE.ret1 rfl (ResV.tmp rfl) ?_
 exact fun w1 k1 => ⟨rfl, k1.bel⟩
set_option maxRecDepth 100000 in
set_option maxHeartbeats 400000 in
theorem mark_c (a b : Int) (w : World) : Calls Try.prog 9 #[.int .i64 a, .int .i64 b] w (Ret (.agg (Mk.mk a b 0).l.toArray) w) := by
 refine calls_T (vs := [.int .i64 a, .int .i64 b]) (L0 := [(0, .int .i64 a), (1, .int .i64 b)]) Try.func9 rfl rfl rfl rfl (KOk.none w) ?_
 refine T.seq ?_
 refine T.region ?_
 refine TL.alloc zo_31 rfl ?_
 intro b4
 refine TL.nil ?_
 refine TE.next ?_
 refine T.seq ?_
 refine T.region ?_
 refine TL.val (OpV.move rfl) rfl ?_
 refine TL.val (OpV.move rfl) rfl ?_
 refine TL.val (OpV.build (qs := #[(0, _), (1, _)]) (fun _ f => by simp only [List.map_toArray, List.map_cons, List.map_nil]; rw [f.ev (x := .tmp 5) rfl, f.ev (x := .tmp 6) rfl]) (bld_31_0_1 a b )) rfl ?_
 first
   | refine TL.storeAll rfl rfl szz_31 rfl rfl rfl (by first | exact P0 | exact P1 | exact P2 | exact P3) (by rfl) ?_
   | refine TL.store rfl rfl szz_31 rfl rfl rfl (by first | exact P0 | exact P1 | exact P2 | exact P3) (by first | exact Nat.le_of_ble_eq_true rfl | (simp; done) | (simp; omega)) (by simp only [Mk.l, putL, List.take_succ_cons, List.take_zero, List.drop_succ_cons, List.drop_zero, List.cons_append, List.nil_append, List.length_cons, List.length_nil, Nat.reduceAdd]; rfl) ?_
 refine TL.nil ?_
 refine TE.next ?_
 refine T.ret ?_
 refine TE.ret1 rfl (ResV.cellA rfl ag_31 (by first | exact Cels.blk P0 rfl | exact Cels.blk P1 rfl | exact Cels.blk P2 rfl | exact Cels.blk P3 rfl)) ?_
 exact fun w1 k1 => ⟨rfl, k1.bel⟩
set_option maxRecDepth 100000 in
set_option maxHeartbeats 400000 in
theorem valid_c (x : Mk) (w : World) : Calls Try.prog 18 #[.agg x.l.toArray] w (Ret (.bool (okM x)) w) := by
 refine calls_T (vs := [.agg x.l.toArray]) (L0 := [(0, .agg x.l.toArray)]) Try.func18 rfl rfl rfl rfl (KOk.none w) ?_
 refine T.seq ?_
 refine T.region ?_
 refine TL.boxA rfl rfl ?_
 intro b1
 refine TL.val (OpV.assign rfl) rfl ?_
 refine TL.nil ?_
 refine TE.next ?_
 refine T.seq ?_
 refine T.region ?_
 refine TL.val (OpV.fieldAddr rfl fo_31_0) rfl ?_
 refine TL.val (OpV.load pl_3 rfl (by first | exact Cel.blk P0 rfl | exact Cel.blk P1 rfl | exact Cel.blk P2 rfl | exact Cel.blk P3 rfl)) rfl ?_
 refine TL.val (OpV.geq rfl rfl) rfl ?_
 refine TL.val (OpV.move rfl) rfl ?_
 refine TL.part (t := 6) rfl ?_ ?_
 ·
  intro hg6
  try simp only [decide_eq_true_eq, decide_eq_false_iff_not, beq_iff_eq, beq_eq_false_iff_ne, bne_iff_ne, bne_eq_false_iff_eq, Bool.not_eq_true', Bool.not_eq_false', ne_eq] at hg6
  refine TL.open rfl rfl ?_
  refine TL.val (OpV.fieldAddr rfl fo_31_0) rfl ?_
  refine TL.open rfl rfl ?_
  refine TL.val (OpV.load pl_3 rfl (by first | exact Cel.blk P0 rfl | exact Cel.blk P1 rfl | exact Cel.blk P2 rfl | exact Cel.blk P3 rfl)) rfl ?_
  refine TL.open rfl rfl ?_
  refine TL.val (OpV.leq rfl rfl) rfl ?_
  refine TL.val ((by first | exact OpV.pick_t rfl rfl | exact OpV.pick_f rfl rfl)) rfl ?_
  refine TL.val (OpV.move rfl) rfl ?_
  refine TL.part (t := 11) rfl ?_ ?_
  ·
   intro hg11
   try simp only [decide_eq_true_eq, decide_eq_false_iff_not, beq_iff_eq, beq_eq_false_iff_ne, bne_iff_ne, bne_eq_false_iff_eq, Bool.not_eq_true', Bool.not_eq_false', ne_eq] at hg11
   refine TL.open rfl rfl ?_
   refine TL.val (OpV.fieldAddr rfl fo_31_1) rfl ?_
   refine TL.open rfl rfl ?_
   refine TL.val (OpV.load pl_29 rfl (by first | exact Cel.blk P0 rfl | exact Cel.blk P1 rfl | exact Cel.blk P2 rfl | exact Cel.blk P3 rfl)) rfl ?_
   refine TL.open rfl rfl ?_
   refine TL.val (OpV.geq rfl rfl) rfl ?_
   refine TL.val ((by first | exact OpV.pick_t rfl rfl | exact OpV.pick_f rfl rfl)) rfl ?_
   refine TL.val (OpV.move rfl) rfl ?_
   refine TL.part (t := 16) rfl ?_ ?_
   ·
    intro hg16
    try simp only [decide_eq_true_eq, decide_eq_false_iff_not, beq_iff_eq, beq_eq_false_iff_ne, bne_iff_ne, bne_eq_false_iff_eq, Bool.not_eq_true', Bool.not_eq_false', ne_eq] at hg16
    refine TL.open rfl rfl ?_
    refine TL.val (OpV.fieldAddr rfl fo_31_1) rfl ?_
    refine TL.open rfl rfl ?_
    refine TL.val (OpV.load pl_29 rfl (by first | exact Cel.blk P0 rfl | exact Cel.blk P1 rfl | exact Cel.blk P2 rfl | exact Cel.blk P3 rfl)) rfl ?_
    refine TL.open rfl rfl ?_
    refine TL.val (OpV.leq rfl rfl) rfl ?_
    refine TL.val ((by first | exact OpV.pick_t rfl rfl | exact OpV.pick_f rfl rfl)) rfl ?_
    refine TL.val (OpV.move rfl) rfl ?_
    refine TL.part (t := 21) rfl ?_ ?_
    ·
     intro hg21
     try simp only [decide_eq_true_eq, decide_eq_false_iff_not, beq_iff_eq, beq_eq_false_iff_ne, bne_iff_ne, bne_eq_false_iff_eq, Bool.not_eq_true', Bool.not_eq_false', ne_eq] at hg21
     refine TL.open rfl rfl ?_
     refine TL.val (OpV.fieldAddr rfl fo_31_2) rfl ?_
     refine TL.open rfl rfl ?_
     refine TL.val (OpV.load pl_3 rfl (by first | exact Cel.blk P0 rfl | exact Cel.blk P1 rfl | exact Cel.blk P2 rfl | exact Cel.blk P3 rfl)) rfl ?_
     refine TL.open rfl rfl ?_
     refine TL.val (OpV.geq rfl rfl) rfl ?_
     refine TL.val ((by first | exact OpV.pick_t rfl rfl | exact OpV.pick_f rfl rfl)) rfl ?_
     refine TL.val (OpV.move rfl) rfl ?_
     refine TL.part (t := 26) rfl ?_ ?_
     ·
      intro hg26
      try simp only [decide_eq_true_eq, decide_eq_false_iff_not, beq_iff_eq, beq_eq_false_iff_ne, bne_iff_ne, bne_eq_false_iff_eq, Bool.not_eq_true', Bool.not_eq_false', ne_eq] at hg26
      refine TL.open rfl rfl ?_
      refine TL.val (OpV.fieldAddr rfl fo_31_2) rfl ?_
      refine TL.open rfl rfl ?_
      refine TL.val (OpV.load pl_3 rfl (by first | exact Cel.blk P0 rfl | exact Cel.blk P1 rfl | exact Cel.blk P2 rfl | exact Cel.blk P3 rfl)) rfl ?_
      refine TL.open rfl rfl ?_
      refine TL.val (OpV.leq rfl rfl) rfl ?_
      refine TL.val ((by first | exact OpV.pick_t rfl rfl | exact OpV.pick_f rfl rfl)) rfl ?_
      refine TL.val (OpV.move rfl) rfl ?_
      refine TL.part (t := 31) rfl ?_ ?_
      ·
       intro hg31
       try simp only [decide_eq_true_eq, decide_eq_false_iff_not, beq_iff_eq, beq_eq_false_iff_ne, bne_iff_ne, bne_eq_false_iff_eq, Bool.not_eq_true', Bool.not_eq_false', ne_eq] at hg31
       refine TL.open rfl rfl ?_
       refine TL.val (OpV.fieldAddr rfl fo_31_1) rfl ?_
       refine TL.open rfl rfl ?_
       refine TL.val (OpV.load pl_29 rfl (by first | exact Cel.blk P0 rfl | exact Cel.blk P1 rfl | exact Cel.blk P2 rfl | exact Cel.blk P3 rfl)) rfl ?_
       refine TL.open rfl rfl ?_
       refine TL.val (OpV.eql rfl rfl) rfl ?_
       refine TL.open rfl rfl ?_
       refine TL.val (OpV.move rfl) rfl ?_
       refine TL.part (t := 35) rfl ?_ ?_
       ·
        intro hg35
        try simp only [decide_eq_true_eq, decide_eq_false_iff_not, beq_iff_eq, beq_eq_false_iff_ne, bne_iff_ne, bne_eq_false_iff_eq, Bool.not_eq_true', Bool.not_eq_false', ne_eq] at hg35
        refine TL.shut rfl rfl ?_
        refine TL.shut rfl rfl ?_
        refine TL.shut rfl rfl ?_
        refine TL.open rfl rfl ?_
        refine TL.val ((by first | exact OpV.pick_t rfl rfl | exact OpV.pick_f rfl rfl)) rfl ?_
        refine TL.val ((by first | exact OpV.pick_t rfl rfl | exact OpV.pick_f rfl rfl)) rfl ?_
        refine TL.val (OpV.assign rfl) rfl ?_
        refine TL.nil ?_
        refine TE.sub (.cons (t := 2) rfl <| .nil) ?_
        refine TE.next ?_
        refine T.ret ?_
        refine TE.ret1 rfl (ResV.tmp rfl) ?_
        exact fun w1 k1 => ⟨ret_b (w := w) (w' := w) (by first | exact (decide_eq_false (by omega) : okM x = false).symm | (rw [okM, Bool.eq_iff_iff, decide_eq_true_eq]; simp only [beq_iff_eq]; omega) | exact (decide_eq_true (by omega) : okM x = true).symm), k1.bel⟩
       ·
        intro hg35
        try simp only [decide_eq_true_eq, decide_eq_false_iff_not, beq_iff_eq, beq_eq_false_iff_ne, bne_iff_ne, bne_eq_false_iff_eq, Bool.not_eq_true', Bool.not_eq_false', ne_eq] at hg35
        refine TL.open rfl rfl ?_
        refine TL.val (OpV.fieldAddr rfl fo_31_2) rfl ?_
        refine TL.open rfl rfl ?_
        refine TL.val (OpV.load pl_3 rfl (by first | exact Cel.blk P0 rfl | exact Cel.blk P1 rfl | exact Cel.blk P2 rfl | exact Cel.blk P3 rfl)) rfl ?_
        refine TL.open rfl rfl ?_
        refine TL.val (OpV.eql rfl rfl) rfl ?_
        refine TL.open rfl rfl ?_
        refine TL.val ((by first | exact OpV.pick_t rfl rfl | exact OpV.pick_f rfl rfl)) rfl ?_
        refine TL.val ((by first | exact OpV.pick_t rfl rfl | exact OpV.pick_f rfl rfl)) rfl ?_
        refine TL.val (OpV.assign rfl) rfl ?_
        refine TL.nil ?_
        refine TE.sub (.cons (t := 2) rfl <| .nil) ?_
        refine TE.next ?_
        refine T.ret ?_
        refine TE.ret1 rfl (ResV.tmp rfl) ?_
        exact fun w1 k1 => ⟨ret_b (w := w) (w' := w) (by first | exact (decide_eq_false (by omega) : okM x = false).symm | (rw [okM, Bool.eq_iff_iff, decide_eq_true_eq]; simp only [beq_iff_eq]; omega) | exact (decide_eq_true (by omega) : okM x = true).symm), k1.bel⟩
      ·
       intro hg31
       try simp only [decide_eq_true_eq, decide_eq_false_iff_not, beq_iff_eq, beq_eq_false_iff_ne, bne_iff_ne, bne_eq_false_iff_eq, Bool.not_eq_true', Bool.not_eq_false', ne_eq] at hg31
       refine TL.shut rfl rfl ?_
       refine TL.shut rfl rfl ?_
       refine TL.shut rfl rfl ?_
       refine TL.shut rfl rfl ?_
       refine TL.shutU rfl rfl ?_
       refine TL.shutU rfl rfl ?_
       refine TL.shutU rfl rfl ?_
       refine TL.shut rfl rfl ?_
       refine TL.val ((by first | exact OpV.pick_t rfl rfl | exact OpV.pick_f rfl rfl)) rfl ?_
       refine TL.val (OpV.assign rfl) rfl ?_
       refine TL.nil ?_
       refine TE.sub (.cons (t := 2) rfl <| .nil) ?_
       refine TE.next ?_
       refine T.ret ?_
       refine TE.ret1 rfl (ResV.tmp rfl) ?_
       exact fun w1 k1 => ⟨ret_b (w := w) (w' := w) (by first | exact (decide_eq_false (by omega) : okM x = false).symm | (rw [okM, Bool.eq_iff_iff, decide_eq_true_eq]; simp only [beq_iff_eq]; omega) | exact (decide_eq_true (by omega) : okM x = true).symm), k1.bel⟩
     ·
      intro hg26
      try simp only [decide_eq_true_eq, decide_eq_false_iff_not, beq_iff_eq, beq_eq_false_iff_ne, bne_iff_ne, bne_eq_false_iff_eq, Bool.not_eq_true', Bool.not_eq_false', ne_eq] at hg26
      refine TL.shut rfl rfl ?_
      refine TL.shut rfl rfl ?_
      refine TL.shut rfl rfl ?_
      refine TL.val ((by first | exact OpV.pick_t rfl rfl | exact OpV.pick_f rfl rfl)) rfl ?_
      refine TL.val (OpV.move rfl) rfl ?_
      refine TL.shut rfl rfl ?_
      refine TL.shut rfl rfl ?_
      refine TL.shut rfl rfl ?_
      refine TL.shut rfl rfl ?_
      refine TL.shutU rfl rfl ?_
      refine TL.shutU rfl rfl ?_
      refine TL.shutU rfl rfl ?_
      refine TL.shut rfl rfl ?_
      refine TL.val ((by first | exact OpV.pick_t rfl rfl | exact OpV.pick_f rfl rfl)) rfl ?_
      refine TL.val (OpV.assign rfl) rfl ?_
      refine TL.nil ?_
      refine TE.sub (.cons (t := 2) rfl <| .nil) ?_
      refine TE.next ?_
      refine T.ret ?_
      refine TE.ret1 rfl (ResV.tmp rfl) ?_
      exact fun w1 k1 => ⟨ret_b (w := w) (w' := w) (by first | exact (decide_eq_false (by omega) : okM x = false).symm | (rw [okM, Bool.eq_iff_iff, decide_eq_true_eq]; simp only [beq_iff_eq]; omega) | exact (decide_eq_true (by omega) : okM x = true).symm), k1.bel⟩
    ·
     intro hg21
     try simp only [decide_eq_true_eq, decide_eq_false_iff_not, beq_iff_eq, beq_eq_false_iff_ne, bne_iff_ne, bne_eq_false_iff_eq, Bool.not_eq_true', Bool.not_eq_false', ne_eq] at hg21
     refine TL.shut rfl rfl ?_
     refine TL.shut rfl rfl ?_
     refine TL.shut rfl rfl ?_
     refine TL.val ((by first | exact OpV.pick_t rfl rfl | exact OpV.pick_f rfl rfl)) rfl ?_
     refine TL.val (OpV.move rfl) rfl ?_
     refine TL.shut rfl rfl ?_
     refine TL.shut rfl rfl ?_
     refine TL.shut rfl rfl ?_
     refine TL.val ((by first | exact OpV.pick_t rfl rfl | exact OpV.pick_f rfl rfl)) rfl ?_
     refine TL.val (OpV.move rfl) rfl ?_
     refine TL.shut rfl rfl ?_
     refine TL.shut rfl rfl ?_
     refine TL.shut rfl rfl ?_
     refine TL.shut rfl rfl ?_
     refine TL.shutU rfl rfl ?_
     refine TL.shutU rfl rfl ?_
     refine TL.shutU rfl rfl ?_
     refine TL.shut rfl rfl ?_
     refine TL.val ((by first | exact OpV.pick_t rfl rfl | exact OpV.pick_f rfl rfl)) rfl ?_
     refine TL.val (OpV.assign rfl) rfl ?_
     refine TL.nil ?_
     refine TE.sub (.cons (t := 2) rfl <| .nil) ?_
     refine TE.next ?_
     refine T.ret ?_
     refine TE.ret1 rfl (ResV.tmp rfl) ?_
     exact fun w1 k1 => ⟨ret_b (w := w) (w' := w) (by first | exact (decide_eq_false (by omega) : okM x = false).symm | (rw [okM, Bool.eq_iff_iff, decide_eq_true_eq]; simp only [beq_iff_eq]; omega) | exact (decide_eq_true (by omega) : okM x = true).symm), k1.bel⟩
   ·
    intro hg16
    try simp only [decide_eq_true_eq, decide_eq_false_iff_not, beq_iff_eq, beq_eq_false_iff_ne, bne_iff_ne, bne_eq_false_iff_eq, Bool.not_eq_true', Bool.not_eq_false', ne_eq] at hg16
    refine TL.shut rfl rfl ?_
    refine TL.shut rfl rfl ?_
    refine TL.shut rfl rfl ?_
    refine TL.val ((by first | exact OpV.pick_t rfl rfl | exact OpV.pick_f rfl rfl)) rfl ?_
    refine TL.val (OpV.move rfl) rfl ?_
    refine TL.shut rfl rfl ?_
    refine TL.shut rfl rfl ?_
    refine TL.shut rfl rfl ?_
    refine TL.val ((by first | exact OpV.pick_t rfl rfl | exact OpV.pick_f rfl rfl)) rfl ?_
    refine TL.val (OpV.move rfl) rfl ?_
    refine TL.shut rfl rfl ?_
    refine TL.shut rfl rfl ?_
    refine TL.shut rfl rfl ?_
    refine TL.val ((by first | exact OpV.pick_t rfl rfl | exact OpV.pick_f rfl rfl)) rfl ?_
    refine TL.val (OpV.move rfl) rfl ?_
    refine TL.shut rfl rfl ?_
    refine TL.shut rfl rfl ?_
    refine TL.shut rfl rfl ?_
    refine TL.shut rfl rfl ?_
    refine TL.shutU rfl rfl ?_
    refine TL.shutU rfl rfl ?_
    refine TL.shutU rfl rfl ?_
    refine TL.shut rfl rfl ?_
    refine TL.val ((by first | exact OpV.pick_t rfl rfl | exact OpV.pick_f rfl rfl)) rfl ?_
    refine TL.val (OpV.assign rfl) rfl ?_
    refine TL.nil ?_
    refine TE.sub (.cons (t := 2) rfl <| .nil) ?_
    refine TE.next ?_
    refine T.ret ?_
    refine TE.ret1 rfl (ResV.tmp rfl) ?_
    exact fun w1 k1 => ⟨ret_b (w := w) (w' := w) (by first | exact (decide_eq_false (by omega) : okM x = false).symm | (rw [okM, Bool.eq_iff_iff, decide_eq_true_eq]; simp only [beq_iff_eq]; omega) | exact (decide_eq_true (by omega) : okM x = true).symm), k1.bel⟩
  ·
   intro hg11
   try simp only [decide_eq_true_eq, decide_eq_false_iff_not, beq_iff_eq, beq_eq_false_iff_ne, bne_iff_ne, bne_eq_false_iff_eq, Bool.not_eq_true', Bool.not_eq_false', ne_eq] at hg11
   refine TL.shut rfl rfl ?_
   refine TL.shut rfl rfl ?_
   refine TL.shut rfl rfl ?_
   refine TL.val ((by first | exact OpV.pick_t rfl rfl | exact OpV.pick_f rfl rfl)) rfl ?_
   refine TL.val (OpV.move rfl) rfl ?_
   refine TL.shut rfl rfl ?_
   refine TL.shut rfl rfl ?_
   refine TL.shut rfl rfl ?_
   refine TL.val ((by first | exact OpV.pick_t rfl rfl | exact OpV.pick_f rfl rfl)) rfl ?_
   refine TL.val (OpV.move rfl) rfl ?_
   refine TL.shut rfl rfl ?_
   refine TL.shut rfl rfl ?_
   refine TL.shut rfl rfl ?_
   refine TL.val ((by first | exact OpV.pick_t rfl rfl | exact OpV.pick_f rfl rfl)) rfl ?_
   refine TL.val (OpV.move rfl) rfl ?_
   refine TL.shut rfl rfl ?_
   refine TL.shut rfl rfl ?_
   refine TL.shut rfl rfl ?_
   refine TL.val ((by first | exact OpV.pick_t rfl rfl | exact OpV.pick_f rfl rfl)) rfl ?_
   refine TL.val (OpV.move rfl) rfl ?_
   refine TL.shut rfl rfl ?_
   refine TL.shut rfl rfl ?_
   refine TL.shut rfl rfl ?_
   refine TL.shut rfl rfl ?_
   refine TL.shutU rfl rfl ?_
   refine TL.shutU rfl rfl ?_
   refine TL.shutU rfl rfl ?_
   refine TL.shut rfl rfl ?_
   refine TL.val ((by first | exact OpV.pick_t rfl rfl | exact OpV.pick_f rfl rfl)) rfl ?_
   refine TL.val (OpV.assign rfl) rfl ?_
   refine TL.nil ?_
   refine TE.sub (.cons (t := 2) rfl <| .nil) ?_
   refine TE.next ?_
   refine T.ret ?_
   refine TE.ret1 rfl (ResV.tmp rfl) ?_
   exact fun w1 k1 => ⟨ret_b (w := w) (w' := w) (by first | exact (decide_eq_false (by omega) : okM x = false).symm | (rw [okM, Bool.eq_iff_iff, decide_eq_true_eq]; simp only [beq_iff_eq]; omega) | exact (decide_eq_true (by omega) : okM x = true).symm), k1.bel⟩
 ·
  intro hg6
  try simp only [decide_eq_true_eq, decide_eq_false_iff_not, beq_iff_eq, beq_eq_false_iff_ne, bne_iff_ne, bne_eq_false_iff_eq, Bool.not_eq_true', Bool.not_eq_false', ne_eq] at hg6
  refine TL.shut rfl rfl ?_
  refine TL.shut rfl rfl ?_
  refine TL.shut rfl rfl ?_
  refine TL.val ((by first | exact OpV.pick_t rfl rfl | exact OpV.pick_f rfl rfl)) rfl ?_
  refine TL.val (OpV.move rfl) rfl ?_
  refine TL.shut rfl rfl ?_
  refine TL.shut rfl rfl ?_
  refine TL.shut rfl rfl ?_
  refine TL.val ((by first | exact OpV.pick_t rfl rfl | exact OpV.pick_f rfl rfl)) rfl ?_
  refine TL.val (OpV.move rfl) rfl ?_
  refine TL.shut rfl rfl ?_
  refine TL.shut rfl rfl ?_
  refine TL.shut rfl rfl ?_
  refine TL.val ((by first | exact OpV.pick_t rfl rfl | exact OpV.pick_f rfl rfl)) rfl ?_
  refine TL.val (OpV.move rfl) rfl ?_
  refine TL.shut rfl rfl ?_
  refine TL.shut rfl rfl ?_
  refine TL.shut rfl rfl ?_
  refine TL.val ((by first | exact OpV.pick_t rfl rfl | exact OpV.pick_f rfl rfl)) rfl ?_
  refine TL.val (OpV.move rfl) rfl ?_
  refine TL.shut rfl rfl ?_
  refine TL.shut rfl rfl ?_
  refine TL.shut rfl rfl ?_
  refine TL.val ((by first | exact OpV.pick_t rfl rfl | exact OpV.pick_f rfl rfl)) rfl ?_
  refine TL.val (OpV.move rfl) rfl ?_
  refine TL.shut rfl rfl ?_
  refine TL.shut rfl rfl ?_
  refine TL.shut rfl rfl ?_
  refine TL.shut rfl rfl ?_
  refine TL.shutU rfl rfl ?_
  refine TL.shutU rfl rfl ?_
  refine TL.shutU rfl rfl ?_
  refine TL.shut rfl rfl ?_
  refine TL.val ((by first | exact OpV.pick_t rfl rfl | exact OpV.pick_f rfl rfl)) rfl ?_
  refine TL.val (OpV.assign rfl) rfl ?_
  refine TL.nil ?_
  refine TE.sub (.cons (t := 2) rfl <| .nil) ?_
  refine TE.next ?_
  refine T.ret ?_
  refine TE.ret1 rfl (ResV.tmp rfl) ?_
  exact fun w1 k1 => ⟨ret_b (w := w) (w' := w) (by first | exact (decide_eq_false (by omega) : okM x = false).symm | (rw [okM, Bool.eq_iff_iff, decide_eq_true_eq]; simp only [beq_iff_eq]; omega) | exact (decide_eq_true (by omega) : okM x = true).symm), k1.bel⟩
set_option maxRecDepth 100000 in
set_option maxHeartbeats 400000 in
theorem first_c (x : Cm) (w : World) : Calls Try.prog 31 #[.agg x.l.toArray] w (Ret (.int .i64 (firstV x)) w) := by
 refine calls_T (vs := [.agg x.l.toArray]) (L0 := [(0, .agg x.l.toArray)]) Try.func31 rfl rfl rfl rfl (KOk.none w) ?_
 refine T.seq ?_
 refine T.region ?_
 refine TL.boxA rfl rfl ?_
 intro b1
 refine TL.val (OpV.assign rfl) rfl ?_
 refine TL.nil ?_
 refine TE.next ?_
 refine T.seq ?_
 refine T.block ?_
 refine T.seq ?_
 refine T.region ?_
 refine TL.val (OpV.fieldAddr rfl fo_41_4) rfl ?_
 refine TL.val (OpV.load pl_4 rfl (by first | exact Cel.blk P0 rfl | exact Cel.blk P1 rfl | exact Cel.blk P2 rfl | exact Cel.blk P3 rfl)) rfl ?_
 refine TL.val (OpV.assign rfl) rfl ?_
 refine TL.nil ?_
 refine TE.next ?_
 refine T.cond rfl ?_ ?_
 ·
  intro ht3
  refine T.seq ?_
  refine T.region ?_
  refine TL.val (OpV.fieldAddr rfl fo_41_0) rfl ?_
  refine TL.val (OpV.load pl_3 rfl (by first | exact Cel.blk P0 rfl | exact Cel.blk P1 rfl | exact Cel.blk P2 rfl | exact Cel.blk P3 rfl)) rfl ?_
  refine TL.val (OpV.assign rfl) rfl ?_
  refine TL.nil ?_
  refine TE.sub (.cons (t := 2) rfl <| .nil) ?_
  refine TE.next ?_
  refine T.ret ?_
  refine TE.out_ret ?_
  refine TE.pass_ret ?_
  refine TE.ret1 rfl (ResV.tmp rfl) ?_
  exact fun w1 k1 => ⟨by simp only [firstV, *] <;> rfl, k1.bel⟩
 ·
  intro ht3
  refine T.seq ?_
  refine T.region ?_
  refine TL.val (OpV.fieldAddr rfl fo_41_5) rfl ?_
  refine TL.val (OpV.load pl_4 rfl (by first | exact Cel.blk P0 rfl | exact Cel.blk P1 rfl | exact Cel.blk P2 rfl | exact Cel.blk P3 rfl)) rfl ?_
  refine TL.val (OpV.assign rfl) rfl ?_
  refine TL.nil ?_
  refine TE.sub (.cons (t := 1) rfl <| .cons (t := 8) rfl <| .nil) ?_
  refine TE.next ?_
  refine T.cond rfl ?_ ?_
  ·
   intro ht8
   refine T.seq ?_
   refine T.region ?_
   refine TL.val (OpV.fieldAddr rfl fo_41_1) rfl ?_
   refine TL.val (OpV.load pl_3 rfl (by first | exact Cel.blk P0 rfl | exact Cel.blk P1 rfl | exact Cel.blk P2 rfl | exact Cel.blk P3 rfl)) rfl ?_
   refine TL.val (OpV.assign rfl) rfl ?_
   refine TL.nil ?_
   refine TE.next ?_
   refine T.ret ?_
   refine TE.out_ret ?_
   refine TE.pass_ret ?_
   refine TE.ret1 rfl (ResV.tmp rfl) ?_
   exact fun w1 k1 => ⟨by simp only [firstV, *] <;> rfl, k1.bel⟩
  ·
   intro ht8
   refine T.seq ?_
   refine T.region ?_
   refine TL.val (OpV.fieldAddr rfl fo_41_6) rfl ?_
   refine TL.val (OpV.load pl_4 rfl (by first | exact Cel.blk P0 rfl | exact Cel.blk P1 rfl | exact Cel.blk P2 rfl | exact Cel.blk P3 rfl)) rfl ?_
   refine TL.val (OpV.assign rfl) rfl ?_
   refine TL.nil ?_
   refine TE.next ?_
   refine T.cond rfl ?_ ?_
   ·
    intro ht13
    refine T.seq ?_
    refine T.region ?_
    refine TL.val (OpV.fieldAddr rfl fo_41_2) rfl ?_
    refine TL.val (OpV.load pl_3 rfl (by first | exact Cel.blk P0 rfl | exact Cel.blk P1 rfl | exact Cel.blk P2 rfl | exact Cel.blk P3 rfl)) rfl ?_
    refine TL.val (OpV.assign rfl) rfl ?_
    refine TL.nil ?_
    refine TE.sub (.cons (t := 2) rfl <| .nil) ?_
    refine TE.next ?_
    refine T.ret ?_
    refine TE.out_ret ?_
    refine TE.pass_ret ?_
    refine TE.ret1 rfl (ResV.tmp rfl) ?_
    exact fun w1 k1 => ⟨by simp only [firstV, *] <;> rfl, k1.bel⟩
   ·
    intro ht13
    refine T.skip ?_
    refine TE.out ?_
    refine TE.next ?_
    refine T.seq ?_
    refine T.region ?_
    refine TL.val (OpV.fieldAddr rfl fo_41_3) rfl ?_
    refine TL.val (OpV.load pl_3 rfl (by first | exact Cel.blk P0 rfl | exact Cel.blk P1 rfl | exact Cel.blk P2 rfl | exact Cel.blk P3 rfl)) rfl ?_
    refine TL.val (OpV.assign rfl) rfl ?_
    refine TL.nil ?_
    refine TE.sub (.cons (t := 2) rfl <| .nil) ?_
    refine TE.next ?_
    refine T.ret ?_
    refine TE.ret1 rfl (ResV.tmp rfl) ?_
    exact fun w1 k1 => ⟨by simp only [firstV, *] <;> rfl, k1.bel⟩
end Go.Proofs.Ytaoepaonjeilgaa
