/-
  The walk of the law MarksHolds. No condition.
-/
import Derived.Test.YtaoepaonjeilgaaMm
import Derived.Test.YtaoepaonjeilgaaMrh
namespace Go.Proofs.Ytaoepaonjeilgaa
open Go.RowKit
set_option linter.unusedSimpArgs false
set_option linter.unusedVariables false
theorem inf_29 : (Try.prog.info? 29).map (fun i => (i.zero, i.size, i.bytes)) = some (some (.int .i64 0), 1, 8) := by kernel_rfl
theorem se_42 : sEl Try.prog 42 = some (4, 1) := by kernel_rfl
theorem sl_42_4_0_1_2_3 (z : Cm) (w : World) : (Instr.buildSlice 42 4 #[(0, .bool z.hp), (1, .bool z.hc), (2, .bool z.ho), (3, .bool z.he)]).run Try.prog w = .ok (.slice (some ⟨w.heap.size, 0, none⟩) 4 4) (w.alloc (.cells ((fl4 z).map Value.bool).toArray 4)) := by kernel_rfl
set_option maxRecDepth 100000 in
set_option maxHeartbeats 2000000 in
theorem marksHolds_law {σ τ : Nat → Option Obj} {A A1 : Option Addr} {n c n1 c1 : Nat} {ms : List Mk} {ks : List Int} (line : Int) (w : World) (h : MsR σ A n c ms) (hks : IsR τ A1 n1 c1 ks) (hs : ∀ b o, σ b = some o → w.heap[b]? = some o) (ht : ∀ b o, τ b = some o → w.heap[b]? = some o) : Calls Try.prog 4 #[.slice A n c, .slice A1 n1 c1, .int .i64 line] w (Ret (.bool true) w) := by
 have hn63 := h.2.1
 have hc63 := h.2.2.1
 have hl1 := h.1
 have hn64 := hks.2.1
 have hc64 := hks.2.2.1
 have hl2 := hks.1
 refine calls_T (vs := [.slice A n c, .slice A1 n1 c1, .int .i64 line]) (L0 := [(0, .slice A n c), (1, .slice A1 n1 c1), (2, .int .i64 line)]) Try.func4 rfl rfl rfl rfl (KOk.frs hs ht) ?_
 refine T.seq ?_
 refine T.region ?_
 refine TL.val (OpV.assign rfl) rfl ?_
 refine TL.nil ?_
 refine TE.next ?_
 refine T.seq ?_
 refine T.seq ?_
 refine T.region ?_
 refine TL.val (OpV.move rfl) rfl ?_
 refine TL.val (OpV.len Try.underlying24 rfl) rfl ?_
 refine TL.val (OpV.gtr rfl rfl) rfl ?_
 refine TL.val (OpV.move rfl) rfl ?_
 refine TL.part (t := 35) rfl ?_ ?_
 ·
  intro hg35
  try simp only [decide_eq_true_eq, decide_eq_false_iff_not, beq_iff_eq, beq_eq_false_iff_ne, bne_iff_ne, bne_eq_false_iff_eq, Bool.not_eq_true', Bool.not_eq_false', ne_eq] at hg35
  refine TL.shut rfl rfl ?_
  refine TL.shut rfl rfl ?_
  refine TL.shut rfl rfl ?_
  refine TL.val ((by first | exact OpV.pick_t rfl rfl | exact OpV.pick_f rfl rfl)) rfl ?_
  refine TL.nil ?_
  refine TE.sub (.cons (t := 0) rfl <| .cons (t := 1) rfl <| .cons (t := 2) rfl <| .cons (t := 39) rfl <| .nil) ?_
  refine TE.next ?_
  refine T.yes rfl ?_
  refine T.seq ?_
  refine T.region ?_
  refine TL.call (g := 7) rfl go_7 rfl (fun w1 k1 => known_c w1) rfl ?_
  refine TL.val (OpV.assign rfl) rfl ?_
  refine TL.nil ?_
  refine TE.next ?_
  refine T.ret ?_
  refine TE.pass_ret ?_
  refine TE.ret1 rfl (ResV.tmp rfl) ?_
  exact fun w1 k1 => ⟨rfl, k1.bel⟩
 ·
  intro hg35
  try simp only [decide_eq_true_eq, decide_eq_false_iff_not, beq_iff_eq, beq_eq_false_iff_ne, bne_iff_ne, bne_eq_false_iff_eq, Bool.not_eq_true', Bool.not_eq_false', ne_eq] at hg35
  refine TL.open rfl rfl ?_
  refine TL.val (OpV.move rfl) rfl ?_
  refine TL.open rfl rfl ?_
  refine TL.val (OpV.len Try.underlying38 rfl) rfl ?_
  refine TL.open rfl rfl ?_
  refine TL.val (OpV.gtr rfl rfl) rfl ?_
  refine TL.val ((by first | exact OpV.pick_t rfl rfl | exact OpV.pick_f rfl rfl)) rfl ?_
  refine TL.nil ?_
  refine TE.sub (.cons (t := 0) rfl <| .cons (t := 1) rfl <| .cons (t := 2) rfl <| .cons (t := 39) rfl <| .nil) ?_
  refine TE.next ?_
  refine T.cond rfl ?_ ?_
  ·
   intro ht39
   try simp only [decide_eq_true_eq, decide_eq_false_iff_not, beq_iff_eq, beq_eq_false_iff_ne, bne_iff_ne, bne_eq_false_iff_eq, Bool.not_eq_true', Bool.not_eq_false', ne_eq] at ht39
   refine T.seq ?_
   refine T.region ?_
   refine TL.call (g := 7) rfl go_7 rfl (fun w1 k1 => known_c w1) rfl ?_
   refine TL.val (OpV.assign rfl) rfl ?_
   refine TL.nil ?_
   refine TE.next ?_
   refine T.ret ?_
   refine TE.pass_ret ?_
   refine TE.ret1 rfl (ResV.tmp rfl) ?_
   exact fun w1 k1 => ⟨rfl, k1.bel⟩
  ·
   intro ht39
   try simp only [decide_eq_true_eq, decide_eq_false_iff_not, beq_iff_eq, beq_eq_false_iff_ne, bne_iff_ne, bne_eq_false_iff_eq, Bool.not_eq_true', Bool.not_eq_false', ne_eq] at ht39
   refine T.skip ?_
   refine TE.next ?_
   refine T.seq ?_
   refine T.region ?_
   refine TL.val (OpV.build (qs := #[]) (fun _ _ => by simp) bld_26) rfl ?_
   refine TL.boxA rfl rfl ?_
   intro b42
   refine TL.val (OpV.assign rfl) rfl ?_
   refine TL.nil ?_
   refine TE.next ?_
   refine T.seq ?_
   refine T.region ?_
   refine TL.val (OpV.assign rfl) rfl ?_
   refine TL.nil ?_
   refine TE.next ?_
   refine T.seq ?_
   refine T.seq ?_
   refine T.region ?_
   refine TL.val (OpV.assign rfl) rfl ?_
   refine TL.nil ?_
   refine TE.next ?_
   refine T.block ?_
   refine T.loop (ι := Nat × List Int × Option Addr × Nat) (fun ⟨i, kk, A8, c8⟩ => i ≤ n1 ∧ (∀ z ∈ kk, kindB z = true) ∧ kk.length ≤ i ∧ (A8 = none → c8 = 0)) (fun ⟨i, kk, A8, c8⟩ => (n1 - i)) (fun ⟨i, kk, A8, c8⟩ => [(0, .slice A n c), (1, .slice A1 n1 c1), (2, .int .i64 line), (7, .pointer (some ⟨b42, 0, none⟩)), (8, .slice A8 kk.length c8), (9, .int .i64 (i : Int))]) (fun ⟨i, kk, A8, c8⟩ => [.row 29 1 A8 kk.length c8 (il kk), .blk b42 [.slice none 0 0] 26, .fr σ, .fr τ]) (0, [], none, 0) ⟨Nat.zero_le _, fun z h9 => (by cases h9), Nat.le_refl _, fun _ => rfl⟩ (.cons (t := 0) rfl <| .cons (t := 1) rfl <| .cons (t := 2) rfl <| .cons (t := 7) rfl <| .cons (t := 8) rfl <| .cons (t := 9) rfl <| .nil) ((Kle.trans (Kle.nilRow 29 1) (Perm.kle (.cons (by first | exact P0 | exact P1 | exact P2 | exact P3 | exact P4 | exact P5 | exact P6 | exact P7 | exact P8) (.cons (by first | exact P0 | exact P1 | exact P2 | exact P3 | exact P4 | exact P5 | exact P6 | exact P7 | exact P8) (.cons (by first | exact P0 | exact P1 | exact P2 | exact P3 | exact P4 | exact P5 | exact P6 | exact P7 | exact P8) (.cons (by first | exact P0 | exact P1 | exact P2 | exact P3 | exact P4 | exact P5 | exact P6 | exact P7 | exact P8) .nil))))))) ?_
   rintro ⟨i, kk, A8, c8⟩ ⟨hR, hkb, hkl, hA8⟩
   refine T.seq ?_
   refine T.seq ?_
   refine T.region ?_
   refine TL.val (OpV.move rfl) rfl ?_
   refine TL.val (OpV.move rfl) rfl ?_
   refine TL.val (OpV.len Try.underlying38 rfl) rfl ?_
   refine TL.val (OpV.lss rfl rfl) rfl ?_
   refine TL.nil ?_
   refine TE.next ?_
   refine T.cond rfl ?_ ?_
   ·
    intro ht46
    try simp only [decide_eq_true_eq, decide_eq_false_iff_not, beq_iff_eq, beq_eq_false_iff_ne, bne_iff_ne, bne_eq_false_iff_eq, Bool.not_eq_true', Bool.not_eq_false', ne_eq] at ht46
    have hi : i < n1 := by omega
    obtain ⟨z, hz⟩ := get_of_lt hks.1 hi
    obtain ⟨b1, o1, hA1, hat1⟩ := hks.pos (by omega)
    have hatz := hat1 i z hz
    refine T.skip ?_
    refine TE.next ?_
    refine T.seq ?_
    refine T.block ?_
    refine T.seq ?_
    refine T.region ?_
    refine TL.val (OpV.move rfl) rfl ?_
    refine TL.val (OpV.move rfl) rfl ?_
    refine TL.val (OpV.indexAddr (j := i) se_38 rfl hA1 rfl rfl (by omega)) rfl ?_
    refine TL.val (OpV.load pl_29 rfl (by first | exact Cel.blk P0 rfl | exact Cel.blk P1 rfl | exact Cel.blk P2 rfl | exact Cel.blk P3 rfl | exact Cel.blk P4 rfl | exact Cel.blk P5 rfl | exact Cel.blk P6 rfl | exact Cel.blk P7 rfl | exact Cel.blk P8 rfl | exact Cel.frA (hatx _ _ rfl) | exact Cel.frA (hatz 0 _ rfl) | exact Cel.ownA (hatq 0 _ rfl) | exact Cel.ownA (hatc _ _ rfl) | exact Cel.ownA (hatv 0 _ rfl) | exact Cel.ownA (hata _ _ rfl) | exact Cel.ownA (hatb _ _ rfl))) rfl ?_
    refine TL.val (OpV.geq rfl rfl) rfl ?_
    refine TL.val (OpV.move rfl) rfl ?_
    refine TL.part (t := 54) rfl ?_ ?_
    ·
     intro hg54
     try simp only [decide_eq_true_eq, decide_eq_false_iff_not, beq_iff_eq, beq_eq_false_iff_ne, bne_iff_ne, bne_eq_false_iff_eq, Bool.not_eq_true', Bool.not_eq_false', ne_eq] at hg54
     refine TL.open rfl rfl ?_
     refine TL.val (OpV.move rfl) rfl ?_
     refine TL.open rfl rfl ?_
     refine TL.val (OpV.move rfl) rfl ?_
     refine TL.open rfl rfl ?_
     refine TL.val (OpV.indexAddr (j := i) se_38 rfl hA1 rfl rfl (by omega)) rfl ?_
     refine TL.open rfl rfl ?_
     refine TL.val (OpV.load pl_29 rfl (by first | exact Cel.blk P0 rfl | exact Cel.blk P1 rfl | exact Cel.blk P2 rfl | exact Cel.blk P3 rfl | exact Cel.blk P4 rfl | exact Cel.blk P5 rfl | exact Cel.blk P6 rfl | exact Cel.blk P7 rfl | exact Cel.blk P8 rfl | exact Cel.frA (hatx _ _ rfl) | exact Cel.frA (hatz 0 _ rfl) | exact Cel.ownA (hatq 0 _ rfl) | exact Cel.ownA (hatc _ _ rfl) | exact Cel.ownA (hatv 0 _ rfl) | exact Cel.ownA (hata _ _ rfl) | exact Cel.ownA (hatb _ _ rfl))) rfl ?_
     refine TL.open rfl rfl ?_
     refine TL.val (OpV.leq rfl rfl) rfl ?_
     refine TL.val ((by first | exact OpV.pick_t rfl rfl | exact OpV.pick_f rfl rfl)) rfl ?_
     refine TL.nil ?_
     refine TE.sub (.cons (t := 0) rfl <| .cons (t := 1) rfl <| .cons (t := 2) rfl <| .cons (t := 7) rfl <| .cons (t := 8) rfl <| .cons (t := 9) rfl <| .cons (t := 60) rfl <| .nil) ?_
     refine TE.next ?_
     refine T.cond rfl ?_ ?_
     ·
      intro ht60
      try simp only [decide_eq_true_eq, decide_eq_false_iff_not, beq_iff_eq, beq_eq_false_iff_ne, bne_iff_ne, bne_eq_false_iff_eq, Bool.not_eq_true', Bool.not_eq_false', ne_eq] at ht60
      refine T.region ?_
      refine TL.val (OpV.move rfl) rfl ?_
      refine TL.val (OpV.move rfl) rfl ?_
      refine TL.val (OpV.move rfl) rfl ?_
      refine TL.val (OpV.indexAddr (j := i) se_38 rfl hA1 rfl rfl (by omega)) rfl ?_
      refine TL.val (OpV.load pl_29 rfl (by first | exact Cel.blk P0 rfl | exact Cel.blk P1 rfl | exact Cel.blk P2 rfl | exact Cel.blk P3 rfl | exact Cel.blk P4 rfl | exact Cel.blk P5 rfl | exact Cel.blk P6 rfl | exact Cel.blk P7 rfl | exact Cel.blk P8 rfl | exact Cel.frA (hatx _ _ rfl) | exact Cel.frA (hatz 0 _ rfl) | exact Cel.ownA (hatq 0 _ rfl) | exact Cel.ownA (hatc _ _ rfl) | exact Cel.ownA (hatv 0 _ rfl) | exact Cel.ownA (hata _ _ rfl) | exact Cel.ownA (hatb _ _ rfl))) rfl ?_
      refine TL.slit (qs := #[(0, _)]) (fun _ f => by simp only [List.map_toArray, List.map_cons, List.map_nil]; rw [f.ev (x := .tmp 65) rfl]) (sl_38_1_0 z) rfl ?_
      intro b66
      obtain ⟨ti67, hi67, hz67, hs67, hb67⟩ := info_parts inf_29
      refine TL.append rfl rfl Try.underlying38 hi67 hz67 hs67 hb67 rfl (by omega) (by first | exact P0 | exact P1 | exact P2 | exact P3 | exact P4 | exact P5 | exact P6 | exact P7 | exact P8) (by first | exact Src.nil | exact Src.blk P0 rfl | exact Src.blk P1 rfl | exact Src.blk P2 rfl | exact Src.blk P3 rfl | exact Src.blk P4 rfl | exact Src.blk P5 rfl | exact Src.blk P6 rfl | exact Src.blk P7 rfl | exact Src.blk P8 rfl | exact Src.row P0 | exact Src.row P1 | exact Src.row P2 | exact Src.row P3 | exact Src.row P4 | exact Src.row P5 | exact Src.row P6 | exact Src.row P7 | exact Src.row P8) (fun h => by cases h) rfl (by omega) (by omega) rfl ?_
      clear hi67 hz67 hs67 hb67 ti67
      intro A67 c67 hn67
      refine TL.val (OpV.assign rfl) rfl ?_
      refine TL.nil ?_
      refine TE.out ?_
      refine TE.sub (.cons (t := 0) rfl <| .cons (t := 1) rfl <| .cons (t := 2) rfl <| .cons (t := 7) rfl <| .cons (t := 8) rfl <| .cons (t := 9) rfl <| .nil) ?_
      refine TE.next ?_
      refine T.region ?_
      refine TL.val (OpV.move rfl) rfl ?_
      refine TL.val (OpV.add rfl rfl (by first | exact IntWalk.i64_in _ ⟨by omega, by omega⟩ | rfl)) rfl ?_
      refine TL.val (OpV.assign rfl) rfl ?_
      refine TL.nil ?_
      exact TE.meet (i + 1, kk ++ [z], A67, c67) ⟨⟨by omega, fun z2 h9 => by rcases List.mem_append.1 h9 with h9 | h9; exact hkb z2 h9; rw [List.mem_singleton.1 h9, kindB, decide_eq_true hg54, decide_eq_true ht60]; rfl, by rw [List.length_append, List.length_cons, List.length_nil]; omega, hn67⟩, by simp only; omega⟩ (.cons (t := 0) (by first | rfl | (simp [lk]; done)) <| .cons (t := 1) (by first | rfl | (simp [lk]; done)) <| .cons (t := 2) (by first | rfl | (simp [lk]; done)) <| .cons (t := 7) (by first | rfl | (simp [lk]; done)) <| .cons (t := 8) (by rw [List.length_append]; rfl) <| .cons (t := 9) (by first | rfl | (simp [lk]; done)) <| .nil) ((by simp only [il_snoc, List.length_append]; exact Perm.kle (.cons (by first | exact P0 | exact P1 | exact P2 | exact P3 | exact P4 | exact P5 | exact P6 | exact P7 | exact P8) (.cons (by first | exact P0 | exact P1 | exact P2 | exact P3 | exact P4 | exact P5 | exact P6 | exact P7 | exact P8) (.cons (by first | exact P0 | exact P1 | exact P2 | exact P3 | exact P4 | exact P5 | exact P6 | exact P7 | exact P8) (.cons (by first | exact P0 | exact P1 | exact P2 | exact P3 | exact P4 | exact P5 | exact P6 | exact P7 | exact P8) .nil))))))
     ·
      intro ht60
      try simp only [decide_eq_true_eq, decide_eq_false_iff_not, beq_iff_eq, beq_eq_false_iff_ne, bne_iff_ne, bne_eq_false_iff_eq, Bool.not_eq_true', Bool.not_eq_false', ne_eq] at ht60
      refine T.skip ?_
      refine TE.out ?_
      refine TE.next ?_
      refine T.region ?_
      refine TL.val (OpV.move rfl) rfl ?_
      refine TL.val (OpV.add rfl rfl (by first | exact IntWalk.i64_in _ ⟨by omega, by omega⟩ | rfl)) rfl ?_
      refine TL.val (OpV.assign rfl) rfl ?_
      refine TL.nil ?_
      exact TE.meet (i + 1, kk, A8, c8) ⟨⟨by omega, hkb, by omega, hA8⟩, by simp only; omega⟩ (.cons (t := 0) (by first | rfl | (simp [lk]; done)) <| .cons (t := 1) (by first | rfl | (simp [lk]; done)) <| .cons (t := 2) (by first | rfl | (simp [lk]; done)) <| .cons (t := 7) (by first | rfl | (simp [lk]; done)) <| .cons (t := 8) (by first | rfl | (simp [lk]; done)) <| .cons (t := 9) (by first | rfl | (simp [lk]; done)) <| .nil) (Perm.kle (.cons (by first | exact P0 | exact P1 | exact P2 | exact P3 | exact P4 | exact P5 | exact P6 | exact P7 | exact P8) (.cons (by first | exact P0 | exact P1 | exact P2 | exact P3 | exact P4 | exact P5 | exact P6 | exact P7 | exact P8) (.cons (by first | exact P0 | exact P1 | exact P2 | exact P3 | exact P4 | exact P5 | exact P6 | exact P7 | exact P8) (.cons (by first | exact P0 | exact P1 | exact P2 | exact P3 | exact P4 | exact P5 | exact P6 | exact P7 | exact P8) .nil)))))
    ·
     intro hg54
     try simp only [decide_eq_true_eq, decide_eq_false_iff_not, beq_iff_eq, beq_eq_false_iff_ne, bne_iff_ne, bne_eq_false_iff_eq, Bool.not_eq_true', Bool.not_eq_false', ne_eq] at hg54
     refine TL.shut rfl rfl ?_
     refine TL.shut rfl rfl ?_
     refine TL.shut rfl rfl ?_
     refine TL.shut rfl rfl ?_
     refine TL.shut rfl rfl ?_
     refine TL.val ((by first | exact OpV.pick_t rfl rfl | exact OpV.pick_f rfl rfl)) rfl ?_
     refine TL.nil ?_
     refine TE.sub (.cons (t := 0) rfl <| .cons (t := 1) rfl <| .cons (t := 2) rfl <| .cons (t := 7) rfl <| .cons (t := 8) rfl <| .cons (t := 9) rfl <| .cons (t := 60) rfl <| .nil) ?_
     refine TE.next ?_
     refine T.no rfl ?_
     refine T.skip ?_
     refine TE.out ?_
     refine TE.next ?_
     refine T.region ?_
     refine TL.val (OpV.move rfl) rfl ?_
     refine TL.val (OpV.add rfl rfl (by first | exact IntWalk.i64_in _ ⟨by omega, by omega⟩ | rfl)) rfl ?_
     refine TL.val (OpV.assign rfl) rfl ?_
     refine TL.nil ?_
     exact TE.meet (i + 1, kk, A8, c8) ⟨⟨by omega, hkb, by omega, hA8⟩, by simp only; omega⟩ (.cons (t := 0) (by first | rfl | (simp [lk]; done)) <| .cons (t := 1) (by first | rfl | (simp [lk]; done)) <| .cons (t := 2) (by first | rfl | (simp [lk]; done)) <| .cons (t := 7) (by first | rfl | (simp [lk]; done)) <| .cons (t := 8) (by first | rfl | (simp [lk]; done)) <| .cons (t := 9) (by first | rfl | (simp [lk]; done)) <| .nil) (Perm.kle (.cons (by first | exact P0 | exact P1 | exact P2 | exact P3 | exact P4 | exact P5 | exact P6 | exact P7 | exact P8) (.cons (by first | exact P0 | exact P1 | exact P2 | exact P3 | exact P4 | exact P5 | exact P6 | exact P7 | exact P8) (.cons (by first | exact P0 | exact P1 | exact P2 | exact P3 | exact P4 | exact P5 | exact P6 | exact P7 | exact P8) (.cons (by first | exact P0 | exact P1 | exact P2 | exact P3 | exact P4 | exact P5 | exact P6 | exact P7 | exact P8) .nil)))))
   ·
    intro ht46
    try simp only [decide_eq_true_eq, decide_eq_false_iff_not, beq_iff_eq, beq_eq_false_iff_ne, bne_iff_ne, bne_eq_false_iff_eq, Bool.not_eq_true', Bool.not_eq_false', ne_eq] at ht46
    refine T.exit ?_
    refine TE.pass_exit ?_
    refine TE.pass_exit ?_
    refine TE.here ?_
    refine TE.next ?_
    refine T.seq ?_
    refine T.ex (fun wz kz => KOk.rowOwn (kz.pick (e := .row 29 1 A8 kk.length c8 (il kk)) (by first | exact P0 | exact P1 | exact P2 | exact P3 | exact P4 | exact P5 | exact P6 | exact P7 | exact P8))) ?_
    rintro κ hκ
    have hkk : IsR κ A8 kk.length c8 kk := SlR.of_row iL_length hκ rfl
    refine T.region ?_
    refine TL.val (OpV.assign rfl) rfl ?_
    refine TL.nil ?_
    refine TE.next ?_
    refine T.seq ?_
    refine T.region ?_
    refine TL.val (OpV.assign rfl) rfl ?_
    refine TL.nil ?_
    refine TE.next ?_
    refine T.seq ?_
    refine T.seq ?_
    refine T.region ?_
    refine TL.val (OpV.assign rfl) rfl ?_
    refine TL.nil ?_
    refine TE.next ?_
    refine T.block ?_
    refine T.loop (ι := Nat × List Mk × List Int × Option Addr × Nat × Option Addr × Nat) (fun ⟨i, xs, L, Am, cm, A10, c10⟩ => i ≤ n ∧ xs.length ≤ i ∧ HdI kk xs L ∧ L.length ≤ xs.length ∧ (Am = none → cm = 0) ∧ (A10 = none → c10 = 0)) (fun ⟨i, xs, L, Am, cm, A10, c10⟩ => (n - i)) (fun ⟨i, xs, L, Am, cm, A10, c10⟩ => [(0, .slice A n c), (2, .int .i64 line), (7, .pointer (some ⟨b42, 0, none⟩)), (8, .slice A8 kk.length c8), (10, .slice A10 L.length c10), (11, .int .i64 (xs.length : Int)), (12, .int .i64 (i : Int))]) (fun ⟨i, xs, L, Am, cm, A10, c10⟩ => [.blk b42 [.slice Am xs.length cm] 26, .row 31 3 Am xs.length cm (ml xs), .row 3 1 A10 L.length c10 (il L), .own κ, .fr σ]) (0, [], [], none, 0, none, 0) ⟨Nat.zero_le _, Nat.le_refl _, HdI.nil kk, Nat.le_refl _, fun _ => rfl, fun _ => rfl⟩ (.cons (t := 0) rfl <| .cons (t := 2) rfl <| .cons (t := 7) rfl <| .cons (t := 8) rfl <| .cons (t := 10) rfl <| .cons (t := 11) rfl <| .cons (t := 12) rfl <| .nil) ((Kle.trans (Kle.nilRow 31 3) (Kle.trans (Kle.nilRow 3 1) (Perm.kle (.cons (by first | exact P0 | exact P1 | exact P2 | exact P3 | exact P4 | exact P5 | exact P6 | exact P7 | exact P8) (.cons (by first | exact P0 | exact P1 | exact P2 | exact P3 | exact P4 | exact P5 | exact P6 | exact P7 | exact P8) (.cons (by first | exact P0 | exact P1 | exact P2 | exact P3 | exact P4 | exact P5 | exact P6 | exact P7 | exact P8) (.cons (by first | exact P0 | exact P1 | exact P2 | exact P3 | exact P4 | exact P5 | exact P6 | exact P7 | exact P8) (.cons (by first | exact P0 | exact P1 | exact P2 | exact P3 | exact P4 | exact P5 | exact P6 | exact P7 | exact P8) .nil))))))))) ?_
    rintro ⟨i, xs, L, Am, cm, A10, c10⟩ ⟨hR, hxl, hd, hLl, hAm, hA10⟩
    refine T.seq ?_
    refine T.seq ?_
    refine T.region ?_
    refine TL.val (OpV.move rfl) rfl ?_
    refine TL.val (OpV.move rfl) rfl ?_
    refine TL.val (OpV.len Try.underlying24 rfl) rfl ?_
    refine TL.val (OpV.lss rfl rfl) rfl ?_
    refine TL.nil ?_
    refine TE.next ?_
    refine T.cond rfl ?_ ?_
    ·
     intro ht71
     try simp only [decide_eq_true_eq, decide_eq_false_iff_not, beq_iff_eq, beq_eq_false_iff_ne, bne_iff_ne, bne_eq_false_iff_eq, Bool.not_eq_true', Bool.not_eq_false', ne_eq] at ht71
     have hi : i < n := by omega
     obtain ⟨x, hx⟩ := get_of_lt h.1 hi
     obtain ⟨b, o, hA, hat⟩ := h.pos (by omega)
     have hatx := hat i x hx
     refine T.skip ?_
     refine TE.next ?_
     refine T.seq ?_
     refine T.block ?_
     refine T.seq ?_
     refine T.seq ?_
     refine T.region ?_
     refine TL.val (OpV.move rfl) rfl ?_
     refine TL.val (OpV.move rfl) rfl ?_
     refine TL.val (OpV.move rfl) rfl ?_
     refine TL.val (OpV.indexAddr (j := i) se_24 rfl hA rfl rfl (by omega)) rfl ?_
     refine TL.val (OpV.loadA ag_31 rfl (Cels.frA hatx rfl)) rfl ?_
     refine TL.callx (g := 8) rfl go_8 rfl (fun wz kz => put_c (xs := xs) x hAm (by have h9 := hd.1.2.2; omega) ((Perm.kle (.cons (by first | exact P0 | exact P1 | exact P2 | exact P3 | exact P4 | exact P5 | exact P6 | exact P7 | exact P8) (.cons (by first | exact P0 | exact P1 | exact P2 | exact P3 | exact P4 | exact P5 | exact P6 | exact P7 | exact P8) .all))) wz kz)) rfl ?_
     rintro ⟨A3, c3⟩ hA3
     refine TL.val (OpV.neq rfl rfl) rfl ?_
     refine TL.nil ?_
     refine TE.sub (.cons (t := 0) rfl <| .cons (t := 2) rfl <| .cons (t := 7) rfl <| .cons (t := 8) rfl <| .cons (t := 10) rfl <| .cons (t := 11) rfl <| .cons (t := 12) rfl <| .cons (t := 80) rfl <| .nil) ?_
     refine TE.next ?_
     refine T.cond rfl ?_ ?_
     ·
      intro ht80
      try simp only [decide_eq_true_eq, decide_eq_false_iff_not, beq_iff_eq, beq_eq_false_iff_ne, bne_iff_ne, bne_eq_false_iff_eq, Bool.not_eq_true', Bool.not_eq_false', ne_eq] at ht80
      have hpx : putX xs x = xs := by rw [putX, if_neg ht80]
      refine T.exit ?_
      refine TE.pass_exit ?_
      refine TE.here ?_
      refine TE.next ?_
      refine T.region ?_
      refine TL.val (OpV.move rfl) rfl ?_
      refine TL.val (OpV.add rfl rfl (by first | exact IntWalk.i64_in _ ⟨by omega, by omega⟩ | rfl)) rfl ?_
      refine TL.val (OpV.assign rfl) rfl ?_
      refine TL.nil ?_
      exact TE.meet (i + 1, xs, L, A3, c3, A10, c10) ⟨⟨by omega, by omega, hd, hLl, hA3, hA10⟩, by simp only; omega⟩ (.cons (t := 0) (by first | rfl | (simp [lk]; done)) <| .cons (t := 2) (by first | rfl | (simp [lk]; done)) <| .cons (t := 7) (by first | rfl | (simp [lk]; done)) <| .cons (t := 8) (by first | rfl | (simp [lk]; done)) <| .cons (t := 10) (by first | rfl | (simp [lk]; done)) <| .cons (t := 11) (by first | rfl | (simp [lk]; done)) <| .cons (t := 12) (by first | rfl | (simp [lk]; done)) <| .nil) ((by rw [hpx]; exact Perm.kle (.cons (by first | exact P0 | exact P1 | exact P2 | exact P3 | exact P4 | exact P5 | exact P6 | exact P7 | exact P8) (.cons (by first | exact P0 | exact P1 | exact P2 | exact P3 | exact P4 | exact P5 | exact P6 | exact P7 | exact P8) (.cons (by first | exact P0 | exact P1 | exact P2 | exact P3 | exact P4 | exact P5 | exact P6 | exact P7 | exact P8) (.cons (by first | exact P0 | exact P1 | exact P2 | exact P3 | exact P4 | exact P5 | exact P6 | exact P7 | exact P8) (.cons (by first | exact P0 | exact P1 | exact P2 | exact P3 | exact P4 | exact P5 | exact P6 | exact P7 | exact P8) .nil)))))))
     ·
      intro ht80
      try simp only [decide_eq_true_eq, decide_eq_false_iff_not, beq_iff_eq, beq_eq_false_iff_ne, bne_iff_ne, bne_eq_false_iff_eq, Bool.not_eq_true', Bool.not_eq_false', ne_eq] at ht80
      have hpx : putX xs x = xs ++ [x] := by rw [putX, if_pos ht80]
      have hm : MOk (xs ++ [x]) := by have h9 := hd.1.put x; rwa [hpx] at h9
      have hpl : (putX xs x).length = xs.length + 1 := by rw [hpx]; simp
      refine T.skip ?_
      refine TE.next ?_
      refine T.seq ?_
      refine T.region ?_
      refine TL.val (OpV.move rfl) rfl ?_
      refine TL.val (OpV.add rfl rfl (by first | exact IntWalk.i64_in _ ⟨by omega, by omega⟩ | rfl)) rfl ?_
      refine TL.val (OpV.assign rfl) rfl ?_
      refine TL.nil ?_
      refine TE.next ?_
      refine T.seq ?_
      refine T.region ?_
      refine TL.val (OpV.assign rfl) rfl ?_
      refine TL.nil ?_
      refine TE.next ?_
      refine T.seq ?_
      refine T.seq ?_
      refine T.region ?_
      refine TL.val (OpV.assign rfl) rfl ?_
      refine TL.nil ?_
      refine TE.next ?_
      refine T.block ?_
      refine T.loop (ι := Nat) (fun q => q ≤ kk.length) (fun q => (kk.length - q)) (fun q => [(0, .slice A n c), (2, .int .i64 line), (7, .pointer (some ⟨b42, 0, none⟩)), (8, .slice A8 kk.length c8), (10, .slice A10 L.length c10), (11, .int .i64 ((xs.length : Int) + 1)), (12, .int .i64 (i : Int)), (13, .bool (hasK (kk.take q) x.kd)), (14, .int .i64 (q : Int))]) (fun q => [.blk b42 [.slice A3 (putX xs x).length c3] 26, .row 31 3 A3 (putX xs x).length c3 (ml (putX xs x)), .row 3 1 A10 L.length c10 (il L), .own κ, .fr σ]) 0 (Nat.zero_le _) (.cons (t := 0) rfl <| .cons (t := 2) rfl <| .cons (t := 7) rfl <| .cons (t := 8) rfl <| .cons (t := 10) rfl <| .cons (t := 11) rfl <| .cons (t := 12) rfl <| .cons (t := 13) rfl <| .cons (t := 14) rfl <| .nil) (Perm.kle (.cons (by first | exact P0 | exact P1 | exact P2 | exact P3 | exact P4 | exact P5 | exact P6 | exact P7 | exact P8) (.cons (by first | exact P0 | exact P1 | exact P2 | exact P3 | exact P4 | exact P5 | exact P6 | exact P7 | exact P8) (.cons (by first | exact P0 | exact P1 | exact P2 | exact P3 | exact P4 | exact P5 | exact P6 | exact P7 | exact P8) (.cons (by first | exact P0 | exact P1 | exact P2 | exact P3 | exact P4 | exact P5 | exact P6 | exact P7 | exact P8) (.cons (by first | exact P0 | exact P1 | exact P2 | exact P3 | exact P4 | exact P5 | exact P6 | exact P7 | exact P8) .nil)))))) ?_
      rintro q hRq
      refine T.seq ?_
      refine T.seq ?_
      refine T.region ?_
      refine TL.val (OpV.move rfl) rfl ?_
      refine TL.val (OpV.move rfl) rfl ?_
      refine TL.val (OpV.len Try.underlying38 rfl) rfl ?_
      refine TL.val (OpV.lss rfl rfl) rfl ?_
      refine TL.nil ?_
      refine TE.next ?_
      refine T.cond rfl ?_ ?_
      ·
       intro ht86
       try simp only [decide_eq_true_eq, decide_eq_false_iff_not, beq_iff_eq, beq_eq_false_iff_ne, bne_iff_ne, bne_eq_false_iff_eq, Bool.not_eq_true', Bool.not_eq_false', ne_eq] at ht86
       obtain ⟨z, hz⟩ := get_of_lt rfl (show q < kk.length by omega)
       obtain ⟨bz, oz, hAz, hatk⟩ := hkk.pos (by omega)
       have hatq := hatk q z hz
       refine T.skip ?_
       refine TE.next ?_
       refine T.seq ?_
       refine T.block ?_
       refine T.quiet mix (by kernel_rfl) ?_
       refine TQ.val (OpV.move rfl) rfl ?_
       refine TQ.val (OpV.move rfl) rfl ?_
       refine TQ.part (t := 90) rfl ?_ ?_
       ·
        intro hg90
        try simp only [decide_eq_true_eq, decide_eq_false_iff_not, beq_iff_eq, beq_eq_false_iff_ne, bne_iff_ne, bne_eq_false_iff_eq, Bool.not_eq_true', Bool.not_eq_false', ne_eq] at hg90
        refine TQ.shut rfl rfl ?_
        refine TQ.shut rfl rfl ?_
        refine TQ.shut rfl rfl ?_
        refine TQ.shut rfl rfl ?_
        refine TQ.shut rfl rfl ?_
        refine TQ.shut rfl rfl ?_
        refine TQ.shut rfl rfl ?_
        refine TQ.shut rfl rfl ?_
        refine TQ.shut rfl rfl ?_
        refine TQ.shut rfl rfl ?_
        refine TQ.val ((by first | exact OpV.pick_t rfl rfl | exact OpV.pick_f rfl rfl)) rfl ?_
        refine TQ.val (OpV.assign rfl) rfl ?_
        refine TQ.nil ?_
        refine TE.out ?_
        refine TE.sub (.cons (t := 0) rfl <| .cons (t := 2) rfl <| .cons (t := 7) rfl <| .cons (t := 8) rfl <| .cons (t := 10) rfl <| .cons (t := 11) rfl <| .cons (t := 12) rfl <| .cons (t := 13) rfl <| .cons (t := 14) rfl <| .nil) ?_
        refine TE.next ?_
        refine T.region ?_
        refine TL.val (OpV.move rfl) rfl ?_
        refine TL.val (OpV.add rfl rfl (by first | exact IntWalk.i64_in _ ⟨by omega, by omega⟩ | rfl)) rfl ?_
        refine TL.val (OpV.assign rfl) rfl ?_
        refine TL.nil ?_
        exact TE.meet (q + 1) ⟨by omega, by omega⟩ (.cons (t := 0) (by first | rfl | (simp [lk]; done)) <| .cons (t := 2) (by first | rfl | (simp [lk]; done)) <| .cons (t := 7) (by first | rfl | (simp [lk]; done)) <| .cons (t := 8) (by first | rfl | (simp [lk]; done)) <| .cons (t := 10) (by first | rfl | (simp [lk]; done)) <| .cons (t := 11) (by first | rfl | (simp [lk]; done)) <| .cons (t := 12) (by first | rfl | (simp [lk]; done)) <| .cons (t := 13) (by rw [hasK_succ hz, hg90]; rfl) <| .cons (t := 14) (by first | rfl | (simp [lk]; done)) <| .nil) (Perm.kle (.cons (by first | exact P0 | exact P1 | exact P2 | exact P3 | exact P4 | exact P5 | exact P6 | exact P7 | exact P8) (.cons (by first | exact P0 | exact P1 | exact P2 | exact P3 | exact P4 | exact P5 | exact P6 | exact P7 | exact P8) (.cons (by first | exact P0 | exact P1 | exact P2 | exact P3 | exact P4 | exact P5 | exact P6 | exact P7 | exact P8) (.cons (by first | exact P0 | exact P1 | exact P2 | exact P3 | exact P4 | exact P5 | exact P6 | exact P7 | exact P8) (.cons (by first | exact P0 | exact P1 | exact P2 | exact P3 | exact P4 | exact P5 | exact P6 | exact P7 | exact P8) .nil))))))
       ·
        intro hg90
        try simp only [decide_eq_true_eq, decide_eq_false_iff_not, beq_iff_eq, beq_eq_false_iff_ne, bne_iff_ne, bne_eq_false_iff_eq, Bool.not_eq_true', Bool.not_eq_false', ne_eq] at hg90
        refine TQ.open rfl rfl ?_
        refine TQ.val (OpV.move rfl) rfl ?_
        refine TQ.open rfl rfl ?_
        refine TQ.val (OpV.move rfl) rfl ?_
        refine TQ.open rfl rfl ?_
        refine TQ.val (OpV.indexAddr (j := q) se_38 rfl hAz rfl rfl (by omega)) rfl ?_
        refine TQ.open rfl rfl ?_
        refine TQ.val (OpV.load pl_29 rfl (by first | exact Cel.blk P0 rfl | exact Cel.blk P1 rfl | exact Cel.blk P2 rfl | exact Cel.blk P3 rfl | exact Cel.blk P4 rfl | exact Cel.blk P5 rfl | exact Cel.blk P6 rfl | exact Cel.blk P7 rfl | exact Cel.blk P8 rfl | exact Cel.frA (hatx _ _ rfl) | exact Cel.frA (hatz 0 _ rfl) | exact Cel.ownA (hatq 0 _ rfl) | exact Cel.ownA (hatc _ _ rfl) | exact Cel.ownA (hatv 0 _ rfl) | exact Cel.ownA (hata _ _ rfl) | exact Cel.ownA (hatb _ _ rfl))) rfl ?_
        refine TQ.open rfl rfl ?_
        refine TQ.val (OpV.move rfl) rfl ?_
        refine TQ.open rfl rfl ?_
        refine TQ.val (OpV.move rfl) rfl ?_
        refine TQ.open rfl rfl ?_
        refine TQ.val (OpV.indexAddr (j := i) se_24 rfl hA rfl rfl (by omega)) rfl ?_
        refine TQ.open rfl rfl ?_
        refine TQ.val (OpV.fieldAddr rfl fo_31_1) rfl ?_
        refine TQ.open rfl rfl ?_
        refine TQ.val (OpV.load pl_29 rfl (by first | exact Cel.blk P0 rfl | exact Cel.blk P1 rfl | exact Cel.blk P2 rfl | exact Cel.blk P3 rfl | exact Cel.blk P4 rfl | exact Cel.blk P5 rfl | exact Cel.blk P6 rfl | exact Cel.blk P7 rfl | exact Cel.blk P8 rfl | exact Cel.frA (hatx _ _ rfl) | exact Cel.frA (hatz 0 _ rfl) | exact Cel.ownA (hatq 0 _ rfl) | exact Cel.ownA (hatc _ _ rfl) | exact Cel.ownA (hatv 0 _ rfl) | exact Cel.ownA (hata _ _ rfl) | exact Cel.ownA (hatb _ _ rfl))) rfl ?_
        refine TQ.open rfl rfl ?_
        refine TQ.val (OpV.eql rfl rfl) rfl ?_
        refine TQ.val ((by first | exact OpV.pick_t rfl rfl | exact OpV.pick_f rfl rfl)) rfl ?_
        refine TQ.val (OpV.assign rfl) rfl ?_
        refine TQ.nil ?_
        refine TE.out ?_
        refine TE.sub (.cons (t := 0) rfl <| .cons (t := 2) rfl <| .cons (t := 7) rfl <| .cons (t := 8) rfl <| .cons (t := 10) rfl <| .cons (t := 11) rfl <| .cons (t := 12) rfl <| .cons (t := 13) rfl <| .cons (t := 14) rfl <| .nil) ?_
        refine TE.next ?_
        refine T.region ?_
        refine TL.val (OpV.move rfl) rfl ?_
        refine TL.val (OpV.add rfl rfl (by first | exact IntWalk.i64_in _ ⟨by omega, by omega⟩ | rfl)) rfl ?_
        refine TL.val (OpV.assign rfl) rfl ?_
        refine TL.nil ?_
        exact TE.meet (q + 1) ⟨by omega, by omega⟩ (.cons (t := 0) (by first | rfl | (simp [lk]; done)) <| .cons (t := 2) (by first | rfl | (simp [lk]; done)) <| .cons (t := 7) (by first | rfl | (simp [lk]; done)) <| .cons (t := 8) (by first | rfl | (simp [lk]; done)) <| .cons (t := 10) (by first | rfl | (simp [lk]; done)) <| .cons (t := 11) (by first | rfl | (simp [lk]; done)) <| .cons (t := 12) (by first | rfl | (simp [lk]; done)) <| .cons (t := 13) (by rw [hasK_succ hz, hg90]; rfl) <| .cons (t := 14) (by first | rfl | (simp [lk]; done)) <| .nil) (Perm.kle (.cons (by first | exact P0 | exact P1 | exact P2 | exact P3 | exact P4 | exact P5 | exact P6 | exact P7 | exact P8) (.cons (by first | exact P0 | exact P1 | exact P2 | exact P3 | exact P4 | exact P5 | exact P6 | exact P7 | exact P8) (.cons (by first | exact P0 | exact P1 | exact P2 | exact P3 | exact P4 | exact P5 | exact P6 | exact P7 | exact P8) (.cons (by first | exact P0 | exact P1 | exact P2 | exact P3 | exact P4 | exact P5 | exact P6 | exact P7 | exact P8) (.cons (by first | exact P0 | exact P1 | exact P2 | exact P3 | exact P4 | exact P5 | exact P6 | exact P7 | exact P8) .nil))))))
      ·
       intro ht86
       try simp only [decide_eq_true_eq, decide_eq_false_iff_not, beq_iff_eq, beq_eq_false_iff_ne, bne_iff_ne, bne_eq_false_iff_eq, Bool.not_eq_true', Bool.not_eq_false', ne_eq] at ht86
       have hHK : hasK (kk.take q) x.kd = hasK kk x.kd := by rw [List.take_of_length_le (by omega)]
       refine T.exit ?_
       refine TE.pass_exit ?_
       refine TE.pass_exit ?_
       refine TE.here ?_
       refine TE.next ?_
       refine T.seq ?_
       refine T.ex (fun wz kz => KOk.rowA (e := 3) (z := 1) (A := A10) (m := L.length) (c := c10) (xs := il L) kz (by first | exact P0 | exact P1 | exact P2 | exact P3 | exact P4 | exact P5 | exact P6 | exact P7 | exact P8)) ?_
       rintro bA hbA
       refine T.quiet mix (by kernel_rfl) ?_
       refine TQ.val (OpV.move rfl) rfl ?_
       refine TQ.val (OpV.move rfl) rfl ?_
       refine TQ.part (t := 103) rfl ?_ ?_
       ·
        intro hg103
        try simp only [decide_eq_true_eq, decide_eq_false_iff_not, beq_iff_eq, beq_eq_false_iff_ne, bne_iff_ne, bne_eq_false_iff_eq, Bool.not_eq_true', Bool.not_eq_false', ne_eq] at hg103
        rw [hHK] at hg103
        refine TQ.open rfl rfl ?_
        refine TQ.val (OpV.move rfl) rfl ?_
        refine TQ.open rfl rfl ?_
        refine TQ.val (OpV.len Try.underlying39 rfl) rfl ?_
        refine TQ.open rfl rfl ?_
        refine TQ.val (OpV.eql rfl rfl) rfl ?_
        refine TQ.open rfl rfl ?_
        refine TQ.val (OpV.move rfl) rfl ?_
        refine TQ.part (t := 107) rfl ?_ ?_
        ·
         intro hg107
         try simp only [decide_eq_true_eq, decide_eq_false_iff_not, beq_iff_eq, beq_eq_false_iff_ne, bne_iff_ne, bne_eq_false_iff_eq, Bool.not_eq_true', Bool.not_eq_false', ne_eq] at hg107
         have hnew : ∀ w2, L[L.length - 1]? = some w2 → w2 ≠ x.ln := fun w2 h9 => by rw [List.getElem?_eq_none (by omega)] at h9; cases h9
         refine TQ.shut rfl rfl ?_
         refine TQ.shut rfl rfl ?_
         refine TQ.shut rfl rfl ?_
         refine TQ.shut rfl rfl ?_
         refine TQ.shut rfl rfl ?_
         refine TQ.shut rfl rfl ?_
         refine TQ.shut rfl rfl ?_
         refine TQ.shut rfl rfl ?_
         refine TQ.shut rfl rfl ?_
         refine TQ.shut rfl rfl ?_
         refine TQ.shut rfl rfl ?_
         refine TQ.shut rfl rfl ?_
         refine TQ.open rfl rfl ?_
         refine TQ.val ((by first | exact OpV.pick_t rfl rfl | exact OpV.pick_f rfl rfl)) rfl ?_
         refine TQ.val ((by first | exact OpV.pick_t rfl rfl | exact OpV.pick_f rfl rfl)) rfl ?_
         refine TQ.nil ?_
         refine TE.sub (.cons (t := 0) rfl <| .cons (t := 2) rfl <| .cons (t := 7) rfl <| .cons (t := 8) rfl <| .cons (t := 10) rfl <| .cons (t := 11) rfl <| .cons (t := 12) rfl <| .cons (t := 121) rfl <| .nil) ?_
         refine TE.next ?_
         refine T.yes rfl ?_
         refine T.region ?_
         refine TL.val (OpV.move rfl) rfl ?_
         refine TL.val (OpV.move rfl) rfl ?_
         refine TL.val (OpV.move rfl) rfl ?_
         refine TL.val (OpV.indexAddr (j := i) se_24 rfl hA rfl rfl (by omega)) rfl ?_
         refine TL.val (OpV.fieldAddr rfl fo_31_0) rfl ?_
         refine TL.val (OpV.load pl_3 rfl (by first | exact Cel.blk P0 rfl | exact Cel.blk P1 rfl | exact Cel.blk P2 rfl | exact Cel.blk P3 rfl | exact Cel.blk P4 rfl | exact Cel.blk P5 rfl | exact Cel.blk P6 rfl | exact Cel.blk P7 rfl | exact Cel.blk P8 rfl | exact Cel.frA (hatx _ _ rfl) | exact Cel.frA (hatz 0 _ rfl) | exact Cel.ownA (hatq 0 _ rfl) | exact Cel.ownA (hatc _ _ rfl) | exact Cel.ownA (hatv 0 _ rfl) | exact Cel.ownA (hata _ _ rfl) | exact Cel.ownA (hatb _ _ rfl))) rfl ?_
         refine TL.slit (qs := #[(0, _)]) (fun _ f => by simp only [List.map_toArray, List.map_cons, List.map_nil]; rw [f.ev (x := .tmp 127) rfl]) (sl_39_1_0 x.ln) rfl ?_
         intro b128
         obtain ⟨ti129, hi129, hz129, hs129, hb129⟩ := info_parts inf_3
         refine TL.append rfl rfl Try.underlying39 hi129 hz129 hs129 hb129 rfl (by omega) (by first | exact P0 | exact P1 | exact P2 | exact P3 | exact P4 | exact P5 | exact P6 | exact P7 | exact P8) (by first | exact Src.nil | exact Src.blk P0 rfl | exact Src.blk P1 rfl | exact Src.blk P2 rfl | exact Src.blk P3 rfl | exact Src.blk P4 rfl | exact Src.blk P5 rfl | exact Src.blk P6 rfl | exact Src.blk P7 rfl | exact Src.blk P8 rfl | exact Src.row P0 | exact Src.row P1 | exact Src.row P2 | exact Src.row P3 | exact Src.row P4 | exact Src.row P5 | exact Src.row P6 | exact Src.row P7 | exact Src.row P8) (fun h => by cases h) rfl (by omega) (by omega) rfl ?_
         clear hi129 hz129 hs129 hb129 ti129
         intro A129 c129 hn129
         refine TL.val (OpV.assign rfl) rfl ?_
         refine TL.nil ?_
         refine TE.out ?_
         refine TE.sub (.cons (t := 0) rfl <| .cons (t := 2) rfl <| .cons (t := 7) rfl <| .cons (t := 8) rfl <| .cons (t := 10) rfl <| .cons (t := 11) rfl <| .cons (t := 12) rfl <| .nil) ?_
         refine TE.next ?_
         refine T.region ?_
         refine TL.val (OpV.move rfl) rfl ?_
         refine TL.val (OpV.add rfl rfl (by first | exact IntWalk.i64_in _ ⟨by omega, by omega⟩ | rfl)) rfl ?_
         refine TL.val (OpV.assign rfl) rfl ?_
         refine TL.nil ?_
         exact TE.meet (i + 1, (putX xs x), L ++ [x.ln], A3, c3, A129, c129) ⟨⟨by omega, by omega, (by rw [hpx]; exact hd.new hm hg103 hnew), (by rw [List.length_append, List.length_cons, List.length_nil]; omega), hA3, hn129⟩, by simp only; omega⟩ (.cons (t := 0) (by first | rfl | (simp [lk]; done)) <| .cons (t := 2) (by first | rfl | (simp [lk]; done)) <| .cons (t := 7) (by first | rfl | (simp [lk]; done)) <| .cons (t := 8) (by first | rfl | (simp [lk]; done)) <| .cons (t := 10) (by rw [List.length_append]; rfl) <| .cons (t := 11) (congrArg (fun z => some (Value.int .i64 z)) (by omega)) <| .cons (t := 12) (by first | rfl | (simp [lk]; done)) <| .nil) ((by simp only [il_snoc, List.length_append]; exact Perm.kle (.cons (by first | exact P0 | exact P1 | exact P2 | exact P3 | exact P4 | exact P5 | exact P6 | exact P7 | exact P8) (.cons (by first | exact P0 | exact P1 | exact P2 | exact P3 | exact P4 | exact P5 | exact P6 | exact P7 | exact P8) (.cons (by first | exact P0 | exact P1 | exact P2 | exact P3 | exact P4 | exact P5 | exact P6 | exact P7 | exact P8) (.cons (by first | exact P0 | exact P1 | exact P2 | exact P3 | exact P4 | exact P5 | exact P6 | exact P7 | exact P8) (.cons (by first | exact P0 | exact P1 | exact P2 | exact P3 | exact P4 | exact P5 | exact P6 | exact P7 | exact P8) .nil)))))))
        ·
         intro hg107
         try simp only [decide_eq_true_eq, decide_eq_false_iff_not, beq_iff_eq, beq_eq_false_iff_ne, bne_iff_ne, bne_eq_false_iff_eq, Bool.not_eq_true', Bool.not_eq_false', ne_eq] at hg107
         obtain rfl := hbA (by omega)
         obtain ⟨w2, hw2⟩ := get_of_lt rfl (show L.length - 1 < L.length by omega)
         have hc0 : (il L)[(L.length - 1) * 1]? = some (.int .i64 w2) := get_flat iL_length L (L.length - 1) 0 w2 _ hw2 rfl
         refine TQ.open rfl rfl ?_
         refine TQ.val (OpV.move rfl) rfl ?_
         refine TQ.open rfl rfl ?_
         refine TQ.val (OpV.move rfl) rfl ?_
         refine TQ.open rfl rfl ?_
         refine TQ.val (OpV.len Try.underlying39 rfl) rfl ?_
         refine TQ.open rfl rfl ?_
         refine TQ.val (OpV.sub rfl rfl (by first | exact IntWalk.i64_in _ ⟨by omega, by omega⟩ | rfl)) rfl ?_
         refine TQ.open rfl rfl ?_
         refine TQ.val (OpV.indexAddr (j := (L.length - 1)) se_39 rfl rfl rfl (by omega) (by omega)) rfl ?_
         refine TQ.open rfl rfl ?_
         refine TQ.val (OpV.load pl_3 rfl (Cel.row (s := none) (by first | exact P0 | exact P1 | exact P2 | exact P3 | exact P4 | exact P5 | exact P6 | exact P7 | exact P8) (by rw [Nat.zero_add]; exact hc0))) rfl ?_
         refine TQ.open rfl rfl ?_
         refine TQ.val (OpV.move rfl) rfl ?_
         refine TQ.open rfl rfl ?_
         refine TQ.val (OpV.move rfl) rfl ?_
         refine TQ.open rfl rfl ?_
         refine TQ.val (OpV.indexAddr (j := i) se_24 rfl hA rfl rfl (by omega)) rfl ?_
         refine TQ.open rfl rfl ?_
         refine TQ.val (OpV.fieldAddr rfl fo_31_0) rfl ?_
         refine TQ.open rfl rfl ?_
         refine TQ.val (OpV.load pl_3 rfl (by first | exact Cel.blk P0 rfl | exact Cel.blk P1 rfl | exact Cel.blk P2 rfl | exact Cel.blk P3 rfl | exact Cel.blk P4 rfl | exact Cel.blk P5 rfl | exact Cel.blk P6 rfl | exact Cel.blk P7 rfl | exact Cel.blk P8 rfl | exact Cel.frA (hatx _ _ rfl) | exact Cel.frA (hatz 0 _ rfl) | exact Cel.ownA (hatq 0 _ rfl) | exact Cel.ownA (hatc _ _ rfl) | exact Cel.ownA (hatv 0 _ rfl) | exact Cel.ownA (hata _ _ rfl) | exact Cel.ownA (hatb _ _ rfl))) rfl ?_
         refine TQ.open rfl rfl ?_
         refine TQ.val (OpV.neq rfl rfl) rfl ?_
         refine TQ.open rfl rfl ?_
         refine TQ.val ((by first | exact OpV.pick_t rfl rfl | exact OpV.pick_f rfl rfl)) rfl ?_
         refine TQ.val ((by first | exact OpV.pick_t rfl rfl | exact OpV.pick_f rfl rfl)) rfl ?_
         refine TQ.nil ?_
         refine TE.sub (.cons (t := 0) rfl <| .cons (t := 2) rfl <| .cons (t := 7) rfl <| .cons (t := 8) rfl <| .cons (t := 10) rfl <| .cons (t := 11) rfl <| .cons (t := 12) rfl <| .cons (t := 121) rfl <| .nil) ?_
         refine TE.next ?_
         refine T.cond rfl ?_ ?_
         ·
          intro ht121
          try simp only [decide_eq_true_eq, decide_eq_false_iff_not, beq_iff_eq, beq_eq_false_iff_ne, bne_iff_ne, bne_eq_false_iff_eq, Bool.not_eq_true', Bool.not_eq_false', ne_eq] at ht121
          have hnew : ∀ w3, L[L.length - 1]? = some w3 → w3 ≠ x.ln := fun w3 h9 => by rw [hw2] at h9; cases h9; exact ht121
          refine T.region ?_
          refine TL.val (OpV.move rfl) rfl ?_
          refine TL.val (OpV.move rfl) rfl ?_
          refine TL.val (OpV.move rfl) rfl ?_
          refine TL.val (OpV.indexAddr (j := i) se_24 rfl hA rfl rfl (by omega)) rfl ?_
          refine TL.val (OpV.fieldAddr rfl fo_31_0) rfl ?_
          refine TL.val (OpV.load pl_3 rfl (by first | exact Cel.blk P0 rfl | exact Cel.blk P1 rfl | exact Cel.blk P2 rfl | exact Cel.blk P3 rfl | exact Cel.blk P4 rfl | exact Cel.blk P5 rfl | exact Cel.blk P6 rfl | exact Cel.blk P7 rfl | exact Cel.blk P8 rfl | exact Cel.frA (hatx _ _ rfl) | exact Cel.frA (hatz 0 _ rfl) | exact Cel.ownA (hatq 0 _ rfl) | exact Cel.ownA (hatc _ _ rfl) | exact Cel.ownA (hatv 0 _ rfl) | exact Cel.ownA (hata _ _ rfl) | exact Cel.ownA (hatb _ _ rfl))) rfl ?_
          refine TL.slit (qs := #[(0, _)]) (fun _ f => by simp only [List.map_toArray, List.map_cons, List.map_nil]; rw [f.ev (x := .tmp 127) rfl]) (sl_39_1_0 x.ln) rfl ?_
          intro b128
          obtain ⟨ti129, hi129, hz129, hs129, hb129⟩ := info_parts inf_3
          refine TL.append rfl rfl Try.underlying39 hi129 hz129 hs129 hb129 rfl (by omega) (by first | exact P0 | exact P1 | exact P2 | exact P3 | exact P4 | exact P5 | exact P6 | exact P7 | exact P8) (by first | exact Src.nil | exact Src.blk P0 rfl | exact Src.blk P1 rfl | exact Src.blk P2 rfl | exact Src.blk P3 rfl | exact Src.blk P4 rfl | exact Src.blk P5 rfl | exact Src.blk P6 rfl | exact Src.blk P7 rfl | exact Src.blk P8 rfl | exact Src.row P0 | exact Src.row P1 | exact Src.row P2 | exact Src.row P3 | exact Src.row P4 | exact Src.row P5 | exact Src.row P6 | exact Src.row P7 | exact Src.row P8) (fun h => by cases h) rfl (by omega) (by omega) rfl ?_
          clear hi129 hz129 hs129 hb129 ti129
          intro A129 c129 hn129
          refine TL.val (OpV.assign rfl) rfl ?_
          refine TL.nil ?_
          refine TE.out ?_
          refine TE.sub (.cons (t := 0) rfl <| .cons (t := 2) rfl <| .cons (t := 7) rfl <| .cons (t := 8) rfl <| .cons (t := 10) rfl <| .cons (t := 11) rfl <| .cons (t := 12) rfl <| .nil) ?_
          refine TE.next ?_
          refine T.region ?_
          refine TL.val (OpV.move rfl) rfl ?_
          refine TL.val (OpV.add rfl rfl (by first | exact IntWalk.i64_in _ ⟨by omega, by omega⟩ | rfl)) rfl ?_
          refine TL.val (OpV.assign rfl) rfl ?_
          refine TL.nil ?_
          exact TE.meet (i + 1, (putX xs x), L ++ [x.ln], A3, c3, A129, c129) ⟨⟨by omega, by omega, (by rw [hpx]; exact hd.new hm hg103 hnew), (by rw [List.length_append, List.length_cons, List.length_nil]; omega), hA3, hn129⟩, by simp only; omega⟩ (.cons (t := 0) (by first | rfl | (simp [lk]; done)) <| .cons (t := 2) (by first | rfl | (simp [lk]; done)) <| .cons (t := 7) (by first | rfl | (simp [lk]; done)) <| .cons (t := 8) (by first | rfl | (simp [lk]; done)) <| .cons (t := 10) (by rw [List.length_append]; rfl) <| .cons (t := 11) (congrArg (fun z => some (Value.int .i64 z)) (by omega)) <| .cons (t := 12) (by first | rfl | (simp [lk]; done)) <| .nil) ((by simp only [il_snoc, List.length_append]; exact Perm.kle (.cons (by first | exact P0 | exact P1 | exact P2 | exact P3 | exact P4 | exact P5 | exact P6 | exact P7 | exact P8) (.cons (by first | exact P0 | exact P1 | exact P2 | exact P3 | exact P4 | exact P5 | exact P6 | exact P7 | exact P8) (.cons (by first | exact P0 | exact P1 | exact P2 | exact P3 | exact P4 | exact P5 | exact P6 | exact P7 | exact P8) (.cons (by first | exact P0 | exact P1 | exact P2 | exact P3 | exact P4 | exact P5 | exact P6 | exact P7 | exact P8) (.cons (by first | exact P0 | exact P1 | exact P2 | exact P3 | exact P4 | exact P5 | exact P6 | exact P7 | exact P8) .nil)))))))
         ·
          intro ht121
          try simp only [decide_eq_true_eq, decide_eq_false_iff_not, beq_iff_eq, beq_eq_false_iff_ne, bne_iff_ne, bne_eq_false_iff_eq, Bool.not_eq_true', Bool.not_eq_false', ne_eq] at ht121
          rw [ht121] at hw2
          refine T.skip ?_
          refine TE.out ?_
          refine TE.next ?_
          refine T.region ?_
          refine TL.val (OpV.move rfl) rfl ?_
          refine TL.val (OpV.add rfl rfl (by first | exact IntWalk.i64_in _ ⟨by omega, by omega⟩ | rfl)) rfl ?_
          refine TL.val (OpV.assign rfl) rfl ?_
          refine TL.nil ?_
          exact TE.meet (i + 1, (putX xs x), L, A3, c3, (some ⟨bA, 0, none⟩), c10) ⟨⟨by omega, by omega, (by rw [hpx]; exact hd.same hm hw2), by omega, hA3, hA10⟩, by simp only; omega⟩ (.cons (t := 0) (by first | rfl | (simp [lk]; done)) <| .cons (t := 2) (by first | rfl | (simp [lk]; done)) <| .cons (t := 7) (by first | rfl | (simp [lk]; done)) <| .cons (t := 8) (by first | rfl | (simp [lk]; done)) <| .cons (t := 10) (by first | rfl | (simp [lk]; done)) <| .cons (t := 11) (congrArg (fun z => some (Value.int .i64 z)) (by omega)) <| .cons (t := 12) (by first | rfl | (simp [lk]; done)) <| .nil) (Perm.kle (.cons (by first | exact P0 | exact P1 | exact P2 | exact P3 | exact P4 | exact P5 | exact P6 | exact P7 | exact P8) (.cons (by first | exact P0 | exact P1 | exact P2 | exact P3 | exact P4 | exact P5 | exact P6 | exact P7 | exact P8) (.cons (by first | exact P0 | exact P1 | exact P2 | exact P3 | exact P4 | exact P5 | exact P6 | exact P7 | exact P8) (.cons (by first | exact P0 | exact P1 | exact P2 | exact P3 | exact P4 | exact P5 | exact P6 | exact P7 | exact P8) (.cons (by first | exact P0 | exact P1 | exact P2 | exact P3 | exact P4 | exact P5 | exact P6 | exact P7 | exact P8) .nil))))))
       ·
        intro hg103
        try simp only [decide_eq_true_eq, decide_eq_false_iff_not, beq_iff_eq, beq_eq_false_iff_ne, bne_iff_ne, bne_eq_false_iff_eq, Bool.not_eq_true', Bool.not_eq_false', ne_eq] at hg103
        rw [hHK] at hg103
        refine TQ.shut rfl rfl ?_
        refine TQ.shut rfl rfl ?_
        refine TQ.shut rfl rfl ?_
        refine TQ.shut rfl rfl ?_
        refine TQ.shutU rfl rfl ?_
        refine TQ.shutU rfl rfl ?_
        refine TQ.shutU rfl rfl ?_
        refine TQ.shutU rfl rfl ?_
        refine TQ.shutU rfl rfl ?_
        refine TQ.shutU rfl rfl ?_
        refine TQ.shutU rfl rfl ?_
        refine TQ.shutU rfl rfl ?_
        refine TQ.shutU rfl rfl ?_
        refine TQ.shutU rfl rfl ?_
        refine TQ.shutU rfl rfl ?_
        refine TQ.shutU rfl rfl ?_
        refine TQ.shut rfl rfl ?_
        refine TQ.val ((by first | exact OpV.pick_t rfl rfl | exact OpV.pick_f rfl rfl)) rfl ?_
        refine TQ.nil ?_
        refine TE.sub (.cons (t := 0) rfl <| .cons (t := 2) rfl <| .cons (t := 7) rfl <| .cons (t := 8) rfl <| .cons (t := 10) rfl <| .cons (t := 11) rfl <| .cons (t := 12) rfl <| .cons (t := 121) rfl <| .nil) ?_
        refine TE.next ?_
        refine T.no rfl ?_
        refine T.skip ?_
        refine TE.out ?_
        refine TE.next ?_
        refine T.region ?_
        refine TL.val (OpV.move rfl) rfl ?_
        refine TL.val (OpV.add rfl rfl (by first | exact IntWalk.i64_in _ ⟨by omega, by omega⟩ | rfl)) rfl ?_
        refine TL.val (OpV.assign rfl) rfl ?_
        refine TL.nil ?_
        exact TE.meet (i + 1, (putX xs x), L, A3, c3, A10, c10) ⟨⟨by omega, by omega, (by rw [hpx]; exact hd.no hm hg103), by omega, hA3, hA10⟩, by simp only; omega⟩ (.cons (t := 0) (by first | rfl | (simp [lk]; done)) <| .cons (t := 2) (by first | rfl | (simp [lk]; done)) <| .cons (t := 7) (by first | rfl | (simp [lk]; done)) <| .cons (t := 8) (by first | rfl | (simp [lk]; done)) <| .cons (t := 10) (by first | rfl | (simp [lk]; done)) <| .cons (t := 11) (congrArg (fun z => some (Value.int .i64 z)) (by omega)) <| .cons (t := 12) (by first | rfl | (simp [lk]; done)) <| .nil) (Perm.kle (.cons (by first | exact P0 | exact P1 | exact P2 | exact P3 | exact P4 | exact P5 | exact P6 | exact P7 | exact P8) (.cons (by first | exact P0 | exact P1 | exact P2 | exact P3 | exact P4 | exact P5 | exact P6 | exact P7 | exact P8) (.cons (by first | exact P0 | exact P1 | exact P2 | exact P3 | exact P4 | exact P5 | exact P6 | exact P7 | exact P8) (.cons (by first | exact P0 | exact P1 | exact P2 | exact P3 | exact P4 | exact P5 | exact P6 | exact P7 | exact P8) (.cons (by first | exact P0 | exact P1 | exact P2 | exact P3 | exact P4 | exact P5 | exact P6 | exact P7 | exact P8) .nil))))))
    ·
     intro ht71
     try simp only [decide_eq_true_eq, decide_eq_false_iff_not, beq_iff_eq, beq_eq_false_iff_ne, bne_iff_ne, bne_eq_false_iff_eq, Bool.not_eq_true', Bool.not_eq_false', ne_eq] at ht71
     refine T.exit ?_
     refine TE.pass_exit ?_
     refine TE.pass_exit ?_
     refine TE.here ?_
     refine TE.next ?_
     refine T.seq ?_
     refine T.region ?_
     refine TL.val (OpV.move rfl) rfl ?_
     refine TL.callx (g := 11) rfl go_11 rfl (fun wz kz => add_x kz (commands_c wz (KOk.mo (b := b42) (c := cm) (T := 26) (e := 31) (A := Am) (xs := xs) kz (by first | exact P0 | exact P1 | exact P2 | exact P3 | exact P4 | exact P5 | exact P6 | exact P7 | exact P8) (by first | exact P0 | exact P1 | exact P2 | exact P3 | exact P4 | exact P5 | exact P6 | exact P7 | exact P8)) (fun _ _ h => h) (by have h9 := hd.1.2.2; omega))) rfl ?_
     rintro ⟨A15, c15⟩ hA15
     refine TL.val (OpV.assign rfl) rfl ?_
     refine TL.nil ?_
     refine TE.sub (.cons (t := 2) rfl <| .cons (t := 7) rfl <| .cons (t := 8) rfl <| .cons (t := 10) rfl <| .cons (t := 11) rfl <| .cons (t := 15) rfl <| .nil) ?_
     refine TE.next ?_
     refine T.seq ?_
     refine T.ex (fun wz kz => KOk.rowOwn (kz.pick (e := .row 41 9 A15 (cmdsV xs).length c15 (cl (cmdsV xs))) (by first | exact P0 | exact P1 | exact P2 | exact P3 | exact P4 | exact P5 | exact P6 | exact P7 | exact P8))) ?_
     rintro σg hσg
     refine T.ex (fun wz kz => KOk.rowOwn (kz.pick (e := .row 3 1 A10 L.length c10 (il L)) (by first | exact P0 | exact P1 | exact P2 | exact P3 | exact P4 | exact P5 | exact P6 | exact P7 | exact P8))) ?_
     rintro ν hν
     have hg : CmR σg A15 (cmdsV xs).length c15 (cmdsV xs) := SlR.of_row Cm.l_length hσg rfl
     have hll : IsR ν A10 L.length c10 L := SlR.of_row iL_length hν rfl
     have hcl : (cmdsV xs).length ≤ xs.length := (gr_len xs).1
     refine T.region ?_
     refine TL.val (OpV.assign rfl) rfl ?_
     refine TL.nil ?_
     refine TE.next ?_
     refine T.seq ?_
     refine T.seq ?_
     refine T.region ?_
     refine TL.val (OpV.assign rfl) rfl ?_
     refine TL.nil ?_
     refine TE.next ?_
     refine T.block ?_
     refine T.loop (ι := Nat) (fun u => u ≤ (cmdsV xs).length) (fun u => ((cmdsV xs).length - u)) (fun u => [(2, .int .i64 line), (7, .pointer (some ⟨b42, 0, none⟩)), (8, .slice A8 kk.length c8), (10, .slice A10 L.length c10), (11, .int .i64 (xs.length : Int)), (15, .slice A15 (cmdsV xs).length c15), (16, .int .i64 (((sumF ((cmdsV xs).take u)) : Nat) : Int)), (17, .int .i64 (u : Int))]) (fun u => [.blk b42 [.slice Am xs.length cm] 26, .row 31 3 Am xs.length cm (ml xs), .own σg, .own ν, .own κ, .fr σ]) 0 (Nat.zero_le _) (.cons (t := 2) rfl <| .cons (t := 7) rfl <| .cons (t := 8) rfl <| .cons (t := 10) rfl <| .cons (t := 11) rfl <| .cons (t := 15) rfl <| .cons (t := 16) rfl <| .cons (t := 17) rfl <| .nil) (Perm.kle (.cons (by first | exact P0 | exact P1 | exact P2 | exact P3 | exact P4 | exact P5 | exact P6 | exact P7 | exact P8) (.cons (by first | exact P0 | exact P1 | exact P2 | exact P3 | exact P4 | exact P5 | exact P6 | exact P7 | exact P8) (.cons (by first | exact P0 | exact P1 | exact P2 | exact P3 | exact P4 | exact P5 | exact P6 | exact P7 | exact P8) (.cons (by first | exact P0 | exact P1 | exact P2 | exact P3 | exact P4 | exact P5 | exact P6 | exact P7 | exact P8) (.cons (by first | exact P0 | exact P1 | exact P2 | exact P3 | exact P4 | exact P5 | exact P6 | exact P7 | exact P8) (.cons (by first | exact P0 | exact P1 | exact P2 | exact P3 | exact P4 | exact P5 | exact P6 | exact P7 | exact P8) .nil))))))) ?_
     rintro u hRu
     refine T.seq ?_
     refine T.seq ?_
     refine T.region ?_
     refine TL.val (OpV.move rfl) rfl ?_
     refine TL.val (OpV.move rfl) rfl ?_
     refine TL.val (OpV.len Try.underlying34 rfl) rfl ?_
     refine TL.val (OpV.lss rfl rfl) rfl ?_
     refine TL.nil ?_
     refine TE.next ?_
     refine T.cond rfl ?_ ?_
     ·
      intro ht135
      try simp only [decide_eq_true_eq, decide_eq_false_iff_not, beq_iff_eq, beq_eq_false_iff_ne, bne_iff_ne, bne_eq_false_iff_eq, Bool.not_eq_true', Bool.not_eq_false', ne_eq] at ht135
      obtain ⟨cc, hcc⟩ := get_of_lt rfl (show u < (cmdsV xs).length by omega)
      obtain ⟨bg, og, hAg, hatg⟩ := hg.pos (by omega)
      have hatc := hatg u cc hcc
      have hs1 := sumF_le ((cmdsV xs).take u)
      rw [List.length_take] at hs1
      refine T.skip ?_
      refine TE.next ?_
      refine T.seq ?_
      refine T.block ?_
      refine T.seq ?_
      refine T.any ([.own σg]) [] mix rfl rfl ?_
      refine TA.takeP (i := 0) (ls := #[true, false, false, false, false, false, false, false, false, false, false, false, false, false, false, false, false, false, false, false, false, false, false]) rfl rfl rfl rfl rfl (by kernel_rfl) (by kernel_rfl) (by kernel_rfl) (by repeat (first | with_reducible exact PanicOk.body | with_reducible apply PanicOk.next | with_reducible apply PanicOk.block)) (OpV.move rfl) rfl (by kernel_rfl) ?_
      refine TA.takeP (i := 1) (ls := #[true, true, false, false, false, false, false, false, false, false, false, false, false, false, false, false, false, false, false, false, false, false, false]) rfl rfl rfl rfl rfl (by kernel_rfl) (by kernel_rfl) (by kernel_rfl) (by repeat (first | with_reducible exact PanicOk.body | with_reducible apply PanicOk.next | with_reducible apply PanicOk.block)) (OpV.move rfl) rfl (by kernel_rfl) ?_
      refine TA.takeP (i := 2) (ls := #[true, true, true, false, false, false, false, false, false, false, false, false, false, false, false, false, false, false, false, false, false, false, false]) rfl rfl rfl rfl rfl (by kernel_rfl) (by kernel_rfl) (by kernel_rfl) (by repeat (first | with_reducible exact PanicOk.body | with_reducible apply PanicOk.next | with_reducible apply PanicOk.block)) (OpV.indexAddr (j := u) se_34 rfl hAg rfl rfl (by omega)) rfl (by kernel_rfl) ?_
      refine TA.takeP (i := 3) (ls := #[true, true, true, true, false, false, false, false, false, false, false, false, false, false, false, false, false, false, false, false, false, false, false]) rfl rfl rfl rfl rfl (by kernel_rfl) (by kernel_rfl) (by kernel_rfl) (by repeat (first | with_reducible exact PanicOk.body | with_reducible apply PanicOk.next | with_reducible apply PanicOk.block)) (OpV.fieldAddr rfl fo_41_4) rfl (by kernel_rfl) ?_
      refine TA.take (i := 4) (ls := #[true, true, true, true, true, false, false, false, false, false, false, false, false, false, false, false, false, false, false, false, false, false, false]) rfl rfl rfl rfl rfl (by kernel_rfl) (by kernel_rfl) (by kernel_rfl) (by kernel_rfl) (by repeat (first | with_reducible exact PanicOk.body | with_reducible apply PanicOk.next | with_reducible apply PanicOk.block)) ((.cons (by first | exact P0 | exact P1 | exact P2 | exact P3 | exact P4 | exact P5 | exact P6 | exact P7 | exact P8) .nil)) (OpV.load pl_4 rfl (by first | exact Cel.blk P0 rfl | exact Cel.blk P1 rfl | exact Cel.blk P2 rfl | exact Cel.blk P3 rfl | exact Cel.blk P4 rfl | exact Cel.blk P5 rfl | exact Cel.blk P6 rfl | exact Cel.blk P7 rfl | exact Cel.blk P8 rfl | exact Cel.frA (hatx _ _ rfl) | exact Cel.frA (hatz 0 _ rfl) | exact Cel.ownA (hatq 0 _ rfl) | exact Cel.ownA (hatc _ _ rfl) | exact Cel.ownA (hatv 0 _ rfl) | exact Cel.ownA (hata _ _ rfl) | exact Cel.ownA (hatb _ _ rfl))) rfl (by kernel_rfl) ?_
      refine TA.takeP (i := 5) (ls := #[true, true, true, true, true, true, false, false, false, false, false, false, false, false, false, false, false, false, false, false, false, false, false]) rfl rfl rfl rfl rfl (by kernel_rfl) (by kernel_rfl) (by kernel_rfl) (by repeat (first | with_reducible exact PanicOk.body | with_reducible apply PanicOk.next | with_reducible apply PanicOk.block)) (OpV.move rfl) rfl (by kernel_rfl) ?_
      refine TA.takeP (i := 6) (ls := #[true, true, true, true, true, true, true, false, false, false, false, false, false, false, false, false, false, false, false, false, false, false, false]) rfl rfl rfl rfl rfl (by kernel_rfl) (by kernel_rfl) (by kernel_rfl) (by repeat (first | with_reducible exact PanicOk.body | with_reducible apply PanicOk.next | with_reducible apply PanicOk.block)) (OpV.move rfl) rfl (by kernel_rfl) ?_
      refine TA.takeP (i := 7) (ls := #[true, true, true, true, true, true, true, true, false, false, false, false, false, false, false, false, false, false, false, false, false, false, false]) rfl rfl rfl rfl rfl (by kernel_rfl) (by kernel_rfl) (by kernel_rfl) (by repeat (first | with_reducible exact PanicOk.body | with_reducible apply PanicOk.next | with_reducible apply PanicOk.block)) (OpV.indexAddr (j := u) se_34 rfl hAg rfl rfl (by omega)) rfl (by kernel_rfl) ?_
      refine TA.takeP (i := 8) (ls := #[true, true, true, true, true, true, true, true, true, false, false, false, false, false, false, false, false, false, false, false, false, false, false]) rfl rfl rfl rfl rfl (by kernel_rfl) (by kernel_rfl) (by kernel_rfl) (by repeat (first | with_reducible exact PanicOk.body | with_reducible apply PanicOk.next | with_reducible apply PanicOk.block)) (OpV.fieldAddr rfl fo_41_5) rfl (by kernel_rfl) ?_
      refine TA.take (i := 9) (ls := #[true, true, true, true, true, true, true, true, true, true, false, false, false, false, false, false, false, false, false, false, false, false, false]) rfl rfl rfl rfl rfl (by kernel_rfl) (by kernel_rfl) (by kernel_rfl) (by kernel_rfl) (by repeat (first | with_reducible exact PanicOk.body | with_reducible apply PanicOk.next | with_reducible apply PanicOk.block)) ((.cons (by first | exact P0 | exact P1 | exact P2 | exact P3 | exact P4 | exact P5 | exact P6 | exact P7 | exact P8) .nil)) (OpV.load pl_4 rfl (by first | exact Cel.blk P0 rfl | exact Cel.blk P1 rfl | exact Cel.blk P2 rfl | exact Cel.blk P3 rfl | exact Cel.blk P4 rfl | exact Cel.blk P5 rfl | exact Cel.blk P6 rfl | exact Cel.blk P7 rfl | exact Cel.blk P8 rfl | exact Cel.frA (hatx _ _ rfl) | exact Cel.frA (hatz 0 _ rfl) | exact Cel.ownA (hatq 0 _ rfl) | exact Cel.ownA (hatc _ _ rfl) | exact Cel.ownA (hatv 0 _ rfl) | exact Cel.ownA (hata _ _ rfl) | exact Cel.ownA (hatb _ _ rfl))) rfl (by kernel_rfl) ?_
      refine TA.takeP (i := 10) (ls := #[true, true, true, true, true, true, true, true, true, true, true, false, false, false, false, false, false, false, false, false, false, false, false]) rfl rfl rfl rfl rfl (by kernel_rfl) (by kernel_rfl) (by kernel_rfl) (by repeat (first | with_reducible exact PanicOk.body | with_reducible apply PanicOk.next | with_reducible apply PanicOk.block)) (OpV.move rfl) rfl (by kernel_rfl) ?_
      refine TA.takeP (i := 11) (ls := #[true, true, true, true, true, true, true, true, true, true, true, true, false, false, false, false, false, false, false, false, false, false, false]) rfl rfl rfl rfl rfl (by kernel_rfl) (by kernel_rfl) (by kernel_rfl) (by repeat (first | with_reducible exact PanicOk.body | with_reducible apply PanicOk.next | with_reducible apply PanicOk.block)) (OpV.move rfl) rfl (by kernel_rfl) ?_
      refine TA.takeP (i := 12) (ls := #[true, true, true, true, true, true, true, true, true, true, true, true, true, false, false, false, false, false, false, false, false, false, false]) rfl rfl rfl rfl rfl (by kernel_rfl) (by kernel_rfl) (by kernel_rfl) (by repeat (first | with_reducible exact PanicOk.body | with_reducible apply PanicOk.next | with_reducible apply PanicOk.block)) (OpV.indexAddr (j := u) se_34 rfl hAg rfl rfl (by omega)) rfl (by kernel_rfl) ?_
      refine TA.takeP (i := 13) (ls := #[true, true, true, true, true, true, true, true, true, true, true, true, true, true, false, false, false, false, false, false, false, false, false]) rfl rfl rfl rfl rfl (by kernel_rfl) (by kernel_rfl) (by kernel_rfl) (by repeat (first | with_reducible exact PanicOk.body | with_reducible apply PanicOk.next | with_reducible apply PanicOk.block)) (OpV.fieldAddr rfl fo_41_6) rfl (by kernel_rfl) ?_
      refine TA.take (i := 14) (ls := #[true, true, true, true, true, true, true, true, true, true, true, true, true, true, true, false, false, false, false, false, false, false, false]) rfl rfl rfl rfl rfl (by kernel_rfl) (by kernel_rfl) (by kernel_rfl) (by kernel_rfl) (by repeat (first | with_reducible exact PanicOk.body | with_reducible apply PanicOk.next | with_reducible apply PanicOk.block)) ((.cons (by first | exact P0 | exact P1 | exact P2 | exact P3 | exact P4 | exact P5 | exact P6 | exact P7 | exact P8) .nil)) (OpV.load pl_4 rfl (by first | exact Cel.blk P0 rfl | exact Cel.blk P1 rfl | exact Cel.blk P2 rfl | exact Cel.blk P3 rfl | exact Cel.blk P4 rfl | exact Cel.blk P5 rfl | exact Cel.blk P6 rfl | exact Cel.blk P7 rfl | exact Cel.blk P8 rfl | exact Cel.frA (hatx _ _ rfl) | exact Cel.frA (hatz 0 _ rfl) | exact Cel.ownA (hatq 0 _ rfl) | exact Cel.ownA (hatc _ _ rfl) | exact Cel.ownA (hatv 0 _ rfl) | exact Cel.ownA (hata _ _ rfl) | exact Cel.ownA (hatb _ _ rfl))) rfl (by kernel_rfl) ?_
      refine TA.takeP (i := 15) (ls := #[true, true, true, true, true, true, true, true, true, true, true, true, true, true, true, true, false, false, false, false, false, false, false]) rfl rfl rfl rfl rfl (by kernel_rfl) (by kernel_rfl) (by kernel_rfl) (by repeat (first | with_reducible exact PanicOk.body | with_reducible apply PanicOk.next | with_reducible apply PanicOk.block)) (OpV.move rfl) rfl (by kernel_rfl) ?_
      refine TA.takeP (i := 16) (ls := #[true, true, true, true, true, true, true, true, true, true, true, true, true, true, true, true, true, false, false, false, false, false, false]) rfl rfl rfl rfl rfl (by kernel_rfl) (by kernel_rfl) (by kernel_rfl) (by repeat (first | with_reducible exact PanicOk.body | with_reducible apply PanicOk.next | with_reducible apply PanicOk.block)) (OpV.move rfl) rfl (by kernel_rfl) ?_
      refine TA.takeP (i := 17) (ls := #[true, true, true, true, true, true, true, true, true, true, true, true, true, true, true, true, true, true, false, false, false, false, false]) rfl rfl rfl rfl rfl (by kernel_rfl) (by kernel_rfl) (by kernel_rfl) (by repeat (first | with_reducible exact PanicOk.body | with_reducible apply PanicOk.next | with_reducible apply PanicOk.block)) (OpV.indexAddr (j := u) se_34 rfl hAg rfl rfl (by omega)) rfl (by kernel_rfl) ?_
      refine TA.takeP (i := 18) (ls := #[true, true, true, true, true, true, true, true, true, true, true, true, true, true, true, true, true, true, true, false, false, false, false]) rfl rfl rfl rfl rfl (by kernel_rfl) (by kernel_rfl) (by kernel_rfl) (by repeat (first | with_reducible exact PanicOk.body | with_reducible apply PanicOk.next | with_reducible apply PanicOk.block)) (OpV.fieldAddr rfl fo_41_7) rfl (by kernel_rfl) ?_
      refine TA.take (i := 19) (ls := #[true, true, true, true, true, true, true, true, true, true, true, true, true, true, true, true, true, true, true, true, false, false, false]) rfl rfl rfl rfl rfl (by kernel_rfl) (by kernel_rfl) (by kernel_rfl) (by kernel_rfl) (by repeat (first | with_reducible exact PanicOk.body | with_reducible apply PanicOk.next | with_reducible apply PanicOk.block)) ((.cons (by first | exact P0 | exact P1 | exact P2 | exact P3 | exact P4 | exact P5 | exact P6 | exact P7 | exact P8) .nil)) (OpV.load pl_4 rfl (by first | exact Cel.blk P0 rfl | exact Cel.blk P1 rfl | exact Cel.blk P2 rfl | exact Cel.blk P3 rfl | exact Cel.blk P4 rfl | exact Cel.blk P5 rfl | exact Cel.blk P6 rfl | exact Cel.blk P7 rfl | exact Cel.blk P8 rfl | exact Cel.frA (hatx _ _ rfl) | exact Cel.frA (hatz 0 _ rfl) | exact Cel.ownA (hatq 0 _ rfl) | exact Cel.ownA (hatc _ _ rfl) | exact Cel.ownA (hatv 0 _ rfl) | exact Cel.ownA (hata _ _ rfl) | exact Cel.ownA (hatb _ _ rfl))) rfl (by kernel_rfl) ?_
      refine TA.takeP (i := 22) (ls := #[true, true, true, true, true, true, true, true, true, true, true, true, true, true, true, true, true, true, true, true, false, false, true]) rfl rfl rfl rfl rfl (by kernel_rfl) (by kernel_rfl) (by kernel_rfl) (by repeat (first | with_reducible exact PanicOk.body | with_reducible apply PanicOk.next | with_reducible apply PanicOk.block)) (OpV.move rfl) rfl (by kernel_rfl) ?_
      refine TA.one (i := 20) (ls := #[true, true, true, true, true, true, true, true, true, true, true, true, true, true, true, true, true, true, true, true, true, false, true]) (by kernel_rfl) rfl (by kernel_rfl) (fun w1 => ?_)
      refine TL.slit (qs := #[(0, _), (1, _), (2, _), (3, _)]) (fun _ f => by simp only [List.map_toArray, List.map_cons, List.map_nil]; rw [f.ev (x := .tmp 142) rfl]; (try rw [f.ev (x := .tmp 147) rfl]); (try rw [f.ev (x := .tmp 152) rfl]); (try rw [f.ev (x := .tmp 157) rfl])) (sl_42_4_0_1_2_3 cc) rfl ?_
      intro b158
      refine TL.nil ?_
      refine TA.cont ((.cons (by first | exact P0 | exact P1 | exact P2 | exact P3 | exact P4 | exact P5 | exact P6 | exact P7 | exact P8) .nil)) ?_
      refine TA.takeP (i := 21) (ls := #[true, true, true, true, true, true, true, true, true, true, true, true, true, true, true, true, true, true, true, true, true, true, true]) rfl rfl rfl rfl rfl (by kernel_rfl) (by kernel_rfl) (by kernel_rfl) (by repeat (first | with_reducible exact PanicOk.body | with_reducible apply PanicOk.next | with_reducible apply PanicOk.block)) (OpV.len Try.underlying42 rfl) rfl (by kernel_rfl) ?_
      refine TA.done (by kernel_rfl) ?_
      refine TE.sub (.cons (t := 2) rfl <| .cons (t := 7) rfl <| .cons (t := 8) rfl <| .cons (t := 10) rfl <| .cons (t := 11) rfl <| .cons (t := 15) rfl <| .cons (t := 16) rfl <| .cons (t := 17) rfl <| .cons (t := 158) rfl <| .cons (t := 159) rfl <| .cons (t := 160) rfl <| .nil) ?_
      refine TE.next ?_
      refine T.block ?_
      refine T.loop (ι := Nat) (fun v => v ≤ 4) (fun v => (4 - v)) (fun v => [(2, .int .i64 line), (7, .pointer (some ⟨b42, 0, none⟩)), (8, .slice A8 kk.length c8), (10, .slice A10 L.length c10), (11, .int .i64 (xs.length : Int)), (15, .slice A15 (cmdsV xs).length c15), (16, .int .i64 (((sumF ((cmdsV xs).take u)) + cnt4 ((fl4 cc).take v) : Nat) : Int)), (17, .int .i64 (u : Int)), (158, .slice (some ⟨b158, 0, none⟩) 4 4), (159, .int .i64 (4 : Int)), (160, .int .i64 (v : Int))]) (fun v => [.blk b158 ((fl4 cc).map Value.bool) 4, .blk b42 [.slice Am xs.length cm] 26, .row 31 3 Am xs.length cm (ml xs), .own σg, .own ν, .own κ, .fr σ]) 0 (Nat.zero_le _) (.cons (t := 2) rfl <| .cons (t := 7) rfl <| .cons (t := 8) rfl <| .cons (t := 10) rfl <| .cons (t := 11) rfl <| .cons (t := 15) rfl <| .cons (t := 16) (by rw [List.take_zero]; rfl) <| .cons (t := 17) rfl <| .cons (t := 158) rfl <| .cons (t := 159) rfl <| .cons (t := 160) rfl <| .nil) (Perm.kle (.cons (by first | exact P0 | exact P1 | exact P2 | exact P3 | exact P4 | exact P5 | exact P6 | exact P7 | exact P8) (.cons (by first | exact P0 | exact P1 | exact P2 | exact P3 | exact P4 | exact P5 | exact P6 | exact P7 | exact P8) (.cons (by first | exact P0 | exact P1 | exact P2 | exact P3 | exact P4 | exact P5 | exact P6 | exact P7 | exact P8) (.cons (by first | exact P0 | exact P1 | exact P2 | exact P3 | exact P4 | exact P5 | exact P6 | exact P7 | exact P8) (.cons (by first | exact P0 | exact P1 | exact P2 | exact P3 | exact P4 | exact P5 | exact P6 | exact P7 | exact P8) (.cons (by first | exact P0 | exact P1 | exact P2 | exact P3 | exact P4 | exact P5 | exact P6 | exact P7 | exact P8) (.cons (by first | exact P0 | exact P1 | exact P2 | exact P3 | exact P4 | exact P5 | exact P6 | exact P7 | exact P8) .nil)))))))) ?_
      rintro v hRv
      refine T.seq ?_
      refine T.region ?_
      refine TL.val (OpV.lss rfl rfl) rfl ?_
      refine TL.nil ?_
      refine TE.next ?_
      refine T.seq ?_
      refine T.cond rfl ?_ ?_
      ·
       intro ht161
       try simp only [decide_eq_true_eq, decide_eq_false_iff_not, beq_iff_eq, beq_eq_false_iff_ne, bne_iff_ne, bne_eq_false_iff_eq, Bool.not_eq_true', Bool.not_eq_false', ne_eq] at ht161
       have hv4 : v < 4 := by omega
       obtain ⟨bb, hbb⟩ : ∃ bb, (fl4 cc)[v]? = some bb := ⟨(fl4 cc)[v], List.getElem?_eq_getElem hv4⟩
       have hs2 := cnt_le ((fl4 cc).take v)
       rw [List.length_take] at hs2
       refine T.skip ?_
       refine TE.next ?_
       refine T.seq ?_
       refine T.block ?_
       refine T.seq ?_
       refine T.region ?_
       refine TL.val (OpV.indexAddr (j := v) se_42 rfl rfl rfl rfl (by omega)) rfl ?_
       refine TL.val (OpV.load pl_4 rfl (Cel.blk (by first | exact P0 | exact P1 | exact P2 | exact P3 | exact P4 | exact P5 | exact P6 | exact P7 | exact P8) (by rw [Nat.zero_add, Nat.mul_one, List.getElem?_map, hbb]; rfl))) rfl ?_
       refine TL.val (OpV.assign rfl) rfl ?_
       refine TL.nil ?_
       refine TE.next ?_
       refine T.seq ?_
       refine T.region ?_
       refine TL.val (OpV.move rfl) rfl ?_
       refine TL.nil ?_
       refine TE.next ?_
       refine T.cond rfl ?_ ?_
       ·
        intro ht164
        try simp only [decide_eq_true_eq, decide_eq_false_iff_not, beq_iff_eq, beq_eq_false_iff_ne, bne_iff_ne, bne_eq_false_iff_eq, Bool.not_eq_true', Bool.not_eq_false', ne_eq] at ht164
        refine T.region ?_
        refine TL.val (OpV.move rfl) rfl ?_
        refine TL.val (OpV.add rfl rfl (by first | exact IntWalk.i64_in _ ⟨by omega, by omega⟩ | rfl)) rfl ?_
        refine TL.val (OpV.assign rfl) rfl ?_
        refine TL.nil ?_
        refine TE.out ?_
        refine TE.sub (.cons (t := 2) rfl <| .cons (t := 7) rfl <| .cons (t := 8) rfl <| .cons (t := 10) rfl <| .cons (t := 11) rfl <| .cons (t := 15) rfl <| .cons (t := 16) rfl <| .cons (t := 17) rfl <| .cons (t := 158) rfl <| .cons (t := 159) rfl <| .cons (t := 160) rfl <| .nil) ?_
        refine TE.next ?_
        refine T.region ?_
        refine TL.val (OpV.add rfl rfl (by first | exact IntWalk.i64_in _ ⟨by omega, by omega⟩ | rfl)) rfl ?_
        refine TL.val (OpV.move rfl) rfl ?_
        refine TL.nil ?_
        exact TE.meet (v + 1) ⟨by omega, by omega⟩ (.cons (t := 2) (by first | rfl | (simp [lk]; done)) <| .cons (t := 7) (by first | rfl | (simp [lk]; done)) <| .cons (t := 8) (by first | rfl | (simp [lk]; done)) <| .cons (t := 10) (by first | rfl | (simp [lk]; done)) <| .cons (t := 11) (by first | rfl | (simp [lk]; done)) <| .cons (t := 15) (by first | rfl | (simp [lk]; done)) <| .cons (t := 16) (congrArg (fun z => some (Value.int .i64 z)) (by rw [take_snoc hbb, cnt_snoc, ht164]; show _ = ((_ + (_ + 1) : Nat) : Int); omega)) <| .cons (t := 17) (by first | rfl | (simp [lk]; done)) <| .cons (t := 158) (by first | rfl | (simp [lk]; done)) <| .cons (t := 159) (by first | rfl | (simp [lk]; done)) <| .cons (t := 160) (by first | rfl | (simp [lk]; done)) <| .nil) (Perm.kle (.cons (by first | exact P0 | exact P1 | exact P2 | exact P3 | exact P4 | exact P5 | exact P6 | exact P7 | exact P8) (.cons (by first | exact P0 | exact P1 | exact P2 | exact P3 | exact P4 | exact P5 | exact P6 | exact P7 | exact P8) (.cons (by first | exact P0 | exact P1 | exact P2 | exact P3 | exact P4 | exact P5 | exact P6 | exact P7 | exact P8) (.cons (by first | exact P0 | exact P1 | exact P2 | exact P3 | exact P4 | exact P5 | exact P6 | exact P7 | exact P8) (.cons (by first | exact P0 | exact P1 | exact P2 | exact P3 | exact P4 | exact P5 | exact P6 | exact P7 | exact P8) (.cons (by first | exact P0 | exact P1 | exact P2 | exact P3 | exact P4 | exact P5 | exact P6 | exact P7 | exact P8) (.cons (by first | exact P0 | exact P1 | exact P2 | exact P3 | exact P4 | exact P5 | exact P6 | exact P7 | exact P8) .nil))))))))
       ·
        intro ht164
        try simp only [decide_eq_true_eq, decide_eq_false_iff_not, beq_iff_eq, beq_eq_false_iff_ne, bne_iff_ne, bne_eq_false_iff_eq, Bool.not_eq_true', Bool.not_eq_false', ne_eq] at ht164
        refine T.skip ?_
        refine TE.out ?_
        refine TE.next ?_
        refine T.region ?_
        refine TL.val (OpV.add rfl rfl (by first | exact IntWalk.i64_in _ ⟨by omega, by omega⟩ | rfl)) rfl ?_
        refine TL.val (OpV.move rfl) rfl ?_
        refine TL.nil ?_
        exact TE.meet (v + 1) ⟨by omega, by omega⟩ (.cons (t := 2) (by first | rfl | (simp [lk]; done)) <| .cons (t := 7) (by first | rfl | (simp [lk]; done)) <| .cons (t := 8) (by first | rfl | (simp [lk]; done)) <| .cons (t := 10) (by first | rfl | (simp [lk]; done)) <| .cons (t := 11) (by first | rfl | (simp [lk]; done)) <| .cons (t := 15) (by first | rfl | (simp [lk]; done)) <| .cons (t := 16) (congrArg (fun z => some (Value.int .i64 z)) (by rw [take_snoc hbb, cnt_snoc, ht164]; rfl)) <| .cons (t := 17) (by first | rfl | (simp [lk]; done)) <| .cons (t := 158) (by first | rfl | (simp [lk]; done)) <| .cons (t := 159) (by first | rfl | (simp [lk]; done)) <| .cons (t := 160) (by first | rfl | (simp [lk]; done)) <| .nil) (Perm.kle (.cons (by first | exact P0 | exact P1 | exact P2 | exact P3 | exact P4 | exact P5 | exact P6 | exact P7 | exact P8) (.cons (by first | exact P0 | exact P1 | exact P2 | exact P3 | exact P4 | exact P5 | exact P6 | exact P7 | exact P8) (.cons (by first | exact P0 | exact P1 | exact P2 | exact P3 | exact P4 | exact P5 | exact P6 | exact P7 | exact P8) (.cons (by first | exact P0 | exact P1 | exact P2 | exact P3 | exact P4 | exact P5 | exact P6 | exact P7 | exact P8) (.cons (by first | exact P0 | exact P1 | exact P2 | exact P3 | exact P4 | exact P5 | exact P6 | exact P7 | exact P8) (.cons (by first | exact P0 | exact P1 | exact P2 | exact P3 | exact P4 | exact P5 | exact P6 | exact P7 | exact P8) (.cons (by first | exact P0 | exact P1 | exact P2 | exact P3 | exact P4 | exact P5 | exact P6 | exact P7 | exact P8) .nil))))))))
      ·
       intro ht161
       try simp only [decide_eq_true_eq, decide_eq_false_iff_not, beq_iff_eq, beq_eq_false_iff_ne, bne_iff_ne, bne_eq_false_iff_eq, Bool.not_eq_true', Bool.not_eq_false', ne_eq] at ht161
       have hvx : (fl4 cc).take v = fl4 cc := List.take_of_length_le (show 4 ≤ v by omega)
       refine T.exit ?_
       refine TE.pass_exit ?_
       refine TE.pass_exit ?_
       refine TE.here ?_
       refine TE.out ?_
       refine TE.next ?_
       refine T.region ?_
       refine TL.val (OpV.move rfl) rfl ?_
       refine TL.val (OpV.add rfl rfl (by first | exact IntWalk.i64_in _ ⟨by omega, by omega⟩ | rfl)) rfl ?_
       refine TL.val (OpV.assign rfl) rfl ?_
       refine TL.nil ?_
       exact TE.meet (u + 1) ⟨by omega, by omega⟩ (.cons (t := 2) (by first | rfl | (simp [lk]; done)) <| .cons (t := 7) (by first | rfl | (simp [lk]; done)) <| .cons (t := 8) (by first | rfl | (simp [lk]; done)) <| .cons (t := 10) (by first | rfl | (simp [lk]; done)) <| .cons (t := 11) (by first | rfl | (simp [lk]; done)) <| .cons (t := 15) (by first | rfl | (simp [lk]; done)) <| .cons (t := 16) (congrArg (fun z => some (Value.int .i64 z)) (by rw [take_snoc hcc, sumF_snoc, ← cnt_flags, hvx])) <| .cons (t := 17) (by first | rfl | (simp [lk]; done)) <| .nil) (Perm.kle (.cons (by first | exact P0 | exact P1 | exact P2 | exact P3 | exact P4 | exact P5 | exact P6 | exact P7 | exact P8) (.cons (by first | exact P0 | exact P1 | exact P2 | exact P3 | exact P4 | exact P5 | exact P6 | exact P7 | exact P8) (.cons (by first | exact P0 | exact P1 | exact P2 | exact P3 | exact P4 | exact P5 | exact P6 | exact P7 | exact P8) (.cons (by first | exact P0 | exact P1 | exact P2 | exact P3 | exact P4 | exact P5 | exact P6 | exact P7 | exact P8) (.cons (by first | exact P0 | exact P1 | exact P2 | exact P3 | exact P4 | exact P5 | exact P6 | exact P7 | exact P8) (.cons (by first | exact P0 | exact P1 | exact P2 | exact P3 | exact P4 | exact P5 | exact P6 | exact P7 | exact P8) .nil)))))))
     ·
      intro ht135
      try simp only [decide_eq_true_eq, decide_eq_false_iff_not, beq_iff_eq, beq_eq_false_iff_ne, bne_iff_ne, bne_eq_false_iff_eq, Bool.not_eq_true', Bool.not_eq_false', ne_eq] at ht135
      have hux : (cmdsV xs).take u = cmdsV xs := List.take_of_length_le (by omega)
      refine T.exit ?_
      refine TE.pass_exit ?_
      refine TE.pass_exit ?_
      refine TE.here ?_
      refine TE.next ?_
      refine T.seq ?_
      refine T.seq ?_
      refine T.region ?_
      refine TL.val (OpV.move rfl) rfl ?_
      refine TL.val (OpV.move rfl) rfl ?_
      refine TL.val (OpV.neq rfl rfl) rfl ?_
      refine TL.said (t := 170) rfl (show _ = Value.bool false from congrArg Value.bool (by rw [hux, sumF_all hd.1]; simp)) ?_
      refine TL.val (OpV.move rfl) rfl ?_
      refine TL.open rfl rfl ?_
      refine TL.val (OpV.move rfl) rfl ?_
      refine TL.open rfl rfl ?_
      refine TL.call (g := 10) rfl go_10 rfl (fun w1 k1 => len_c w1 (KOk.mo (b := b42) (c := cm) (T := 26) (e := 31) (A := Am) (xs := xs) k1 (by first | exact P0 | exact P1 | exact P2 | exact P3 | exact P4 | exact P5 | exact P6 | exact P7 | exact P8) (by first | exact P0 | exact P1 | exact P2 | exact P3 | exact P4 | exact P5 | exact P6 | exact P7 | exact P8)) (fun _ _ h => h)) rfl ?_
      refine TL.open rfl rfl ?_
      refine TL.val (OpV.move rfl) rfl ?_
      refine TL.open rfl rfl ?_
      refine TL.val (OpV.neq rfl rfl) rfl ?_
      refine TL.said (t := 175) rfl (show _ = Value.bool false from congrArg Value.bool (by simp)) ?_
      refine TL.val ((by first | exact OpV.pick_t rfl rfl | exact OpV.pick_f rfl rfl)) rfl ?_
      refine TL.nil ?_
      refine TE.sub (.cons (t := 2) rfl <| .cons (t := 7) rfl <| .cons (t := 8) rfl <| .cons (t := 10) rfl <| .cons (t := 176) rfl <| .nil) ?_
      refine TE.next ?_
      refine T.no rfl ?_
      refine T.skip ?_
      refine TE.next ?_
      refine T.seq ?_
      refine T.cut [(2, .int .i64 line), (7, .pointer (some ⟨b42, 0, none⟩))] ([.blk b42 [.slice Am xs.length cm] 26, .row 31 3 Am xs.length cm (ml xs)]) ?_ ?_
      ·
       refine T.seq ?_
       refine T.region ?_
       refine TL.val (OpV.move rfl) rfl ?_
       refine TL.val (OpV.len Try.underlying38 rfl) rfl ?_
       refine TL.val (OpV.gtr rfl rfl) rfl ?_
       refine TL.nil ?_
       refine TE.next ?_
       refine T.cond rfl ?_ ?_
       ·
        intro ht179
        try simp only [decide_eq_true_eq, decide_eq_false_iff_not, beq_iff_eq, beq_eq_false_iff_ne, bne_iff_ne, bne_eq_false_iff_eq, Bool.not_eq_true', Bool.not_eq_false', ne_eq] at ht179
        have hck := chk_kk hkb (by omega)
        refine T.seq ?_
        refine T.region ?_
        refine TL.val (OpV.assign rfl) rfl ?_
        refine TL.nil ?_
        refine TE.next ?_
        refine T.seq ?_
        refine T.seq ?_
        refine T.region ?_
        refine TL.val (OpV.assign rfl) rfl ?_
        refine TL.nil ?_
        refine TE.next ?_
        refine T.block ?_
        refine T.loop (ι := Nat) (fun u => u ≤ L.length) (fun u => (L.length - u)) (fun u => [(2, .int .i64 line), (7, .pointer (some ⟨b42, 0, none⟩)), (8, .slice A8 kk.length c8), (10, .slice A10 L.length c10), (20, .int .i64 (fromL L u)), (21, .int .i64 (u : Int))]) (fun u => [.blk b42 [.slice Am xs.length cm] 26, .row 31 3 Am xs.length cm (ml xs), .own ν, .own κ, .fr σ]) 0 (Nat.zero_le _) (.cons (t := 2) rfl <| .cons (t := 7) rfl <| .cons (t := 8) rfl <| .cons (t := 10) rfl <| .cons (t := 20) rfl <| .cons (t := 21) rfl <| .nil) (Perm.kle (.cons (by first | exact P0 | exact P1 | exact P2 | exact P3 | exact P4 | exact P5 | exact P6 | exact P7 | exact P8) (.cons (by first | exact P0 | exact P1 | exact P2 | exact P3 | exact P4 | exact P5 | exact P6 | exact P7 | exact P8) (.cons (by first | exact P0 | exact P1 | exact P2 | exact P3 | exact P4 | exact P5 | exact P6 | exact P7 | exact P8) (.cons (by first | exact P0 | exact P1 | exact P2 | exact P3 | exact P4 | exact P5 | exact P6 | exact P7 | exact P8) (.cons (by first | exact P0 | exact P1 | exact P2 | exact P3 | exact P4 | exact P5 | exact P6 | exact P7 | exact P8) .nil)))))) ?_
        rintro u hRu
        refine T.seq ?_
        refine T.seq ?_
        refine T.region ?_
        refine TL.val (OpV.move rfl) rfl ?_
        refine TL.val (OpV.move rfl) rfl ?_
        refine TL.val (OpV.len Try.underlying39 rfl) rfl ?_
        refine TL.val (OpV.lss rfl rfl) rfl ?_
        refine TL.nil ?_
        refine TE.next ?_
        refine T.cond rfl ?_ ?_
        ·
         intro ht183
         try simp only [decide_eq_true_eq, decide_eq_false_iff_not, beq_iff_eq, beq_eq_false_iff_ne, bne_iff_ne, bne_eq_false_iff_eq, Bool.not_eq_true', Bool.not_eq_false', ne_eq] at ht183
         obtain ⟨y, hyo, hyl, hyn⟩ := next_line hd (u := u) (by omega)
         obtain ⟨bl, ol, hAl, hatl⟩ := hll.pos (by omega)
         have hatv := hatl u y.ln hyl
         refine T.skip ?_
         refine TE.next ?_
         refine T.seq ?_
         refine T.block ?_
         refine T.seq ?_
         refine T.region ?_
         refine TL.val (OpV.move rfl) rfl ?_
         refine TL.val (OpV.move rfl) rfl ?_
         refine TL.val (OpV.move rfl) rfl ?_
         refine TL.call (g := 13) rfl go_13 rfl (fun w1 k1 => next_c (ks := kk) (fromL L u) w1 (KOk.mo (b := b42) (c := cm) (T := 26) (e := 31) (A := Am) (xs := xs) k1 (by first | exact P0 | exact P1 | exact P2 | exact P3 | exact P4 | exact P5 | exact P6 | exact P7 | exact P8) (by first | exact P0 | exact P1 | exact P2 | exact P3 | exact P4 | exact P5 | exact P6 | exact P7 | exact P8)) (hkk.mono (fun b o hb => (k1.get (e := .own κ) (by first | exact P0 | exact P1 | exact P2 | exact P3 | exact P4 | exact P5 | exact P6 | exact P7 | exact P8) b o hb).2)) (fun _ _ h => h) (fun _ _ h => h)) rfl ?_
         refine TL.said (t := 190) rfl (show _ = Value.tuple #[.agg y.l.toArray, .int .i64 0] by rw [hyo, (fnd_some hck).1, (fnd_some hck).2]) ?_
         refine TL.val (OpV.move rfl) rfl ?_
         refine TL.val (OpV.extract rfl rfl) rfl ?_
         refine TL.val (OpV.extract rfl rfl) rfl ?_
         refine TL.alloc zo_31 rfl ?_
         intro b22
         first
           | refine TL.storeAll rfl rfl szz_31 rfl rfl rfl (by first | exact P0 | exact P1 | exact P2 | exact P3 | exact P4 | exact P5 | exact P6 | exact P7 | exact P8) (by rfl) ?_
           | refine TL.store rfl rfl szz_31 rfl rfl rfl (by first | exact P0 | exact P1 | exact P2 | exact P3 | exact P4 | exact P5 | exact P6 | exact P7 | exact P8) (by first | exact Nat.le_of_ble_eq_true rfl | (simp; done) | (simp; omega)) (by simp only [Mk.l, Cm.l, iL, putL, List.take_succ_cons, List.take_zero, List.drop_succ_cons, List.drop_zero, List.cons_append, List.nil_append, List.length_cons, List.length_nil, Nat.reduceAdd]; rfl) ?_
         refine TL.val (OpV.assign rfl) rfl ?_
         refine TL.nil ?_
         refine TE.sub (.cons (t := 2) rfl <| .cons (t := 7) rfl <| .cons (t := 8) rfl <| .cons (t := 10) rfl <| .cons (t := 21) rfl <| .cons (t := 22) rfl <| .cons (t := 23) rfl <| .nil) ?_
         refine TE.next ?_
         refine T.seq ?_
         refine T.seq ?_
         refine T.quiet mix (by kernel_rfl) ?_
         refine TQ.val (OpV.move rfl) rfl ?_
         refine TQ.val (OpV.neq rfl rfl) rfl ?_
         refine TQ.said (t := 194) rfl (show _ = Value.bool false from congrArg Value.bool (rfl)) ?_
         refine TQ.val (OpV.move rfl) rfl ?_
         refine TQ.open rfl rfl ?_
         refine TQ.val (OpV.fieldAddr rfl fo_31_0) rfl ?_
         refine TQ.open rfl rfl ?_
         refine TQ.val (OpV.load pl_3 rfl (by first | exact Cel.blk P0 rfl | exact Cel.blk P1 rfl | exact Cel.blk P2 rfl | exact Cel.blk P3 rfl | exact Cel.blk P4 rfl | exact Cel.blk P5 rfl | exact Cel.blk P6 rfl | exact Cel.blk P7 rfl | exact Cel.blk P8 rfl | exact Cel.frA (hatx _ _ rfl) | exact Cel.frA (hatz 0 _ rfl) | exact Cel.ownA (hatq 0 _ rfl) | exact Cel.ownA (hatc _ _ rfl) | exact Cel.ownA (hatv 0 _ rfl) | exact Cel.ownA (hata _ _ rfl) | exact Cel.ownA (hatb _ _ rfl))) rfl ?_
         refine TQ.open rfl rfl ?_
         refine TQ.val (OpV.move rfl) rfl ?_
         refine TQ.open rfl rfl ?_
         refine TQ.val (OpV.move rfl) rfl ?_
         refine TQ.open rfl rfl ?_
         refine TQ.val (OpV.indexAddr (j := u) se_39 rfl hAl rfl rfl (by omega)) rfl ?_
         refine TQ.open rfl rfl ?_
         refine TQ.val (OpV.load pl_3 rfl (by first | exact Cel.blk P0 rfl | exact Cel.blk P1 rfl | exact Cel.blk P2 rfl | exact Cel.blk P3 rfl | exact Cel.blk P4 rfl | exact Cel.blk P5 rfl | exact Cel.blk P6 rfl | exact Cel.blk P7 rfl | exact Cel.blk P8 rfl | exact Cel.frA (hatx _ _ rfl) | exact Cel.frA (hatz 0 _ rfl) | exact Cel.ownA (hatq 0 _ rfl) | exact Cel.ownA (hatc _ _ rfl) | exact Cel.ownA (hatv 0 _ rfl) | exact Cel.ownA (hata _ _ rfl) | exact Cel.ownA (hatb _ _ rfl))) rfl ?_
         refine TQ.open rfl rfl ?_
         refine TQ.val (OpV.neq rfl rfl) rfl ?_
         refine TQ.said (t := 202) rfl (show _ = Value.bool false from congrArg Value.bool (by simp)) ?_
         refine TQ.val ((by first | exact OpV.pick_t rfl rfl | exact OpV.pick_f rfl rfl)) rfl ?_
         refine TQ.nil ?_
         refine TE.sub (.cons (t := 2) rfl <| .cons (t := 7) rfl <| .cons (t := 8) rfl <| .cons (t := 10) rfl <| .cons (t := 21) rfl <| .cons (t := 22) rfl <| .cons (t := 203) rfl <| .nil) ?_
         refine TE.next ?_
         refine T.no rfl ?_
         refine T.skip ?_
         refine TE.next ?_
         refine T.region ?_
         refine TL.val (OpV.fieldAddr rfl fo_31_0) rfl ?_
         refine TL.val (OpV.load pl_3 rfl (by first | exact Cel.blk P0 rfl | exact Cel.blk P1 rfl | exact Cel.blk P2 rfl | exact Cel.blk P3 rfl | exact Cel.blk P4 rfl | exact Cel.blk P5 rfl | exact Cel.blk P6 rfl | exact Cel.blk P7 rfl | exact Cel.blk P8 rfl | exact Cel.frA (hatx _ _ rfl) | exact Cel.frA (hatz 0 _ rfl) | exact Cel.ownA (hatq 0 _ rfl) | exact Cel.ownA (hatc _ _ rfl) | exact Cel.ownA (hatv 0 _ rfl) | exact Cel.ownA (hata _ _ rfl) | exact Cel.ownA (hatb _ _ rfl))) rfl ?_
         refine TL.val (OpV.assign rfl) rfl ?_
         refine TL.nil ?_
         refine TE.out ?_
         refine TE.next ?_
         refine T.region ?_
         refine TL.val (OpV.move rfl) rfl ?_
         refine TL.val (OpV.add rfl rfl (by first | exact IntWalk.i64_in _ ⟨by omega, by omega⟩ | rfl)) rfl ?_
         refine TL.val (OpV.assign rfl) rfl ?_
         refine TL.nil ?_
         exact TE.meet (u + 1) ⟨by omega, by omega⟩ (.cons (t := 2) (by first | rfl | (simp [lk]; done)) <| .cons (t := 7) (by first | rfl | (simp [lk]; done)) <| .cons (t := 8) (by first | rfl | (simp [lk]; done)) <| .cons (t := 10) (by first | rfl | (simp [lk]; done)) <| .cons (t := 20) (by rw [hyn]; rfl) <| .cons (t := 21) (by first | rfl | (simp [lk]; done)) <| .nil) (Perm.kle (.cons (by first | exact P0 | exact P1 | exact P2 | exact P3 | exact P4 | exact P5 | exact P6 | exact P7 | exact P8) (.cons (by first | exact P0 | exact P1 | exact P2 | exact P3 | exact P4 | exact P5 | exact P6 | exact P7 | exact P8) (.cons (by first | exact P0 | exact P1 | exact P2 | exact P3 | exact P4 | exact P5 | exact P6 | exact P7 | exact P8) (.cons (by first | exact P0 | exact P1 | exact P2 | exact P3 | exact P4 | exact P5 | exact P6 | exact P7 | exact P8) (.cons (by first | exact P0 | exact P1 | exact P2 | exact P3 | exact P4 | exact P5 | exact P6 | exact P7 | exact P8) .nil))))))
        ·
         intro ht183
         try simp only [decide_eq_true_eq, decide_eq_false_iff_not, beq_iff_eq, beq_eq_false_iff_ne, bne_iff_ne, bne_eq_false_iff_eq, Bool.not_eq_true', Bool.not_eq_false', ne_eq] at ht183
         have huL : u = L.length := by omega
         refine T.exit ?_
         refine TE.pass_exit ?_
         refine TE.pass_exit ?_
         refine TE.here ?_
         refine TE.next ?_
         refine T.seq ?_
         refine T.seq ?_
         refine T.region ?_
         refine TL.val (OpV.move rfl) rfl ?_
         refine TL.val (OpV.move rfl) rfl ?_
         refine TL.val (OpV.move rfl) rfl ?_
         refine TL.val (OpV.build (qs := #[]) (fun _ _ => by simp) (bld_31)) rfl ?_
         refine TL.call (g := 14) rfl go_14 rfl (fun w1 k1 => nexts_c (ks := kk) (fromL L u) Mk.zero 9 w1 (KOk.mo (b := b42) (c := cm) (T := 26) (e := 31) (A := Am) (xs := xs) k1 (by first | exact P0 | exact P1 | exact P2 | exact P3 | exact P4 | exact P5 | exact P6 | exact P7 | exact P8) (by first | exact P0 | exact P1 | exact P2 | exact P3 | exact P4 | exact P5 | exact P6 | exact P7 | exact P8)) (hkk.mono (fun b o hb => (k1.get (e := .own κ) (by first | exact P0 | exact P1 | exact P2 | exact P3 | exact P4 | exact P5 | exact P6 | exact P7 | exact P8) b o hb).2)) (fun _ _ h => h) (fun _ _ h => h)) rfl ?_
         refine TL.val (OpV.not rfl) rfl ?_
         refine TL.said (t := 211) rfl (show _ = Value.bool false from congrArg Value.bool (by rw [huL, next_end hd, (fnd_none hck).1, (fnd_none hck).2]; rfl)) ?_
         refine TL.nil ?_
         refine TE.sub (.cons (t := 2) rfl <| .cons (t := 7) rfl <| .cons (t := 8) rfl <| .cons (t := 10) rfl <| .cons (t := 211) rfl <| .nil) ?_
         refine TE.next ?_
         refine T.no rfl ?_
         refine T.skip ?_
         refine TE.next ?_
         refine T.seq ?_
         refine T.region ?_
         refine TL.val (OpV.assign rfl) rfl ?_
         refine TL.nil ?_
         refine TE.next ?_
         refine T.seq ?_
         refine T.region ?_
         refine TL.val (OpV.move rfl) rfl ?_
         refine TL.val (OpV.len Try.underlying39 rfl) rfl ?_
         refine TL.val (OpV.sub rfl rfl (by first | exact IntWalk.i64_in _ ⟨by omega, by omega⟩ | rfl)) rfl ?_
         refine TL.val (OpV.assign rfl) rfl ?_
         refine TL.nil ?_
         refine TE.next ?_
         refine T.block ?_
         refine T.loop (ι := Nat) (fun u => u ≤ L.length) (fun u => u) (fun u => [(2, .int .i64 line), (7, .pointer (some ⟨b42, 0, none⟩)), (8, .slice A8 kk.length c8), (10, .slice A10 L.length c10), (20, .int .i64 (toL L u)), (24, .int .i64 ((u : Int) - 1))]) (fun u => [.blk b42 [.slice Am xs.length cm] 26, .row 31 3 Am xs.length cm (ml xs), .own ν, .own κ, .fr σ]) L.length (Nat.le_refl _) (.cons (t := 2) rfl <| .cons (t := 7) rfl <| .cons (t := 8) rfl <| .cons (t := 10) rfl <| .cons (t := 20) (by rw [toL, List.getElem?_eq_none (Nat.le_refl _)]; rfl) <| .cons (t := 24) rfl <| .nil) (Perm.kle (.cons (by first | exact P0 | exact P1 | exact P2 | exact P3 | exact P4 | exact P5 | exact P6 | exact P7 | exact P8) (.cons (by first | exact P0 | exact P1 | exact P2 | exact P3 | exact P4 | exact P5 | exact P6 | exact P7 | exact P8) (.cons (by first | exact P0 | exact P1 | exact P2 | exact P3 | exact P4 | exact P5 | exact P6 | exact P7 | exact P8) (.cons (by first | exact P0 | exact P1 | exact P2 | exact P3 | exact P4 | exact P5 | exact P6 | exact P7 | exact P8) (.cons (by first | exact P0 | exact P1 | exact P2 | exact P3 | exact P4 | exact P5 | exact P6 | exact P7 | exact P8) .nil)))))) ?_
         rintro u hRu
         refine T.seq ?_
         refine T.seq ?_
         refine T.region ?_
         refine TL.val (OpV.move rfl) rfl ?_
         refine TL.val (OpV.geq rfl rfl) rfl ?_
         refine TL.nil ?_
         refine TE.next ?_
         refine T.cond rfl ?_ ?_
         ·
          intro ht216
          try simp only [decide_eq_true_eq, decide_eq_false_iff_not, beq_iff_eq, beq_eq_false_iff_ne, bne_iff_ne, bne_eq_false_iff_eq, Bool.not_eq_true', Bool.not_eq_false', ne_eq] at ht216
          obtain ⟨q, rfl⟩ : ∃ q, u = q + 1 := ⟨u - 1, by omega⟩
          obtain ⟨y, hyo, hyl, hyn⟩ := prev_line hd (u := q) (by omega)
          obtain ⟨bl, ol, hAl, hatl⟩ := hll.pos (by omega)
          have hatv := hatl q y.ln hyl
          refine T.skip ?_
          refine TE.next ?_
          refine T.seq ?_
          refine T.block ?_
          refine T.seq ?_
          refine T.region ?_
          refine TL.val (OpV.move rfl) rfl ?_
          refine TL.val (OpV.move rfl) rfl ?_
          refine TL.val (OpV.move rfl) rfl ?_
          refine TL.call (g := 15) rfl go_15 rfl (fun w1 k1 => prev_c (ks := kk) (toL L (q + 1)) w1 (KOk.mo (b := b42) (c := cm) (T := 26) (e := 31) (A := Am) (xs := xs) k1 (by first | exact P0 | exact P1 | exact P2 | exact P3 | exact P4 | exact P5 | exact P6 | exact P7 | exact P8) (by first | exact P0 | exact P1 | exact P2 | exact P3 | exact P4 | exact P5 | exact P6 | exact P7 | exact P8)) (hkk.mono (fun b o hb => (k1.get (e := .own κ) (by first | exact P0 | exact P1 | exact P2 | exact P3 | exact P4 | exact P5 | exact P6 | exact P7 | exact P8) b o hb).2)) (by have h9 := hd.1.2.2; omega) (fun _ _ h => h) (fun _ _ h => h)) rfl ?_
          refine TL.said (t := 223) rfl (show _ = Value.tuple #[.agg y.l.toArray, .int .i64 0] by rw [hyo, (fnd_some hck).1, (fnd_some hck).2]) ?_
          refine TL.val (OpV.move rfl) rfl ?_
          refine TL.val (OpV.extract rfl rfl) rfl ?_
          refine TL.val (OpV.extract rfl rfl) rfl ?_
          refine TL.alloc zo_31 rfl ?_
          intro b25
          first
            | refine TL.storeAll rfl rfl szz_31 rfl rfl rfl (by first | exact P0 | exact P1 | exact P2 | exact P3 | exact P4 | exact P5 | exact P6 | exact P7 | exact P8) (by rfl) ?_
            | refine TL.store rfl rfl szz_31 rfl rfl rfl (by first | exact P0 | exact P1 | exact P2 | exact P3 | exact P4 | exact P5 | exact P6 | exact P7 | exact P8) (by first | exact Nat.le_of_ble_eq_true rfl | (simp; done) | (simp; omega)) (by simp only [Mk.l, Cm.l, iL, putL, List.take_succ_cons, List.take_zero, List.drop_succ_cons, List.drop_zero, List.cons_append, List.nil_append, List.length_cons, List.length_nil, Nat.reduceAdd]; rfl) ?_
          refine TL.val (OpV.assign rfl) rfl ?_
          refine TL.nil ?_
          refine TE.sub (.cons (t := 2) rfl <| .cons (t := 7) rfl <| .cons (t := 8) rfl <| .cons (t := 10) rfl <| .cons (t := 24) rfl <| .cons (t := 25) rfl <| .cons (t := 26) rfl <| .nil) ?_
          refine TE.next ?_
          refine T.seq ?_
          refine T.seq ?_
          refine T.quiet mix (by kernel_rfl) ?_
          refine TQ.val (OpV.move rfl) rfl ?_
          refine TQ.val (OpV.neq rfl rfl) rfl ?_
          refine TQ.said (t := 227) rfl (show _ = Value.bool false from congrArg Value.bool (rfl)) ?_
          refine TQ.val (OpV.move rfl) rfl ?_
          refine TQ.open rfl rfl ?_
          refine TQ.val (OpV.fieldAddr rfl fo_31_0) rfl ?_
          refine TQ.open rfl rfl ?_
          refine TQ.val (OpV.load pl_3 rfl (by first | exact Cel.blk P0 rfl | exact Cel.blk P1 rfl | exact Cel.blk P2 rfl | exact Cel.blk P3 rfl | exact Cel.blk P4 rfl | exact Cel.blk P5 rfl | exact Cel.blk P6 rfl | exact Cel.blk P7 rfl | exact Cel.blk P8 rfl | exact Cel.frA (hatx _ _ rfl) | exact Cel.frA (hatz 0 _ rfl) | exact Cel.ownA (hatq 0 _ rfl) | exact Cel.ownA (hatc _ _ rfl) | exact Cel.ownA (hatv 0 _ rfl) | exact Cel.ownA (hata _ _ rfl) | exact Cel.ownA (hatb _ _ rfl))) rfl ?_
          refine TQ.open rfl rfl ?_
          refine TQ.val (OpV.move rfl) rfl ?_
          refine TQ.open rfl rfl ?_
          refine TQ.val (OpV.move rfl) rfl ?_
          refine TQ.open rfl rfl ?_
          refine TQ.val (OpV.indexAddr (j := q) se_39 rfl hAl rfl (by omega) (by omega)) rfl ?_
          refine TQ.open rfl rfl ?_
          refine TQ.val (OpV.load pl_3 rfl (by first | exact Cel.blk P0 rfl | exact Cel.blk P1 rfl | exact Cel.blk P2 rfl | exact Cel.blk P3 rfl | exact Cel.blk P4 rfl | exact Cel.blk P5 rfl | exact Cel.blk P6 rfl | exact Cel.blk P7 rfl | exact Cel.blk P8 rfl | exact Cel.frA (hatx _ _ rfl) | exact Cel.frA (hatz 0 _ rfl) | exact Cel.ownA (hatq 0 _ rfl) | exact Cel.ownA (hatc _ _ rfl) | exact Cel.ownA (hatv 0 _ rfl) | exact Cel.ownA (hata _ _ rfl) | exact Cel.ownA (hatb _ _ rfl))) rfl ?_
          refine TQ.open rfl rfl ?_
          refine TQ.val (OpV.neq rfl rfl) rfl ?_
          refine TQ.said (t := 235) rfl (show _ = Value.bool false from congrArg Value.bool (by simp)) ?_
          refine TQ.val ((by first | exact OpV.pick_t rfl rfl | exact OpV.pick_f rfl rfl)) rfl ?_
          refine TQ.nil ?_
          refine TE.sub (.cons (t := 2) rfl <| .cons (t := 7) rfl <| .cons (t := 8) rfl <| .cons (t := 10) rfl <| .cons (t := 24) rfl <| .cons (t := 25) rfl <| .cons (t := 236) rfl <| .nil) ?_
          refine TE.next ?_
          refine T.no rfl ?_
          refine T.skip ?_
          refine TE.next ?_
          refine T.region ?_
          refine TL.val (OpV.fieldAddr rfl fo_31_0) rfl ?_
          refine TL.val (OpV.load pl_3 rfl (by first | exact Cel.blk P0 rfl | exact Cel.blk P1 rfl | exact Cel.blk P2 rfl | exact Cel.blk P3 rfl | exact Cel.blk P4 rfl | exact Cel.blk P5 rfl | exact Cel.blk P6 rfl | exact Cel.blk P7 rfl | exact Cel.blk P8 rfl | exact Cel.frA (hatx _ _ rfl) | exact Cel.frA (hatz 0 _ rfl) | exact Cel.ownA (hatq 0 _ rfl) | exact Cel.ownA (hatc _ _ rfl) | exact Cel.ownA (hatv 0 _ rfl) | exact Cel.ownA (hata _ _ rfl) | exact Cel.ownA (hatb _ _ rfl))) rfl ?_
          refine TL.val (OpV.assign rfl) rfl ?_
          refine TL.nil ?_
          refine TE.out ?_
          refine TE.next ?_
          refine T.region ?_
          refine TL.val (OpV.move rfl) rfl ?_
          refine TL.val (OpV.sub rfl rfl (by first | exact IntWalk.i64_in _ ⟨by omega, by omega⟩ | rfl)) rfl ?_
          refine TL.val (OpV.assign rfl) rfl ?_
          refine TL.nil ?_
          exact TE.meet q ⟨by omega, by omega⟩ (.cons (t := 2) (by first | rfl | (simp [lk]; done)) <| .cons (t := 7) (by first | rfl | (simp [lk]; done)) <| .cons (t := 8) (by first | rfl | (simp [lk]; done)) <| .cons (t := 10) (by first | rfl | (simp [lk]; done)) <| .cons (t := 20) (by rw [hyn]; rfl) <| .cons (t := 24) (congrArg (fun z => some (Value.int .i64 z)) (by omega)) <| .nil) (Perm.kle (.cons (by first | exact P0 | exact P1 | exact P2 | exact P3 | exact P4 | exact P5 | exact P6 | exact P7 | exact P8) (.cons (by first | exact P0 | exact P1 | exact P2 | exact P3 | exact P4 | exact P5 | exact P6 | exact P7 | exact P8) (.cons (by first | exact P0 | exact P1 | exact P2 | exact P3 | exact P4 | exact P5 | exact P6 | exact P7 | exact P8) (.cons (by first | exact P0 | exact P1 | exact P2 | exact P3 | exact P4 | exact P5 | exact P6 | exact P7 | exact P8) (.cons (by first | exact P0 | exact P1 | exact P2 | exact P3 | exact P4 | exact P5 | exact P6 | exact P7 | exact P8) .nil))))))
         ·
          intro ht216
          try simp only [decide_eq_true_eq, decide_eq_false_iff_not, beq_iff_eq, beq_eq_false_iff_ne, bne_iff_ne, bne_eq_false_iff_eq, Bool.not_eq_true', Bool.not_eq_false', ne_eq] at ht216
          refine T.exit ?_
          refine TE.pass_exit ?_
          refine TE.pass_exit ?_
          refine TE.here ?_
          exact TE.met (.cons (t := 2) rfl <| .cons (t := 7) rfl <| .nil) (Perm.kle (.cons (by first | exact P0 | exact P1 | exact P2 | exact P3 | exact P4 | exact P5 | exact P6 | exact P7 | exact P8) (.cons (by first | exact P0 | exact P1 | exact P2 | exact P3 | exact P4 | exact P5 | exact P6 | exact P7 | exact P8) .nil)))
       ·
        intro ht179
        try simp only [decide_eq_true_eq, decide_eq_false_iff_not, beq_iff_eq, beq_eq_false_iff_ne, bne_iff_ne, bne_eq_false_iff_eq, Bool.not_eq_true', Bool.not_eq_false', ne_eq] at ht179
        refine T.skip ?_
        exact TE.met (.cons (t := 2) rfl <| .cons (t := 7) rfl <| .nil) (Perm.kle (.cons (by first | exact P0 | exact P1 | exact P2 | exact P3 | exact P4 | exact P5 | exact P6 | exact P7 | exact P8) (.cons (by first | exact P0 | exact P1 | exact P2 | exact P3 | exact P4 | exact P5 | exact P6 | exact P7 | exact P8) .nil)))
      refine TE.next ?_
      refine T.seq ?_
      refine T.region ?_
      refine TL.val (OpV.move rfl) rfl ?_
      refine TL.callx (g := 16) rfl go_16 rfl (fun wz kz => add_x kz (all_c wz (KOk.mo (b := b42) (c := cm) (T := 26) (e := 31) (A := Am) (xs := xs) kz (by first | exact P0 | exact P1 | exact P2 | exact P3 | exact P4 | exact P5 | exact P6 | exact P7 | exact P8) (by first | exact P0 | exact P1 | exact P2 | exact P3 | exact P4 | exact P5 | exact P6 | exact P7 | exact P8)) (fun _ _ h => h) (by have h9 := hd.1.2.2; omega))) rfl ?_
      rintro ⟨A27, c27⟩ hA27
      refine TL.val (OpV.assign rfl) rfl ?_
      refine TL.nil ?_
      refine TE.next ?_
      refine T.seq ?_
      refine T.ex (fun wz kz => KOk.rowOwn (kz.pick (e := .row 31 3 A27 xs.length c27 (ml xs)) (by first | exact P0 | exact P1 | exact P2 | exact P3 | exact P4 | exact P5 | exact P6 | exact P7 | exact P8))) ?_
      rintro σb hσb
      have hb27 : MsR σb A27 xs.length c27 xs := SlR.of_row Mk.l_length hσb rfl
      have hN := evN_le line xs
      refine T.region ?_
      refine TL.val (OpV.move rfl) rfl ?_
      refine TL.val (OpV.move rfl) rfl ?_
      refine TL.callx (g := 17) rfl go_17 rfl (fun wz kz => evict_c (xs := xs) line hAm (by have h9 := hd.1.2.2; omega) ((Perm.kle (.cons (by first | exact P0 | exact P1 | exact P2 | exact P3 | exact P4 | exact P5 | exact P6 | exact P7 | exact P8) (.cons (by first | exact P0 | exact P1 | exact P2 | exact P3 | exact P4 | exact P5 | exact P6 | exact P7 | exact P8) .all))) wz kz)) rfl ?_
      rintro ⟨A5, c5⟩ hA5
      refine TL.val (OpV.move rfl) rfl ?_
      refine TL.val (OpV.extract rfl rfl) rfl ?_
      refine TL.val (OpV.extract rfl rfl) rfl ?_
      refine TL.val (OpV.assign rfl) rfl ?_
      refine TL.val (OpV.assign rfl) rfl ?_
      refine TL.nil ?_
      refine TE.sub (.cons (t := 2) rfl <| .cons (t := 7) rfl <| .cons (t := 27) rfl <| .cons (t := 28) rfl <| .cons (t := 29) rfl <| .nil) ?_
      refine TE.next ?_
      refine T.seq ?_
      refine T.seq ?_
      refine T.region ?_
      refine TL.val (OpV.move rfl) rfl ?_
      refine TL.val (OpV.neq rfl rfl) rfl ?_
      refine TL.nil ?_
      refine TE.next ?_
      refine T.cond rfl ?_ ?_
      ·
       intro ht248
       try simp only [decide_eq_true_eq, decide_eq_false_iff_not, beq_iff_eq, beq_eq_false_iff_ne, bne_iff_ne, bne_eq_false_iff_eq, Bool.not_eq_true', Bool.not_eq_false', ne_eq] at ht248
       have hX : evX line xs = xs := by rw [evX, if_neg ht248]
       refine T.seq ?_
       refine T.region ?_
       refine TL.val (OpV.move rfl) rfl ?_
       refine TL.callx (g := 16) rfl go_16 rfl (fun wz kz => add_x kz (all_c wz (KOk.mo (b := b42) (c := c5) (T := 26) (e := 31) (A := A5) (xs := (evX line xs)) kz (by first | exact P0 | exact P1 | exact P2 | exact P3 | exact P4 | exact P5 | exact P6 | exact P7 | exact P8) (by first | exact P0 | exact P1 | exact P2 | exact P3 | exact P4 | exact P5 | exact P6 | exact P7 | exact P8)) (fun _ _ h => h) (by rw [hX]; have h9 := hd.1.2.2; omega))) rfl ?_
       rintro ⟨A6, c6⟩ hA6
       refine TL.val (OpV.len Try.underlying24 rfl) rfl ?_
       refine TL.val (OpV.move rfl) rfl ?_
       refine TL.val (OpV.len Try.underlying24 rfl) rfl ?_
       refine TL.val (OpV.eql rfl rfl) rfl ?_
       refine TL.said (t := 254) rfl (show _ = Value.bool true from congrArg Value.bool (by rw [hX]; simp)) ?_
       refine TL.val (OpV.move rfl) rfl ?_
       refine TL.open rfl rfl ?_
       refine TL.call (g := 7) rfl go_7 rfl (fun w1 k1 => known_c w1) rfl ?_
       refine TL.val ((by first | exact OpV.pick_t rfl rfl | exact OpV.pick_f rfl rfl)) rfl ?_
       refine TL.val (OpV.assign rfl) rfl ?_
       refine TL.nil ?_
       refine TE.sub (.cons (t := 6) rfl <| .nil) ?_
       refine TE.next ?_
       refine T.ret ?_
       refine TE.pass_ret ?_
       refine TE.ret1 rfl (ResV.tmp rfl) ?_
       exact fun w1 k1 => ⟨rfl, k1.bel⟩
      ·
       intro ht248
       try simp only [decide_eq_true_eq, decide_eq_false_iff_not, beq_iff_eq, beq_eq_false_iff_ne, bne_iff_ne, bne_eq_false_iff_eq, Bool.not_eq_true', Bool.not_eq_false', ne_eq] at ht248
       have hX : evX line xs = xs.drop (evN line xs) := by rw [evX, if_pos ht248]
       have hR2 : evR line xs = (evN line xs : Int) := by rw [evR, if_pos ht248]
       have hXl : (evX line xs).length = xs.length - evN line xs := by rw [hX, List.length_drop]
       refine T.skip ?_
       refine TE.next ?_
       refine T.seq ?_
       refine T.region ?_
       refine TL.val (OpV.move rfl) rfl ?_
       refine TL.callx (g := 16) rfl go_16 rfl (fun wz kz => add_x kz (all_c wz (KOk.mo (b := b42) (c := c5) (T := 26) (e := 31) (A := A5) (xs := (evX line xs)) kz (by first | exact P0 | exact P1 | exact P2 | exact P3 | exact P4 | exact P5 | exact P6 | exact P7 | exact P8) (by first | exact P0 | exact P1 | exact P2 | exact P3 | exact P4 | exact P5 | exact P6 | exact P7 | exact P8)) (fun _ _ h => h) (by have h9 := hd.1.2.2; omega))) rfl ?_
       rintro ⟨A30, c30⟩ hA30
       refine TL.val (OpV.assign rfl) rfl ?_
       refine TL.nil ?_
       refine TE.next ?_
       refine T.seq ?_
       refine T.seq ?_
       refine T.ex (fun wz kz => KOk.rowOwn (kz.pick (e := .row 31 3 A30 (evX line xs).length c30 (ml (evX line xs))) (by first | exact P0 | exact P1 | exact P2 | exact P3 | exact P4 | exact P5 | exact P6 | exact P7 | exact P8))) ?_
       rintro σa hσa
       have ha30 : MsR σa A30 (evX line xs).length c30 (evX line xs) := SlR.of_row Mk.l_length hσa rfl
       refine T.region ?_
       refine TL.val (OpV.move rfl) rfl ?_
       refine TL.val (OpV.move rfl) rfl ?_
       refine TL.val (OpV.len Try.underlying24 rfl) rfl ?_
       refine TL.val (OpV.add rfl rfl (by first | exact IntWalk.i64_in _ ⟨by omega, by omega⟩ | rfl)) rfl ?_
       refine TL.val (OpV.move rfl) rfl ?_
       refine TL.val (OpV.len Try.underlying24 rfl) rfl ?_
       refine TL.val (OpV.neq rfl rfl) rfl ?_
       refine TL.said (t := 266) rfl (show _ = Value.bool false from congrArg Value.bool (by rw [bne_eq_false_iff_eq]; omega)) ?_
       refine TL.val (OpV.move rfl) rfl ?_
       refine TL.open rfl rfl ?_
       refine TL.val (OpV.move rfl) rfl ?_
       refine TL.open rfl rfl ?_
       refine TL.val (OpV.lss rfl rfl) rfl ?_
       refine TL.said (t := 269) rfl (show _ = Value.bool false from congrArg Value.bool (decide_eq_false (by omega))) ?_
       refine TL.val ((by first | exact OpV.pick_t rfl rfl | exact OpV.pick_f rfl rfl)) rfl ?_
       refine TL.nil ?_
       refine TE.sub (.cons (t := 2) rfl <| .cons (t := 27) rfl <| .cons (t := 28) rfl <| .cons (t := 30) rfl <| .cons (t := 270) rfl <| .nil) ?_
       refine TE.next ?_
       refine T.no rfl ?_
       refine T.skip ?_
       refine TE.next ?_
       refine T.seq ?_
       refine T.seq ?_
       refine T.region ?_
       refine TL.val (OpV.assign rfl) rfl ?_
       refine TL.nil ?_
       refine TE.next ?_
       refine T.block ?_
       refine T.loop (ι := Nat) (fun u => u ≤ (evX line xs).length) (fun u => ((evX line xs).length - u)) (fun u => [(2, .int .i64 line), (27, .slice A27 xs.length c27), (28, .int .i64 (evR line xs)), (30, .slice A30 (evX line xs).length c30), (31, .int .i64 (u : Int))]) (fun u => [.own σa, .own σb]) 0 (Nat.zero_le _) (.cons (t := 2) rfl <| .cons (t := 27) rfl <| .cons (t := 28) rfl <| .cons (t := 30) rfl <| .cons (t := 31) rfl <| .nil) (Perm.kle (.cons (by first | exact P0 | exact P1 | exact P2 | exact P3 | exact P4 | exact P5 | exact P6 | exact P7 | exact P8) (.cons (by first | exact P0 | exact P1 | exact P2 | exact P3 | exact P4 | exact P5 | exact P6 | exact P7 | exact P8) .nil))) ?_
       rintro u hRu
       refine T.seq ?_
       refine T.seq ?_
       refine T.region ?_
       refine TL.val (OpV.move rfl) rfl ?_
       refine TL.val (OpV.move rfl) rfl ?_
       refine TL.val (OpV.len Try.underlying24 rfl) rfl ?_
       refine TL.val (OpV.lss rfl rfl) rfl ?_
       refine TL.nil ?_
       refine TE.next ?_
       refine T.cond rfl ?_ ?_
       ·
        intro ht274
        try simp only [decide_eq_true_eq, decide_eq_false_iff_not, beq_iff_eq, beq_eq_false_iff_ne, bne_iff_ne, bne_eq_false_iff_eq, Bool.not_eq_true', Bool.not_eq_false', ne_eq] at ht274
        obtain ⟨z, hz⟩ := get_of_lt rfl (show u < (evX line xs).length by omega)
        have hz2 : xs[evN line xs + u]? = some z := by rw [hX, List.getElem?_drop] at hz; exact hz
        have hge := ev_ge hd.1.2.1 hz2
        obtain ⟨ba, oa, hAa, hata0⟩ := ha30.pos (by omega)
        have hata := hata0 u z hz
        obtain ⟨bb, ob, hAb, hatb0⟩ := hb27.pos (by omega)
        have hatb := hatb0 _ z hz2
        refine T.skip ?_
        refine TE.next ?_
        refine T.seq ?_
        refine T.block ?_
        refine T.seq ?_
        refine T.quiet mix (by kernel_rfl) ?_
        refine TQ.val (OpV.move rfl) rfl ?_
        refine TQ.val (OpV.move rfl) rfl ?_
        refine TQ.val (OpV.indexAddr (j := u) se_24 rfl hAa rfl rfl (by omega)) rfl ?_
        refine TQ.val (OpV.loadA ag_31 rfl (Cels.ownA hata rfl)) rfl ?_
        refine TQ.val (OpV.move rfl) rfl ?_
        refine TQ.val (OpV.move rfl) rfl ?_
        refine TQ.val (OpV.move rfl) rfl ?_
        refine TQ.val (OpV.add rfl rfl (by first | exact IntWalk.i64_in _ ⟨by omega, by omega⟩ | rfl)) rfl ?_
        refine TQ.val (OpV.indexAddr (j := (evN line xs + u)) se_24 rfl hAb rfl (by omega) (by omega)) rfl ?_
        refine TQ.val (OpV.loadA ag_31 rfl (Cels.ownA hatb rfl)) rfl ?_
        refine TQ.val (OpV.aneq rfl rfl eg_31 (eq_31 z z)) rfl ?_
        refine TQ.said (t := 287) rfl (show _ = Value.bool false from congrArg Value.bool (by simp)) ?_
        refine TQ.val (OpV.move rfl) rfl ?_
        refine TQ.open rfl rfl ?_
        refine TQ.val (OpV.move rfl) rfl ?_
        refine TQ.open rfl rfl ?_
        refine TQ.val (OpV.move rfl) rfl ?_
        refine TQ.open rfl rfl ?_
        refine TQ.val (OpV.indexAddr (j := u) se_24 rfl hAa rfl rfl (by omega)) rfl ?_
        refine TQ.open rfl rfl ?_
        refine TQ.val (OpV.fieldAddr rfl fo_31_0) rfl ?_
        refine TQ.open rfl rfl ?_
        refine TQ.val (OpV.load pl_3 rfl (by first | exact Cel.blk P0 rfl | exact Cel.blk P1 rfl | exact Cel.blk P2 rfl | exact Cel.blk P3 rfl | exact Cel.blk P4 rfl | exact Cel.blk P5 rfl | exact Cel.blk P6 rfl | exact Cel.blk P7 rfl | exact Cel.blk P8 rfl | exact Cel.frA (hatx _ _ rfl) | exact Cel.frA (hatz 0 _ rfl) | exact Cel.ownA (hatq 0 _ rfl) | exact Cel.ownA (hatc _ _ rfl) | exact Cel.ownA (hatv 0 _ rfl) | exact Cel.ownA (hata _ _ rfl) | exact Cel.ownA (hatb _ _ rfl))) rfl ?_
        refine TQ.open rfl rfl ?_
        refine TQ.val (OpV.move rfl) rfl ?_
        refine TQ.open rfl rfl ?_
        refine TQ.val (OpV.lss rfl rfl) rfl ?_
        refine TQ.said (t := 295) rfl (show _ = Value.bool false from congrArg Value.bool (decide_eq_false (by omega))) ?_
        refine TQ.val ((by first | exact OpV.pick_t rfl rfl | exact OpV.pick_f rfl rfl)) rfl ?_
        refine TQ.nil ?_
        refine TE.sub (.cons (t := 2) rfl <| .cons (t := 27) rfl <| .cons (t := 28) rfl <| .cons (t := 30) rfl <| .cons (t := 31) rfl <| .cons (t := 296) rfl <| .nil) ?_
        refine TE.next ?_
        refine T.no rfl ?_
        refine T.skip ?_
        refine TE.out ?_
        refine TE.next ?_
        refine T.region ?_
        refine TL.val (OpV.move rfl) rfl ?_
        refine TL.val (OpV.add rfl rfl (by first | exact IntWalk.i64_in _ ⟨by omega, by omega⟩ | rfl)) rfl ?_
        refine TL.val (OpV.assign rfl) rfl ?_
        refine TL.nil ?_
        exact TE.meet (u + 1) ⟨by omega, by omega⟩ (.cons (t := 2) (by first | rfl | (simp [lk]; done)) <| .cons (t := 27) (by first | rfl | (simp [lk]; done)) <| .cons (t := 28) (by first | rfl | (simp [lk]; done)) <| .cons (t := 30) (by first | rfl | (simp [lk]; done)) <| .cons (t := 31) (by first | rfl | (simp [lk]; done)) <| .nil) (Perm.kle (.cons (by first | exact P0 | exact P1 | exact P2 | exact P3 | exact P4 | exact P5 | exact P6 | exact P7 | exact P8) (.cons (by first | exact P0 | exact P1 | exact P2 | exact P3 | exact P4 | exact P5 | exact P6 | exact P7 | exact P8) .nil)))
       ·
        intro ht274
        try simp only [decide_eq_true_eq, decide_eq_false_iff_not, beq_iff_eq, beq_eq_false_iff_ne, bne_iff_ne, bne_eq_false_iff_eq, Bool.not_eq_true', Bool.not_eq_false', ne_eq] at ht274
        refine T.exit ?_
        refine TE.pass_exit ?_
        refine TE.pass_exit ?_
        refine TE.here ?_
        refine TE.next ?_
        refine T.seq ?_
        refine T.region ?_
        refine TL.call (g := 7) rfl go_7 rfl (fun w1 k1 => known_c w1) rfl ?_
        refine TL.val (OpV.assign rfl) rfl ?_
        refine TL.nil ?_
        refine TE.sub (.cons (t := 6) rfl <| .nil) ?_
        refine TE.next ?_
        refine T.ret ?_
        refine TE.ret1 rfl (ResV.tmp rfl) ?_
        exact fun w1 k1 => ⟨rfl, k1.bel⟩
end Go.Proofs.Ytaoepaonjeilgaa
