/-
  The walk of the law MarksPlays. No condition.
-/
import Derived.Test.YtaoepaonjeilgaaMm
import Derived.Test.YtaoepaonjeilgaaMrs
namespace Go.Proofs.Ytaoepaonjeilgaa
open Go.RowKit
set_option linter.unusedSimpArgs false
set_option linter.unusedVariables false
theorem ag_52 : aggT Try.prog 52 = some 6 := by kernel_rfl
theorem fo_52_0 : fOff Try.prog 52 0 = some 0 := by kernel_rfl
theorem go_18 : isGo Try.prog 18 = true := by kernel_rfl
theorem go_21 : isGo Try.prog 21 = true := by kernel_rfl
theorem se_50 : sEl Try.prog 50 = some (52, 6) := by kernel_rfl
theorem szz_52 : sz Try.prog 52 = some 6 := by kernel_rfl
theorem zo_52 : zOf Try.prog 52 = some [.int .i64 0, .int .i64 0, .int .i64 0, .int .i64 0, .int .i64 0, .slice none 0 0] := by kernel_rfl
set_option maxRecDepth 100000 in
set_option maxHeartbeats 2000000 in
theorem marksPlays_law {σ : Nat → Option Obj} {A : Option Addr} {n c : Nat} {acts : List AcA} (w : World) (h : SlR 6 AcA.l σ A n c acts) (hk : ∀ a ∈ acts, ∃ ks : List Int, IsR σ a.A a.n a.c ks) (hs : ∀ b o, σ b = some o → w.heap[b]? = some o) : Calls Try.prog 5 #[.slice A n c] w (Ret (.bool true) w) := by
 have hn63 := h.2.1
 have hc63 := h.2.2.1
 have hl1 := h.1
 refine calls_T (vs := [.slice A n c]) (L0 := [(0, .slice A n c)]) Try.func5 rfl rfl rfl rfl (KOk.fr1 hs) ?_
 refine T.seq ?_
 refine T.region ?_
 refine TL.val (OpV.assign rfl) rfl ?_
 refine TL.nil ?_
 refine TE.next ?_
 refine T.seq ?_
 refine T.seq ?_
 refine T.region ?_
 refine TL.val (OpV.move rfl) rfl ?_
 refine TL.val (OpV.len Try.underlying50 rfl) rfl ?_
 refine TL.val (OpV.gtr rfl rfl) rfl ?_
 refine TL.nil ?_
 refine TE.next ?_
 refine T.cond rfl ?_ ?_
 ·
  intro ht21
  try simp only [decide_eq_true_eq, decide_eq_false_iff_not, beq_iff_eq, beq_eq_false_iff_ne, bne_iff_ne, bne_eq_false_iff_eq, Bool.not_eq_true', Bool.not_eq_false', ne_eq] at ht21
  refine T.seq ?_
  refine T.region ?_
  refine TL.call (g := 7) rfl go_7 rfl (fun w1 k1 => known_c w1) rfl ?_
  refine TL.val (OpV.assign rfl) rfl ?_
  refine TL.nil ?_
  refine TE.next ?_
  refine T.ret ?_
  refine TE.pass_ret ?_
  refine TE.ret1 rfl (ResV.tmp rfl) ?_
  exact fun w1 k1 => ⟨rfl, k1.bel⟩
 ·
  intro ht21
  try simp only [decide_eq_true_eq, decide_eq_false_iff_not, beq_iff_eq, beq_eq_false_iff_ne, bne_iff_ne, bne_eq_false_iff_eq, Bool.not_eq_true', Bool.not_eq_false', ne_eq] at ht21
  refine T.skip ?_
  refine TE.next ?_
  refine T.seq ?_
  refine T.region ?_
  refine TL.val (OpV.build (qs := #[]) (fun _ _ => by simp) bld_26) rfl ?_
  refine TL.boxA rfl rfl ?_
  intro b24
  refine TL.val (OpV.assign rfl) rfl ?_
  refine TL.nil ?_
  refine TE.next ?_
  refine T.seq ?_
  refine T.region ?_
  refine TL.val (OpV.assign rfl) rfl ?_
  refine TL.nil ?_
  refine TE.next ?_
  refine T.seq ?_
  refine T.seq ?_
  refine T.region ?_
  refine TL.val (OpV.assign rfl) rfl ?_
  refine TL.nil ?_
  refine TE.next ?_
  refine T.block ?_
  refine T.loop (ι := Nat × Nat × Option Addr × Nat × List Mk × Option Addr × Nat × (Nat → Option Obj)) (fun ⟨i, bm, Am, cm, xs, A4, c4, τ⟩ => i ≤ n ∧ xs.length ≤ i ∧ MOk xs ∧ (Am = none → cm = 0) ∧ MsR τ A4 xs.length c4 xs) (fun ⟨i, bm, Am, cm, xs, A4, c4, τ⟩ => (n - i)) (fun ⟨i, bm, Am, cm, xs, A4, c4, τ⟩ => [(0, .slice A n c), (3, .pointer (some ⟨bm, 0, none⟩)), (4, .slice A4 xs.length c4), (5, .int .i64 (i : Int))]) (fun ⟨i, bm, Am, cm, xs, A4, c4, τ⟩ => [.blk bm [.slice Am xs.length cm] 26, .row 31 3 Am xs.length cm (ml xs), .own τ, .fr σ]) (0, b24, none, 0, [], none, 0, fun _ => none) ⟨Nat.zero_le _, Nat.le_refl _, MOk.nil, fun _ => rfl, SlR.nil⟩ (.cons (t := 0) rfl <| .cons (t := 3) rfl <| .cons (t := 4) rfl <| .cons (t := 5) rfl <| .nil) ((Kle.trans (Kle.nilRow 31 3) (Kle.trans (fun wz kz => KOk.ownNil kz) (Perm.kle (.cons (by first | exact P0 | exact P1 | exact P2 | exact P3 | exact P4 | exact P5 | exact P6 | exact P7 | exact P8) (.cons (by first | exact P0 | exact P1 | exact P2 | exact P3 | exact P4 | exact P5 | exact P6 | exact P7 | exact P8) (.cons (by first | exact P0 | exact P1 | exact P2 | exact P3 | exact P4 | exact P5 | exact P6 | exact P7 | exact P8) (.cons (by first | exact P0 | exact P1 | exact P2 | exact P3 | exact P4 | exact P5 | exact P6 | exact P7 | exact P8) .nil)))))))) ?_
  rintro ⟨i, bm, Am, cm, xs, A4, c4, τ⟩ ⟨hR, hxl, hok, hAm, hx4⟩
  refine T.seq ?_
  refine T.seq ?_
  refine T.region ?_
  refine TL.val (OpV.move rfl) rfl ?_
  refine TL.val (OpV.move rfl) rfl ?_
  refine TL.val (OpV.len Try.underlying50 rfl) rfl ?_
  refine TL.val (OpV.lss rfl rfl) rfl ?_
  refine TL.nil ?_
  refine TE.next ?_
  refine T.cond rfl ?_ ?_
  ·
   intro ht28
   try simp only [decide_eq_true_eq, decide_eq_false_iff_not, beq_iff_eq, beq_eq_false_iff_ne, bne_iff_ne, bne_eq_false_iff_eq, Bool.not_eq_true', Bool.not_eq_false', ne_eq] at ht28
   have hi : i < n := by omega
   obtain ⟨a, haa⟩ := get_of_lt h.1 hi
   obtain ⟨ba, oa, hAa, hat⟩ := h.pos (by omega)
   have hata := hat i a haa
   obtain ⟨ks, hks⟩ := hk a (List.mem_of_getElem? haa)
   have hkl := hks.1
   refine T.skip ?_
   refine TE.next ?_
   refine T.seq ?_
   refine T.block ?_
   refine T.seq ?_
   refine T.region ?_
   refine TL.val (OpV.move rfl) rfl ?_
   refine TL.val (OpV.move rfl) rfl ?_
   refine TL.val (OpV.indexAddr (j := i) se_50 rfl hAa rfl rfl (by omega)) rfl ?_
   refine TL.val (OpV.loadA ag_52 rfl (Cels.frA hata rfl)) rfl ?_
   refine TL.alloc zo_52 rfl ?_
   intro b6
   first
     | refine TL.storeAll rfl rfl szz_52 rfl rfl rfl (by first | exact P0 | exact P1 | exact P2 | exact P3 | exact P4 | exact P5 | exact P6 | exact P7 | exact P8) (by rfl) ?_
     | refine TL.store rfl rfl szz_52 rfl rfl rfl (by first | exact P0 | exact P1 | exact P2 | exact P3 | exact P4 | exact P5 | exact P6 | exact P7 | exact P8) (by first | exact Nat.le_of_ble_eq_true rfl | (simp; done) | (simp; omega)) (by simp only [AcA.l, Mk.l, putL, List.take_succ_cons, List.take_zero, List.drop_succ_cons, List.drop_zero, List.cons_append, List.nil_append, List.length_cons, List.length_nil, Nat.reduceAdd]; rfl) ?_
   refine TL.nil ?_
   refine TE.sub (.cons (t := 0) rfl <| .cons (t := 3) rfl <| .cons (t := 4) rfl <| .cons (t := 5) rfl <| .cons (t := 6) rfl <| .nil) ?_
   refine TE.next ?_
   refine T.seq ?_
   refine T.seq ?_
   refine T.region ?_
   refine TL.val (OpV.fieldAddr rfl fo_52_3) rfl ?_
   refine TL.val (OpV.load pl_38 rfl (Cel.blk (by first | exact P0 | exact P1 | exact P2 | exact P3 | exact P4 | exact P5 | exact P6 | exact P7 | exact P8) (show a.l[5]? = some (.slice a.A a.n a.c) from rfl))) rfl ?_
   refine TL.val (OpV.len Try.underlying38 rfl) rfl ?_
   refine TL.val (OpV.gtr rfl rfl) rfl ?_
   refine TL.nil ?_
   refine TE.next ?_
   refine T.cond rfl ?_ ?_
   ·
    intro ht38
    try simp only [decide_eq_true_eq, decide_eq_false_iff_not, beq_iff_eq, beq_eq_false_iff_ne, bne_iff_ne, bne_eq_false_iff_eq, Bool.not_eq_true', Bool.not_eq_false', ne_eq] at ht38
    refine T.seq ?_
    refine T.region ?_
    refine TL.call (g := 7) rfl go_7 rfl (fun w1 k1 => known_c w1) rfl ?_
    refine TL.val (OpV.assign rfl) rfl ?_
    refine TL.nil ?_
    refine TE.sub (.cons (t := 2) rfl <| .nil) ?_
    refine TE.next ?_
    refine T.ret ?_
    refine TE.pass_ret ?_
    refine TE.out_ret ?_
    refine TE.pass_ret ?_
    refine TE.pass_ret ?_
    refine TE.out_ret ?_
    refine TE.pass_ret ?_
    refine TE.ret1 rfl (ResV.tmp rfl) ?_
    exact fun w1 k1 => ⟨rfl, k1.bel⟩
   ·
    intro ht38
    try simp only [decide_eq_true_eq, decide_eq_false_iff_not, beq_iff_eq, beq_eq_false_iff_ne, bne_iff_ne, bne_eq_false_iff_eq, Bool.not_eq_true', Bool.not_eq_false', ne_eq] at ht38
    refine T.skip ?_
    refine TE.next ?_
    refine T.seq ?_
    refine T.region ?_
    refine TL.val (OpV.assign rfl) rfl ?_
    refine TL.nil ?_
    refine TE.next ?_
    refine T.seq ?_
    refine T.region ?_
    refine TL.val (OpV.fieldAddr rfl fo_52_3) rfl ?_
    refine TL.val (OpV.load pl_38 rfl (Cel.blk (by first | exact P0 | exact P1 | exact P2 | exact P3 | exact P4 | exact P5 | exact P6 | exact P7 | exact P8) (show a.l[5]? = some (.slice a.A a.n a.c) from rfl))) rfl ?_
    refine TL.val (OpV.len Try.underlying38 rfl) rfl ?_
    refine TL.val (OpV.gtr rfl rfl) rfl ?_
    refine TL.val (OpV.assign rfl) rfl ?_
    refine TL.nil ?_
    refine TE.sub (.cons (t := 0) rfl <| .cons (t := 3) rfl <| .cons (t := 4) rfl <| .cons (t := 5) rfl <| .cons (t := 6) rfl <| .cons (t := 7) rfl <| .cons (t := 8) rfl <| .nil) ?_
    refine TE.next ?_
    refine T.seq ?_
    refine T.seq ?_
    refine T.region ?_
    refine TL.val (OpV.assign rfl) rfl ?_
    refine TL.nil ?_
    refine TE.next ?_
    refine T.block ?_
    refine T.loop (ι := Nat) (fun q => q ≤ a.n) (fun q => (a.n - q)) (fun q => [(0, .slice A n c), (3, .pointer (some ⟨bm, 0, none⟩)), (4, .slice A4 xs.length c4), (5, .int .i64 (i : Int)), (6, .pointer (some ⟨b6, 0, none⟩)), (7, .bool true), (8, .bool (fineV a.n ks q)), (9, .int .i64 (q : Int))]) (fun q => [.blk b6 a.l 52, .blk bm [.slice Am xs.length cm] 26, .row 31 3 Am xs.length cm (ml xs), .own τ, .fr σ]) 0 (Nat.zero_le _) (.cons (t := 0) rfl <| .cons (t := 3) rfl <| .cons (t := 4) rfl <| .cons (t := 5) rfl <| .cons (t := 6) rfl <| .cons (t := 7) rfl <| .cons (t := 8) (by rw [fineV, List.take_zero]; simp only [List.all_nil, Bool.and_true]; rfl) <| .cons (t := 9) rfl <| .nil) (Perm.kle (.cons (by first | exact P0 | exact P1 | exact P2 | exact P3 | exact P4 | exact P5 | exact P6 | exact P7 | exact P8) (.cons (by first | exact P0 | exact P1 | exact P2 | exact P3 | exact P4 | exact P5 | exact P6 | exact P7 | exact P8) (.cons (by first | exact P0 | exact P1 | exact P2 | exact P3 | exact P4 | exact P5 | exact P6 | exact P7 | exact P8) (.cons (by first | exact P0 | exact P1 | exact P2 | exact P3 | exact P4 | exact P5 | exact P6 | exact P7 | exact P8) (.cons (by first | exact P0 | exact P1 | exact P2 | exact P3 | exact P4 | exact P5 | exact P6 | exact P7 | exact P8) .nil)))))) ?_
    rintro q hRq
    refine T.seq ?_
    refine T.seq ?_
    refine T.region ?_
    refine TL.val (OpV.move rfl) rfl ?_
    refine TL.val (OpV.fieldAddr rfl fo_52_3) rfl ?_
    refine TL.val (OpV.load pl_38 rfl (Cel.blk (by first | exact P0 | exact P1 | exact P2 | exact P3 | exact P4 | exact P5 | exact P6 | exact P7 | exact P8) (show a.l[5]? = some (.slice a.A a.n a.c) from rfl))) rfl ?_
    refine TL.val (OpV.len Try.underlying38 rfl) rfl ?_
    refine TL.val (OpV.lss rfl rfl) rfl ?_
    refine TL.nil ?_
    refine TE.next ?_
    refine T.cond rfl ?_ ?_
    ·
     intro ht48
     try simp only [decide_eq_true_eq, decide_eq_false_iff_not, beq_iff_eq, beq_eq_false_iff_ne, bne_iff_ne, bne_eq_false_iff_eq, Bool.not_eq_true', Bool.not_eq_false', ne_eq] at ht48
     have hq : q < a.n := by omega
     obtain ⟨z, hz⟩ := get_of_lt hks.1 hq
     obtain ⟨bk, ok, hAk, hatk⟩ := hks.pos (by omega)
     have hatz := hatk q z hz
     refine T.skip ?_
     refine TE.next ?_
     refine T.seq ?_
     refine T.block ?_
     refine T.region ?_
     refine TL.val (OpV.move rfl) rfl ?_
     refine TL.val (OpV.move rfl) rfl ?_
     refine TL.part (t := 52) rfl ?_ ?_
     ·
      intro hg52
      try simp only [decide_eq_true_eq, decide_eq_false_iff_not, beq_iff_eq, beq_eq_false_iff_ne, bne_iff_ne, bne_eq_false_iff_eq, Bool.not_eq_true', Bool.not_eq_false', ne_eq] at hg52
      refine TL.open rfl rfl ?_
      refine TL.val (OpV.fieldAddr rfl fo_52_3) rfl ?_
      refine TL.open rfl rfl ?_
      refine TL.val (OpV.load pl_38 rfl (Cel.blk (by first | exact P0 | exact P1 | exact P2 | exact P3 | exact P4 | exact P5 | exact P6 | exact P7 | exact P8) (show a.l[5]? = some (.slice a.A a.n a.c) from rfl))) rfl ?_
      refine TL.open rfl rfl ?_
      refine TL.val (OpV.move rfl) rfl ?_
      refine TL.open rfl rfl ?_
      refine TL.val (OpV.indexAddr (j := q) se_38 rfl hAk rfl rfl (by omega)) rfl ?_
      refine TL.open rfl rfl ?_
      refine TL.val (OpV.load pl_29 rfl (by first | exact Cel.blk P0 rfl | exact Cel.blk P1 rfl | exact Cel.blk P2 rfl | exact Cel.blk P3 rfl | exact Cel.blk P4 rfl | exact Cel.blk P5 rfl | exact Cel.blk P6 rfl | exact Cel.blk P7 rfl | exact Cel.blk P8 rfl | exact Cel.ownA (haty _ _ rfl) | exact Cel.frA (hatz 0 _ rfl))) rfl ?_
      refine TL.open rfl rfl ?_
      refine TL.val (OpV.geq rfl rfl) rfl ?_
      refine TL.val ((by first | exact OpV.pick_t rfl rfl | exact OpV.pick_f rfl rfl)) rfl ?_
      refine TL.val (OpV.move rfl) rfl ?_
      refine TL.part (t := 60) rfl ?_ ?_
      ·
       intro hg60
       try simp only [decide_eq_true_eq, decide_eq_false_iff_not, beq_iff_eq, beq_eq_false_iff_ne, bne_iff_ne, bne_eq_false_iff_eq, Bool.not_eq_true', Bool.not_eq_false', ne_eq] at hg60
       refine TL.open rfl rfl ?_
       refine TL.val (OpV.fieldAddr rfl fo_52_3) rfl ?_
       refine TL.open rfl rfl ?_
       refine TL.val (OpV.load pl_38 rfl (Cel.blk (by first | exact P0 | exact P1 | exact P2 | exact P3 | exact P4 | exact P5 | exact P6 | exact P7 | exact P8) (show a.l[5]? = some (.slice a.A a.n a.c) from rfl))) rfl ?_
       refine TL.open rfl rfl ?_
       refine TL.val (OpV.move rfl) rfl ?_
       refine TL.open rfl rfl ?_
       refine TL.val (OpV.indexAddr (j := q) se_38 rfl hAk rfl rfl (by omega)) rfl ?_
       refine TL.open rfl rfl ?_
       refine TL.val (OpV.load pl_29 rfl (by first | exact Cel.blk P0 rfl | exact Cel.blk P1 rfl | exact Cel.blk P2 rfl | exact Cel.blk P3 rfl | exact Cel.blk P4 rfl | exact Cel.blk P5 rfl | exact Cel.blk P6 rfl | exact Cel.blk P7 rfl | exact Cel.blk P8 rfl | exact Cel.ownA (haty _ _ rfl) | exact Cel.frA (hatz 0 _ rfl))) rfl ?_
       refine TL.open rfl rfl ?_
       refine TL.val (OpV.leq rfl rfl) rfl ?_
       refine TL.val ((by first | exact OpV.pick_t rfl rfl | exact OpV.pick_f rfl rfl)) rfl ?_
       refine TL.val (OpV.assign rfl) rfl ?_
       refine TL.nil ?_
       refine TE.out ?_
       refine TE.sub (.cons (t := 0) rfl <| .cons (t := 3) rfl <| .cons (t := 4) rfl <| .cons (t := 5) rfl <| .cons (t := 6) rfl <| .cons (t := 7) rfl <| .cons (t := 8) rfl <| .cons (t := 9) rfl <| .nil) ?_
       refine TE.next ?_
       refine T.region ?_
       refine TL.val (OpV.move rfl) rfl ?_
       refine TL.val (OpV.add rfl rfl (by first | exact IntWalk.i64_in _ ⟨by omega, by omega⟩ | rfl)) rfl ?_
       refine TL.val (OpV.assign rfl) rfl ?_
       refine TL.nil ?_
       exact TE.meet (q + 1) ⟨by omega, by omega⟩ (.cons (t := 0) (by first | rfl | (simp [lk]; done)) <| .cons (t := 3) (by first | rfl | (simp [lk]; done)) <| .cons (t := 4) (by first | rfl | (simp [lk]; done)) <| .cons (t := 5) (by first | rfl | (simp [lk]; done)) <| .cons (t := 6) (by first | rfl | (simp [lk]; done)) <| .cons (t := 7) (by first | rfl | (simp [lk]; done)) <| .cons (t := 8) (by rw [fine_succ hz, hg52, kindB, decide_eq_true hg60]; rfl) <| .cons (t := 9) (by first | rfl | (simp [lk]; done)) <| .nil) (Perm.kle (.cons (by first | exact P0 | exact P1 | exact P2 | exact P3 | exact P4 | exact P5 | exact P6 | exact P7 | exact P8) (.cons (by first | exact P0 | exact P1 | exact P2 | exact P3 | exact P4 | exact P5 | exact P6 | exact P7 | exact P8) (.cons (by first | exact P0 | exact P1 | exact P2 | exact P3 | exact P4 | exact P5 | exact P6 | exact P7 | exact P8) (.cons (by first | exact P0 | exact P1 | exact P2 | exact P3 | exact P4 | exact P5 | exact P6 | exact P7 | exact P8) (.cons (by first | exact P0 | exact P1 | exact P2 | exact P3 | exact P4 | exact P5 | exact P6 | exact P7 | exact P8) .nil))))))
      ·
       intro hg60
       try simp only [decide_eq_true_eq, decide_eq_false_iff_not, beq_iff_eq, beq_eq_false_iff_ne, bne_iff_ne, bne_eq_false_iff_eq, Bool.not_eq_true', Bool.not_eq_false', ne_eq] at hg60
       refine TL.shut rfl rfl ?_
       refine TL.shut rfl rfl ?_
       refine TL.shut rfl rfl ?_
       refine TL.shut rfl rfl ?_
       refine TL.shut rfl rfl ?_
       refine TL.shut rfl rfl ?_
       refine TL.val ((by first | exact OpV.pick_t rfl rfl | exact OpV.pick_f rfl rfl)) rfl ?_
       refine TL.val (OpV.assign rfl) rfl ?_
       refine TL.nil ?_
       refine TE.out ?_
       refine TE.sub (.cons (t := 0) rfl <| .cons (t := 3) rfl <| .cons (t := 4) rfl <| .cons (t := 5) rfl <| .cons (t := 6) rfl <| .cons (t := 7) rfl <| .cons (t := 8) rfl <| .cons (t := 9) rfl <| .nil) ?_
       refine TE.next ?_
       refine T.region ?_
       refine TL.val (OpV.move rfl) rfl ?_
       refine TL.val (OpV.add rfl rfl (by first | exact IntWalk.i64_in _ ⟨by omega, by omega⟩ | rfl)) rfl ?_
       refine TL.val (OpV.assign rfl) rfl ?_
       refine TL.nil ?_
       exact TE.meet (q + 1) ⟨by omega, by omega⟩ (.cons (t := 0) (by first | rfl | (simp [lk]; done)) <| .cons (t := 3) (by first | rfl | (simp [lk]; done)) <| .cons (t := 4) (by first | rfl | (simp [lk]; done)) <| .cons (t := 5) (by first | rfl | (simp [lk]; done)) <| .cons (t := 6) (by first | rfl | (simp [lk]; done)) <| .cons (t := 7) (by first | rfl | (simp [lk]; done)) <| .cons (t := 8) (by rw [fine_succ hz, kindB, decide_eq_false hg60, Bool.false_and, Bool.and_false]; rfl) <| .cons (t := 9) (by first | rfl | (simp [lk]; done)) <| .nil) (Perm.kle (.cons (by first | exact P0 | exact P1 | exact P2 | exact P3 | exact P4 | exact P5 | exact P6 | exact P7 | exact P8) (.cons (by first | exact P0 | exact P1 | exact P2 | exact P3 | exact P4 | exact P5 | exact P6 | exact P7 | exact P8) (.cons (by first | exact P0 | exact P1 | exact P2 | exact P3 | exact P4 | exact P5 | exact P6 | exact P7 | exact P8) (.cons (by first | exact P0 | exact P1 | exact P2 | exact P3 | exact P4 | exact P5 | exact P6 | exact P7 | exact P8) (.cons (by first | exact P0 | exact P1 | exact P2 | exact P3 | exact P4 | exact P5 | exact P6 | exact P7 | exact P8) .nil))))))
     ·
      intro hg52
      try simp only [decide_eq_true_eq, decide_eq_false_iff_not, beq_iff_eq, beq_eq_false_iff_ne, bne_iff_ne, bne_eq_false_iff_eq, Bool.not_eq_true', Bool.not_eq_false', ne_eq] at hg52
      refine TL.shut rfl rfl ?_
      refine TL.shut rfl rfl ?_
      refine TL.shut rfl rfl ?_
      refine TL.shut rfl rfl ?_
      refine TL.shut rfl rfl ?_
      refine TL.shut rfl rfl ?_
      refine TL.val ((by first | exact OpV.pick_t rfl rfl | exact OpV.pick_f rfl rfl)) rfl ?_
      refine TL.val (OpV.move rfl) rfl ?_
      refine TL.shut rfl rfl ?_
      refine TL.shut rfl rfl ?_
      refine TL.shut rfl rfl ?_
      refine TL.shut rfl rfl ?_
      refine TL.shut rfl rfl ?_
      refine TL.shut rfl rfl ?_
      refine TL.val ((by first | exact OpV.pick_t rfl rfl | exact OpV.pick_f rfl rfl)) rfl ?_
      refine TL.val (OpV.assign rfl) rfl ?_
      refine TL.nil ?_
      refine TE.out ?_
      refine TE.sub (.cons (t := 0) rfl <| .cons (t := 3) rfl <| .cons (t := 4) rfl <| .cons (t := 5) rfl <| .cons (t := 6) rfl <| .cons (t := 7) rfl <| .cons (t := 8) rfl <| .cons (t := 9) rfl <| .nil) ?_
      refine TE.next ?_
      refine T.region ?_
      refine TL.val (OpV.move rfl) rfl ?_
      refine TL.val (OpV.add rfl rfl (by first | exact IntWalk.i64_in _ ⟨by omega, by omega⟩ | rfl)) rfl ?_
      refine TL.val (OpV.assign rfl) rfl ?_
      refine TL.nil ?_
      exact TE.meet (q + 1) ⟨by omega, by omega⟩ (.cons (t := 0) (by first | rfl | (simp [lk]; done)) <| .cons (t := 3) (by first | rfl | (simp [lk]; done)) <| .cons (t := 4) (by first | rfl | (simp [lk]; done)) <| .cons (t := 5) (by first | rfl | (simp [lk]; done)) <| .cons (t := 6) (by first | rfl | (simp [lk]; done)) <| .cons (t := 7) (by first | rfl | (simp [lk]; done)) <| .cons (t := 8) (by rw [fine_succ hz, hg52]; rfl) <| .cons (t := 9) (by first | rfl | (simp [lk]; done)) <| .nil) (Perm.kle (.cons (by first | exact P0 | exact P1 | exact P2 | exact P3 | exact P4 | exact P5 | exact P6 | exact P7 | exact P8) (.cons (by first | exact P0 | exact P1 | exact P2 | exact P3 | exact P4 | exact P5 | exact P6 | exact P7 | exact P8) (.cons (by first | exact P0 | exact P1 | exact P2 | exact P3 | exact P4 | exact P5 | exact P6 | exact P7 | exact P8) (.cons (by first | exact P0 | exact P1 | exact P2 | exact P3 | exact P4 | exact P5 | exact P6 | exact P7 | exact P8) (.cons (by first | exact P0 | exact P1 | exact P2 | exact P3 | exact P4 | exact P5 | exact P6 | exact P7 | exact P8) .nil))))))
    ·
     intro ht48
     try simp only [decide_eq_true_eq, decide_eq_false_iff_not, beq_iff_eq, beq_eq_false_iff_ne, bne_iff_ne, bne_eq_false_iff_eq, Bool.not_eq_true', Bool.not_eq_false', ne_eq] at ht48
     have hq0 : q = a.n := by omega
     rw [hq0]
     clear hq0 ht48 hRq q
     refine T.exit ?_
     refine TE.pass_exit ?_
     refine TE.pass_exit ?_
     refine TE.here ?_
     refine TE.next ?_
     refine T.seq ?_
     refine T.cutx (ι := Nat × Option Addr × Nat × List Mk × Option Addr × Nat × (Nat → Option Obj)) (fun ⟨bm2, Am2, cm2, xs2, A42, c42, τ2⟩ => xs2.length ≤ i + 1 ∧ MOk xs2 ∧ (Am2 = none → cm2 = 0) ∧ MsR τ2 A42 xs2.length c42 xs2) (fun ⟨bm2, Am2, cm2, xs2, A42, c42, τ2⟩ => [(0, .slice A n c), (3, .pointer (some ⟨bm2, 0, none⟩)), (4, .slice A42 xs2.length c42), (5, .int .i64 (i : Int)), (6, .pointer (some ⟨b6, 0, none⟩)), (7, .bool true)]) (fun ⟨bm2, Am2, cm2, xs2, A42, c42, τ2⟩ => [.blk b6 a.l 52, .blk bm2 [.slice Am2 xs2.length cm2] 26, .row 31 3 Am2 xs2.length cm2 (ml xs2), .own τ2, .fr σ]) ?_ ?_
     rotate_left
     ·
      refine T.seq ?_
      refine T.region ?_
      refine TL.val (OpV.fieldAddr rfl fo_52_0) rfl ?_
      refine TL.val (OpV.load pl_3 rfl (Cel.blk (by first | exact P0 | exact P1 | exact P2 | exact P3 | exact P4 | exact P5 | exact P6 | exact P7 | exact P8) (show a.l[0]? = some (.int .i64 a.what) from rfl))) rfl ?_
      refine TL.nil ?_
      refine TE.sub (.cons (t := 0) rfl <| .cons (t := 3) rfl <| .cons (t := 4) rfl <| .cons (t := 5) rfl <| .cons (t := 6) rfl <| .cons (t := 7) rfl <| .cons (t := 8) rfl <| .cons (t := 69) rfl <| .nil) ?_
      refine TE.next ?_
      refine T.block ?_
      refine T.seq ?_
      refine T.region ?_
      refine TL.val (OpV.eql rfl rfl) rfl ?_
      refine TL.val (OpV.assign rfl) rfl ?_
      refine TL.nil ?_
      refine TE.next ?_
      refine T.cond rfl ?_ ?_
      ·
       intro ht78
       try simp only [decide_eq_true_eq, decide_eq_false_iff_not, beq_iff_eq, beq_eq_false_iff_ne, bne_iff_ne, bne_eq_false_iff_eq, Bool.not_eq_true', Bool.not_eq_false', ne_eq] at ht78
       refine T.seq ?_
       refine T.region ?_
       refine TL.val (OpV.assign rfl) rfl ?_
       refine TL.nil ?_
       refine TE.next ?_
       refine T.seq ?_
       refine T.block ?_
       refine T.seq ?_
       refine T.region ?_
       refine TL.val (OpV.fieldAddr rfl fo_52_1) rfl ?_
       refine TL.val (OpV.loadA ag_31 rfl (Cels.blkAt a.mrk.l (by first | exact P0 | exact P1 | exact P2 | exact P3 | exact P4 | exact P5 | exact P6 | exact P7 | exact P8) rfl rfl)) rfl ?_
       refine TL.call (g := 18) rfl go_18 rfl (fun w1 k1 => valid_c a.mrk w1) rfl ?_
       refine TL.val (OpV.not rfl) rfl ?_
       refine TL.val (OpV.assign rfl) rfl ?_
       refine TL.nil ?_
       refine TE.sub (.cons (t := 0) rfl <| .cons (t := 3) rfl <| .cons (t := 4) rfl <| .cons (t := 5) rfl <| .cons (t := 6) rfl <| .cons (t := 10) rfl <| .cons (t := 86) rfl <| .nil) ?_
       refine TE.next ?_
       refine T.cond rfl ?_ ?_
       ·
        intro ht86
        try simp only [decide_eq_true_eq, decide_eq_false_iff_not, beq_iff_eq, beq_eq_false_iff_ne, bne_iff_ne, bne_eq_false_iff_eq, Bool.not_eq_true', Bool.not_eq_false', ne_eq] at ht86
        have hpe : putE xs a.mrk = 2 := by rw [putE, ht86]; rfl
        have hpx : putX xs a.mrk = xs := by rw [putX, hpe, if_neg (by decide)]
        refine T.region ?_
        refine TL.val (OpV.assign rfl) rfl ?_
        refine TL.nil ?_
        refine TE.out ?_
        refine TE.next ?_
        refine T.region ?_
        refine TL.val (OpV.move rfl) rfl ?_
        refine TL.val (OpV.fieldAddr rfl fo_52_1) rfl ?_
        refine TL.val (OpV.loadA ag_31 rfl (Cels.blkAt a.mrk.l (by first | exact P0 | exact P1 | exact P2 | exact P3 | exact P4 | exact P5 | exact P6 | exact P7 | exact P8) rfl rfl)) rfl ?_
        refine TL.callx (g := 8) rfl go_8 rfl (fun wz kz => put_c (xs := xs) a.mrk hAm (by omega) ((Perm.kle (.cons (by first | exact P0 | exact P1 | exact P2 | exact P3 | exact P4 | exact P5 | exact P6 | exact P7 | exact P8) (.cons (by first | exact P0 | exact P1 | exact P2 | exact P3 | exact P4 | exact P5 | exact P6 | exact P7 | exact P8) .all))) wz kz)) rfl ?_
        rintro ⟨A3, c3⟩ hA3
        rw [hpx]
        refine TL.val (OpV.move rfl) rfl ?_
        refine TL.val (OpV.eql rfl rfl) rfl ?_
        refine TL.said (t := 113) rfl (show _ = Value.bool true from congrArg Value.bool (by rw [hpe]; rfl)) ?_
        refine TL.val (OpV.assign rfl) rfl ?_
        refine TL.nil ?_
        refine TE.out ?_
        exact TE.meet ⟨bm, A3, c3, xs, A4, c4, τ⟩ ⟨by omega, hok, hA3, hx4⟩ (.cons (t := 0) rfl <| .cons (t := 3) rfl <| .cons (t := 4) rfl <| .cons (t := 5) rfl <| .cons (t := 6) rfl <| .cons (t := 7) rfl <| .nil) (Perm.kle (.cons (by first | exact P0 | exact P1 | exact P2 | exact P3 | exact P4 | exact P5 | exact P6 | exact P7 | exact P8) (.cons (by first | exact P0 | exact P1 | exact P2 | exact P3 | exact P4 | exact P5 | exact P6 | exact P7 | exact P8) (.cons (by first | exact P0 | exact P1 | exact P2 | exact P3 | exact P4 | exact P5 | exact P6 | exact P7 | exact P8) (.cons (by first | exact P0 | exact P1 | exact P2 | exact P3 | exact P4 | exact P5 | exact P6 | exact P7 | exact P8) (.cons (by first | exact P0 | exact P1 | exact P2 | exact P3 | exact P4 | exact P5 | exact P6 | exact P7 | exact P8) .nil))))))
       ·
        intro ht86
        try simp only [decide_eq_true_eq, decide_eq_false_iff_not, beq_iff_eq, beq_eq_false_iff_ne, bne_iff_ne, bne_eq_false_iff_eq, Bool.not_eq_true', Bool.not_eq_false', ne_eq] at ht86
        have hok1 : okM a.mrk = true := ht86
        refine T.seq ?_
        refine T.quiet mix (by kernel_rfl) ?_
        refine TQ.val (OpV.move rfl) rfl ?_
        refine TQ.val (OpV.len Try.underlying24 rfl) rfl ?_
        refine TQ.val (OpV.gtr rfl rfl) rfl ?_
        refine TQ.val (OpV.move rfl) rfl ?_
        refine TQ.part (t := 95) rfl ?_ ?_
        ·
         intro hg95
         try simp only [decide_eq_true_eq, decide_eq_false_iff_not, beq_iff_eq, beq_eq_false_iff_ne, bne_iff_ne, bne_eq_false_iff_eq, Bool.not_eq_true', Bool.not_eq_false', ne_eq] at hg95
         obtain ⟨y, hy⟩ := get_of_lt rfl (show xs.length - 1 < xs.length by omega)
         obtain ⟨b4, o4, hA4, hat4⟩ := hx4.pos (by omega)
         have haty := hat4 _ y hy
         have hbf : beforeB xs a.mrk = decide (a.mrk.ln < y.ln) := by rw [beforeB, show lastM xs = some y from hy]
         refine TQ.open rfl rfl ?_
         refine TQ.val (OpV.move rfl) rfl ?_
         refine TQ.open rfl rfl ?_
         refine TQ.val (OpV.move rfl) rfl ?_
         refine TQ.open rfl rfl ?_
         refine TQ.val (OpV.len Try.underlying24 rfl) rfl ?_
         refine TQ.open rfl rfl ?_
         refine TQ.val (OpV.sub rfl rfl (by first | exact IntWalk.i64_in _ ⟨by omega, by omega⟩ | rfl)) rfl ?_
         refine TQ.open rfl rfl ?_
         refine TQ.val (OpV.indexAddr (j := (xs.length - 1)) se_24 rfl hA4 rfl (by omega) (by omega)) rfl ?_
         refine TQ.open rfl rfl ?_
         refine TQ.val (OpV.fieldAddr rfl fo_31_0) rfl ?_
         refine TQ.open rfl rfl ?_
         refine TQ.val (OpV.load pl_3 rfl (by first | exact Cel.blk P0 rfl | exact Cel.blk P1 rfl | exact Cel.blk P2 rfl | exact Cel.blk P3 rfl | exact Cel.blk P4 rfl | exact Cel.blk P5 rfl | exact Cel.blk P6 rfl | exact Cel.blk P7 rfl | exact Cel.blk P8 rfl | exact Cel.ownA (haty _ _ rfl) | exact Cel.frA (hatz 0 _ rfl))) rfl ?_
         refine TQ.open rfl rfl ?_
         refine TQ.val (OpV.fieldAddr rfl fo_52_1) rfl ?_
         refine TQ.open rfl rfl ?_
         refine TQ.val (OpV.fieldAddr rfl fo_31_0) rfl ?_
         refine TQ.open rfl rfl ?_
         refine TQ.val (OpV.load pl_3 rfl (Cel.blk (by first | exact P0 | exact P1 | exact P2 | exact P3 | exact P4 | exact P5 | exact P6 | exact P7 | exact P8) (show a.l[1]? = some (.int .i64 a.mrk.ln) from rfl))) rfl ?_
         refine TQ.open rfl rfl ?_
         refine TQ.val (OpV.gtr rfl rfl) rfl ?_
         refine TQ.val ((by first | exact OpV.pick_t rfl rfl | exact OpV.pick_f rfl rfl)) rfl ?_
         refine TQ.val (OpV.assign rfl) rfl ?_
         refine TQ.nil ?_
         refine TE.sub (.cons (t := 0) rfl <| .cons (t := 3) rfl <| .cons (t := 4) rfl <| .cons (t := 5) rfl <| .cons (t := 6) rfl <| .cons (t := 10) rfl <| .cons (t := 91) rfl <| .nil) ?_
         refine TE.next ?_
         refine T.cond rfl ?_ ?_
         ·
          intro ht91
          try simp only [decide_eq_true_eq, decide_eq_false_iff_not, beq_iff_eq, beq_eq_false_iff_ne, bne_iff_ne, bne_eq_false_iff_eq, Bool.not_eq_true', Bool.not_eq_false', ne_eq] at ht91
          have hpe : putE xs a.mrk = 13 := by rw [putE, hok1, hbf, decide_eq_true ht91]; rfl
          have hpx : putX xs a.mrk = xs := by rw [putX, hpe, if_neg (by decide)]
          refine T.region ?_
          refine TL.val (OpV.assign rfl) rfl ?_
          refine TL.nil ?_
          refine TE.out ?_
          refine TE.next ?_
          refine T.region ?_
          refine TL.val (OpV.move rfl) rfl ?_
          refine TL.val (OpV.fieldAddr rfl fo_52_1) rfl ?_
          refine TL.val (OpV.loadA ag_31 rfl (Cels.blkAt a.mrk.l (by first | exact P0 | exact P1 | exact P2 | exact P3 | exact P4 | exact P5 | exact P6 | exact P7 | exact P8) rfl rfl)) rfl ?_
          refine TL.callx (g := 8) rfl go_8 rfl (fun wz kz => put_c (xs := xs) a.mrk hAm (by omega) ((Perm.kle (.cons (by first | exact P0 | exact P1 | exact P2 | exact P3 | exact P4 | exact P5 | exact P6 | exact P7 | exact P8) (.cons (by first | exact P0 | exact P1 | exact P2 | exact P3 | exact P4 | exact P5 | exact P6 | exact P7 | exact P8) .all))) wz kz)) rfl ?_
          rintro ⟨A3, c3⟩ hA3
          rw [hpx]
          refine TL.val (OpV.move rfl) rfl ?_
          refine TL.val (OpV.eql rfl rfl) rfl ?_
          refine TL.said (t := 113) rfl (show _ = Value.bool true from congrArg Value.bool (by rw [hpe]; rfl)) ?_
          refine TL.val (OpV.assign rfl) rfl ?_
          refine TL.nil ?_
          refine TE.out ?_
          exact TE.meet ⟨bm, A3, c3, xs, A4, c4, τ⟩ ⟨by omega, hok, hA3, hx4⟩ (.cons (t := 0) rfl <| .cons (t := 3) rfl <| .cons (t := 4) rfl <| .cons (t := 5) rfl <| .cons (t := 6) rfl <| .cons (t := 7) rfl <| .nil) (Perm.kle (.cons (by first | exact P0 | exact P1 | exact P2 | exact P3 | exact P4 | exact P5 | exact P6 | exact P7 | exact P8) (.cons (by first | exact P0 | exact P1 | exact P2 | exact P3 | exact P4 | exact P5 | exact P6 | exact P7 | exact P8) (.cons (by first | exact P0 | exact P1 | exact P2 | exact P3 | exact P4 | exact P5 | exact P6 | exact P7 | exact P8) (.cons (by first | exact P0 | exact P1 | exact P2 | exact P3 | exact P4 | exact P5 | exact P6 | exact P7 | exact P8) (.cons (by first | exact P0 | exact P1 | exact P2 | exact P3 | exact P4 | exact P5 | exact P6 | exact P7 | exact P8) .nil))))))
         ·
          intro ht91
          try simp only [decide_eq_true_eq, decide_eq_false_iff_not, beq_iff_eq, beq_eq_false_iff_ne, bne_iff_ne, bne_eq_false_iff_eq, Bool.not_eq_true', Bool.not_eq_false', ne_eq] at ht91
          have hnb : ¬ decide (a.mrk.ln < y.ln) = true := by rw [decide_eq_false ht91]; decide
          have hpe : putE xs a.mrk = 0 := by rw [putE, hok1, hbf, if_pos rfl, if_neg hnb, if_neg (by omega)]
          have hpx : putX xs a.mrk = xs ++ [a.mrk] := by rw [putX, hpe, if_pos rfl]
          refine T.kle (Kle.nilRow 31 3) ?_
          refine T.any ([.blk b6 a.l 52]) [] mix rfl rfl ?_
          refine TA.takeP (i := 0) (ls := #[true, false, false, false, false, false, false]) rfl rfl rfl rfl rfl (by kernel_rfl) (by kernel_rfl) (by kernel_rfl) (by repeat (first | with_reducible exact PanicOk.body | with_reducible apply PanicOk.next | with_reducible apply PanicOk.block)) (OpV.move rfl) rfl (by kernel_rfl) ?_
          refine TA.takeP (i := 2) (ls := #[true, false, true, false, false, false, false]) rfl rfl rfl rfl rfl (by kernel_rfl) (by kernel_rfl) (by kernel_rfl) (by repeat (first | with_reducible exact PanicOk.body | with_reducible apply PanicOk.next | with_reducible apply PanicOk.block)) (OpV.fieldAddr rfl fo_52_1) rfl (by kernel_rfl) ?_
          refine TA.take (i := 3) (ls := #[true, false, true, true, false, false, false]) rfl rfl rfl rfl rfl (by kernel_rfl) (by kernel_rfl) (by kernel_rfl) (by kernel_rfl) (by repeat (first | with_reducible exact PanicOk.body | with_reducible apply PanicOk.next | with_reducible apply PanicOk.block)) ((.cons (by first | exact P0 | exact P1 | exact P2 | exact P3 | exact P4 | exact P5 | exact P6 | exact P7 | exact P8) .nil)) (OpV.loadA ag_31 rfl (Cels.blkAt a.mrk.l (by first | exact P0 | exact P1 | exact P2 | exact P3 | exact P4 | exact P5 | exact P6 | exact P7 | exact P8) rfl rfl)) rfl (by kernel_rfl) ?_
          refine TA.two (i := 1) (i' := 4) (ls := #[true, true, true, true, false, false, false]) (ls' := #[true, false, true, true, true, false, false]) (by kernel_rfl) rfl rfl (by kernel_rfl) (by kernel_rfl) (fun w1 => ?_) (fun w1 => ?_)
          ·
           obtain ⟨ti81, hi81, hz81, hs81, hb81⟩ := info_parts inf_31
           refine TL.append rfl rfl Try.underlying24 hi81 hz81 hs81 hb81 rfl (by omega) (by first | exact P0 | exact P1 | exact P2 | exact P3 | exact P4 | exact P5 | exact P6 | exact P7 | exact P8) (Src.sl Mk.l_length (by decide) (fun wz kz b o hb => (kz.get (e := .own τ) (by first | exact P0 | exact P1 | exact P2 | exact P3 | exact P4 | exact P5 | exact P6 | exact P7 | exact P8) b o hb).2) hx4) (fun h9 => hx4.2.2.2.1 h9) (ml_one _) (by omega) (by omega) rfl ?_
           clear hi81 hz81 hs81 hb81 ti81
           intro A81 c81 hn81
           refine TL.nil ?_
           refine TA.cont ((.cons (by first | exact P0 | exact P1 | exact P2 | exact P3 | exact P4 | exact P5 | exact P6 | exact P7 | exact P8) .nil)) ?_
           refine TA.one (i := 4) (ls := #[true, true, true, true, true, false, false]) (by kernel_rfl) rfl (by kernel_rfl) (fun w1 => ?_)
           refine TL.slit (qs := #[(0, _)]) (fun _ f => by simp only [List.map_toArray, List.map_cons, List.map_nil]; rw [f.ev (x := .tmp 83) rfl]) (sl_24_1_0 a.mrk) rfl ?_
           intro b84
           refine TL.nil ?_
           refine TA.cont ((.cons (by first | exact P0 | exact P1 | exact P2 | exact P3 | exact P4 | exact P5 | exact P6 | exact P7 | exact P8) .nil)) ?_
           refine TA.one (i := 5) (ls := #[true, true, true, true, true, true, false]) (by kernel_rfl) rfl (by kernel_rfl) (fun w1 => ?_)
           obtain ⟨ti85, hi85, hz85, hs85, hb85⟩ := info_parts inf_31
           refine TL.append rfl rfl Try.underlying24 hi85 hz85 hs85 hb85 rfl (by omega) (by first | exact P0 | exact P1 | exact P2 | exact P3 | exact P4 | exact P5 | exact P6 | exact P7 | exact P8) (by first | exact Src.nil | exact Src.blk P0 rfl | exact Src.blk P1 rfl | exact Src.blk P2 rfl | exact Src.blk P3 rfl | exact Src.blk P4 rfl | exact Src.blk P5 rfl | exact Src.blk P6 rfl | exact Src.blk P7 rfl | exact Src.blk P8 rfl | exact Src.row P0 | exact Src.row P1 | exact Src.row P2 | exact Src.row P3 | exact Src.row P4 | exact Src.row P5 | exact Src.row P6 | exact Src.row P7 | exact Src.row P8) (fun h => by cases h) rfl (by omega) (by omega) rfl ?_
           clear hi85 hz85 hs85 hb85 ti85
           intro A85 c85 hn85
           refine TL.nil ?_
           refine TA.cont ((.cons (by first | exact P0 | exact P1 | exact P2 | exact P3 | exact P4 | exact P5 | exact P6 | exact P7 | exact P8) .nil)) ?_
           refine TA.takeP (i := 6) (ls := #[true, true, true, true, true, true, true]) rfl rfl rfl rfl rfl (by kernel_rfl) (by kernel_rfl) (by kernel_rfl) (by repeat (first | with_reducible exact PanicOk.body | with_reducible apply PanicOk.next | with_reducible apply PanicOk.block)) (OpV.assign rfl) rfl (by kernel_rfl) ?_
           refine TA.done (by kernel_rfl) ?_
           refine TE.out ?_
           refine TE.sub (.cons (t := 0) rfl <| .cons (t := 3) rfl <| .cons (t := 4) rfl <| .cons (t := 5) rfl <| .cons (t := 6) rfl <| .cons (t := 10) rfl <| .nil) ?_
           refine TE.next ?_
           refine T.ex (fun wz kz => KOk.rowOwn (kz.pick (e := .row 31 3 A85 (0 + xs.length + 1) c85 ([] ++ ml xs ++ a.mrk.l)) (by first | exact P0 | exact P1 | exact P2 | exact P3 | exact P4 | exact P5 | exact P6 | exact P7 | exact P8))) ?_
           rintro τ5 hτ5
           have hx5 : MsR τ5 A85 (xs ++ [a.mrk]).length c85 (xs ++ [a.mrk]) := by rw [Nat.zero_add, List.nil_append, ← ml_snoc] at hτ5; rw [List.length_append]; exact SlR.of_row Mk.l_length hτ5 (by simp)
           refine T.region ?_
           refine TL.val (OpV.move rfl) rfl ?_
           refine TL.val (OpV.fieldAddr rfl fo_52_1) rfl ?_
           refine TL.val (OpV.loadA ag_31 rfl (Cels.blkAt a.mrk.l (by first | exact P0 | exact P1 | exact P2 | exact P3 | exact P4 | exact P5 | exact P6 | exact P7 | exact P8) rfl rfl)) rfl ?_
           refine TL.callx (g := 8) rfl go_8 rfl (fun wz kz => put_c (xs := xs) a.mrk hAm (by omega) ((Perm.kle (.cons (by first | exact P0 | exact P1 | exact P2 | exact P3 | exact P4 | exact P5 | exact P6 | exact P7 | exact P8) (.cons (by first | exact P0 | exact P1 | exact P2 | exact P3 | exact P4 | exact P5 | exact P6 | exact P7 | exact P8) .all))) wz kz)) rfl ?_
           rintro ⟨A3, c3⟩ hA3
           rw [hpx]
           refine TL.val (OpV.move rfl) rfl ?_
           refine TL.val (OpV.eql rfl rfl) rfl ?_
           refine TL.said (t := 113) rfl (show _ = Value.bool true from congrArg Value.bool (by rw [hpe]; rfl)) ?_
           refine TL.val (OpV.assign rfl) rfl ?_
           refine TL.nil ?_
           refine TE.out ?_
           exact TE.meet ⟨bm, A3, c3, xs ++ [a.mrk], A85, c85, τ5⟩ ⟨by simp only [List.length_append, List.length_cons, List.length_nil]; omega, (by have h9 := hok.put a.mrk; rwa [hpx] at h9), hA3, hx5⟩ (.cons (t := 0) rfl <| .cons (t := 3) rfl <| .cons (t := 4) (by simp only [List.length_append, List.length_cons, List.length_nil, Nat.zero_add]; rfl) <| .cons (t := 5) rfl <| .cons (t := 6) rfl <| .cons (t := 7) rfl <| .nil) (Perm.kle (.cons (by first | exact P0 | exact P1 | exact P2 | exact P3 | exact P4 | exact P5 | exact P6 | exact P7 | exact P8) (.cons (by first | exact P0 | exact P1 | exact P2 | exact P3 | exact P4 | exact P5 | exact P6 | exact P7 | exact P8) (.cons (by first | exact P0 | exact P1 | exact P2 | exact P3 | exact P4 | exact P5 | exact P6 | exact P7 | exact P8) (.cons (by first | exact P0 | exact P1 | exact P2 | exact P3 | exact P4 | exact P5 | exact P6 | exact P7 | exact P8) (.cons (by first | exact P0 | exact P1 | exact P2 | exact P3 | exact P4 | exact P5 | exact P6 | exact P7 | exact P8) .nil))))))
          ·
           refine TL.slit (qs := #[(0, _)]) (fun _ f => by simp only [List.map_toArray, List.map_cons, List.map_nil]; rw [f.ev (x := .tmp 83) rfl]) (sl_24_1_0 a.mrk) rfl ?_
           intro b84
           refine TL.nil ?_
           refine TA.cont ((.cons (by first | exact P0 | exact P1 | exact P2 | exact P3 | exact P4 | exact P5 | exact P6 | exact P7 | exact P8) .nil)) ?_
           refine TA.one (i := 1) (ls := #[true, true, true, true, true, false, false]) (by kernel_rfl) rfl (by kernel_rfl) (fun w1 => ?_)
           obtain ⟨ti81, hi81, hz81, hs81, hb81⟩ := info_parts inf_31
           refine TL.append rfl rfl Try.underlying24 hi81 hz81 hs81 hb81 rfl (by omega) (by first | exact P0 | exact P1 | exact P2 | exact P3 | exact P4 | exact P5 | exact P6 | exact P7 | exact P8) (Src.sl Mk.l_length (by decide) (fun wz kz b o hb => (kz.get (e := .own τ) (by first | exact P0 | exact P1 | exact P2 | exact P3 | exact P4 | exact P5 | exact P6 | exact P7 | exact P8) b o hb).2) hx4) (fun h9 => hx4.2.2.2.1 h9) (ml_one _) (by omega) (by omega) rfl ?_
           clear hi81 hz81 hs81 hb81 ti81
           intro A81 c81 hn81
           refine TL.nil ?_
           refine TA.cont ((.cons (by first | exact P0 | exact P1 | exact P2 | exact P3 | exact P4 | exact P5 | exact P6 | exact P7 | exact P8) .nil)) ?_
           refine TA.one (i := 5) (ls := #[true, true, true, true, true, true, false]) (by kernel_rfl) rfl (by kernel_rfl) (fun w1 => ?_)
           obtain ⟨ti85, hi85, hz85, hs85, hb85⟩ := info_parts inf_31
           refine TL.append rfl rfl Try.underlying24 hi85 hz85 hs85 hb85 rfl (by omega) (by first | exact P0 | exact P1 | exact P2 | exact P3 | exact P4 | exact P5 | exact P6 | exact P7 | exact P8) (by first | exact Src.nil | exact Src.blk P0 rfl | exact Src.blk P1 rfl | exact Src.blk P2 rfl | exact Src.blk P3 rfl | exact Src.blk P4 rfl | exact Src.blk P5 rfl | exact Src.blk P6 rfl | exact Src.blk P7 rfl | exact Src.blk P8 rfl | exact Src.row P0 | exact Src.row P1 | exact Src.row P2 | exact Src.row P3 | exact Src.row P4 | exact Src.row P5 | exact Src.row P6 | exact Src.row P7 | exact Src.row P8) (fun h => by cases h) rfl (by omega) (by omega) rfl ?_
           clear hi85 hz85 hs85 hb85 ti85
           intro A85 c85 hn85
           refine TL.nil ?_
           refine TA.cont ((.cons (by first | exact P0 | exact P1 | exact P2 | exact P3 | exact P4 | exact P5 | exact P6 | exact P7 | exact P8) .nil)) ?_
           refine TA.takeP (i := 6) (ls := #[true, true, true, true, true, true, true]) rfl rfl rfl rfl rfl (by kernel_rfl) (by kernel_rfl) (by kernel_rfl) (by repeat (first | with_reducible exact PanicOk.body | with_reducible apply PanicOk.next | with_reducible apply PanicOk.block)) (OpV.assign rfl) rfl (by kernel_rfl) ?_
           refine TA.done (by kernel_rfl) ?_
           refine TE.out ?_
           refine TE.sub (.cons (t := 0) rfl <| .cons (t := 3) rfl <| .cons (t := 4) rfl <| .cons (t := 5) rfl <| .cons (t := 6) rfl <| .cons (t := 10) rfl <| .nil) ?_
           refine TE.next ?_
           refine T.ex (fun wz kz => KOk.rowOwn (kz.pick (e := .row 31 3 A85 (0 + xs.length + 1) c85 ([] ++ ml xs ++ a.mrk.l)) (by first | exact P0 | exact P1 | exact P2 | exact P3 | exact P4 | exact P5 | exact P6 | exact P7 | exact P8))) ?_
           rintro τ5 hτ5
           have hx5 : MsR τ5 A85 (xs ++ [a.mrk]).length c85 (xs ++ [a.mrk]) := by rw [Nat.zero_add, List.nil_append, ← ml_snoc] at hτ5; rw [List.length_append]; exact SlR.of_row Mk.l_length hτ5 (by simp)
           refine T.region ?_
           refine TL.val (OpV.move rfl) rfl ?_
           refine TL.val (OpV.fieldAddr rfl fo_52_1) rfl ?_
           refine TL.val (OpV.loadA ag_31 rfl (Cels.blkAt a.mrk.l (by first | exact P0 | exact P1 | exact P2 | exact P3 | exact P4 | exact P5 | exact P6 | exact P7 | exact P8) rfl rfl)) rfl ?_
           refine TL.callx (g := 8) rfl go_8 rfl (fun wz kz => put_c (xs := xs) a.mrk hAm (by omega) ((Perm.kle (.cons (by first | exact P0 | exact P1 | exact P2 | exact P3 | exact P4 | exact P5 | exact P6 | exact P7 | exact P8) (.cons (by first | exact P0 | exact P1 | exact P2 | exact P3 | exact P4 | exact P5 | exact P6 | exact P7 | exact P8) .all))) wz kz)) rfl ?_
           rintro ⟨A3, c3⟩ hA3
           rw [hpx]
           refine TL.val (OpV.move rfl) rfl ?_
           refine TL.val (OpV.eql rfl rfl) rfl ?_
           refine TL.said (t := 113) rfl (show _ = Value.bool true from congrArg Value.bool (by rw [hpe]; rfl)) ?_
           refine TL.val (OpV.assign rfl) rfl ?_
           refine TL.nil ?_
           refine TE.out ?_
           exact TE.meet ⟨bm, A3, c3, xs ++ [a.mrk], A85, c85, τ5⟩ ⟨by simp only [List.length_append, List.length_cons, List.length_nil]; omega, (by have h9 := hok.put a.mrk; rwa [hpx] at h9), hA3, hx5⟩ (.cons (t := 0) rfl <| .cons (t := 3) rfl <| .cons (t := 4) (by simp only [List.length_append, List.length_cons, List.length_nil, Nat.zero_add]; rfl) <| .cons (t := 5) rfl <| .cons (t := 6) rfl <| .cons (t := 7) rfl <| .nil) (Perm.kle (.cons (by first | exact P0 | exact P1 | exact P2 | exact P3 | exact P4 | exact P5 | exact P6 | exact P7 | exact P8) (.cons (by first | exact P0 | exact P1 | exact P2 | exact P3 | exact P4 | exact P5 | exact P6 | exact P7 | exact P8) (.cons (by first | exact P0 | exact P1 | exact P2 | exact P3 | exact P4 | exact P5 | exact P6 | exact P7 | exact P8) (.cons (by first | exact P0 | exact P1 | exact P2 | exact P3 | exact P4 | exact P5 | exact P6 | exact P7 | exact P8) (.cons (by first | exact P0 | exact P1 | exact P2 | exact P3 | exact P4 | exact P5 | exact P6 | exact P7 | exact P8) .nil))))))
        ·
         intro hg95
         try simp only [decide_eq_true_eq, decide_eq_false_iff_not, beq_iff_eq, beq_eq_false_iff_ne, bne_iff_ne, bne_eq_false_iff_eq, Bool.not_eq_true', Bool.not_eq_false', ne_eq] at hg95
         have hx0 : xs = [] := List.length_eq_zero_iff.1 (by omega)
         have hbf : beforeB xs a.mrk = false := by rw [hx0]; rfl
         have hnb : ¬ false = true := by decide
         refine TQ.shut rfl rfl ?_
         refine TQ.shut rfl rfl ?_
         refine TQ.shut rfl rfl ?_
         refine TQ.shut rfl rfl ?_
         refine TQ.shut rfl rfl ?_
         refine TQ.shut rfl rfl ?_
         refine TQ.shut rfl rfl ?_
         refine TQ.shut rfl rfl ?_
         refine TQ.shut rfl rfl ?_
         refine TQ.shut rfl rfl ?_
         refine TQ.shut rfl rfl ?_
         refine TQ.val ((by first | exact OpV.pick_t rfl rfl | exact OpV.pick_f rfl rfl)) rfl ?_
         refine TQ.val (OpV.assign rfl) rfl ?_
         refine TQ.nil ?_
         refine TE.sub (.cons (t := 0) rfl <| .cons (t := 3) rfl <| .cons (t := 4) rfl <| .cons (t := 5) rfl <| .cons (t := 6) rfl <| .cons (t := 10) rfl <| .cons (t := 91) rfl <| .nil) ?_
         refine TE.next ?_
         refine T.no rfl ?_
         have hpe : putE xs a.mrk = 0 := by rw [putE, hok1, hbf, if_pos rfl, if_neg hnb, if_neg (by omega)]
         have hpx : putX xs a.mrk = xs ++ [a.mrk] := by rw [putX, hpe, if_pos rfl]
         refine T.kle (Kle.nilRow 31 3) ?_
         refine T.any ([.blk b6 a.l 52]) [] mix rfl rfl ?_
         refine TA.takeP (i := 0) (ls := #[true, false, false, false, false, false, false]) rfl rfl rfl rfl rfl (by kernel_rfl) (by kernel_rfl) (by kernel_rfl) (by repeat (first | with_reducible exact PanicOk.body | with_reducible apply PanicOk.next | with_reducible apply PanicOk.block)) (OpV.move rfl) rfl (by kernel_rfl) ?_
         refine TA.takeP (i := 2) (ls := #[true, false, true, false, false, false, false]) rfl rfl rfl rfl rfl (by kernel_rfl) (by kernel_rfl) (by kernel_rfl) (by repeat (first | with_reducible exact PanicOk.body | with_reducible apply PanicOk.next | with_reducible apply PanicOk.block)) (OpV.fieldAddr rfl fo_52_1) rfl (by kernel_rfl) ?_
         refine TA.take (i := 3) (ls := #[true, false, true, true, false, false, false]) rfl rfl rfl rfl rfl (by kernel_rfl) (by kernel_rfl) (by kernel_rfl) (by kernel_rfl) (by repeat (first | with_reducible exact PanicOk.body | with_reducible apply PanicOk.next | with_reducible apply PanicOk.block)) ((.cons (by first | exact P0 | exact P1 | exact P2 | exact P3 | exact P4 | exact P5 | exact P6 | exact P7 | exact P8) .nil)) (OpV.loadA ag_31 rfl (Cels.blkAt a.mrk.l (by first | exact P0 | exact P1 | exact P2 | exact P3 | exact P4 | exact P5 | exact P6 | exact P7 | exact P8) rfl rfl)) rfl (by kernel_rfl) ?_
         refine TA.two (i := 1) (i' := 4) (ls := #[true, true, true, true, false, false, false]) (ls' := #[true, false, true, true, true, false, false]) (by kernel_rfl) rfl rfl (by kernel_rfl) (by kernel_rfl) (fun w1 => ?_) (fun w1 => ?_)
         ·
          obtain ⟨ti81, hi81, hz81, hs81, hb81⟩ := info_parts inf_31
          refine TL.append rfl rfl Try.underlying24 hi81 hz81 hs81 hb81 rfl (by omega) (by first | exact P0 | exact P1 | exact P2 | exact P3 | exact P4 | exact P5 | exact P6 | exact P7 | exact P8) (Src.sl Mk.l_length (by decide) (fun wz kz b o hb => (kz.get (e := .own τ) (by first | exact P0 | exact P1 | exact P2 | exact P3 | exact P4 | exact P5 | exact P6 | exact P7 | exact P8) b o hb).2) hx4) (fun h9 => hx4.2.2.2.1 h9) (ml_one _) (by omega) (by omega) rfl ?_
          clear hi81 hz81 hs81 hb81 ti81
          intro A81 c81 hn81
          refine TL.nil ?_
          refine TA.cont ((.cons (by first | exact P0 | exact P1 | exact P2 | exact P3 | exact P4 | exact P5 | exact P6 | exact P7 | exact P8) .nil)) ?_
          refine TA.one (i := 4) (ls := #[true, true, true, true, true, false, false]) (by kernel_rfl) rfl (by kernel_rfl) (fun w1 => ?_)
          refine TL.slit (qs := #[(0, _)]) (fun _ f => by simp only [List.map_toArray, List.map_cons, List.map_nil]; rw [f.ev (x := .tmp 83) rfl]) (sl_24_1_0 a.mrk) rfl ?_
          intro b84
          refine TL.nil ?_
          refine TA.cont ((.cons (by first | exact P0 | exact P1 | exact P2 | exact P3 | exact P4 | exact P5 | exact P6 | exact P7 | exact P8) .nil)) ?_
          refine TA.one (i := 5) (ls := #[true, true, true, true, true, true, false]) (by kernel_rfl) rfl (by kernel_rfl) (fun w1 => ?_)
          obtain ⟨ti85, hi85, hz85, hs85, hb85⟩ := info_parts inf_31
          refine TL.append rfl rfl Try.underlying24 hi85 hz85 hs85 hb85 rfl (by omega) (by first | exact P0 | exact P1 | exact P2 | exact P3 | exact P4 | exact P5 | exact P6 | exact P7 | exact P8) (by first | exact Src.nil | exact Src.blk P0 rfl | exact Src.blk P1 rfl | exact Src.blk P2 rfl | exact Src.blk P3 rfl | exact Src.blk P4 rfl | exact Src.blk P5 rfl | exact Src.blk P6 rfl | exact Src.blk P7 rfl | exact Src.blk P8 rfl | exact Src.row P0 | exact Src.row P1 | exact Src.row P2 | exact Src.row P3 | exact Src.row P4 | exact Src.row P5 | exact Src.row P6 | exact Src.row P7 | exact Src.row P8) (fun h => by cases h) rfl (by omega) (by omega) rfl ?_
          clear hi85 hz85 hs85 hb85 ti85
          intro A85 c85 hn85
          refine TL.nil ?_
          refine TA.cont ((.cons (by first | exact P0 | exact P1 | exact P2 | exact P3 | exact P4 | exact P5 | exact P6 | exact P7 | exact P8) .nil)) ?_
          refine TA.takeP (i := 6) (ls := #[true, true, true, true, true, true, true]) rfl rfl rfl rfl rfl (by kernel_rfl) (by kernel_rfl) (by kernel_rfl) (by repeat (first | with_reducible exact PanicOk.body | with_reducible apply PanicOk.next | with_reducible apply PanicOk.block)) (OpV.assign rfl) rfl (by kernel_rfl) ?_
          refine TA.done (by kernel_rfl) ?_
          refine TE.out ?_
          refine TE.sub (.cons (t := 0) rfl <| .cons (t := 3) rfl <| .cons (t := 4) rfl <| .cons (t := 5) rfl <| .cons (t := 6) rfl <| .cons (t := 10) rfl <| .nil) ?_
          refine TE.next ?_
          refine T.ex (fun wz kz => KOk.rowOwn (kz.pick (e := .row 31 3 A85 (0 + xs.length + 1) c85 ([] ++ ml xs ++ a.mrk.l)) (by first | exact P0 | exact P1 | exact P2 | exact P3 | exact P4 | exact P5 | exact P6 | exact P7 | exact P8))) ?_
          rintro τ5 hτ5
          have hx5 : MsR τ5 A85 (xs ++ [a.mrk]).length c85 (xs ++ [a.mrk]) := by rw [Nat.zero_add, List.nil_append, ← ml_snoc] at hτ5; rw [List.length_append]; exact SlR.of_row Mk.l_length hτ5 (by simp)
          refine T.region ?_
          refine TL.val (OpV.move rfl) rfl ?_
          refine TL.val (OpV.fieldAddr rfl fo_52_1) rfl ?_
          refine TL.val (OpV.loadA ag_31 rfl (Cels.blkAt a.mrk.l (by first | exact P0 | exact P1 | exact P2 | exact P3 | exact P4 | exact P5 | exact P6 | exact P7 | exact P8) rfl rfl)) rfl ?_
          refine TL.callx (g := 8) rfl go_8 rfl (fun wz kz => put_c (xs := xs) a.mrk hAm (by omega) ((Perm.kle (.cons (by first | exact P0 | exact P1 | exact P2 | exact P3 | exact P4 | exact P5 | exact P6 | exact P7 | exact P8) (.cons (by first | exact P0 | exact P1 | exact P2 | exact P3 | exact P4 | exact P5 | exact P6 | exact P7 | exact P8) .all))) wz kz)) rfl ?_
          rintro ⟨A3, c3⟩ hA3
          rw [hpx]
          refine TL.val (OpV.move rfl) rfl ?_
          refine TL.val (OpV.eql rfl rfl) rfl ?_
          refine TL.said (t := 113) rfl (show _ = Value.bool true from congrArg Value.bool (by rw [hpe]; rfl)) ?_
          refine TL.val (OpV.assign rfl) rfl ?_
          refine TL.nil ?_
          refine TE.out ?_
          exact TE.meet ⟨bm, A3, c3, xs ++ [a.mrk], A85, c85, τ5⟩ ⟨by simp only [List.length_append, List.length_cons, List.length_nil]; omega, (by have h9 := hok.put a.mrk; rwa [hpx] at h9), hA3, hx5⟩ (.cons (t := 0) rfl <| .cons (t := 3) rfl <| .cons (t := 4) (by simp only [List.length_append, List.length_cons, List.length_nil, Nat.zero_add]; rfl) <| .cons (t := 5) rfl <| .cons (t := 6) rfl <| .cons (t := 7) rfl <| .nil) (Perm.kle (.cons (by first | exact P0 | exact P1 | exact P2 | exact P3 | exact P4 | exact P5 | exact P6 | exact P7 | exact P8) (.cons (by first | exact P0 | exact P1 | exact P2 | exact P3 | exact P4 | exact P5 | exact P6 | exact P7 | exact P8) (.cons (by first | exact P0 | exact P1 | exact P2 | exact P3 | exact P4 | exact P5 | exact P6 | exact P7 | exact P8) (.cons (by first | exact P0 | exact P1 | exact P2 | exact P3 | exact P4 | exact P5 | exact P6 | exact P7 | exact P8) (.cons (by first | exact P0 | exact P1 | exact P2 | exact P3 | exact P4 | exact P5 | exact P6 | exact P7 | exact P8) .nil))))))
         ·
          refine TL.slit (qs := #[(0, _)]) (fun _ f => by simp only [List.map_toArray, List.map_cons, List.map_nil]; rw [f.ev (x := .tmp 83) rfl]) (sl_24_1_0 a.mrk) rfl ?_
          intro b84
          refine TL.nil ?_
          refine TA.cont ((.cons (by first | exact P0 | exact P1 | exact P2 | exact P3 | exact P4 | exact P5 | exact P6 | exact P7 | exact P8) .nil)) ?_
          refine TA.one (i := 1) (ls := #[true, true, true, true, true, false, false]) (by kernel_rfl) rfl (by kernel_rfl) (fun w1 => ?_)
          obtain ⟨ti81, hi81, hz81, hs81, hb81⟩ := info_parts inf_31
          refine TL.append rfl rfl Try.underlying24 hi81 hz81 hs81 hb81 rfl (by omega) (by first | exact P0 | exact P1 | exact P2 | exact P3 | exact P4 | exact P5 | exact P6 | exact P7 | exact P8) (Src.sl Mk.l_length (by decide) (fun wz kz b o hb => (kz.get (e := .own τ) (by first | exact P0 | exact P1 | exact P2 | exact P3 | exact P4 | exact P5 | exact P6 | exact P7 | exact P8) b o hb).2) hx4) (fun h9 => hx4.2.2.2.1 h9) (ml_one _) (by omega) (by omega) rfl ?_
          clear hi81 hz81 hs81 hb81 ti81
          intro A81 c81 hn81
          refine TL.nil ?_
          refine TA.cont ((.cons (by first | exact P0 | exact P1 | exact P2 | exact P3 | exact P4 | exact P5 | exact P6 | exact P7 | exact P8) .nil)) ?_
          refine TA.one (i := 5) (ls := #[true, true, true, true, true, true, false]) (by kernel_rfl) rfl (by kernel_rfl) (fun w1 => ?_)
          obtain ⟨ti85, hi85, hz85, hs85, hb85⟩ := info_parts inf_31
          refine TL.append rfl rfl Try.underlying24 hi85 hz85 hs85 hb85 rfl (by omega) (by first | exact P0 | exact P1 | exact P2 | exact P3 | exact P4 | exact P5 | exact P6 | exact P7 | exact P8) (by first | exact Src.nil | exact Src.blk P0 rfl | exact Src.blk P1 rfl | exact Src.blk P2 rfl | exact Src.blk P3 rfl | exact Src.blk P4 rfl | exact Src.blk P5 rfl | exact Src.blk P6 rfl | exact Src.blk P7 rfl | exact Src.blk P8 rfl | exact Src.row P0 | exact Src.row P1 | exact Src.row P2 | exact Src.row P3 | exact Src.row P4 | exact Src.row P5 | exact Src.row P6 | exact Src.row P7 | exact Src.row P8) (fun h => by cases h) rfl (by omega) (by omega) rfl ?_
          clear hi85 hz85 hs85 hb85 ti85
          intro A85 c85 hn85
          refine TL.nil ?_
          refine TA.cont ((.cons (by first | exact P0 | exact P1 | exact P2 | exact P3 | exact P4 | exact P5 | exact P6 | exact P7 | exact P8) .nil)) ?_
          refine TA.takeP (i := 6) (ls := #[true, true, true, true, true, true, true]) rfl rfl rfl rfl rfl (by kernel_rfl) (by kernel_rfl) (by kernel_rfl) (by repeat (first | with_reducible exact PanicOk.body | with_reducible apply PanicOk.next | with_reducible apply PanicOk.block)) (OpV.assign rfl) rfl (by kernel_rfl) ?_
          refine TA.done (by kernel_rfl) ?_
          refine TE.out ?_
          refine TE.sub (.cons (t := 0) rfl <| .cons (t := 3) rfl <| .cons (t := 4) rfl <| .cons (t := 5) rfl <| .cons (t := 6) rfl <| .cons (t := 10) rfl <| .nil) ?_
          refine TE.next ?_
          refine T.ex (fun wz kz => KOk.rowOwn (kz.pick (e := .row 31 3 A85 (0 + xs.length + 1) c85 ([] ++ ml xs ++ a.mrk.l)) (by first | exact P0 | exact P1 | exact P2 | exact P3 | exact P4 | exact P5 | exact P6 | exact P7 | exact P8))) ?_
          rintro τ5 hτ5
          have hx5 : MsR τ5 A85 (xs ++ [a.mrk]).length c85 (xs ++ [a.mrk]) := by rw [Nat.zero_add, List.nil_append, ← ml_snoc] at hτ5; rw [List.length_append]; exact SlR.of_row Mk.l_length hτ5 (by simp)
          refine T.region ?_
          refine TL.val (OpV.move rfl) rfl ?_
          refine TL.val (OpV.fieldAddr rfl fo_52_1) rfl ?_
          refine TL.val (OpV.loadA ag_31 rfl (Cels.blkAt a.mrk.l (by first | exact P0 | exact P1 | exact P2 | exact P3 | exact P4 | exact P5 | exact P6 | exact P7 | exact P8) rfl rfl)) rfl ?_
          refine TL.callx (g := 8) rfl go_8 rfl (fun wz kz => put_c (xs := xs) a.mrk hAm (by omega) ((Perm.kle (.cons (by first | exact P0 | exact P1 | exact P2 | exact P3 | exact P4 | exact P5 | exact P6 | exact P7 | exact P8) (.cons (by first | exact P0 | exact P1 | exact P2 | exact P3 | exact P4 | exact P5 | exact P6 | exact P7 | exact P8) .all))) wz kz)) rfl ?_
          rintro ⟨A3, c3⟩ hA3
          rw [hpx]
          refine TL.val (OpV.move rfl) rfl ?_
          refine TL.val (OpV.eql rfl rfl) rfl ?_
          refine TL.said (t := 113) rfl (show _ = Value.bool true from congrArg Value.bool (by rw [hpe]; rfl)) ?_
          refine TL.val (OpV.assign rfl) rfl ?_
          refine TL.nil ?_
          refine TE.out ?_
          exact TE.meet ⟨bm, A3, c3, xs ++ [a.mrk], A85, c85, τ5⟩ ⟨by simp only [List.length_append, List.length_cons, List.length_nil]; omega, (by have h9 := hok.put a.mrk; rwa [hpx] at h9), hA3, hx5⟩ (.cons (t := 0) rfl <| .cons (t := 3) rfl <| .cons (t := 4) (by simp only [List.length_append, List.length_cons, List.length_nil, Nat.zero_add]; rfl) <| .cons (t := 5) rfl <| .cons (t := 6) rfl <| .cons (t := 7) rfl <| .nil) (Perm.kle (.cons (by first | exact P0 | exact P1 | exact P2 | exact P3 | exact P4 | exact P5 | exact P6 | exact P7 | exact P8) (.cons (by first | exact P0 | exact P1 | exact P2 | exact P3 | exact P4 | exact P5 | exact P6 | exact P7 | exact P8) (.cons (by first | exact P0 | exact P1 | exact P2 | exact P3 | exact P4 | exact P5 | exact P6 | exact P7 | exact P8) (.cons (by first | exact P0 | exact P1 | exact P2 | exact P3 | exact P4 | exact P5 | exact P6 | exact P7 | exact P8) (.cons (by first | exact P0 | exact P1 | exact P2 | exact P3 | exact P4 | exact P5 | exact P6 | exact P7 | exact P8) .nil))))))
      ·
       intro ht78
       try simp only [decide_eq_true_eq, decide_eq_false_iff_not, beq_iff_eq, beq_eq_false_iff_ne, bne_iff_ne, bne_eq_false_iff_eq, Bool.not_eq_true', Bool.not_eq_false', ne_eq] at ht78
       refine T.seq ?_
       refine T.region ?_
       refine TL.val (OpV.eql rfl rfl) rfl ?_
       refine TL.val (OpV.assign rfl) rfl ?_
       refine TL.nil ?_
       refine TE.next ?_
       refine T.cond rfl ?_ ?_
       ·
        intro ht114
        try simp only [decide_eq_true_eq, decide_eq_false_iff_not, beq_iff_eq, beq_eq_false_iff_ne, bne_iff_ne, bne_eq_false_iff_eq, Bool.not_eq_true', Bool.not_eq_false', ne_eq] at ht114
        refine T.seq ?_
        refine T.seq ?_
        refine T.region ?_
        refine TL.val (OpV.fieldAddr rfl fo_52_2) rfl ?_
        refine TL.val (OpV.load pl_3 rfl (Cel.blk (by first | exact P0 | exact P1 | exact P2 | exact P3 | exact P4 | exact P5 | exact P6 | exact P7 | exact P8) (show a.l[4]? = some (.int .i64 a.line) from rfl))) rfl ?_
        refine TL.val (OpV.lss rfl rfl) rfl ?_
        refine TL.val (OpV.move rfl) rfl ?_
        refine TL.part (t := 119) rfl ?_ ?_
        ·
         intro hg119
         try simp only [decide_eq_true_eq, decide_eq_false_iff_not, beq_iff_eq, beq_eq_false_iff_ne, bne_iff_ne, bne_eq_false_iff_eq, Bool.not_eq_true', Bool.not_eq_false', ne_eq] at hg119
         refine TL.shut rfl rfl ?_
         refine TL.shut rfl rfl ?_
         refine TL.shut rfl rfl ?_
         refine TL.val ((by first | exact OpV.pick_t rfl rfl | exact OpV.pick_f rfl rfl)) rfl ?_
         refine TL.nil ?_
         refine TE.sub (.cons (t := 0) rfl <| .cons (t := 3) rfl <| .cons (t := 4) rfl <| .cons (t := 5) rfl <| .cons (t := 6) rfl <| .cons (t := 123) rfl <| .nil) ?_
         refine TE.next ?_
         refine T.yes rfl ?_
         refine T.seq ?_
         refine T.region ?_
         refine TL.val (OpV.move rfl) rfl ?_
         refine TL.val (OpV.fieldAddr rfl fo_52_2) rfl ?_
         refine TL.val (OpV.load pl_3 rfl (Cel.blk (by first | exact P0 | exact P1 | exact P2 | exact P3 | exact P4 | exact P5 | exact P6 | exact P7 | exact P8) (show a.l[4]? = some (.int .i64 a.line) from rfl))) rfl ?_
         refine TL.callx (g := 12) rfl go_12 rfl (fun wz kz => evicts_c (xs := xs) a.line 0 2 hAm (by omega) ((Perm.kle (.cons (by first | exact P0 | exact P1 | exact P2 | exact P3 | exact P4 | exact P5 | exact P6 | exact P7 | exact P8) (.cons (by first | exact P0 | exact P1 | exact P2 | exact P3 | exact P4 | exact P5 | exact P6 | exact P7 | exact P8) .all))) wz kz)) rfl ?_
         rintro ⟨A3, c3⟩ hA3
         have hE : evE a.line = 2 := by rw [evE, if_neg (by omega)]
         have hev : evX a.line xs = xs := by rw [evX, hE, if_neg (by decide)]
         rw [hev]
         refine TL.said (t := 127) rfl (show _ = Value.bool true from congrArg Value.bool (by rw [evR, hE]; rfl)) ?_
         refine TL.val (OpV.assign rfl) rfl ?_
         refine TL.nil ?_
         refine TE.next ?_
         refine T.exit ?_
         refine TE.pass_exit ?_
         refine TE.here ?_
         exact TE.meet ⟨bm, A3, c3, xs, A4, c4, τ⟩ ⟨by omega, hok, hA3, hx4⟩ (.cons (t := 0) rfl <| .cons (t := 3) rfl <| .cons (t := 4) rfl <| .cons (t := 5) rfl <| .cons (t := 6) rfl <| .cons (t := 7) rfl <| .nil) (Perm.kle (.cons (by first | exact P0 | exact P1 | exact P2 | exact P3 | exact P4 | exact P5 | exact P6 | exact P7 | exact P8) (.cons (by first | exact P0 | exact P1 | exact P2 | exact P3 | exact P4 | exact P5 | exact P6 | exact P7 | exact P8) (.cons (by first | exact P0 | exact P1 | exact P2 | exact P3 | exact P4 | exact P5 | exact P6 | exact P7 | exact P8) (.cons (by first | exact P0 | exact P1 | exact P2 | exact P3 | exact P4 | exact P5 | exact P6 | exact P7 | exact P8) (.cons (by first | exact P0 | exact P1 | exact P2 | exact P3 | exact P4 | exact P5 | exact P6 | exact P7 | exact P8) .nil))))))
        ·
         intro hg119
         try simp only [decide_eq_true_eq, decide_eq_false_iff_not, beq_iff_eq, beq_eq_false_iff_ne, bne_iff_ne, bne_eq_false_iff_eq, Bool.not_eq_true', Bool.not_eq_false', ne_eq] at hg119
         refine TL.open rfl rfl ?_
         refine TL.val (OpV.fieldAddr rfl fo_52_2) rfl ?_
         refine TL.open rfl rfl ?_
         refine TL.val (OpV.load pl_3 rfl (Cel.blk (by first | exact P0 | exact P1 | exact P2 | exact P3 | exact P4 | exact P5 | exact P6 | exact P7 | exact P8) (show a.l[4]? = some (.int .i64 a.line) from rfl))) rfl ?_
         refine TL.open rfl rfl ?_
         refine TL.val (OpV.gtr rfl rfl) rfl ?_
         refine TL.val ((by first | exact OpV.pick_t rfl rfl | exact OpV.pick_f rfl rfl)) rfl ?_
         refine TL.nil ?_
         refine TE.sub (.cons (t := 0) rfl <| .cons (t := 3) rfl <| .cons (t := 4) rfl <| .cons (t := 5) rfl <| .cons (t := 6) rfl <| .cons (t := 123) rfl <| .nil) ?_
         refine TE.next ?_
         refine T.cond rfl ?_ ?_
         ·
          intro ht123
          try simp only [decide_eq_true_eq, decide_eq_false_iff_not, beq_iff_eq, beq_eq_false_iff_ne, bne_iff_ne, bne_eq_false_iff_eq, Bool.not_eq_true', Bool.not_eq_false', ne_eq] at ht123
          refine T.seq ?_
          refine T.region ?_
          refine TL.val (OpV.move rfl) rfl ?_
          refine TL.val (OpV.fieldAddr rfl fo_52_2) rfl ?_
          refine TL.val (OpV.load pl_3 rfl (Cel.blk (by first | exact P0 | exact P1 | exact P2 | exact P3 | exact P4 | exact P5 | exact P6 | exact P7 | exact P8) (show a.l[4]? = some (.int .i64 a.line) from rfl))) rfl ?_
          refine TL.callx (g := 12) rfl go_12 rfl (fun wz kz => evicts_c (xs := xs) a.line 0 2 hAm (by omega) ((Perm.kle (.cons (by first | exact P0 | exact P1 | exact P2 | exact P3 | exact P4 | exact P5 | exact P6 | exact P7 | exact P8) (.cons (by first | exact P0 | exact P1 | exact P2 | exact P3 | exact P4 | exact P5 | exact P6 | exact P7 | exact P8) .all))) wz kz)) rfl ?_
          rintro ⟨A3, c3⟩ hA3
          have hE : evE a.line = 2 := by rw [evE, if_neg (by omega)]
          have hev : evX a.line xs = xs := by rw [evX, hE, if_neg (by decide)]
          rw [hev]
          refine TL.said (t := 127) rfl (show _ = Value.bool true from congrArg Value.bool (by rw [evR, hE]; rfl)) ?_
          refine TL.val (OpV.assign rfl) rfl ?_
          refine TL.nil ?_
          refine TE.next ?_
          refine T.exit ?_
          refine TE.pass_exit ?_
          refine TE.here ?_
          exact TE.meet ⟨bm, A3, c3, xs, A4, c4, τ⟩ ⟨by omega, hok, hA3, hx4⟩ (.cons (t := 0) rfl <| .cons (t := 3) rfl <| .cons (t := 4) rfl <| .cons (t := 5) rfl <| .cons (t := 6) rfl <| .cons (t := 7) rfl <| .nil) (Perm.kle (.cons (by first | exact P0 | exact P1 | exact P2 | exact P3 | exact P4 | exact P5 | exact P6 | exact P7 | exact P8) (.cons (by first | exact P0 | exact P1 | exact P2 | exact P3 | exact P4 | exact P5 | exact P6 | exact P7 | exact P8) (.cons (by first | exact P0 | exact P1 | exact P2 | exact P3 | exact P4 | exact P5 | exact P6 | exact P7 | exact P8) (.cons (by first | exact P0 | exact P1 | exact P2 | exact P3 | exact P4 | exact P5 | exact P6 | exact P7 | exact P8) (.cons (by first | exact P0 | exact P1 | exact P2 | exact P3 | exact P4 | exact P5 | exact P6 | exact P7 | exact P8) .nil))))))
         ·
          intro ht123
          try simp only [decide_eq_true_eq, decide_eq_false_iff_not, beq_iff_eq, beq_eq_false_iff_ne, bne_iff_ne, bne_eq_false_iff_eq, Bool.not_eq_true', Bool.not_eq_false', ne_eq] at ht123
          refine T.skip ?_
          refine TE.next ?_
          refine T.seq ?_
          refine T.region ?_
          refine TL.val (OpV.assign rfl) rfl ?_
          refine TL.nil ?_
          refine TE.next ?_
          refine T.seq ?_
          refine T.block ?_
          refine T.loop (ι := Nat) (fun u => u ≤ xs.length ∧ u + evN a.line (xs.drop u) = evN a.line xs) (fun u => (xs.length - u)) (fun u => [(0, .slice A n c), (3, .pointer (some ⟨bm, 0, none⟩)), (4, .slice A4 xs.length c4), (5, .int .i64 (i : Int)), (6, .pointer (some ⟨b6, 0, none⟩)), (11, .int .i64 (u : Int))]) (fun u => [.blk b6 a.l 52, .blk bm [.slice Am xs.length cm] 26, .row 31 3 Am xs.length cm (ml xs), .own τ, .fr σ]) 0 ⟨Nat.zero_le _, by rw [List.drop_zero, Nat.zero_add]⟩ (.cons (t := 0) rfl <| .cons (t := 3) rfl <| .cons (t := 4) rfl <| .cons (t := 5) rfl <| .cons (t := 6) rfl <| .cons (t := 11) rfl <| .nil) (Perm.kle (.cons (by first | exact P0 | exact P1 | exact P2 | exact P3 | exact P4 | exact P5 | exact P6 | exact P7 | exact P8) (.cons (by first | exact P0 | exact P1 | exact P2 | exact P3 | exact P4 | exact P5 | exact P6 | exact P7 | exact P8) (.cons (by first | exact P0 | exact P1 | exact P2 | exact P3 | exact P4 | exact P5 | exact P6 | exact P7 | exact P8) (.cons (by first | exact P0 | exact P1 | exact P2 | exact P3 | exact P4 | exact P5 | exact P6 | exact P7 | exact P8) (.cons (by first | exact P0 | exact P1 | exact P2 | exact P3 | exact P4 | exact P5 | exact P6 | exact P7 | exact P8) .nil)))))) ?_
          rintro u hRu
          refine T.seq ?_
          refine T.seq ?_
          refine T.quiet mix (by kernel_rfl) ?_
          refine TQ.val (OpV.move rfl) rfl ?_
          refine TQ.val (OpV.move rfl) rfl ?_
          refine TQ.val (OpV.len Try.underlying24 rfl) rfl ?_
          refine TQ.val (OpV.lss rfl rfl) rfl ?_
          refine TQ.val (OpV.move rfl) rfl ?_
          refine TQ.part (t := 132) rfl ?_ ?_
          ·
           intro hg132
           try simp only [decide_eq_true_eq, decide_eq_false_iff_not, beq_iff_eq, beq_eq_false_iff_ne, bne_iff_ne, bne_eq_false_iff_eq, Bool.not_eq_true', Bool.not_eq_false', ne_eq] at hg132
           obtain ⟨y, hy⟩ := get_of_lt rfl (show u < xs.length by omega)
           obtain ⟨b4, o4, hA4, hat4⟩ := hx4.pos (by omega)
           have haty := hat4 _ y hy
           refine TQ.open rfl rfl ?_
           refine TQ.val (OpV.move rfl) rfl ?_
           refine TQ.open rfl rfl ?_
           refine TQ.val (OpV.move rfl) rfl ?_
           refine TQ.open rfl rfl ?_
           refine TQ.val (OpV.indexAddr (j := u) se_24 rfl hA4 rfl rfl (by omega)) rfl ?_
           refine TQ.open rfl rfl ?_
           refine TQ.val (OpV.fieldAddr rfl fo_31_0) rfl ?_
           refine TQ.open rfl rfl ?_
           refine TQ.val (OpV.load pl_3 rfl (by first | exact Cel.blk P0 rfl | exact Cel.blk P1 rfl | exact Cel.blk P2 rfl | exact Cel.blk P3 rfl | exact Cel.blk P4 rfl | exact Cel.blk P5 rfl | exact Cel.blk P6 rfl | exact Cel.blk P7 rfl | exact Cel.blk P8 rfl | exact Cel.ownA (haty _ _ rfl) | exact Cel.frA (hatz 0 _ rfl))) rfl ?_
           refine TQ.open rfl rfl ?_
           refine TQ.val (OpV.fieldAddr rfl fo_52_2) rfl ?_
           refine TQ.open rfl rfl ?_
           refine TQ.val (OpV.load pl_3 rfl (Cel.blk (by first | exact P0 | exact P1 | exact P2 | exact P3 | exact P4 | exact P5 | exact P6 | exact P7 | exact P8) (show a.l[4]? = some (.int .i64 a.line) from rfl))) rfl ?_
           refine TQ.open rfl rfl ?_
           refine TQ.val (OpV.lss rfl rfl) rfl ?_
           refine TQ.val ((by first | exact OpV.pick_t rfl rfl | exact OpV.pick_f rfl rfl)) rfl ?_
           refine TQ.nil ?_
           refine TE.sub (.cons (t := 0) rfl <| .cons (t := 3) rfl <| .cons (t := 4) rfl <| .cons (t := 5) rfl <| .cons (t := 6) rfl <| .cons (t := 11) rfl <| .cons (t := 141) rfl <| .nil) ?_
           refine TE.next ?_
           refine T.cond rfl ?_ ?_
           ·
            intro ht141
            try simp only [decide_eq_true_eq, decide_eq_false_iff_not, beq_iff_eq, beq_eq_false_iff_ne, bne_iff_ne, bne_eq_false_iff_eq, Bool.not_eq_true', Bool.not_eq_false', ne_eq] at ht141
            have hd : evN a.line (xs.drop u) = evN a.line (xs.drop (u + 1)) + 1 := by rw [drop_get hy, evN, if_pos ht141]
            refine T.skip ?_
            refine TE.next ?_
            refine T.block ?_
            refine T.region ?_
            refine TL.val (OpV.move rfl) rfl ?_
            refine TL.val (OpV.add rfl rfl (by first | exact IntWalk.i64_in _ ⟨by omega, by omega⟩ | rfl)) rfl ?_
            refine TL.val (OpV.assign rfl) rfl ?_
            refine TL.nil ?_
            refine TE.out ?_
            exact TE.meet (u + 1) ⟨⟨by omega, by omega⟩, by omega⟩ (.cons (t := 0) (by first | rfl | (simp [lk]; done)) <| .cons (t := 3) (by first | rfl | (simp [lk]; done)) <| .cons (t := 4) (by first | rfl | (simp [lk]; done)) <| .cons (t := 5) (by first | rfl | (simp [lk]; done)) <| .cons (t := 6) (by first | rfl | (simp [lk]; done)) <| .cons (t := 11) (by first | rfl | (simp [lk]; done)) <| .nil) (Perm.kle (.cons (by first | exact P0 | exact P1 | exact P2 | exact P3 | exact P4 | exact P5 | exact P6 | exact P7 | exact P8) (.cons (by first | exact P0 | exact P1 | exact P2 | exact P3 | exact P4 | exact P5 | exact P6 | exact P7 | exact P8) (.cons (by first | exact P0 | exact P1 | exact P2 | exact P3 | exact P4 | exact P5 | exact P6 | exact P7 | exact P8) (.cons (by first | exact P0 | exact P1 | exact P2 | exact P3 | exact P4 | exact P5 | exact P6 | exact P7 | exact P8) (.cons (by first | exact P0 | exact P1 | exact P2 | exact P3 | exact P4 | exact P5 | exact P6 | exact P7 | exact P8) .nil))))))
           ·
            intro ht141
            try simp only [decide_eq_true_eq, decide_eq_false_iff_not, beq_iff_eq, beq_eq_false_iff_ne, bne_iff_ne, bne_eq_false_iff_eq, Bool.not_eq_true', Bool.not_eq_false', ne_eq] at ht141
            have hd : evN a.line (xs.drop u) = 0 := by rw [drop_get hy, evN, if_neg ht141]
            refine T.exit ?_
            refine TE.pass_exit ?_
            refine TE.pass_exit ?_
            refine TE.here ?_
            refine TE.next ?_
            refine T.seq ?_
            refine T.region ?_
            refine TL.val (OpV.move rfl) rfl ?_
            refine TL.val (OpV.move rfl) rfl ?_
            refine TL.val (OpV.sliceLo se_24 rfl rfl rfl (by omega)) rfl ?_
            refine TL.val (OpV.assign rfl) rfl ?_
            refine TL.nil ?_
            refine TE.next ?_
            refine T.region ?_
            refine TL.val (OpV.move rfl) rfl ?_
            refine TL.val (OpV.fieldAddr rfl fo_52_2) rfl ?_
            refine TL.val (OpV.load pl_3 rfl (Cel.blk (by first | exact P0 | exact P1 | exact P2 | exact P3 | exact P4 | exact P5 | exact P6 | exact P7 | exact P8) (show a.l[4]? = some (.int .i64 a.line) from rfl))) rfl ?_
            refine TL.val (OpV.move rfl) rfl ?_
            refine TL.callx (g := 12) rfl go_12 rfl (fun wz kz => evicts_c (xs := xs) a.line (u : Int) 0 hAm (by omega) ((Perm.kle (.cons (by first | exact P0 | exact P1 | exact P2 | exact P3 | exact P4 | exact P5 | exact P6 | exact P7 | exact P8) (.cons (by first | exact P0 | exact P1 | exact P2 | exact P3 | exact P4 | exact P5 | exact P6 | exact P7 | exact P8) .all))) wz kz)) rfl ?_
            rintro ⟨A3, c3⟩ hA3
            have hE : evE a.line = 0 := by rw [evE, if_pos (by omega)]
            have hN : evN a.line xs = u := by omega
            have hev : evX a.line xs = xs.drop u := by rw [evX, hE, if_pos rfl, hN]
            rw [hev]
            refine TL.said (t := 151) rfl (show _ = Value.bool true from congrArg Value.bool (by rw [evR, hE, hN]; simp)) ?_
            refine TL.val (OpV.assign rfl) rfl ?_
            refine TL.nil ?_
            refine TE.out ?_
            exact TE.meet ⟨bm, A3, c3, xs.drop u, subA A4 c4 u 3, c4 - u, τ⟩ ⟨by rw [List.length_drop]; omega, hok.drop u, hA3, (by rw [List.length_drop]; exact hx4.slice (by omega))⟩ (.cons (t := 0) rfl <| .cons (t := 3) rfl <| .cons (t := 4) (by rw [List.length_drop]; rfl) <| .cons (t := 5) rfl <| .cons (t := 6) rfl <| .cons (t := 7) rfl <| .nil) (Perm.kle (.cons (by first | exact P0 | exact P1 | exact P2 | exact P3 | exact P4 | exact P5 | exact P6 | exact P7 | exact P8) (.cons (by first | exact P0 | exact P1 | exact P2 | exact P3 | exact P4 | exact P5 | exact P6 | exact P7 | exact P8) (.cons (by first | exact P0 | exact P1 | exact P2 | exact P3 | exact P4 | exact P5 | exact P6 | exact P7 | exact P8) (.cons (by first | exact P0 | exact P1 | exact P2 | exact P3 | exact P4 | exact P5 | exact P6 | exact P7 | exact P8) (.cons (by first | exact P0 | exact P1 | exact P2 | exact P3 | exact P4 | exact P5 | exact P6 | exact P7 | exact P8) .nil))))))
          ·
           intro hg132
           try simp only [decide_eq_true_eq, decide_eq_false_iff_not, beq_iff_eq, beq_eq_false_iff_ne, bne_iff_ne, bne_eq_false_iff_eq, Bool.not_eq_true', Bool.not_eq_false', ne_eq] at hg132
           have hd : evN a.line (xs.drop u) = 0 := by rw [List.drop_of_length_le (by omega)]; rfl
           refine TQ.shut rfl rfl ?_
           refine TQ.shut rfl rfl ?_
           refine TQ.shut rfl rfl ?_
           refine TQ.shut rfl rfl ?_
           refine TQ.shut rfl rfl ?_
           refine TQ.shut rfl rfl ?_
           refine TQ.shut rfl rfl ?_
           refine TQ.shut rfl rfl ?_
           refine TQ.val ((by first | exact OpV.pick_t rfl rfl | exact OpV.pick_f rfl rfl)) rfl ?_
           refine TQ.nil ?_
           refine TE.sub (.cons (t := 0) rfl <| .cons (t := 3) rfl <| .cons (t := 4) rfl <| .cons (t := 5) rfl <| .cons (t := 6) rfl <| .cons (t := 11) rfl <| .cons (t := 141) rfl <| .nil) ?_
           refine TE.next ?_
           refine T.no rfl ?_
           refine T.exit ?_
           refine TE.pass_exit ?_
           refine TE.pass_exit ?_
           refine TE.here ?_
           refine TE.next ?_
           refine T.seq ?_
           refine T.region ?_
           refine TL.val (OpV.move rfl) rfl ?_
           refine TL.val (OpV.move rfl) rfl ?_
           refine TL.val (OpV.sliceLo se_24 rfl rfl rfl (by omega)) rfl ?_
           refine TL.val (OpV.assign rfl) rfl ?_
           refine TL.nil ?_
           refine TE.next ?_
           refine T.region ?_
           refine TL.val (OpV.move rfl) rfl ?_
           refine TL.val (OpV.fieldAddr rfl fo_52_2) rfl ?_
           refine TL.val (OpV.load pl_3 rfl (Cel.blk (by first | exact P0 | exact P1 | exact P2 | exact P3 | exact P4 | exact P5 | exact P6 | exact P7 | exact P8) (show a.l[4]? = some (.int .i64 a.line) from rfl))) rfl ?_
           refine TL.val (OpV.move rfl) rfl ?_
           refine TL.callx (g := 12) rfl go_12 rfl (fun wz kz => evicts_c (xs := xs) a.line (u : Int) 0 hAm (by omega) ((Perm.kle (.cons (by first | exact P0 | exact P1 | exact P2 | exact P3 | exact P4 | exact P5 | exact P6 | exact P7 | exact P8) (.cons (by first | exact P0 | exact P1 | exact P2 | exact P3 | exact P4 | exact P5 | exact P6 | exact P7 | exact P8) .all))) wz kz)) rfl ?_
           rintro ⟨A3, c3⟩ hA3
           have hE : evE a.line = 0 := by rw [evE, if_pos (by omega)]
           have hN : evN a.line xs = u := by omega
           have hev : evX a.line xs = xs.drop u := by rw [evX, hE, if_pos rfl, hN]
           rw [hev]
           refine TL.said (t := 151) rfl (show _ = Value.bool true from congrArg Value.bool (by rw [evR, hE, hN]; simp)) ?_
           refine TL.val (OpV.assign rfl) rfl ?_
           refine TL.nil ?_
           refine TE.out ?_
           exact TE.meet ⟨bm, A3, c3, xs.drop u, subA A4 c4 u 3, c4 - u, τ⟩ ⟨by rw [List.length_drop]; omega, hok.drop u, hA3, (by rw [List.length_drop]; exact hx4.slice (by omega))⟩ (.cons (t := 0) rfl <| .cons (t := 3) rfl <| .cons (t := 4) (by rw [List.length_drop]; rfl) <| .cons (t := 5) rfl <| .cons (t := 6) rfl <| .cons (t := 7) rfl <| .nil) (Perm.kle (.cons (by first | exact P0 | exact P1 | exact P2 | exact P3 | exact P4 | exact P5 | exact P6 | exact P7 | exact P8) (.cons (by first | exact P0 | exact P1 | exact P2 | exact P3 | exact P4 | exact P5 | exact P6 | exact P7 | exact P8) (.cons (by first | exact P0 | exact P1 | exact P2 | exact P3 | exact P4 | exact P5 | exact P6 | exact P7 | exact P8) (.cons (by first | exact P0 | exact P1 | exact P2 | exact P3 | exact P4 | exact P5 | exact P6 | exact P7 | exact P8) (.cons (by first | exact P0 | exact P1 | exact P2 | exact P3 | exact P4 | exact P5 | exact P6 | exact P7 | exact P8) .nil))))))
       ·
        intro ht114
        try simp only [decide_eq_true_eq, decide_eq_false_iff_not, beq_iff_eq, beq_eq_false_iff_ne, bne_iff_ne, bne_eq_false_iff_eq, Bool.not_eq_true', Bool.not_eq_false', ne_eq] at ht114
        refine T.seq ?_
        refine T.seq ?_
        refine T.region ?_
        refine TL.val (OpV.eql rfl rfl) rfl ?_
        refine TL.val (OpV.assign rfl) rfl ?_
        refine TL.nil ?_
        refine TE.next ?_
        refine T.cond rfl ?_ ?_
        ·
         intro ht152
         try simp only [decide_eq_true_eq, decide_eq_false_iff_not, beq_iff_eq, beq_eq_false_iff_ne, bne_iff_ne, bne_eq_false_iff_eq, Bool.not_eq_true', Bool.not_eq_false', ne_eq] at ht152
         refine T.said (t := 152) rfl (show _ = Value.bool true by rw [ht152]; rfl) ?_
         refine T.skip ?_
         refine TE.next ?_
         refine T.yes rfl ?_
         refine T.seq ?_
         refine T.region ?_
         refine TL.val (OpV.build (qs := #[]) (fun _ _ => by simp) (bld_31)) rfl ?_
         refine TL.alloc zo_31 rfl ?_
         intro b12
         first
           | refine TL.storeAll rfl rfl szz_31 rfl rfl rfl (by first | exact P0 | exact P1 | exact P2 | exact P3 | exact P4 | exact P5 | exact P6 | exact P7 | exact P8) (by rfl) ?_
           | refine TL.store rfl rfl szz_31 rfl rfl rfl (by first | exact P0 | exact P1 | exact P2 | exact P3 | exact P4 | exact P5 | exact P6 | exact P7 | exact P8) (by first | exact Nat.le_of_ble_eq_true rfl | (simp; done) | (simp; omega)) (by simp only [AcA.l, Mk.l, putL, List.take_succ_cons, List.take_zero, List.drop_succ_cons, List.drop_zero, List.cons_append, List.nil_append, List.length_cons, List.length_nil, Nat.reduceAdd]; rfl) ?_
         refine TL.val (OpV.assign rfl) rfl ?_
         refine TL.nil ?_
         refine TE.sub (.cons (t := 0) rfl <| .cons (t := 3) rfl <| .cons (t := 4) rfl <| .cons (t := 5) rfl <| .cons (t := 6) rfl <| .cons (t := 8) rfl <| .cons (t := 12) rfl <| .cons (t := 13) rfl <| .nil) ?_
         refine TE.next ?_
         refine T.seq ?_
         refine T.seq ?_
         refine T.region ?_
         refine TL.val (OpV.assign rfl) rfl ?_
         refine TL.nil ?_
         refine TE.next ?_
         refine T.block ?_
         refine T.loop (ι := Nat) (fun j => j ≤ xs.length) (fun j => (xs.length - j)) (fun j => [(0, .slice A n c), (3, .pointer (some ⟨bm, 0, none⟩)), (4, .slice A4 xs.length c4), (5, .int .i64 (i : Int)), (6, .pointer (some ⟨b6, 0, none⟩)), (8, .bool (fineV a.n ks a.n)), (12, .pointer (some ⟨b12, 0, none⟩)), (13, .int .i64 (oN ((xs.drop (xs.length - j)).find? (nextP a.line ks)))), (14, .int .i64 (j : Int))]) (fun j => [.blk b12 (oZ ((xs.drop (xs.length - j)).find? (nextP a.line ks))).l 31, .blk b6 a.l 52, .blk bm [.slice Am xs.length cm] 26, .row 31 3 Am xs.length cm (ml xs), .own τ, .fr σ]) 0 (Nat.zero_le _) (.cons (t := 0) rfl <| .cons (t := 3) rfl <| .cons (t := 4) rfl <| .cons (t := 5) rfl <| .cons (t := 6) rfl <| .cons (t := 8) rfl <| .cons (t := 12) rfl <| .cons (t := 13) (by rw [Nat.sub_zero, List.drop_length]; rfl) <| .cons (t := 14) rfl <| .nil) ((by rw [Nat.sub_zero, List.drop_length]; exact Perm.kle (.cons (by first | exact P0 | exact P1 | exact P2 | exact P3 | exact P4 | exact P5 | exact P6 | exact P7 | exact P8) (.cons (by first | exact P0 | exact P1 | exact P2 | exact P3 | exact P4 | exact P5 | exact P6 | exact P7 | exact P8) (.cons (by first | exact P0 | exact P1 | exact P2 | exact P3 | exact P4 | exact P5 | exact P6 | exact P7 | exact P8) (.cons (by first | exact P0 | exact P1 | exact P2 | exact P3 | exact P4 | exact P5 | exact P6 | exact P7 | exact P8) (.cons (by first | exact P0 | exact P1 | exact P2 | exact P3 | exact P4 | exact P5 | exact P6 | exact P7 | exact P8) (.cons (by first | exact P0 | exact P1 | exact P2 | exact P3 | exact P4 | exact P5 | exact P6 | exact P7 | exact P8) .nil)))))))) ?_
         rintro j hRj
         refine T.seq ?_
         refine T.seq ?_
         refine T.region ?_
         refine TL.val (OpV.move rfl) rfl ?_
         refine TL.val (OpV.move rfl) rfl ?_
         refine TL.val (OpV.len Try.underlying24 rfl) rfl ?_
         refine TL.val (OpV.lss rfl rfl) rfl ?_
         refine TL.nil ?_
         refine TE.next ?_
         refine T.cond rfl ?_ ?_
         ·
          intro ht159
          try simp only [decide_eq_true_eq, decide_eq_false_iff_not, beq_iff_eq, beq_eq_false_iff_ne, bne_iff_ne, bne_eq_false_iff_eq, Bool.not_eq_true', Bool.not_eq_false', ne_eq] at ht159
          have hj : j < xs.length := by omega
          obtain ⟨y, hy⟩ := get_of_lt rfl (show (xs.length - 1 - j) < xs.length by omega)
          obtain ⟨b4, o4, hA4, hat4⟩ := hx4.pos (by omega)
          have haty := hat4 _ y hy
          have hSs := s2_succ (p := nextP a.line ks) hj hy
          refine T.skip ?_
          refine TE.next ?_
          refine T.seq ?_
          refine T.block ?_
          refine T.seq ?_
          refine T.region ?_
          refine TL.val (OpV.move rfl) rfl ?_
          refine TL.val (OpV.assign rfl) rfl ?_
          refine TL.nil ?_
          refine TE.next ?_
          refine T.seq ?_
          refine T.seq ?_
          refine T.region ?_
          refine TL.val (OpV.fieldAddr rfl fo_52_0) rfl ?_
          refine TL.val (OpV.load pl_3 rfl (Cel.blk (by first | exact P0 | exact P1 | exact P2 | exact P3 | exact P4 | exact P5 | exact P6 | exact P7 | exact P8) (show a.l[0]? = some (.int .i64 a.what) from rfl))) rfl ?_
          refine TL.val (OpV.eql rfl rfl) rfl ?_
          refine TL.said (t := 165) rfl (show _ = Value.bool true from congrArg Value.bool (by rw [ht152]; rfl)) ?_
          refine TL.nil ?_
          refine TE.sub (.cons (t := 0) rfl <| .cons (t := 3) rfl <| .cons (t := 4) rfl <| .cons (t := 5) rfl <| .cons (t := 6) rfl <| .cons (t := 8) rfl <| .cons (t := 12) rfl <| .cons (t := 13) rfl <| .cons (t := 14) rfl <| .cons (t := 15) rfl <| .cons (t := 165) rfl <| .nil) ?_
          refine TE.next ?_
          refine T.yes rfl ?_
          refine T.region ?_
          refine TL.val (OpV.move rfl) rfl ?_
          refine TL.val (OpV.len Try.underlying24 rfl) rfl ?_
          refine TL.val (OpV.sub rfl rfl (by first | exact IntWalk.i64_in _ ⟨by omega, by omega⟩ | rfl)) rfl ?_
          refine TL.val (OpV.move rfl) rfl ?_
          refine TL.val (OpV.sub rfl rfl (by first | exact IntWalk.i64_in _ ⟨by omega, by omega⟩ | rfl)) rfl ?_
          refine TL.val (OpV.assign rfl) rfl ?_
          refine TL.said (t := 15) rfl (show _ = Value.int .i64 ((xs.length - 1 - j : Nat) : Int) from congrArg _ (by omega)) ?_
          refine TL.nil ?_
          refine TE.next ?_
          refine T.seq ?_
          refine T.region ?_
          refine TL.val (OpV.assign rfl) rfl ?_
          refine TL.nil ?_
          refine TE.next ?_
          refine T.seq ?_
          refine T.seq ?_
          refine T.region ?_
          refine TL.val (OpV.assign rfl) rfl ?_
          refine TL.nil ?_
          refine TE.next ?_
          refine T.block ?_
          refine T.loop (ι := Nat) (fun q => q ≤ a.n) (fun q => (a.n - q)) (fun q => [(0, .slice A n c), (3, .pointer (some ⟨bm, 0, none⟩)), (4, .slice A4 xs.length c4), (5, .int .i64 (i : Int)), (6, .pointer (some ⟨b6, 0, none⟩)), (8, .bool (fineV a.n ks a.n)), (12, .pointer (some ⟨b12, 0, none⟩)), (13, .int .i64 (oN ((xs.drop (xs.length - j)).find? (nextP a.line ks)))), (14, .int .i64 (j : Int)), (15, .int .i64 ((xs.length - 1 - j) : Nat)), (16, .bool (hasK (ks.take q) y.kd)), (17, .int .i64 (q : Int))]) (fun q => [.blk b12 (oZ ((xs.drop (xs.length - j)).find? (nextP a.line ks))).l 31, .blk b6 a.l 52, .blk bm [.slice Am xs.length cm] 26, .row 31 3 Am xs.length cm (ml xs), .own τ, .fr σ]) 0 (Nat.zero_le _) (.cons (t := 0) rfl <| .cons (t := 3) rfl <| .cons (t := 4) rfl <| .cons (t := 5) rfl <| .cons (t := 6) rfl <| .cons (t := 8) rfl <| .cons (t := 12) rfl <| .cons (t := 13) rfl <| .cons (t := 14) rfl <| .cons (t := 15) rfl <| .cons (t := 16) rfl <| .cons (t := 17) rfl <| .nil) (Perm.kle (.cons (by first | exact P0 | exact P1 | exact P2 | exact P3 | exact P4 | exact P5 | exact P6 | exact P7 | exact P8) (.cons (by first | exact P0 | exact P1 | exact P2 | exact P3 | exact P4 | exact P5 | exact P6 | exact P7 | exact P8) (.cons (by first | exact P0 | exact P1 | exact P2 | exact P3 | exact P4 | exact P5 | exact P6 | exact P7 | exact P8) (.cons (by first | exact P0 | exact P1 | exact P2 | exact P3 | exact P4 | exact P5 | exact P6 | exact P7 | exact P8) (.cons (by first | exact P0 | exact P1 | exact P2 | exact P3 | exact P4 | exact P5 | exact P6 | exact P7 | exact P8) (.cons (by first | exact P0 | exact P1 | exact P2 | exact P3 | exact P4 | exact P5 | exact P6 | exact P7 | exact P8) .nil))))))) ?_
          rintro q hRq
          refine T.seq ?_
          refine T.seq ?_
          refine T.region ?_
          refine TL.val (OpV.move rfl) rfl ?_
          refine TL.val (OpV.fieldAddr rfl fo_52_3) rfl ?_
          refine TL.val (OpV.load pl_38 rfl (Cel.blk (by first | exact P0 | exact P1 | exact P2 | exact P3 | exact P4 | exact P5 | exact P6 | exact P7 | exact P8) (show a.l[5]? = some (.slice a.A a.n a.c) from rfl))) rfl ?_
          refine TL.val (OpV.len Try.underlying38 rfl) rfl ?_
          refine TL.val (OpV.lss rfl rfl) rfl ?_
          refine TL.nil ?_
          refine TE.next ?_
          refine T.cond rfl ?_ ?_
          ·
           intro ht175
           try simp only [decide_eq_true_eq, decide_eq_false_iff_not, beq_iff_eq, beq_eq_false_iff_ne, bne_iff_ne, bne_eq_false_iff_eq, Bool.not_eq_true', Bool.not_eq_false', ne_eq] at ht175
           have hq : q < a.n := by omega
           obtain ⟨z, hz⟩ := get_of_lt hks.1 hq
           obtain ⟨bk, ok, hAk, hatk⟩ := hks.pos (by omega)
           have hatz := hatk q z hz
           refine T.skip ?_
           refine TE.next ?_
           refine T.seq ?_
           refine T.block ?_
           refine T.quiet mix (by kernel_rfl) ?_
           refine TQ.val (OpV.move rfl) rfl ?_
           refine TQ.val (OpV.move rfl) rfl ?_
           refine TQ.part (t := 179) rfl ?_ ?_
           ·
            intro hg179
            try simp only [decide_eq_true_eq, decide_eq_false_iff_not, beq_iff_eq, beq_eq_false_iff_ne, bne_iff_ne, bne_eq_false_iff_eq, Bool.not_eq_true', Bool.not_eq_false', ne_eq] at hg179
            refine TQ.shut rfl rfl ?_
            refine TQ.shut rfl rfl ?_
            refine TQ.shut rfl rfl ?_
            refine TQ.shut rfl rfl ?_
            refine TQ.shut rfl rfl ?_
            refine TQ.shut rfl rfl ?_
            refine TQ.shut rfl rfl ?_
            refine TQ.shut rfl rfl ?_
            refine TQ.shut rfl rfl ?_
            refine TQ.shut rfl rfl ?_
            refine TQ.shut rfl rfl ?_
            refine TQ.val ((by first | exact OpV.pick_t rfl rfl | exact OpV.pick_f rfl rfl)) rfl ?_
            refine TQ.val (OpV.assign rfl) rfl ?_
            refine TQ.nil ?_
            refine TE.out ?_
            refine TE.sub (.cons (t := 0) rfl <| .cons (t := 3) rfl <| .cons (t := 4) rfl <| .cons (t := 5) rfl <| .cons (t := 6) rfl <| .cons (t := 8) rfl <| .cons (t := 12) rfl <| .cons (t := 13) rfl <| .cons (t := 14) rfl <| .cons (t := 15) rfl <| .cons (t := 16) rfl <| .cons (t := 17) rfl <| .nil) ?_
            refine TE.next ?_
            refine T.region ?_
            refine TL.val (OpV.move rfl) rfl ?_
            refine TL.val (OpV.add rfl rfl (by first | exact IntWalk.i64_in _ ⟨by omega, by omega⟩ | rfl)) rfl ?_
            refine TL.val (OpV.assign rfl) rfl ?_
            refine TL.nil ?_
            exact TE.meet (q + 1) ⟨by omega, by omega⟩ (.cons (t := 0) (by first | rfl | (simp [lk]; done)) <| .cons (t := 3) (by first | rfl | (simp [lk]; done)) <| .cons (t := 4) (by first | rfl | (simp [lk]; done)) <| .cons (t := 5) (by first | rfl | (simp [lk]; done)) <| .cons (t := 6) (by first | rfl | (simp [lk]; done)) <| .cons (t := 8) (by first | rfl | (simp [lk]; done)) <| .cons (t := 12) (by first | rfl | (simp [lk]; done)) <| .cons (t := 13) (by first | rfl | (simp [lk]; done)) <| .cons (t := 14) (by first | rfl | (simp [lk]; done)) <| .cons (t := 15) (by first | rfl | (simp [lk]; done)) <| .cons (t := 16) (by rw [hasK_succ hz, hg179]; rfl) <| .cons (t := 17) (by first | rfl | (simp [lk]; done)) <| .nil) (Perm.kle (.cons (by first | exact P0 | exact P1 | exact P2 | exact P3 | exact P4 | exact P5 | exact P6 | exact P7 | exact P8) (.cons (by first | exact P0 | exact P1 | exact P2 | exact P3 | exact P4 | exact P5 | exact P6 | exact P7 | exact P8) (.cons (by first | exact P0 | exact P1 | exact P2 | exact P3 | exact P4 | exact P5 | exact P6 | exact P7 | exact P8) (.cons (by first | exact P0 | exact P1 | exact P2 | exact P3 | exact P4 | exact P5 | exact P6 | exact P7 | exact P8) (.cons (by first | exact P0 | exact P1 | exact P2 | exact P3 | exact P4 | exact P5 | exact P6 | exact P7 | exact P8) (.cons (by first | exact P0 | exact P1 | exact P2 | exact P3 | exact P4 | exact P5 | exact P6 | exact P7 | exact P8) .nil)))))))
           ·
            intro hg179
            try simp only [decide_eq_true_eq, decide_eq_false_iff_not, beq_iff_eq, beq_eq_false_iff_ne, bne_iff_ne, bne_eq_false_iff_eq, Bool.not_eq_true', Bool.not_eq_false', ne_eq] at hg179
            refine TQ.open rfl rfl ?_
            refine TQ.val (OpV.fieldAddr rfl fo_52_3) rfl ?_
            refine TQ.open rfl rfl ?_
            refine TQ.val (OpV.load pl_38 rfl (Cel.blk (by first | exact P0 | exact P1 | exact P2 | exact P3 | exact P4 | exact P5 | exact P6 | exact P7 | exact P8) (show a.l[5]? = some (.slice a.A a.n a.c) from rfl))) rfl ?_
            refine TQ.open rfl rfl ?_
            refine TQ.val (OpV.move rfl) rfl ?_
            refine TQ.open rfl rfl ?_
            refine TQ.val (OpV.indexAddr (j := q) se_38 rfl hAk rfl rfl (by omega)) rfl ?_
            refine TQ.open rfl rfl ?_
            refine TQ.val (OpV.load pl_29 rfl (by first | exact Cel.blk P0 rfl | exact Cel.blk P1 rfl | exact Cel.blk P2 rfl | exact Cel.blk P3 rfl | exact Cel.blk P4 rfl | exact Cel.blk P5 rfl | exact Cel.blk P6 rfl | exact Cel.blk P7 rfl | exact Cel.blk P8 rfl | exact Cel.ownA (haty _ _ rfl) | exact Cel.frA (hatz 0 _ rfl))) rfl ?_
            refine TQ.open rfl rfl ?_
            refine TQ.val (OpV.move rfl) rfl ?_
            refine TQ.open rfl rfl ?_
            refine TQ.val (OpV.move rfl) rfl ?_
            refine TQ.open rfl rfl ?_
            refine TQ.val (OpV.indexAddr (j := (xs.length - 1 - j)) se_24 rfl hA4 rfl (by omega) (by omega)) rfl ?_
            refine TQ.open rfl rfl ?_
            refine TQ.val (OpV.fieldAddr rfl fo_31_1) rfl ?_
            refine TQ.open rfl rfl ?_
            refine TQ.val (OpV.load pl_29 rfl (by first | exact Cel.blk P0 rfl | exact Cel.blk P1 rfl | exact Cel.blk P2 rfl | exact Cel.blk P3 rfl | exact Cel.blk P4 rfl | exact Cel.blk P5 rfl | exact Cel.blk P6 rfl | exact Cel.blk P7 rfl | exact Cel.blk P8 rfl | exact Cel.ownA (haty _ _ rfl) | exact Cel.frA (hatz 0 _ rfl))) rfl ?_
            refine TQ.open rfl rfl ?_
            refine TQ.val (OpV.eql rfl rfl) rfl ?_
            refine TQ.val ((by first | exact OpV.pick_t rfl rfl | exact OpV.pick_f rfl rfl)) rfl ?_
            refine TQ.val (OpV.assign rfl) rfl ?_
            refine TQ.nil ?_
            refine TE.out ?_
            refine TE.sub (.cons (t := 0) rfl <| .cons (t := 3) rfl <| .cons (t := 4) rfl <| .cons (t := 5) rfl <| .cons (t := 6) rfl <| .cons (t := 8) rfl <| .cons (t := 12) rfl <| .cons (t := 13) rfl <| .cons (t := 14) rfl <| .cons (t := 15) rfl <| .cons (t := 16) rfl <| .cons (t := 17) rfl <| .nil) ?_
            refine TE.next ?_
            refine T.region ?_
            refine TL.val (OpV.move rfl) rfl ?_
            refine TL.val (OpV.add rfl rfl (by first | exact IntWalk.i64_in _ ⟨by omega, by omega⟩ | rfl)) rfl ?_
            refine TL.val (OpV.assign rfl) rfl ?_
            refine TL.nil ?_
            exact TE.meet (q + 1) ⟨by omega, by omega⟩ (.cons (t := 0) (by first | rfl | (simp [lk]; done)) <| .cons (t := 3) (by first | rfl | (simp [lk]; done)) <| .cons (t := 4) (by first | rfl | (simp [lk]; done)) <| .cons (t := 5) (by first | rfl | (simp [lk]; done)) <| .cons (t := 6) (by first | rfl | (simp [lk]; done)) <| .cons (t := 8) (by first | rfl | (simp [lk]; done)) <| .cons (t := 12) (by first | rfl | (simp [lk]; done)) <| .cons (t := 13) (by first | rfl | (simp [lk]; done)) <| .cons (t := 14) (by first | rfl | (simp [lk]; done)) <| .cons (t := 15) (by first | rfl | (simp [lk]; done)) <| .cons (t := 16) (by rw [hasK_succ hz, hg179]; rfl) <| .cons (t := 17) (by first | rfl | (simp [lk]; done)) <| .nil) (Perm.kle (.cons (by first | exact P0 | exact P1 | exact P2 | exact P3 | exact P4 | exact P5 | exact P6 | exact P7 | exact P8) (.cons (by first | exact P0 | exact P1 | exact P2 | exact P3 | exact P4 | exact P5 | exact P6 | exact P7 | exact P8) (.cons (by first | exact P0 | exact P1 | exact P2 | exact P3 | exact P4 | exact P5 | exact P6 | exact P7 | exact P8) (.cons (by first | exact P0 | exact P1 | exact P2 | exact P3 | exact P4 | exact P5 | exact P6 | exact P7 | exact P8) (.cons (by first | exact P0 | exact P1 | exact P2 | exact P3 | exact P4 | exact P5 | exact P6 | exact P7 | exact P8) (.cons (by first | exact P0 | exact P1 | exact P2 | exact P3 | exact P4 | exact P5 | exact P6 | exact P7 | exact P8) .nil)))))))
          ·
           intro ht175
           try simp only [decide_eq_true_eq, decide_eq_false_iff_not, beq_iff_eq, beq_eq_false_iff_ne, bne_iff_ne, bne_eq_false_iff_eq, Bool.not_eq_true', Bool.not_eq_false', ne_eq] at ht175
           have hHK : hasK (ks.take q) y.kd = hasK ks y.kd := by rw [List.take_of_length_le (by omega)]
           refine T.exit ?_
           refine TE.pass_exit ?_
           refine TE.pass_exit ?_
           refine TE.here ?_
           refine TE.next ?_
           refine T.seq ?_
           refine T.quiet mix (by kernel_rfl) ?_
           refine TQ.val (OpV.move rfl) rfl ?_
           refine TQ.val (OpV.move rfl) rfl ?_
           refine TQ.part (t := 193) rfl ?_ ?_
           ·
            intro hg193
            try simp only [decide_eq_true_eq, decide_eq_false_iff_not, beq_iff_eq, beq_eq_false_iff_ne, bne_iff_ne, bne_eq_false_iff_eq, Bool.not_eq_true', Bool.not_eq_false', ne_eq] at hg193
            rw [hHK] at hg193
            refine TQ.open rfl rfl ?_
            refine TQ.val (OpV.fieldAddr rfl fo_52_0) rfl ?_
            refine TQ.open rfl rfl ?_
            refine TQ.val (OpV.load pl_3 rfl (Cel.blk (by first | exact P0 | exact P1 | exact P2 | exact P3 | exact P4 | exact P5 | exact P6 | exact P7 | exact P8) (show a.l[0]? = some (.int .i64 a.what) from rfl))) rfl ?_
            refine TQ.open rfl rfl ?_
            refine TQ.val (OpV.eql rfl rfl) rfl ?_
            refine TQ.said (t := 196) rfl (show _ = Value.bool true from congrArg Value.bool (by rw [ht152]; rfl)) ?_
            refine TQ.open rfl rfl ?_
            refine TQ.val (OpV.move rfl) rfl ?_
            refine TQ.open rfl rfl ?_
            refine TQ.val (OpV.move rfl) rfl ?_
            refine TQ.open rfl rfl ?_
            refine TQ.val (OpV.move rfl) rfl ?_
            refine TQ.open rfl rfl ?_
            refine TQ.val (OpV.indexAddr (j := (xs.length - 1 - j)) se_24 rfl hA4 rfl (by omega) (by omega)) rfl ?_
            refine TQ.open rfl rfl ?_
            refine TQ.val (OpV.fieldAddr rfl fo_31_0) rfl ?_
            refine TQ.open rfl rfl ?_
            refine TQ.val (OpV.load pl_3 rfl (by first | exact Cel.blk P0 rfl | exact Cel.blk P1 rfl | exact Cel.blk P2 rfl | exact Cel.blk P3 rfl | exact Cel.blk P4 rfl | exact Cel.blk P5 rfl | exact Cel.blk P6 rfl | exact Cel.blk P7 rfl | exact Cel.blk P8 rfl | exact Cel.ownA (haty _ _ rfl) | exact Cel.frA (hatz 0 _ rfl))) rfl ?_
            refine TQ.open rfl rfl ?_
            refine TQ.val (OpV.fieldAddr rfl fo_52_2) rfl ?_
            refine TQ.open rfl rfl ?_
            refine TQ.val (OpV.load pl_3 rfl (Cel.blk (by first | exact P0 | exact P1 | exact P2 | exact P3 | exact P4 | exact P5 | exact P6 | exact P7 | exact P8) (show a.l[4]? = some (.int .i64 a.line) from rfl))) rfl ?_
            refine TQ.open rfl rfl ?_
            refine TQ.val (OpV.gtr rfl rfl) rfl ?_
            refine TQ.open rfl rfl ?_
            refine TQ.val ((by first | exact OpV.pick_t rfl rfl | exact OpV.pick_f rfl rfl)) rfl ?_
            refine TQ.open rfl rfl ?_
            refine TQ.val (OpV.move rfl) rfl ?_
            refine TQ.part (t := 207) rfl ?_ ?_
            ·
             intro hg207
             try simp only [decide_eq_true_eq, decide_eq_false_iff_not, beq_iff_eq, beq_eq_false_iff_ne, bne_iff_ne, bne_eq_false_iff_eq, Bool.not_eq_true', Bool.not_eq_false', ne_eq] at hg207
             have hp : nextP a.line ks y = true := by rw [nextP, hg193, decide_eq_true hg207]; rfl
             refine TQ.shut rfl rfl ?_
             refine TQ.shut rfl rfl ?_
             refine TQ.shut rfl rfl ?_
             refine TQ.shut rfl rfl ?_
             refine TQ.shutU rfl rfl ?_
             refine TQ.shutU rfl rfl ?_
             refine TQ.shutU rfl rfl ?_
             refine TQ.shutU rfl rfl ?_
             refine TQ.shutU rfl rfl ?_
             refine TQ.shutU rfl rfl ?_
             refine TQ.shutU rfl rfl ?_
             refine TQ.shutU rfl rfl ?_
             refine TQ.shut rfl rfl ?_
             refine TQ.open rfl rfl ?_
             refine TQ.val ((by first | exact OpV.pick_t rfl rfl | exact OpV.pick_f rfl rfl)) rfl ?_
             refine TQ.val ((by first | exact OpV.pick_t rfl rfl | exact OpV.pick_f rfl rfl)) rfl ?_
             refine TQ.nil ?_
             refine TE.sub (.cons (t := 0) rfl <| .cons (t := 3) rfl <| .cons (t := 4) rfl <| .cons (t := 5) rfl <| .cons (t := 6) rfl <| .cons (t := 8) rfl <| .cons (t := 12) rfl <| .cons (t := 13) rfl <| .cons (t := 14) rfl <| .cons (t := 15) rfl <| .cons (t := 222) rfl <| .nil) ?_
             refine TE.next ?_
             refine T.yes rfl ?_
             refine T.region ?_
             refine TL.val (OpV.move rfl) rfl ?_
             refine TL.val (OpV.move rfl) rfl ?_
             refine TL.val (OpV.indexAddr (j := (xs.length - 1 - j)) se_24 rfl hA4 rfl (by omega) (by omega)) rfl ?_
             refine TL.val (OpV.loadA ag_31 rfl (Cels.ownA haty rfl)) rfl ?_
             first
               | refine TL.storeAll rfl rfl szz_31 rfl rfl rfl (by first | exact P0 | exact P1 | exact P2 | exact P3 | exact P4 | exact P5 | exact P6 | exact P7 | exact P8) (by rfl) ?_
               | refine TL.store rfl rfl szz_31 rfl rfl rfl (by first | exact P0 | exact P1 | exact P2 | exact P3 | exact P4 | exact P5 | exact P6 | exact P7 | exact P8) (by first | exact Nat.le_of_ble_eq_true rfl | (simp; done) | (simp; omega)) (by simp only [AcA.l, Mk.l, putL, List.take_succ_cons, List.take_zero, List.drop_succ_cons, List.drop_zero, List.cons_append, List.nil_append, List.length_cons, List.length_nil, Nat.reduceAdd]; rfl) ?_
             refine TL.val (OpV.assign rfl) rfl ?_
             refine TL.nil ?_
             refine TE.out ?_
             refine TE.next ?_
             refine T.region ?_
             refine TL.val (OpV.move rfl) rfl ?_
             refine TL.val (OpV.add rfl rfl (by first | exact IntWalk.i64_in _ ⟨by omega, by omega⟩ | rfl)) rfl ?_
             refine TL.val (OpV.assign rfl) rfl ?_
             refine TL.nil ?_
             rw [hp] at hSs
             have hS2 : ((xs.drop (xs.length - (j + 1))).find? (nextP a.line ks)) = some y := hSs
             exact TE.meet (j + 1) ⟨by omega, by omega⟩ (.cons (t := 0) (by first | rfl | (simp [lk]; done)) <| .cons (t := 3) (by first | rfl | (simp [lk]; done)) <| .cons (t := 4) (by first | rfl | (simp [lk]; done)) <| .cons (t := 5) (by first | rfl | (simp [lk]; done)) <| .cons (t := 6) (by first | rfl | (simp [lk]; done)) <| .cons (t := 8) (by first | rfl | (simp [lk]; done)) <| .cons (t := 12) (by first | rfl | (simp [lk]; done)) <| .cons (t := 13) (by rw [hS2]; rfl) <| .cons (t := 14) (by first | rfl | (simp [lk]; done)) <| .nil) ((by rw [hS2]; exact Perm.kle (.cons (by first | exact P0 | exact P1 | exact P2 | exact P3 | exact P4 | exact P5 | exact P6 | exact P7 | exact P8) (.cons (by first | exact P0 | exact P1 | exact P2 | exact P3 | exact P4 | exact P5 | exact P6 | exact P7 | exact P8) (.cons (by first | exact P0 | exact P1 | exact P2 | exact P3 | exact P4 | exact P5 | exact P6 | exact P7 | exact P8) (.cons (by first | exact P0 | exact P1 | exact P2 | exact P3 | exact P4 | exact P5 | exact P6 | exact P7 | exact P8) (.cons (by first | exact P0 | exact P1 | exact P2 | exact P3 | exact P4 | exact P5 | exact P6 | exact P7 | exact P8) (.cons (by first | exact P0 | exact P1 | exact P2 | exact P3 | exact P4 | exact P5 | exact P6 | exact P7 | exact P8) .nil))))))))
            ·
             intro hg207
             try simp only [decide_eq_true_eq, decide_eq_false_iff_not, beq_iff_eq, beq_eq_false_iff_ne, bne_iff_ne, bne_eq_false_iff_eq, Bool.not_eq_true', Bool.not_eq_false', ne_eq] at hg207
             have hp : nextP a.line ks y = false := by rw [nextP, decide_eq_false hg207]; rfl
             refine TQ.open rfl rfl ?_
             refine TQ.val (OpV.fieldAddr rfl fo_52_0) rfl ?_
             refine TQ.open rfl rfl ?_
             refine TQ.val (OpV.load pl_3 rfl (Cel.blk (by first | exact P0 | exact P1 | exact P2 | exact P3 | exact P4 | exact P5 | exact P6 | exact P7 | exact P8) (show a.l[0]? = some (.int .i64 a.what) from rfl))) rfl ?_
             refine TQ.open rfl rfl ?_
             refine TQ.val (OpV.eql rfl rfl) rfl ?_
             refine TQ.said (t := 210) rfl (show _ = Value.bool false from congrArg Value.bool (by rw [ht152]; rfl)) ?_
             refine TQ.open rfl rfl ?_
             refine TQ.val (OpV.move rfl) rfl ?_
             refine TQ.shut rfl rfl ?_
             refine TQ.shut rfl rfl ?_
             refine TQ.shut rfl rfl ?_
             refine TQ.shut rfl rfl ?_
             refine TQ.shut rfl rfl ?_
             refine TQ.shut rfl rfl ?_
             refine TQ.shut rfl rfl ?_
             refine TQ.shut rfl rfl ?_
             refine TQ.open rfl rfl ?_
             refine TQ.val ((by first | exact OpV.pick_t rfl rfl | exact OpV.pick_f rfl rfl)) rfl ?_
             refine TQ.open rfl rfl ?_
             refine TQ.val ((by first | exact OpV.pick_t rfl rfl | exact OpV.pick_f rfl rfl)) rfl ?_
             refine TQ.val ((by first | exact OpV.pick_t rfl rfl | exact OpV.pick_f rfl rfl)) rfl ?_
             refine TQ.nil ?_
             refine TE.sub (.cons (t := 0) rfl <| .cons (t := 3) rfl <| .cons (t := 4) rfl <| .cons (t := 5) rfl <| .cons (t := 6) rfl <| .cons (t := 8) rfl <| .cons (t := 12) rfl <| .cons (t := 13) rfl <| .cons (t := 14) rfl <| .cons (t := 15) rfl <| .cons (t := 222) rfl <| .nil) ?_
             refine TE.next ?_
             refine T.no rfl ?_
             refine T.skip ?_
             refine TE.out ?_
             refine TE.next ?_
             refine T.region ?_
             refine TL.val (OpV.move rfl) rfl ?_
             refine TL.val (OpV.add rfl rfl (by first | exact IntWalk.i64_in _ ⟨by omega, by omega⟩ | rfl)) rfl ?_
             refine TL.val (OpV.assign rfl) rfl ?_
             refine TL.nil ?_
             rw [hp] at hSs
             have hS2 : ((xs.drop (xs.length - (j + 1))).find? (nextP a.line ks)) = ((xs.drop (xs.length - j)).find? (nextP a.line ks)) := hSs
             exact TE.meet (j + 1) ⟨by omega, by omega⟩ (.cons (t := 0) (by first | rfl | (simp [lk]; done)) <| .cons (t := 3) (by first | rfl | (simp [lk]; done)) <| .cons (t := 4) (by first | rfl | (simp [lk]; done)) <| .cons (t := 5) (by first | rfl | (simp [lk]; done)) <| .cons (t := 6) (by first | rfl | (simp [lk]; done)) <| .cons (t := 8) (by first | rfl | (simp [lk]; done)) <| .cons (t := 12) (by first | rfl | (simp [lk]; done)) <| .cons (t := 13) (by rw [hS2]; rfl) <| .cons (t := 14) (by first | rfl | (simp [lk]; done)) <| .nil) ((by rw [hS2]; exact Perm.kle (.cons (by first | exact P0 | exact P1 | exact P2 | exact P3 | exact P4 | exact P5 | exact P6 | exact P7 | exact P8) (.cons (by first | exact P0 | exact P1 | exact P2 | exact P3 | exact P4 | exact P5 | exact P6 | exact P7 | exact P8) (.cons (by first | exact P0 | exact P1 | exact P2 | exact P3 | exact P4 | exact P5 | exact P6 | exact P7 | exact P8) (.cons (by first | exact P0 | exact P1 | exact P2 | exact P3 | exact P4 | exact P5 | exact P6 | exact P7 | exact P8) (.cons (by first | exact P0 | exact P1 | exact P2 | exact P3 | exact P4 | exact P5 | exact P6 | exact P7 | exact P8) (.cons (by first | exact P0 | exact P1 | exact P2 | exact P3 | exact P4 | exact P5 | exact P6 | exact P7 | exact P8) .nil))))))))
           ·
            intro hg193
            try simp only [decide_eq_true_eq, decide_eq_false_iff_not, beq_iff_eq, beq_eq_false_iff_ne, bne_iff_ne, bne_eq_false_iff_eq, Bool.not_eq_true', Bool.not_eq_false', ne_eq] at hg193
            rw [hHK] at hg193
            have hp : nextP a.line ks y = false := by rw [nextP, hg193, Bool.and_false]
            refine TQ.shut rfl rfl ?_
            refine TQ.shut rfl rfl ?_
            refine TQ.shut rfl rfl ?_
            refine TQ.shut rfl rfl ?_
            refine TQ.shutU rfl rfl ?_
            refine TQ.shutU rfl rfl ?_
            refine TQ.shutU rfl rfl ?_
            refine TQ.shutU rfl rfl ?_
            refine TQ.shutU rfl rfl ?_
            refine TQ.shutU rfl rfl ?_
            refine TQ.shutU rfl rfl ?_
            refine TQ.shutU rfl rfl ?_
            refine TQ.shut rfl rfl ?_
            refine TQ.shut rfl rfl ?_
            refine TQ.shutU rfl rfl ?_
            refine TQ.shutU rfl rfl ?_
            refine TQ.shutU rfl rfl ?_
            refine TQ.shutU rfl rfl ?_
            refine TQ.shutU rfl rfl ?_
            refine TQ.shutU rfl rfl ?_
            refine TQ.shutU rfl rfl ?_
            refine TQ.shutU rfl rfl ?_
            refine TQ.shutU rfl rfl ?_
            refine TQ.shutU rfl rfl ?_
            refine TQ.shutU rfl rfl ?_
            refine TQ.shutU rfl rfl ?_
            refine TQ.shutU rfl rfl ?_
            refine TQ.shut rfl rfl ?_
            refine TQ.val ((by first | exact OpV.pick_t rfl rfl | exact OpV.pick_f rfl rfl)) rfl ?_
            refine TQ.nil ?_
            refine TE.sub (.cons (t := 0) rfl <| .cons (t := 3) rfl <| .cons (t := 4) rfl <| .cons (t := 5) rfl <| .cons (t := 6) rfl <| .cons (t := 8) rfl <| .cons (t := 12) rfl <| .cons (t := 13) rfl <| .cons (t := 14) rfl <| .cons (t := 15) rfl <| .cons (t := 222) rfl <| .nil) ?_
            refine TE.next ?_
            refine T.no rfl ?_
            refine T.skip ?_
            refine TE.out ?_
            refine TE.next ?_
            refine T.region ?_
            refine TL.val (OpV.move rfl) rfl ?_
            refine TL.val (OpV.add rfl rfl (by first | exact IntWalk.i64_in _ ⟨by omega, by omega⟩ | rfl)) rfl ?_
            refine TL.val (OpV.assign rfl) rfl ?_
            refine TL.nil ?_
            rw [hp] at hSs
            have hS2 : ((xs.drop (xs.length - (j + 1))).find? (nextP a.line ks)) = ((xs.drop (xs.length - j)).find? (nextP a.line ks)) := hSs
            exact TE.meet (j + 1) ⟨by omega, by omega⟩ (.cons (t := 0) (by first | rfl | (simp [lk]; done)) <| .cons (t := 3) (by first | rfl | (simp [lk]; done)) <| .cons (t := 4) (by first | rfl | (simp [lk]; done)) <| .cons (t := 5) (by first | rfl | (simp [lk]; done)) <| .cons (t := 6) (by first | rfl | (simp [lk]; done)) <| .cons (t := 8) (by first | rfl | (simp [lk]; done)) <| .cons (t := 12) (by first | rfl | (simp [lk]; done)) <| .cons (t := 13) (by rw [hS2]; rfl) <| .cons (t := 14) (by first | rfl | (simp [lk]; done)) <| .nil) ((by rw [hS2]; exact Perm.kle (.cons (by first | exact P0 | exact P1 | exact P2 | exact P3 | exact P4 | exact P5 | exact P6 | exact P7 | exact P8) (.cons (by first | exact P0 | exact P1 | exact P2 | exact P3 | exact P4 | exact P5 | exact P6 | exact P7 | exact P8) (.cons (by first | exact P0 | exact P1 | exact P2 | exact P3 | exact P4 | exact P5 | exact P6 | exact P7 | exact P8) (.cons (by first | exact P0 | exact P1 | exact P2 | exact P3 | exact P4 | exact P5 | exact P6 | exact P7 | exact P8) (.cons (by first | exact P0 | exact P1 | exact P2 | exact P3 | exact P4 | exact P5 | exact P6 | exact P7 | exact P8) (.cons (by first | exact P0 | exact P1 | exact P2 | exact P3 | exact P4 | exact P5 | exact P6 | exact P7 | exact P8) .nil))))))))
         ·
          intro ht159
          try simp only [decide_eq_true_eq, decide_eq_false_iff_not, beq_iff_eq, beq_eq_false_iff_ne, bne_iff_ne, bne_eq_false_iff_eq, Bool.not_eq_true', Bool.not_eq_false', ne_eq] at ht159
          refine T.exit ?_
          refine TE.pass_exit ?_
          refine TE.pass_exit ?_
          refine TE.here ?_
          refine TE.next ?_
          refine T.seq ?_
          refine T.seq ?_
          refine T.region ?_
          refine TL.val (OpV.move rfl) rfl ?_
          refine TL.val (OpV.not rfl) rfl ?_
          refine TL.nil ?_
          refine TE.sub (.cons (t := 0) rfl <| .cons (t := 3) rfl <| .cons (t := 4) rfl <| .cons (t := 5) rfl <| .cons (t := 6) rfl <| .cons (t := 12) rfl <| .cons (t := 13) rfl <| .cons (t := 228) rfl <| .nil) ?_
          refine TE.next ?_
          refine T.cond rfl ?_ ?_
          ·
           intro ht228
           try simp only [decide_eq_true_eq, decide_eq_false_iff_not, beq_iff_eq, beq_eq_false_iff_ne, bne_iff_ne, bne_eq_false_iff_eq, Bool.not_eq_true', Bool.not_eq_false', ne_eq] at ht228
           have hck : chkE ks ≠ 0 := fun e => by rw [← fine_chk hkl, ht228] at e; cases e
           refine T.region ?_
           refine TL.val (OpV.build (qs := #[]) (fun _ _ => by simp) (bld_31)) rfl ?_
           first
             | refine TL.storeAll rfl rfl szz_31 rfl rfl rfl (by first | exact P0 | exact P1 | exact P2 | exact P3 | exact P4 | exact P5 | exact P6 | exact P7 | exact P8) (by rfl) ?_
             | refine TL.store rfl rfl szz_31 rfl rfl rfl (by first | exact P0 | exact P1 | exact P2 | exact P3 | exact P4 | exact P5 | exact P6 | exact P7 | exact P8) (by first | exact Nat.le_of_ble_eq_true rfl | (simp; done) | (simp; omega)) (by simp only [AcA.l, Mk.l, putL, List.take_succ_cons, List.take_zero, List.drop_succ_cons, List.drop_zero, List.cons_append, List.nil_append, List.length_cons, List.length_nil, Nat.reduceAdd]; rfl) ?_
           refine TL.val (OpV.assign rfl) rfl ?_
           refine TL.nil ?_
           refine TE.next ?_
           refine T.region ?_
           refine TL.val (OpV.fieldAddr rfl fo_52_0) rfl ?_
           refine TL.val (OpV.load pl_3 rfl (Cel.blk (by first | exact P0 | exact P1 | exact P2 | exact P3 | exact P4 | exact P5 | exact P6 | exact P7 | exact P8) (show a.l[0]? = some (.int .i64 a.what) from rfl))) rfl ?_
           refine TL.val (OpV.eql rfl rfl) rfl ?_
           refine TL.said (t := 232) rfl (show _ = Value.bool true from congrArg Value.bool (by rw [ht152]; rfl)) ?_
           refine TL.val (OpV.move rfl) rfl ?_
           refine TL.open rfl rfl ?_
           refine TL.val (OpV.move rfl) rfl ?_
           refine TL.open rfl rfl ?_
           refine TL.val (OpV.fieldAddr rfl fo_52_2) rfl ?_
           refine TL.open rfl rfl ?_
           refine TL.val (OpV.load pl_3 rfl (Cel.blk (by first | exact P0 | exact P1 | exact P2 | exact P3 | exact P4 | exact P5 | exact P6 | exact P7 | exact P8) (show a.l[4]? = some (.int .i64 a.line) from rfl))) rfl ?_
           refine TL.open rfl rfl ?_
           refine TL.val (OpV.fieldAddr rfl fo_52_3) rfl ?_
           refine TL.open rfl rfl ?_
           refine TL.val (OpV.load pl_38 rfl (Cel.blk (by first | exact P0 | exact P1 | exact P2 | exact P3 | exact P4 | exact P5 | exact P6 | exact P7 | exact P8) (show a.l[5]? = some (.slice a.A a.n a.c) from rfl))) rfl ?_
           refine TL.open rfl rfl ?_
           refine TL.val (OpV.loadA ag_31 rfl (Cels.blkAt Mk.zero.l (by first | exact P0 | exact P1 | exact P2 | exact P3 | exact P4 | exact P5 | exact P6 | exact P7 | exact P8) rfl rfl)) rfl ?_
           refine TL.open rfl rfl ?_
           refine TL.val (OpV.move rfl) rfl ?_
           refine TL.open rfl rfl ?_
           refine TL.call (g := 14) rfl go_14 rfl (fun w1 k1 => nexts_c a.line Mk.zero 2 w1 (KOk.mo (b := bm) (c := cm) (T := 26) (e := 31) (A := Am) (xs := xs) k1 (by first | exact P0 | exact P1 | exact P2 | exact P3 | exact P4 | exact P5 | exact P6 | exact P7 | exact P8) (by first | exact P0 | exact P1 | exact P2 | exact P3 | exact P4 | exact P5 | exact P6 | exact P7 | exact P8)) (hks.mono (k1.get (e := .fr σ) (by first | exact P0 | exact P1 | exact P2 | exact P3 | exact P4 | exact P5 | exact P6 | exact P7 | exact P8))) (fun _ _ h => h) (fun _ _ h => h)) rfl ?_
           refine TL.said (t := 241) rfl (show _ = Value.bool true from congrArg Value.bool (by rw [(fnd_no hck).1, (fnd_no hck).2]; simp)) ?_
           refine TL.val ((by first | exact OpV.pick_t rfl rfl | exact OpV.pick_f rfl rfl)) rfl ?_
           refine TL.val (OpV.move rfl) rfl ?_
           refine TL.shut rfl rfl ?_
           refine TL.shut rfl rfl ?_
           refine TL.shut rfl rfl ?_
           refine TL.shut rfl rfl ?_
           refine TL.shutU rfl rfl ?_
           refine TL.shutU rfl rfl ?_
           refine TL.shutU rfl rfl ?_
           refine TL.shutU rfl rfl ?_
           refine TL.shutU rfl rfl ?_
           refine TL.shutU rfl rfl ?_
           refine TL.shutU rfl rfl ?_
           refine TL.shutU rfl rfl ?_
           refine TL.shut rfl rfl ?_
           refine TL.val ((by first | exact OpV.pick_t rfl rfl | exact OpV.pick_f rfl rfl)) rfl ?_
           refine TL.val (OpV.assign rfl) rfl ?_
           refine TL.nil ?_
           refine TE.out ?_
           exact TE.meet ⟨bm, Am, cm, xs, A4, c4, τ⟩ ⟨by omega, hok, hAm, hx4⟩ (.cons (t := 0) rfl <| .cons (t := 3) rfl <| .cons (t := 4) rfl <| .cons (t := 5) rfl <| .cons (t := 6) rfl <| .cons (t := 7) rfl <| .nil) (Perm.kle (.cons (by first | exact P0 | exact P1 | exact P2 | exact P3 | exact P4 | exact P5 | exact P6 | exact P7 | exact P8) (.cons (by first | exact P0 | exact P1 | exact P2 | exact P3 | exact P4 | exact P5 | exact P6 | exact P7 | exact P8) (.cons (by first | exact P0 | exact P1 | exact P2 | exact P3 | exact P4 | exact P5 | exact P6 | exact P7 | exact P8) (.cons (by first | exact P0 | exact P1 | exact P2 | exact P3 | exact P4 | exact P5 | exact P6 | exact P7 | exact P8) (.cons (by first | exact P0 | exact P1 | exact P2 | exact P3 | exact P4 | exact P5 | exact P6 | exact P7 | exact P8) .nil))))))
          ·
           intro ht228
           try simp only [decide_eq_true_eq, decide_eq_false_iff_not, beq_iff_eq, beq_eq_false_iff_ne, bne_iff_ne, bne_eq_false_iff_eq, Bool.not_eq_true', Bool.not_eq_false', ne_eq] at ht228
           have hck : chkE ks = 0 := (fine_chk hkl).1 ht228
           refine T.skip ?_
           refine TE.next ?_
           refine T.region ?_
           refine TL.val (OpV.fieldAddr rfl fo_52_0) rfl ?_
           refine TL.val (OpV.load pl_3 rfl (Cel.blk (by first | exact P0 | exact P1 | exact P2 | exact P3 | exact P4 | exact P5 | exact P6 | exact P7 | exact P8) (show a.l[0]? = some (.int .i64 a.what) from rfl))) rfl ?_
           refine TL.val (OpV.eql rfl rfl) rfl ?_
           refine TL.said (t := 232) rfl (show _ = Value.bool true from congrArg Value.bool (by rw [ht152]; rfl)) ?_
           refine TL.val (OpV.move rfl) rfl ?_
           refine TL.open rfl rfl ?_
           refine TL.val (OpV.move rfl) rfl ?_
           refine TL.open rfl rfl ?_
           refine TL.val (OpV.fieldAddr rfl fo_52_2) rfl ?_
           refine TL.open rfl rfl ?_
           refine TL.val (OpV.load pl_3 rfl (Cel.blk (by first | exact P0 | exact P1 | exact P2 | exact P3 | exact P4 | exact P5 | exact P6 | exact P7 | exact P8) (show a.l[4]? = some (.int .i64 a.line) from rfl))) rfl ?_
           refine TL.open rfl rfl ?_
           refine TL.val (OpV.fieldAddr rfl fo_52_3) rfl ?_
           refine TL.open rfl rfl ?_
           refine TL.val (OpV.load pl_38 rfl (Cel.blk (by first | exact P0 | exact P1 | exact P2 | exact P3 | exact P4 | exact P5 | exact P6 | exact P7 | exact P8) (show a.l[5]? = some (.slice a.A a.n a.c) from rfl))) rfl ?_
           refine TL.open rfl rfl ?_
           refine TL.val (OpV.loadA ag_31 rfl (Cels.blkAt (oZ ((xs.drop (xs.length - j)).find? (nextP a.line ks))).l (by first | exact P0 | exact P1 | exact P2 | exact P3 | exact P4 | exact P5 | exact P6 | exact P7 | exact P8) rfl rfl)) rfl ?_
           refine TL.open rfl rfl ?_
           refine TL.val (OpV.move rfl) rfl ?_
           refine TL.open rfl rfl ?_
           refine TL.call (g := 14) rfl go_14 rfl (fun w1 k1 => nexts_c a.line (oZ ((xs.drop (xs.length - j)).find? (nextP a.line ks))) (oN ((xs.drop (xs.length - j)).find? (nextP a.line ks))) w1 (KOk.mo (b := bm) (c := cm) (T := 26) (e := 31) (A := Am) (xs := xs) k1 (by first | exact P0 | exact P1 | exact P2 | exact P3 | exact P4 | exact P5 | exact P6 | exact P7 | exact P8) (by first | exact P0 | exact P1 | exact P2 | exact P3 | exact P4 | exact P5 | exact P6 | exact P7 | exact P8)) (hks.mono (k1.get (e := .fr σ) (by first | exact P0 | exact P1 | exact P2 | exact P3 | exact P4 | exact P5 | exact P6 | exact P7 | exact P8))) (fun _ _ h => h) (fun _ _ h => h)) rfl ?_
           refine TL.said (t := 241) rfl (show _ = Value.bool true from congrArg Value.bool (by rw [s2_all (show xs.length ≤ j by omega)]; change (decide (fndV (nextO a.line ks xs) ks = oZ (nextO a.line ks xs)) && (fndE (nextO a.line ks xs) ks == oN (nextO a.line ks xs))) = true; rw [(fnd_ok hck).1, (fnd_ok hck).2]; simp)) ?_
           refine TL.val ((by first | exact OpV.pick_t rfl rfl | exact OpV.pick_f rfl rfl)) rfl ?_
           refine TL.val (OpV.move rfl) rfl ?_
           refine TL.shut rfl rfl ?_
           refine TL.shut rfl rfl ?_
           refine TL.shut rfl rfl ?_
           refine TL.shut rfl rfl ?_
           refine TL.shutU rfl rfl ?_
           refine TL.shutU rfl rfl ?_
           refine TL.shutU rfl rfl ?_
           refine TL.shutU rfl rfl ?_
           refine TL.shutU rfl rfl ?_
           refine TL.shutU rfl rfl ?_
           refine TL.shutU rfl rfl ?_
           refine TL.shutU rfl rfl ?_
           refine TL.shut rfl rfl ?_
           refine TL.val ((by first | exact OpV.pick_t rfl rfl | exact OpV.pick_f rfl rfl)) rfl ?_
           refine TL.val (OpV.assign rfl) rfl ?_
           refine TL.nil ?_
           refine TE.out ?_
           exact TE.meet ⟨bm, Am, cm, xs, A4, c4, τ⟩ ⟨by omega, hok, hAm, hx4⟩ (.cons (t := 0) rfl <| .cons (t := 3) rfl <| .cons (t := 4) rfl <| .cons (t := 5) rfl <| .cons (t := 6) rfl <| .cons (t := 7) rfl <| .nil) (Perm.kle (.cons (by first | exact P0 | exact P1 | exact P2 | exact P3 | exact P4 | exact P5 | exact P6 | exact P7 | exact P8) (.cons (by first | exact P0 | exact P1 | exact P2 | exact P3 | exact P4 | exact P5 | exact P6 | exact P7 | exact P8) (.cons (by first | exact P0 | exact P1 | exact P2 | exact P3 | exact P4 | exact P5 | exact P6 | exact P7 | exact P8) (.cons (by first | exact P0 | exact P1 | exact P2 | exact P3 | exact P4 | exact P5 | exact P6 | exact P7 | exact P8) (.cons (by first | exact P0 | exact P1 | exact P2 | exact P3 | exact P4 | exact P5 | exact P6 | exact P7 | exact P8) .nil))))))
        ·
         intro ht152
         try simp only [decide_eq_true_eq, decide_eq_false_iff_not, beq_iff_eq, beq_eq_false_iff_ne, bne_iff_ne, bne_eq_false_iff_eq, Bool.not_eq_true', Bool.not_eq_false', ne_eq] at ht152
         refine T.region ?_
         refine TL.val (OpV.eql rfl rfl) rfl ?_
         refine TL.val (OpV.assign rfl) rfl ?_
         refine TL.nil ?_
         refine TE.sub (.cons (t := 0) rfl <| .cons (t := 3) rfl <| .cons (t := 4) rfl <| .cons (t := 5) rfl <| .cons (t := 6) rfl <| .cons (t := 7) rfl <| .cons (t := 8) rfl <| .cons (t := 152) rfl <| .nil) ?_
         refine TE.next ?_
         refine T.cond rfl ?_ ?_
         ·
          intro ht152
          try simp only [decide_eq_true_eq, decide_eq_false_iff_not, beq_iff_eq, beq_eq_false_iff_ne, bne_iff_ne, bne_eq_false_iff_eq, Bool.not_eq_true', Bool.not_eq_false', ne_eq] at ht152
          refine T.said (t := 152) rfl (show _ = Value.bool true by rw [ht152]; rfl) ?_
          refine T.seq ?_
          refine T.region ?_
          refine TL.val (OpV.build (qs := #[]) (fun _ _ => by simp) (bld_31)) rfl ?_
          refine TL.alloc zo_31 rfl ?_
          intro b12
          first
            | refine TL.storeAll rfl rfl szz_31 rfl rfl rfl (by first | exact P0 | exact P1 | exact P2 | exact P3 | exact P4 | exact P5 | exact P6 | exact P7 | exact P8) (by rfl) ?_
            | refine TL.store rfl rfl szz_31 rfl rfl rfl (by first | exact P0 | exact P1 | exact P2 | exact P3 | exact P4 | exact P5 | exact P6 | exact P7 | exact P8) (by first | exact Nat.le_of_ble_eq_true rfl | (simp; done) | (simp; omega)) (by simp only [AcA.l, Mk.l, putL, List.take_succ_cons, List.take_zero, List.drop_succ_cons, List.drop_zero, List.cons_append, List.nil_append, List.length_cons, List.length_nil, Nat.reduceAdd]; rfl) ?_
          refine TL.val (OpV.assign rfl) rfl ?_
          refine TL.nil ?_
          refine TE.next ?_
          refine T.seq ?_
          refine T.seq ?_
          refine T.region ?_
          refine TL.val (OpV.assign rfl) rfl ?_
          refine TL.nil ?_
          refine TE.next ?_
          refine T.block ?_
          refine T.loop (ι := Nat) (fun j => j ≤ xs.length) (fun j => (xs.length - j)) (fun j => [(0, .slice A n c), (3, .pointer (some ⟨bm, 0, none⟩)), (4, .slice A4 xs.length c4), (5, .int .i64 (i : Int)), (6, .pointer (some ⟨b6, 0, none⟩)), (8, .bool (fineV a.n ks a.n)), (12, .pointer (some ⟨b12, 0, none⟩)), (13, .int .i64 (oN ((xs.take j).reverse.find? (prevP a.line ks)))), (14, .int .i64 (j : Int))]) (fun j => [.blk b12 (oZ ((xs.take j).reverse.find? (prevP a.line ks))).l 31, .blk b6 a.l 52, .blk bm [.slice Am xs.length cm] 26, .row 31 3 Am xs.length cm (ml xs), .own τ, .fr σ]) 0 (Nat.zero_le _) (.cons (t := 0) rfl <| .cons (t := 3) rfl <| .cons (t := 4) rfl <| .cons (t := 5) rfl <| .cons (t := 6) rfl <| .cons (t := 8) rfl <| .cons (t := 12) rfl <| .cons (t := 13) (by rw [List.take_zero]; rfl) <| .cons (t := 14) rfl <| .nil) ((by rw [List.take_zero]; exact Perm.kle (.cons (by first | exact P0 | exact P1 | exact P2 | exact P3 | exact P4 | exact P5 | exact P6 | exact P7 | exact P8) (.cons (by first | exact P0 | exact P1 | exact P2 | exact P3 | exact P4 | exact P5 | exact P6 | exact P7 | exact P8) (.cons (by first | exact P0 | exact P1 | exact P2 | exact P3 | exact P4 | exact P5 | exact P6 | exact P7 | exact P8) (.cons (by first | exact P0 | exact P1 | exact P2 | exact P3 | exact P4 | exact P5 | exact P6 | exact P7 | exact P8) (.cons (by first | exact P0 | exact P1 | exact P2 | exact P3 | exact P4 | exact P5 | exact P6 | exact P7 | exact P8) (.cons (by first | exact P0 | exact P1 | exact P2 | exact P3 | exact P4 | exact P5 | exact P6 | exact P7 | exact P8) .nil)))))))) ?_
          rintro j hRj
          refine T.seq ?_
          refine T.seq ?_
          refine T.region ?_
          refine TL.val (OpV.move rfl) rfl ?_
          refine TL.val (OpV.move rfl) rfl ?_
          refine TL.val (OpV.len Try.underlying24 rfl) rfl ?_
          refine TL.val (OpV.lss rfl rfl) rfl ?_
          refine TL.nil ?_
          refine TE.next ?_
          refine T.cond rfl ?_ ?_
          ·
           intro ht159
           try simp only [decide_eq_true_eq, decide_eq_false_iff_not, beq_iff_eq, beq_eq_false_iff_ne, bne_iff_ne, bne_eq_false_iff_eq, Bool.not_eq_true', Bool.not_eq_false', ne_eq] at ht159
           have hj : j < xs.length := by omega
           obtain ⟨y, hy⟩ := get_of_lt rfl (show j < xs.length by omega)
           obtain ⟨b4, o4, hA4, hat4⟩ := hx4.pos (by omega)
           have haty := hat4 _ y hy
           have hSs := s3_succ (p := prevP a.line ks) hy
           refine T.skip ?_
           refine TE.next ?_
           refine T.seq ?_
           refine T.block ?_
           refine T.seq ?_
           refine T.region ?_
           refine TL.val (OpV.move rfl) rfl ?_
           refine TL.val (OpV.assign rfl) rfl ?_
           refine TL.nil ?_
           refine TE.next ?_
           refine T.seq ?_
           refine T.seq ?_
           refine T.region ?_
           refine TL.val (OpV.fieldAddr rfl fo_52_0) rfl ?_
           refine TL.val (OpV.load pl_3 rfl (Cel.blk (by first | exact P0 | exact P1 | exact P2 | exact P3 | exact P4 | exact P5 | exact P6 | exact P7 | exact P8) (show a.l[0]? = some (.int .i64 a.what) from rfl))) rfl ?_
           refine TL.val (OpV.eql rfl rfl) rfl ?_
           refine TL.said (t := 165) rfl (show _ = Value.bool false from congrArg Value.bool (by rw [ht152]; rfl)) ?_
           refine TL.nil ?_
           refine TE.sub (.cons (t := 0) rfl <| .cons (t := 3) rfl <| .cons (t := 4) rfl <| .cons (t := 5) rfl <| .cons (t := 6) rfl <| .cons (t := 8) rfl <| .cons (t := 12) rfl <| .cons (t := 13) rfl <| .cons (t := 14) rfl <| .cons (t := 15) rfl <| .cons (t := 165) rfl <| .nil) ?_
           refine TE.next ?_
           refine T.no rfl ?_
           refine T.skip ?_
           refine TE.next ?_
           refine T.seq ?_
           refine T.region ?_
           refine TL.val (OpV.assign rfl) rfl ?_
           refine TL.nil ?_
           refine TE.next ?_
           refine T.seq ?_
           refine T.seq ?_
           refine T.region ?_
           refine TL.val (OpV.assign rfl) rfl ?_
           refine TL.nil ?_
           refine TE.next ?_
           refine T.block ?_
           refine T.loop (ι := Nat) (fun q => q ≤ a.n) (fun q => (a.n - q)) (fun q => [(0, .slice A n c), (3, .pointer (some ⟨bm, 0, none⟩)), (4, .slice A4 xs.length c4), (5, .int .i64 (i : Int)), (6, .pointer (some ⟨b6, 0, none⟩)), (8, .bool (fineV a.n ks a.n)), (12, .pointer (some ⟨b12, 0, none⟩)), (13, .int .i64 (oN ((xs.take j).reverse.find? (prevP a.line ks)))), (14, .int .i64 (j : Int)), (15, .int .i64 (j : Int)), (16, .bool (hasK (ks.take q) y.kd)), (17, .int .i64 (q : Int))]) (fun q => [.blk b12 (oZ ((xs.take j).reverse.find? (prevP a.line ks))).l 31, .blk b6 a.l 52, .blk bm [.slice Am xs.length cm] 26, .row 31 3 Am xs.length cm (ml xs), .own τ, .fr σ]) 0 (Nat.zero_le _) (.cons (t := 0) rfl <| .cons (t := 3) rfl <| .cons (t := 4) rfl <| .cons (t := 5) rfl <| .cons (t := 6) rfl <| .cons (t := 8) rfl <| .cons (t := 12) rfl <| .cons (t := 13) rfl <| .cons (t := 14) rfl <| .cons (t := 15) rfl <| .cons (t := 16) rfl <| .cons (t := 17) rfl <| .nil) (Perm.kle (.cons (by first | exact P0 | exact P1 | exact P2 | exact P3 | exact P4 | exact P5 | exact P6 | exact P7 | exact P8) (.cons (by first | exact P0 | exact P1 | exact P2 | exact P3 | exact P4 | exact P5 | exact P6 | exact P7 | exact P8) (.cons (by first | exact P0 | exact P1 | exact P2 | exact P3 | exact P4 | exact P5 | exact P6 | exact P7 | exact P8) (.cons (by first | exact P0 | exact P1 | exact P2 | exact P3 | exact P4 | exact P5 | exact P6 | exact P7 | exact P8) (.cons (by first | exact P0 | exact P1 | exact P2 | exact P3 | exact P4 | exact P5 | exact P6 | exact P7 | exact P8) (.cons (by first | exact P0 | exact P1 | exact P2 | exact P3 | exact P4 | exact P5 | exact P6 | exact P7 | exact P8) .nil))))))) ?_
           rintro q hRq
           refine T.seq ?_
           refine T.seq ?_
           refine T.region ?_
           refine TL.val (OpV.move rfl) rfl ?_
           refine TL.val (OpV.fieldAddr rfl fo_52_3) rfl ?_
           refine TL.val (OpV.load pl_38 rfl (Cel.blk (by first | exact P0 | exact P1 | exact P2 | exact P3 | exact P4 | exact P5 | exact P6 | exact P7 | exact P8) (show a.l[5]? = some (.slice a.A a.n a.c) from rfl))) rfl ?_
           refine TL.val (OpV.len Try.underlying38 rfl) rfl ?_
           refine TL.val (OpV.lss rfl rfl) rfl ?_
           refine TL.nil ?_
           refine TE.next ?_
           refine T.cond rfl ?_ ?_
           ·
            intro ht175
            try simp only [decide_eq_true_eq, decide_eq_false_iff_not, beq_iff_eq, beq_eq_false_iff_ne, bne_iff_ne, bne_eq_false_iff_eq, Bool.not_eq_true', Bool.not_eq_false', ne_eq] at ht175
            have hq : q < a.n := by omega
            obtain ⟨z, hz⟩ := get_of_lt hks.1 hq
            obtain ⟨bk, ok, hAk, hatk⟩ := hks.pos (by omega)
            have hatz := hatk q z hz
            refine T.skip ?_
            refine TE.next ?_
            refine T.seq ?_
            refine T.block ?_
            refine T.quiet mix (by kernel_rfl) ?_
            refine TQ.val (OpV.move rfl) rfl ?_
            refine TQ.val (OpV.move rfl) rfl ?_
            refine TQ.part (t := 179) rfl ?_ ?_
            ·
             intro hg179
             try simp only [decide_eq_true_eq, decide_eq_false_iff_not, beq_iff_eq, beq_eq_false_iff_ne, bne_iff_ne, bne_eq_false_iff_eq, Bool.not_eq_true', Bool.not_eq_false', ne_eq] at hg179
             refine TQ.shut rfl rfl ?_
             refine TQ.shut rfl rfl ?_
             refine TQ.shut rfl rfl ?_
             refine TQ.shut rfl rfl ?_
             refine TQ.shut rfl rfl ?_
             refine TQ.shut rfl rfl ?_
             refine TQ.shut rfl rfl ?_
             refine TQ.shut rfl rfl ?_
             refine TQ.shut rfl rfl ?_
             refine TQ.shut rfl rfl ?_
             refine TQ.shut rfl rfl ?_
             refine TQ.val ((by first | exact OpV.pick_t rfl rfl | exact OpV.pick_f rfl rfl)) rfl ?_
             refine TQ.val (OpV.assign rfl) rfl ?_
             refine TQ.nil ?_
             refine TE.out ?_
             refine TE.sub (.cons (t := 0) rfl <| .cons (t := 3) rfl <| .cons (t := 4) rfl <| .cons (t := 5) rfl <| .cons (t := 6) rfl <| .cons (t := 8) rfl <| .cons (t := 12) rfl <| .cons (t := 13) rfl <| .cons (t := 14) rfl <| .cons (t := 15) rfl <| .cons (t := 16) rfl <| .cons (t := 17) rfl <| .nil) ?_
             refine TE.next ?_
             refine T.region ?_
             refine TL.val (OpV.move rfl) rfl ?_
             refine TL.val (OpV.add rfl rfl (by first | exact IntWalk.i64_in _ ⟨by omega, by omega⟩ | rfl)) rfl ?_
             refine TL.val (OpV.assign rfl) rfl ?_
             refine TL.nil ?_
             exact TE.meet (q + 1) ⟨by omega, by omega⟩ (.cons (t := 0) (by first | rfl | (simp [lk]; done)) <| .cons (t := 3) (by first | rfl | (simp [lk]; done)) <| .cons (t := 4) (by first | rfl | (simp [lk]; done)) <| .cons (t := 5) (by first | rfl | (simp [lk]; done)) <| .cons (t := 6) (by first | rfl | (simp [lk]; done)) <| .cons (t := 8) (by first | rfl | (simp [lk]; done)) <| .cons (t := 12) (by first | rfl | (simp [lk]; done)) <| .cons (t := 13) (by first | rfl | (simp [lk]; done)) <| .cons (t := 14) (by first | rfl | (simp [lk]; done)) <| .cons (t := 15) (by first | rfl | (simp [lk]; done)) <| .cons (t := 16) (by rw [hasK_succ hz, hg179]; rfl) <| .cons (t := 17) (by first | rfl | (simp [lk]; done)) <| .nil) (Perm.kle (.cons (by first | exact P0 | exact P1 | exact P2 | exact P3 | exact P4 | exact P5 | exact P6 | exact P7 | exact P8) (.cons (by first | exact P0 | exact P1 | exact P2 | exact P3 | exact P4 | exact P5 | exact P6 | exact P7 | exact P8) (.cons (by first | exact P0 | exact P1 | exact P2 | exact P3 | exact P4 | exact P5 | exact P6 | exact P7 | exact P8) (.cons (by first | exact P0 | exact P1 | exact P2 | exact P3 | exact P4 | exact P5 | exact P6 | exact P7 | exact P8) (.cons (by first | exact P0 | exact P1 | exact P2 | exact P3 | exact P4 | exact P5 | exact P6 | exact P7 | exact P8) (.cons (by first | exact P0 | exact P1 | exact P2 | exact P3 | exact P4 | exact P5 | exact P6 | exact P7 | exact P8) .nil)))))))
            ·
             intro hg179
             try simp only [decide_eq_true_eq, decide_eq_false_iff_not, beq_iff_eq, beq_eq_false_iff_ne, bne_iff_ne, bne_eq_false_iff_eq, Bool.not_eq_true', Bool.not_eq_false', ne_eq] at hg179
             refine TQ.open rfl rfl ?_
             refine TQ.val (OpV.fieldAddr rfl fo_52_3) rfl ?_
             refine TQ.open rfl rfl ?_
             refine TQ.val (OpV.load pl_38 rfl (Cel.blk (by first | exact P0 | exact P1 | exact P2 | exact P3 | exact P4 | exact P5 | exact P6 | exact P7 | exact P8) (show a.l[5]? = some (.slice a.A a.n a.c) from rfl))) rfl ?_
             refine TQ.open rfl rfl ?_
             refine TQ.val (OpV.move rfl) rfl ?_
             refine TQ.open rfl rfl ?_
             refine TQ.val (OpV.indexAddr (j := q) se_38 rfl hAk rfl rfl (by omega)) rfl ?_
             refine TQ.open rfl rfl ?_
             refine TQ.val (OpV.load pl_29 rfl (by first | exact Cel.blk P0 rfl | exact Cel.blk P1 rfl | exact Cel.blk P2 rfl | exact Cel.blk P3 rfl | exact Cel.blk P4 rfl | exact Cel.blk P5 rfl | exact Cel.blk P6 rfl | exact Cel.blk P7 rfl | exact Cel.blk P8 rfl | exact Cel.ownA (haty _ _ rfl) | exact Cel.frA (hatz 0 _ rfl))) rfl ?_
             refine TQ.open rfl rfl ?_
             refine TQ.val (OpV.move rfl) rfl ?_
             refine TQ.open rfl rfl ?_
             refine TQ.val (OpV.move rfl) rfl ?_
             refine TQ.open rfl rfl ?_
             refine TQ.val (OpV.indexAddr (j := j) se_24 rfl hA4 rfl (by omega) (by omega)) rfl ?_
             refine TQ.open rfl rfl ?_
             refine TQ.val (OpV.fieldAddr rfl fo_31_1) rfl ?_
             refine TQ.open rfl rfl ?_
             refine TQ.val (OpV.load pl_29 rfl (by first | exact Cel.blk P0 rfl | exact Cel.blk P1 rfl | exact Cel.blk P2 rfl | exact Cel.blk P3 rfl | exact Cel.blk P4 rfl | exact Cel.blk P5 rfl | exact Cel.blk P6 rfl | exact Cel.blk P7 rfl | exact Cel.blk P8 rfl | exact Cel.ownA (haty _ _ rfl) | exact Cel.frA (hatz 0 _ rfl))) rfl ?_
             refine TQ.open rfl rfl ?_
             refine TQ.val (OpV.eql rfl rfl) rfl ?_
             refine TQ.val ((by first | exact OpV.pick_t rfl rfl | exact OpV.pick_f rfl rfl)) rfl ?_
             refine TQ.val (OpV.assign rfl) rfl ?_
             refine TQ.nil ?_
             refine TE.out ?_
             refine TE.sub (.cons (t := 0) rfl <| .cons (t := 3) rfl <| .cons (t := 4) rfl <| .cons (t := 5) rfl <| .cons (t := 6) rfl <| .cons (t := 8) rfl <| .cons (t := 12) rfl <| .cons (t := 13) rfl <| .cons (t := 14) rfl <| .cons (t := 15) rfl <| .cons (t := 16) rfl <| .cons (t := 17) rfl <| .nil) ?_
             refine TE.next ?_
             refine T.region ?_
             refine TL.val (OpV.move rfl) rfl ?_
             refine TL.val (OpV.add rfl rfl (by first | exact IntWalk.i64_in _ ⟨by omega, by omega⟩ | rfl)) rfl ?_
             refine TL.val (OpV.assign rfl) rfl ?_
             refine TL.nil ?_
             exact TE.meet (q + 1) ⟨by omega, by omega⟩ (.cons (t := 0) (by first | rfl | (simp [lk]; done)) <| .cons (t := 3) (by first | rfl | (simp [lk]; done)) <| .cons (t := 4) (by first | rfl | (simp [lk]; done)) <| .cons (t := 5) (by first | rfl | (simp [lk]; done)) <| .cons (t := 6) (by first | rfl | (simp [lk]; done)) <| .cons (t := 8) (by first | rfl | (simp [lk]; done)) <| .cons (t := 12) (by first | rfl | (simp [lk]; done)) <| .cons (t := 13) (by first | rfl | (simp [lk]; done)) <| .cons (t := 14) (by first | rfl | (simp [lk]; done)) <| .cons (t := 15) (by first | rfl | (simp [lk]; done)) <| .cons (t := 16) (by rw [hasK_succ hz, hg179]; rfl) <| .cons (t := 17) (by first | rfl | (simp [lk]; done)) <| .nil) (Perm.kle (.cons (by first | exact P0 | exact P1 | exact P2 | exact P3 | exact P4 | exact P5 | exact P6 | exact P7 | exact P8) (.cons (by first | exact P0 | exact P1 | exact P2 | exact P3 | exact P4 | exact P5 | exact P6 | exact P7 | exact P8) (.cons (by first | exact P0 | exact P1 | exact P2 | exact P3 | exact P4 | exact P5 | exact P6 | exact P7 | exact P8) (.cons (by first | exact P0 | exact P1 | exact P2 | exact P3 | exact P4 | exact P5 | exact P6 | exact P7 | exact P8) (.cons (by first | exact P0 | exact P1 | exact P2 | exact P3 | exact P4 | exact P5 | exact P6 | exact P7 | exact P8) (.cons (by first | exact P0 | exact P1 | exact P2 | exact P3 | exact P4 | exact P5 | exact P6 | exact P7 | exact P8) .nil)))))))
           ·
            intro ht175
            try simp only [decide_eq_true_eq, decide_eq_false_iff_not, beq_iff_eq, beq_eq_false_iff_ne, bne_iff_ne, bne_eq_false_iff_eq, Bool.not_eq_true', Bool.not_eq_false', ne_eq] at ht175
            have hHK : hasK (ks.take q) y.kd = hasK ks y.kd := by rw [List.take_of_length_le (by omega)]
            refine T.exit ?_
            refine TE.pass_exit ?_
            refine TE.pass_exit ?_
            refine TE.here ?_
            refine TE.next ?_
            refine T.seq ?_
            refine T.quiet mix (by kernel_rfl) ?_
            refine TQ.val (OpV.move rfl) rfl ?_
            refine TQ.val (OpV.move rfl) rfl ?_
            refine TQ.part (t := 193) rfl ?_ ?_
            ·
             intro hg193
             try simp only [decide_eq_true_eq, decide_eq_false_iff_not, beq_iff_eq, beq_eq_false_iff_ne, bne_iff_ne, bne_eq_false_iff_eq, Bool.not_eq_true', Bool.not_eq_false', ne_eq] at hg193
             rw [hHK] at hg193
             refine TQ.open rfl rfl ?_
             refine TQ.val (OpV.fieldAddr rfl fo_52_0) rfl ?_
             refine TQ.open rfl rfl ?_
             refine TQ.val (OpV.load pl_3 rfl (Cel.blk (by first | exact P0 | exact P1 | exact P2 | exact P3 | exact P4 | exact P5 | exact P6 | exact P7 | exact P8) (show a.l[0]? = some (.int .i64 a.what) from rfl))) rfl ?_
             refine TQ.open rfl rfl ?_
             refine TQ.val (OpV.eql rfl rfl) rfl ?_
             refine TQ.said (t := 196) rfl (show _ = Value.bool false from congrArg Value.bool (by rw [ht152]; rfl)) ?_
             refine TQ.open rfl rfl ?_
             refine TQ.val (OpV.move rfl) rfl ?_
             refine TQ.shut rfl rfl ?_
             refine TQ.shut rfl rfl ?_
             refine TQ.shut rfl rfl ?_
             refine TQ.shut rfl rfl ?_
             refine TQ.shut rfl rfl ?_
             refine TQ.shut rfl rfl ?_
             refine TQ.shut rfl rfl ?_
             refine TQ.shut rfl rfl ?_
             refine TQ.open rfl rfl ?_
             refine TQ.val ((by first | exact OpV.pick_t rfl rfl | exact OpV.pick_f rfl rfl)) rfl ?_
             refine TQ.open rfl rfl ?_
             refine TQ.val (OpV.move rfl) rfl ?_
             refine TQ.open rfl rfl ?_
             refine TQ.val (OpV.fieldAddr rfl fo_52_0) rfl ?_
             refine TQ.open rfl rfl ?_
             refine TQ.val (OpV.load pl_3 rfl (Cel.blk (by first | exact P0 | exact P1 | exact P2 | exact P3 | exact P4 | exact P5 | exact P6 | exact P7 | exact P8) (show a.l[0]? = some (.int .i64 a.what) from rfl))) rfl ?_
             refine TQ.open rfl rfl ?_
             refine TQ.val (OpV.eql rfl rfl) rfl ?_
             refine TQ.said (t := 210) rfl (show _ = Value.bool true from congrArg Value.bool (by rw [ht152]; rfl)) ?_
             refine TQ.open rfl rfl ?_
             refine TQ.val (OpV.move rfl) rfl ?_
             refine TQ.open rfl rfl ?_
             refine TQ.val (OpV.move rfl) rfl ?_
             refine TQ.open rfl rfl ?_
             refine TQ.val (OpV.move rfl) rfl ?_
             refine TQ.open rfl rfl ?_
             refine TQ.val (OpV.indexAddr (j := j) se_24 rfl hA4 rfl (by omega) (by omega)) rfl ?_
             refine TQ.open rfl rfl ?_
             refine TQ.val (OpV.fieldAddr rfl fo_31_0) rfl ?_
             refine TQ.open rfl rfl ?_
             refine TQ.val (OpV.load pl_3 rfl (by first | exact Cel.blk P0 rfl | exact Cel.blk P1 rfl | exact Cel.blk P2 rfl | exact Cel.blk P3 rfl | exact Cel.blk P4 rfl | exact Cel.blk P5 rfl | exact Cel.blk P6 rfl | exact Cel.blk P7 rfl | exact Cel.blk P8 rfl | exact Cel.ownA (haty _ _ rfl) | exact Cel.frA (hatz 0 _ rfl))) rfl ?_
             refine TQ.open rfl rfl ?_
             refine TQ.val (OpV.fieldAddr rfl fo_52_2) rfl ?_
             refine TQ.open rfl rfl ?_
             refine TQ.val (OpV.load pl_3 rfl (Cel.blk (by first | exact P0 | exact P1 | exact P2 | exact P3 | exact P4 | exact P5 | exact P6 | exact P7 | exact P8) (show a.l[4]? = some (.int .i64 a.line) from rfl))) rfl ?_
             refine TQ.open rfl rfl ?_
             refine TQ.val (OpV.lss rfl rfl) rfl ?_
             refine TQ.open rfl rfl ?_
             refine TQ.val ((by first | exact OpV.pick_t rfl rfl | exact OpV.pick_f rfl rfl)) rfl ?_
             refine TQ.open rfl rfl ?_
             refine TQ.val ((by first | exact OpV.pick_t rfl rfl | exact OpV.pick_f rfl rfl)) rfl ?_
             refine TQ.val ((by first | exact OpV.pick_t rfl rfl | exact OpV.pick_f rfl rfl)) rfl ?_
             refine TQ.nil ?_
             refine TE.sub (.cons (t := 0) rfl <| .cons (t := 3) rfl <| .cons (t := 4) rfl <| .cons (t := 5) rfl <| .cons (t := 6) rfl <| .cons (t := 8) rfl <| .cons (t := 12) rfl <| .cons (t := 13) rfl <| .cons (t := 14) rfl <| .cons (t := 15) rfl <| .cons (t := 222) rfl <| .nil) ?_
             refine TE.next ?_
             refine T.cond rfl ?_ ?_
             ·
              intro ht222
              try simp only [decide_eq_true_eq, decide_eq_false_iff_not, beq_iff_eq, beq_eq_false_iff_ne, bne_iff_ne, bne_eq_false_iff_eq, Bool.not_eq_true', Bool.not_eq_false', ne_eq] at ht222
              have hp : prevP a.line ks y = true := by rw [prevP, hg193, decide_eq_true ht222]; rfl
              refine T.region ?_
              refine TL.val (OpV.move rfl) rfl ?_
              refine TL.val (OpV.move rfl) rfl ?_
              refine TL.val (OpV.indexAddr (j := j) se_24 rfl hA4 rfl (by omega) (by omega)) rfl ?_
              refine TL.val (OpV.loadA ag_31 rfl (Cels.ownA haty rfl)) rfl ?_
              first
                | refine TL.storeAll rfl rfl szz_31 rfl rfl rfl (by first | exact P0 | exact P1 | exact P2 | exact P3 | exact P4 | exact P5 | exact P6 | exact P7 | exact P8) (by rfl) ?_
                | refine TL.store rfl rfl szz_31 rfl rfl rfl (by first | exact P0 | exact P1 | exact P2 | exact P3 | exact P4 | exact P5 | exact P6 | exact P7 | exact P8) (by first | exact Nat.le_of_ble_eq_true rfl | (simp; done) | (simp; omega)) (by simp only [AcA.l, Mk.l, putL, List.take_succ_cons, List.take_zero, List.drop_succ_cons, List.drop_zero, List.cons_append, List.nil_append, List.length_cons, List.length_nil, Nat.reduceAdd]; rfl) ?_
              refine TL.val (OpV.assign rfl) rfl ?_
              refine TL.nil ?_
              refine TE.out ?_
              refine TE.next ?_
              refine T.region ?_
              refine TL.val (OpV.move rfl) rfl ?_
              refine TL.val (OpV.add rfl rfl (by first | exact IntWalk.i64_in _ ⟨by omega, by omega⟩ | rfl)) rfl ?_
              refine TL.val (OpV.assign rfl) rfl ?_
              refine TL.nil ?_
              rw [hp] at hSs
              have hS2 : ((xs.take (j + 1)).reverse.find? (prevP a.line ks)) = some y := hSs
              exact TE.meet (j + 1) ⟨by omega, by omega⟩ (.cons (t := 0) (by first | rfl | (simp [lk]; done)) <| .cons (t := 3) (by first | rfl | (simp [lk]; done)) <| .cons (t := 4) (by first | rfl | (simp [lk]; done)) <| .cons (t := 5) (by first | rfl | (simp [lk]; done)) <| .cons (t := 6) (by first | rfl | (simp [lk]; done)) <| .cons (t := 8) (by first | rfl | (simp [lk]; done)) <| .cons (t := 12) (by first | rfl | (simp [lk]; done)) <| .cons (t := 13) (by rw [hS2]; rfl) <| .cons (t := 14) (by first | rfl | (simp [lk]; done)) <| .nil) ((by rw [hS2]; exact Perm.kle (.cons (by first | exact P0 | exact P1 | exact P2 | exact P3 | exact P4 | exact P5 | exact P6 | exact P7 | exact P8) (.cons (by first | exact P0 | exact P1 | exact P2 | exact P3 | exact P4 | exact P5 | exact P6 | exact P7 | exact P8) (.cons (by first | exact P0 | exact P1 | exact P2 | exact P3 | exact P4 | exact P5 | exact P6 | exact P7 | exact P8) (.cons (by first | exact P0 | exact P1 | exact P2 | exact P3 | exact P4 | exact P5 | exact P6 | exact P7 | exact P8) (.cons (by first | exact P0 | exact P1 | exact P2 | exact P3 | exact P4 | exact P5 | exact P6 | exact P7 | exact P8) (.cons (by first | exact P0 | exact P1 | exact P2 | exact P3 | exact P4 | exact P5 | exact P6 | exact P7 | exact P8) .nil))))))))
             ·
              intro ht222
              try simp only [decide_eq_true_eq, decide_eq_false_iff_not, beq_iff_eq, beq_eq_false_iff_ne, bne_iff_ne, bne_eq_false_iff_eq, Bool.not_eq_true', Bool.not_eq_false', ne_eq] at ht222
              have hp : prevP a.line ks y = false := by rw [prevP, decide_eq_false ht222]; rfl
              refine T.skip ?_
              refine TE.out ?_
              refine TE.next ?_
              refine T.region ?_
              refine TL.val (OpV.move rfl) rfl ?_
              refine TL.val (OpV.add rfl rfl (by first | exact IntWalk.i64_in _ ⟨by omega, by omega⟩ | rfl)) rfl ?_
              refine TL.val (OpV.assign rfl) rfl ?_
              refine TL.nil ?_
              rw [hp] at hSs
              have hS2 : ((xs.take (j + 1)).reverse.find? (prevP a.line ks)) = ((xs.take j).reverse.find? (prevP a.line ks)) := hSs
              exact TE.meet (j + 1) ⟨by omega, by omega⟩ (.cons (t := 0) (by first | rfl | (simp [lk]; done)) <| .cons (t := 3) (by first | rfl | (simp [lk]; done)) <| .cons (t := 4) (by first | rfl | (simp [lk]; done)) <| .cons (t := 5) (by first | rfl | (simp [lk]; done)) <| .cons (t := 6) (by first | rfl | (simp [lk]; done)) <| .cons (t := 8) (by first | rfl | (simp [lk]; done)) <| .cons (t := 12) (by first | rfl | (simp [lk]; done)) <| .cons (t := 13) (by rw [hS2]; rfl) <| .cons (t := 14) (by first | rfl | (simp [lk]; done)) <| .nil) ((by rw [hS2]; exact Perm.kle (.cons (by first | exact P0 | exact P1 | exact P2 | exact P3 | exact P4 | exact P5 | exact P6 | exact P7 | exact P8) (.cons (by first | exact P0 | exact P1 | exact P2 | exact P3 | exact P4 | exact P5 | exact P6 | exact P7 | exact P8) (.cons (by first | exact P0 | exact P1 | exact P2 | exact P3 | exact P4 | exact P5 | exact P6 | exact P7 | exact P8) (.cons (by first | exact P0 | exact P1 | exact P2 | exact P3 | exact P4 | exact P5 | exact P6 | exact P7 | exact P8) (.cons (by first | exact P0 | exact P1 | exact P2 | exact P3 | exact P4 | exact P5 | exact P6 | exact P7 | exact P8) (.cons (by first | exact P0 | exact P1 | exact P2 | exact P3 | exact P4 | exact P5 | exact P6 | exact P7 | exact P8) .nil))))))))
            ·
             intro hg193
             try simp only [decide_eq_true_eq, decide_eq_false_iff_not, beq_iff_eq, beq_eq_false_iff_ne, bne_iff_ne, bne_eq_false_iff_eq, Bool.not_eq_true', Bool.not_eq_false', ne_eq] at hg193
             rw [hHK] at hg193
             have hp : prevP a.line ks y = false := by rw [prevP, hg193, Bool.and_false]
             refine TQ.shut rfl rfl ?_
             refine TQ.shut rfl rfl ?_
             refine TQ.shut rfl rfl ?_
             refine TQ.shut rfl rfl ?_
             refine TQ.shutU rfl rfl ?_
             refine TQ.shutU rfl rfl ?_
             refine TQ.shutU rfl rfl ?_
             refine TQ.shutU rfl rfl ?_
             refine TQ.shutU rfl rfl ?_
             refine TQ.shutU rfl rfl ?_
             refine TQ.shutU rfl rfl ?_
             refine TQ.shutU rfl rfl ?_
             refine TQ.shut rfl rfl ?_
             refine TQ.shut rfl rfl ?_
             refine TQ.shutU rfl rfl ?_
             refine TQ.shutU rfl rfl ?_
             refine TQ.shutU rfl rfl ?_
             refine TQ.shutU rfl rfl ?_
             refine TQ.shutU rfl rfl ?_
             refine TQ.shutU rfl rfl ?_
             refine TQ.shutU rfl rfl ?_
             refine TQ.shutU rfl rfl ?_
             refine TQ.shutU rfl rfl ?_
             refine TQ.shutU rfl rfl ?_
             refine TQ.shutU rfl rfl ?_
             refine TQ.shutU rfl rfl ?_
             refine TQ.shutU rfl rfl ?_
             refine TQ.shut rfl rfl ?_
             refine TQ.val ((by first | exact OpV.pick_t rfl rfl | exact OpV.pick_f rfl rfl)) rfl ?_
             refine TQ.nil ?_
             refine TE.sub (.cons (t := 0) rfl <| .cons (t := 3) rfl <| .cons (t := 4) rfl <| .cons (t := 5) rfl <| .cons (t := 6) rfl <| .cons (t := 8) rfl <| .cons (t := 12) rfl <| .cons (t := 13) rfl <| .cons (t := 14) rfl <| .cons (t := 15) rfl <| .cons (t := 222) rfl <| .nil) ?_
             refine TE.next ?_
             refine T.no rfl ?_
             refine T.skip ?_
             refine TE.out ?_
             refine TE.next ?_
             refine T.region ?_
             refine TL.val (OpV.move rfl) rfl ?_
             refine TL.val (OpV.add rfl rfl (by first | exact IntWalk.i64_in _ ⟨by omega, by omega⟩ | rfl)) rfl ?_
             refine TL.val (OpV.assign rfl) rfl ?_
             refine TL.nil ?_
             rw [hp] at hSs
             have hS2 : ((xs.take (j + 1)).reverse.find? (prevP a.line ks)) = ((xs.take j).reverse.find? (prevP a.line ks)) := hSs
             exact TE.meet (j + 1) ⟨by omega, by omega⟩ (.cons (t := 0) (by first | rfl | (simp [lk]; done)) <| .cons (t := 3) (by first | rfl | (simp [lk]; done)) <| .cons (t := 4) (by first | rfl | (simp [lk]; done)) <| .cons (t := 5) (by first | rfl | (simp [lk]; done)) <| .cons (t := 6) (by first | rfl | (simp [lk]; done)) <| .cons (t := 8) (by first | rfl | (simp [lk]; done)) <| .cons (t := 12) (by first | rfl | (simp [lk]; done)) <| .cons (t := 13) (by rw [hS2]; rfl) <| .cons (t := 14) (by first | rfl | (simp [lk]; done)) <| .nil) ((by rw [hS2]; exact Perm.kle (.cons (by first | exact P0 | exact P1 | exact P2 | exact P3 | exact P4 | exact P5 | exact P6 | exact P7 | exact P8) (.cons (by first | exact P0 | exact P1 | exact P2 | exact P3 | exact P4 | exact P5 | exact P6 | exact P7 | exact P8) (.cons (by first | exact P0 | exact P1 | exact P2 | exact P3 | exact P4 | exact P5 | exact P6 | exact P7 | exact P8) (.cons (by first | exact P0 | exact P1 | exact P2 | exact P3 | exact P4 | exact P5 | exact P6 | exact P7 | exact P8) (.cons (by first | exact P0 | exact P1 | exact P2 | exact P3 | exact P4 | exact P5 | exact P6 | exact P7 | exact P8) (.cons (by first | exact P0 | exact P1 | exact P2 | exact P3 | exact P4 | exact P5 | exact P6 | exact P7 | exact P8) .nil))))))))
          ·
           intro ht159
           try simp only [decide_eq_true_eq, decide_eq_false_iff_not, beq_iff_eq, beq_eq_false_iff_ne, bne_iff_ne, bne_eq_false_iff_eq, Bool.not_eq_true', Bool.not_eq_false', ne_eq] at ht159
           refine T.exit ?_
           refine TE.pass_exit ?_
           refine TE.pass_exit ?_
           refine TE.here ?_
           refine TE.next ?_
           refine T.seq ?_
           refine T.seq ?_
           refine T.region ?_
           refine TL.val (OpV.move rfl) rfl ?_
           refine TL.val (OpV.not rfl) rfl ?_
           refine TL.nil ?_
           refine TE.sub (.cons (t := 0) rfl <| .cons (t := 3) rfl <| .cons (t := 4) rfl <| .cons (t := 5) rfl <| .cons (t := 6) rfl <| .cons (t := 12) rfl <| .cons (t := 13) rfl <| .cons (t := 228) rfl <| .nil) ?_
           refine TE.next ?_
           refine T.cond rfl ?_ ?_
           ·
            intro ht228
            try simp only [decide_eq_true_eq, decide_eq_false_iff_not, beq_iff_eq, beq_eq_false_iff_ne, bne_iff_ne, bne_eq_false_iff_eq, Bool.not_eq_true', Bool.not_eq_false', ne_eq] at ht228
            have hck : chkE ks ≠ 0 := fun e => by rw [← fine_chk hkl, ht228] at e; cases e
            refine T.region ?_
            refine TL.val (OpV.build (qs := #[]) (fun _ _ => by simp) (bld_31)) rfl ?_
            first
              | refine TL.storeAll rfl rfl szz_31 rfl rfl rfl (by first | exact P0 | exact P1 | exact P2 | exact P3 | exact P4 | exact P5 | exact P6 | exact P7 | exact P8) (by rfl) ?_
              | refine TL.store rfl rfl szz_31 rfl rfl rfl (by first | exact P0 | exact P1 | exact P2 | exact P3 | exact P4 | exact P5 | exact P6 | exact P7 | exact P8) (by first | exact Nat.le_of_ble_eq_true rfl | (simp; done) | (simp; omega)) (by simp only [AcA.l, Mk.l, putL, List.take_succ_cons, List.take_zero, List.drop_succ_cons, List.drop_zero, List.cons_append, List.nil_append, List.length_cons, List.length_nil, Nat.reduceAdd]; rfl) ?_
            refine TL.val (OpV.assign rfl) rfl ?_
            refine TL.nil ?_
            refine TE.next ?_
            refine T.region ?_
            refine TL.val (OpV.fieldAddr rfl fo_52_0) rfl ?_
            refine TL.val (OpV.load pl_3 rfl (Cel.blk (by first | exact P0 | exact P1 | exact P2 | exact P3 | exact P4 | exact P5 | exact P6 | exact P7 | exact P8) (show a.l[0]? = some (.int .i64 a.what) from rfl))) rfl ?_
            refine TL.val (OpV.eql rfl rfl) rfl ?_
            refine TL.said (t := 232) rfl (show _ = Value.bool false from congrArg Value.bool (by rw [ht152]; rfl)) ?_
            refine TL.val (OpV.move rfl) rfl ?_
            refine TL.shut rfl rfl ?_
            refine TL.shut rfl rfl ?_
            refine TL.shut rfl rfl ?_
            refine TL.shut rfl rfl ?_
            refine TL.shut rfl rfl ?_
            refine TL.shut rfl rfl ?_
            refine TL.shut rfl rfl ?_
            refine TL.shut rfl rfl ?_
            refine TL.val ((by first | exact OpV.pick_t rfl rfl | exact OpV.pick_f rfl rfl)) rfl ?_
            refine TL.val (OpV.move rfl) rfl ?_
            refine TL.open rfl rfl ?_
            refine TL.val (OpV.fieldAddr rfl fo_52_0) rfl ?_
            refine TL.open rfl rfl ?_
            refine TL.val (OpV.load pl_3 rfl (Cel.blk (by first | exact P0 | exact P1 | exact P2 | exact P3 | exact P4 | exact P5 | exact P6 | exact P7 | exact P8) (show a.l[0]? = some (.int .i64 a.what) from rfl))) rfl ?_
            refine TL.open rfl rfl ?_
            refine TL.val (OpV.eql rfl rfl) rfl ?_
            refine TL.said (t := 246) rfl (show _ = Value.bool true from congrArg Value.bool (by rw [ht152]; rfl)) ?_
            refine TL.open rfl rfl ?_
            refine TL.val (OpV.move rfl) rfl ?_
            refine TL.open rfl rfl ?_
            refine TL.val (OpV.move rfl) rfl ?_
            refine TL.open rfl rfl ?_
            refine TL.val (OpV.fieldAddr rfl fo_52_2) rfl ?_
            refine TL.open rfl rfl ?_
            refine TL.val (OpV.load pl_3 rfl (Cel.blk (by first | exact P0 | exact P1 | exact P2 | exact P3 | exact P4 | exact P5 | exact P6 | exact P7 | exact P8) (show a.l[4]? = some (.int .i64 a.line) from rfl))) rfl ?_
            refine TL.open rfl rfl ?_
            refine TL.val (OpV.fieldAddr rfl fo_52_3) rfl ?_
            refine TL.open rfl rfl ?_
            refine TL.val (OpV.load pl_38 rfl (Cel.blk (by first | exact P0 | exact P1 | exact P2 | exact P3 | exact P4 | exact P5 | exact P6 | exact P7 | exact P8) (show a.l[5]? = some (.slice a.A a.n a.c) from rfl))) rfl ?_
            refine TL.open rfl rfl ?_
            refine TL.val (OpV.loadA ag_31 rfl (Cels.blkAt Mk.zero.l (by first | exact P0 | exact P1 | exact P2 | exact P3 | exact P4 | exact P5 | exact P6 | exact P7 | exact P8) rfl rfl)) rfl ?_
            refine TL.open rfl rfl ?_
            refine TL.val (OpV.move rfl) rfl ?_
            refine TL.open rfl rfl ?_
            refine TL.call (g := 19) rfl go_19 rfl (fun w1 k1 => prevs_c a.line Mk.zero 2 w1 (KOk.mo (b := bm) (c := cm) (T := 26) (e := 31) (A := Am) (xs := xs) k1 (by first | exact P0 | exact P1 | exact P2 | exact P3 | exact P4 | exact P5 | exact P6 | exact P7 | exact P8) (by first | exact P0 | exact P1 | exact P2 | exact P3 | exact P4 | exact P5 | exact P6 | exact P7 | exact P8)) (hks.mono (k1.get (e := .fr σ) (by first | exact P0 | exact P1 | exact P2 | exact P3 | exact P4 | exact P5 | exact P6 | exact P7 | exact P8))) (by omega) (fun _ _ h => h) (fun _ _ h => h)) rfl ?_
            refine TL.said (t := 255) rfl (show _ = Value.bool true from congrArg Value.bool (by rw [(fnd_no hck).1, (fnd_no hck).2]; simp)) ?_
            refine TL.open rfl rfl ?_
            refine TL.val ((by first | exact OpV.pick_t rfl rfl | exact OpV.pick_f rfl rfl)) rfl ?_
            refine TL.val ((by first | exact OpV.pick_t rfl rfl | exact OpV.pick_f rfl rfl)) rfl ?_
            refine TL.val (OpV.assign rfl) rfl ?_
            refine TL.nil ?_
            refine TE.out ?_
            exact TE.meet ⟨bm, Am, cm, xs, A4, c4, τ⟩ ⟨by omega, hok, hAm, hx4⟩ (.cons (t := 0) rfl <| .cons (t := 3) rfl <| .cons (t := 4) rfl <| .cons (t := 5) rfl <| .cons (t := 6) rfl <| .cons (t := 7) rfl <| .nil) (Perm.kle (.cons (by first | exact P0 | exact P1 | exact P2 | exact P3 | exact P4 | exact P5 | exact P6 | exact P7 | exact P8) (.cons (by first | exact P0 | exact P1 | exact P2 | exact P3 | exact P4 | exact P5 | exact P6 | exact P7 | exact P8) (.cons (by first | exact P0 | exact P1 | exact P2 | exact P3 | exact P4 | exact P5 | exact P6 | exact P7 | exact P8) (.cons (by first | exact P0 | exact P1 | exact P2 | exact P3 | exact P4 | exact P5 | exact P6 | exact P7 | exact P8) (.cons (by first | exact P0 | exact P1 | exact P2 | exact P3 | exact P4 | exact P5 | exact P6 | exact P7 | exact P8) .nil))))))
           ·
            intro ht228
            try simp only [decide_eq_true_eq, decide_eq_false_iff_not, beq_iff_eq, beq_eq_false_iff_ne, bne_iff_ne, bne_eq_false_iff_eq, Bool.not_eq_true', Bool.not_eq_false', ne_eq] at ht228
            have hck : chkE ks = 0 := (fine_chk hkl).1 ht228
            refine T.skip ?_
            refine TE.next ?_
            refine T.region ?_
            refine TL.val (OpV.fieldAddr rfl fo_52_0) rfl ?_
            refine TL.val (OpV.load pl_3 rfl (Cel.blk (by first | exact P0 | exact P1 | exact P2 | exact P3 | exact P4 | exact P5 | exact P6 | exact P7 | exact P8) (show a.l[0]? = some (.int .i64 a.what) from rfl))) rfl ?_
            refine TL.val (OpV.eql rfl rfl) rfl ?_
            refine TL.said (t := 232) rfl (show _ = Value.bool false from congrArg Value.bool (by rw [ht152]; rfl)) ?_
            refine TL.val (OpV.move rfl) rfl ?_
            refine TL.shut rfl rfl ?_
            refine TL.shut rfl rfl ?_
            refine TL.shut rfl rfl ?_
            refine TL.shut rfl rfl ?_
            refine TL.shut rfl rfl ?_
            refine TL.shut rfl rfl ?_
            refine TL.shut rfl rfl ?_
            refine TL.shut rfl rfl ?_
            refine TL.val ((by first | exact OpV.pick_t rfl rfl | exact OpV.pick_f rfl rfl)) rfl ?_
            refine TL.val (OpV.move rfl) rfl ?_
            refine TL.open rfl rfl ?_
            refine TL.val (OpV.fieldAddr rfl fo_52_0) rfl ?_
            refine TL.open rfl rfl ?_
            refine TL.val (OpV.load pl_3 rfl (Cel.blk (by first | exact P0 | exact P1 | exact P2 | exact P3 | exact P4 | exact P5 | exact P6 | exact P7 | exact P8) (show a.l[0]? = some (.int .i64 a.what) from rfl))) rfl ?_
            refine TL.open rfl rfl ?_
            refine TL.val (OpV.eql rfl rfl) rfl ?_
            refine TL.said (t := 246) rfl (show _ = Value.bool true from congrArg Value.bool (by rw [ht152]; rfl)) ?_
            refine TL.open rfl rfl ?_
            refine TL.val (OpV.move rfl) rfl ?_
            refine TL.open rfl rfl ?_
            refine TL.val (OpV.move rfl) rfl ?_
            refine TL.open rfl rfl ?_
            refine TL.val (OpV.fieldAddr rfl fo_52_2) rfl ?_
            refine TL.open rfl rfl ?_
            refine TL.val (OpV.load pl_3 rfl (Cel.blk (by first | exact P0 | exact P1 | exact P2 | exact P3 | exact P4 | exact P5 | exact P6 | exact P7 | exact P8) (show a.l[4]? = some (.int .i64 a.line) from rfl))) rfl ?_
            refine TL.open rfl rfl ?_
            refine TL.val (OpV.fieldAddr rfl fo_52_3) rfl ?_
            refine TL.open rfl rfl ?_
            refine TL.val (OpV.load pl_38 rfl (Cel.blk (by first | exact P0 | exact P1 | exact P2 | exact P3 | exact P4 | exact P5 | exact P6 | exact P7 | exact P8) (show a.l[5]? = some (.slice a.A a.n a.c) from rfl))) rfl ?_
            refine TL.open rfl rfl ?_
            refine TL.val (OpV.loadA ag_31 rfl (Cels.blkAt (oZ ((xs.take j).reverse.find? (prevP a.line ks))).l (by first | exact P0 | exact P1 | exact P2 | exact P3 | exact P4 | exact P5 | exact P6 | exact P7 | exact P8) rfl rfl)) rfl ?_
            refine TL.open rfl rfl ?_
            refine TL.val (OpV.move rfl) rfl ?_
            refine TL.open rfl rfl ?_
            refine TL.call (g := 19) rfl go_19 rfl (fun w1 k1 => prevs_c a.line (oZ ((xs.take j).reverse.find? (prevP a.line ks))) (oN ((xs.take j).reverse.find? (prevP a.line ks))) w1 (KOk.mo (b := bm) (c := cm) (T := 26) (e := 31) (A := Am) (xs := xs) k1 (by first | exact P0 | exact P1 | exact P2 | exact P3 | exact P4 | exact P5 | exact P6 | exact P7 | exact P8) (by first | exact P0 | exact P1 | exact P2 | exact P3 | exact P4 | exact P5 | exact P6 | exact P7 | exact P8)) (hks.mono (k1.get (e := .fr σ) (by first | exact P0 | exact P1 | exact P2 | exact P3 | exact P4 | exact P5 | exact P6 | exact P7 | exact P8))) (by omega) (fun _ _ h => h) (fun _ _ h => h)) rfl ?_
            refine TL.said (t := 255) rfl (show _ = Value.bool true from congrArg Value.bool (by rw [s3_all (show xs.length ≤ j by omega)]; change (decide (fndV (prevO a.line ks xs) ks = oZ (prevO a.line ks xs)) && (fndE (prevO a.line ks xs) ks == oN (prevO a.line ks xs))) = true; rw [(fnd_ok hck).1, (fnd_ok hck).2]; simp)) ?_
            refine TL.open rfl rfl ?_
            refine TL.val ((by first | exact OpV.pick_t rfl rfl | exact OpV.pick_f rfl rfl)) rfl ?_
            refine TL.val ((by first | exact OpV.pick_t rfl rfl | exact OpV.pick_f rfl rfl)) rfl ?_
            refine TL.val (OpV.assign rfl) rfl ?_
            refine TL.nil ?_
            refine TE.out ?_
            exact TE.meet ⟨bm, Am, cm, xs, A4, c4, τ⟩ ⟨by omega, hok, hAm, hx4⟩ (.cons (t := 0) rfl <| .cons (t := 3) rfl <| .cons (t := 4) rfl <| .cons (t := 5) rfl <| .cons (t := 6) rfl <| .cons (t := 7) rfl <| .nil) (Perm.kle (.cons (by first | exact P0 | exact P1 | exact P2 | exact P3 | exact P4 | exact P5 | exact P6 | exact P7 | exact P8) (.cons (by first | exact P0 | exact P1 | exact P2 | exact P3 | exact P4 | exact P5 | exact P6 | exact P7 | exact P8) (.cons (by first | exact P0 | exact P1 | exact P2 | exact P3 | exact P4 | exact P5 | exact P6 | exact P7 | exact P8) (.cons (by first | exact P0 | exact P1 | exact P2 | exact P3 | exact P4 | exact P5 | exact P6 | exact P7 | exact P8) (.cons (by first | exact P0 | exact P1 | exact P2 | exact P3 | exact P4 | exact P5 | exact P6 | exact P7 | exact P8) .nil))))))
         ·
          intro ht152
          try simp only [decide_eq_true_eq, decide_eq_false_iff_not, beq_iff_eq, beq_eq_false_iff_ne, bne_iff_ne, bne_eq_false_iff_eq, Bool.not_eq_true', Bool.not_eq_false', ne_eq] at ht152
          refine T.seq ?_
          refine T.region ?_
          refine TL.val (OpV.move rfl) rfl ?_
          refine TL.callx (g := 20) rfl go_20 rfl (fun wz kz => add_x kz (copy_c wz (KOk.mo (b := bm) (c := cm) (T := 26) (e := 31) (A := Am) (xs := xs) kz (by first | exact P0 | exact P1 | exact P2 | exact P3 | exact P4 | exact P5 | exact P6 | exact P7 | exact P8) (by first | exact P0 | exact P1 | exact P2 | exact P3 | exact P4 | exact P5 | exact P6 | exact P7 | exact P8)) (fun _ _ h => h) (by omega))) rfl ?_
          rintro ⟨bm3, Am3, cm3⟩ hAm3
          replace hAm3 : Am3 = none → cm3 = 0 := hAm3
          refine TL.val (OpV.assign rfl) rfl ?_
          refine TL.nil ?_
          refine TE.next ?_
          refine T.seq ?_
          refine T.region ?_
          refine TL.val (OpV.move rfl) rfl ?_
          refine TL.call (g := 9) rfl go_9 rfl (fun w1 k1 => mark_c 1099511627776 1 w1) rfl ?_
          refine TL.callx (g := 8) rfl go_8 rfl (fun wz kz => put_c (xs := xs) (bm := bm) (A := Am) (c := cm) ⟨1099511627776, 1, 0⟩ hAm (by omega) ((Perm.kle (.cons (by first | exact P0 | exact P1 | exact P2 | exact P3 | exact P4 | exact P5 | exact P6 | exact P7 | exact P8) (.cons (by first | exact P0 | exact P1 | exact P2 | exact P3 | exact P4 | exact P5 | exact P6 | exact P7 | exact P8) .all))) wz kz)) rfl ?_
          rintro ⟨A3, c3⟩ hA3
          refine TL.nil ?_
          refine TE.sub (.cons (t := 0) rfl <| .cons (t := 3) rfl <| .cons (t := 4) rfl <| .cons (t := 5) rfl <| .cons (t := 6) rfl <| .cons (t := 7) rfl <| .cons (t := 18) rfl <| .nil) ?_
          refine TE.next ?_
          refine T.seq ?_
          refine T.region ?_
          refine TL.val (OpV.move rfl) rfl ?_
          refine TL.callx (g := 17) rfl go_17 rfl (fun wz kz => evict_c (xs := putX xs ⟨1099511627776, 1, 0⟩) (bm := bm) (A := A3) (c := c3) 1099511627776 hA3 (hok.put _).2.2 ((Perm.kle (.cons (by first | exact P0 | exact P1 | exact P2 | exact P3 | exact P4 | exact P5 | exact P6 | exact P7 | exact P8) (.cons (by first | exact P0 | exact P1 | exact P2 | exact P3 | exact P4 | exact P5 | exact P6 | exact P7 | exact P8) .all))) wz kz)) rfl ?_
          rintro ⟨A5, c5⟩ hA5
          refine TL.nil ?_
          refine TE.next ?_
          refine T.region ?_
          refine TL.val (OpV.move rfl) rfl ?_
          refine TL.val (OpV.assign rfl) rfl ?_
          refine TL.nil ?_
          refine TE.out ?_
          exact TE.meet ⟨bm3, Am3, cm3, xs, A4, c4, τ⟩ ⟨by omega, hok, hAm3, hx4⟩ (.cons (t := 0) rfl <| .cons (t := 3) rfl <| .cons (t := 4) rfl <| .cons (t := 5) rfl <| .cons (t := 6) rfl <| .cons (t := 7) rfl <| .nil) (Perm.kle (.cons (by first | exact P0 | exact P1 | exact P2 | exact P3 | exact P4 | exact P5 | exact P6 | exact P7 | exact P8) (.cons (by first | exact P0 | exact P1 | exact P2 | exact P3 | exact P4 | exact P5 | exact P6 | exact P7 | exact P8) (.cons (by first | exact P0 | exact P1 | exact P2 | exact P3 | exact P4 | exact P5 | exact P6 | exact P7 | exact P8) (.cons (by first | exact P0 | exact P1 | exact P2 | exact P3 | exact P4 | exact P5 | exact P6 | exact P7 | exact P8) (.cons (by first | exact P0 | exact P1 | exact P2 | exact P3 | exact P4 | exact P5 | exact P6 | exact P7 | exact P8) .nil))))))
     rintro ⟨bm2, Am2, cm2, xs2, A42, c42, τ2⟩ ⟨hxl2, hok2, hAm2, hx42⟩
     refine TE.next ?_
     refine T.seq ?_
     refine T.region ?_
     refine TL.val (OpV.move rfl) rfl ?_
     refine TL.val (OpV.not rfl) rfl ?_
     refine TL.said (t := 259) rfl (show _ = Value.bool false from congrArg Value.bool (rfl)) ?_
     refine TL.val (OpV.move rfl) rfl ?_
     refine TL.open rfl rfl ?_
     refine TL.val (OpV.move rfl) rfl ?_
     refine TL.open rfl rfl ?_
     refine TL.val (OpV.move rfl) rfl ?_
     refine TL.open rfl rfl ?_
     refine TL.val (OpV.fieldAddr rfl fo_52_2) rfl ?_
     refine TL.open rfl rfl ?_
     refine TL.val (OpV.load pl_3 rfl (Cel.blk (by first | exact P0 | exact P1 | exact P2 | exact P3 | exact P4 | exact P5 | exact P6 | exact P7 | exact P8) (show a.l[4]? = some (.int .i64 a.line) from rfl))) rfl ?_
     refine TL.open rfl rfl ?_
     refine TL.call (g := 21) rfl go_21 rfl (fun w1 k1 => alike_c (xs := xs2) a.line w1 (KOk.mo (b := bm2) (c := cm2) (T := 26) (e := 31) (A := Am2) (xs := xs2) k1 (by first | exact P0 | exact P1 | exact P2 | exact P3 | exact P4 | exact P5 | exact P6 | exact P7 | exact P8) (by first | exact P0 | exact P1 | exact P2 | exact P3 | exact P4 | exact P5 | exact P6 | exact P7 | exact P8)) (hx42.mono (fun b o hb => (k1.get (e := .own τ2) (by first | exact P0 | exact P1 | exact P2 | exact P3 | exact P4 | exact P5 | exact P6 | exact P7 | exact P8) b o hb).2)) hok2 (fun _ _ h => h) (fun _ _ h => h)) rfl ?_
     refine TL.open rfl rfl ?_
     refine TL.val (OpV.not rfl) rfl ?_
     refine TL.said (t := 266) rfl (show _ = Value.bool false from congrArg Value.bool (rfl)) ?_
     refine TL.val ((by first | exact OpV.pick_t rfl rfl | exact OpV.pick_f rfl rfl)) rfl ?_
     refine TL.nil ?_
     refine TE.sub (.cons (t := 0) rfl <| .cons (t := 3) rfl <| .cons (t := 4) rfl <| .cons (t := 5) rfl <| .cons (t := 267) rfl <| .nil) ?_
     refine TE.next ?_
     refine T.no rfl ?_
     refine T.skip ?_
     refine TE.out ?_
     refine TE.next ?_
     refine T.region ?_
     refine TL.val (OpV.move rfl) rfl ?_
     refine TL.val (OpV.add rfl rfl (by first | exact IntWalk.i64_in _ ⟨by omega, by omega⟩ | rfl)) rfl ?_
     refine TL.val (OpV.assign rfl) rfl ?_
     refine TL.nil ?_
     exact TE.meet (i + 1, bm2, Am2, cm2, xs2, A42, c42, τ2) ⟨⟨by omega, hxl2, hok2, hAm2, hx42⟩, by simp only; omega⟩ (.cons (t := 0) (by first | rfl | (simp [lk]; done)) <| .cons (t := 3) (by first | rfl | (simp [lk]; done)) <| .cons (t := 4) (by first | rfl | (simp [lk]; done)) <| .cons (t := 5) (by first | rfl | (simp [lk]; done)) <| .nil) (Perm.kle (.cons (by first | exact P0 | exact P1 | exact P2 | exact P3 | exact P4 | exact P5 | exact P6 | exact P7 | exact P8) (.cons (by first | exact P0 | exact P1 | exact P2 | exact P3 | exact P4 | exact P5 | exact P6 | exact P7 | exact P8) (.cons (by first | exact P0 | exact P1 | exact P2 | exact P3 | exact P4 | exact P5 | exact P6 | exact P7 | exact P8) (.cons (by first | exact P0 | exact P1 | exact P2 | exact P3 | exact P4 | exact P5 | exact P6 | exact P7 | exact P8) .nil)))))
  ·
   intro ht28
   try simp only [decide_eq_true_eq, decide_eq_false_iff_not, beq_iff_eq, beq_eq_false_iff_ne, bne_iff_ne, bne_eq_false_iff_eq, Bool.not_eq_true', Bool.not_eq_false', ne_eq] at ht28
   refine T.exit ?_
   refine TE.pass_exit ?_
   refine TE.pass_exit ?_
   refine TE.here ?_
   refine TE.next ?_
   refine T.seq ?_
   refine T.region ?_
   refine TL.call (g := 7) rfl go_7 rfl (fun w1 k1 => known_c w1) rfl ?_
   refine TL.val (OpV.assign rfl) rfl ?_
   refine TL.nil ?_
   refine TE.sub (.cons (t := 2) rfl <| .nil) ?_
   refine TE.next ?_
   refine T.ret ?_
   refine TE.ret1 rfl (ResV.tmp rfl) ?_
   exact fun w1 k1 => ⟨rfl, k1.bel⟩
end Go.Proofs.Ytaoepaonjeilgaa
