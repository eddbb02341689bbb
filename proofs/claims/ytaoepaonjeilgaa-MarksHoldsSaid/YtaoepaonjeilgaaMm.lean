/-
  The walks of the laws MarksNil and MarksFulls. No condition.
-/
import Derived.Test.YtaoepaonjeilgaaMl
namespace Go.Proofs.Ytaoepaonjeilgaa
open Go.RowKit
set_option linter.unusedSimpArgs false
set_option linter.unusedVariables false
theorem fo_52_1 : fOff Try.prog 52 1 = some 1 := by kernel_rfl
theorem fo_52_2 : fOff Try.prog 52 2 = some 4 := by kernel_rfl
theorem fo_52_3 : fOff Try.prog 52 3 = some 5 := by kernel_rfl
theorem go_20 : isGo Try.prog 20 = true := by kernel_rfl
theorem go_7 : isGo Try.prog 7 = true := by kernel_rfl
structure AcA where
  what : Int
  mrk : Mk
  line : Int
  A : Option Addr
  n : Nat
  c : Nat
def AcA.l (x : AcA) : List Value := [.int .i64 x.what, .int .i64 x.mrk.ln, .int .i64 x.mrk.kd, .int .i64 x.mrk.st, .int .i64 x.line, .slice x.A x.n x.c]
theorem AcA.l_length (x : AcA) : x.l.length = 6 := rfl
set_option maxRecDepth 100000 in
set_option maxHeartbeats 1000000 in
theorem marksNil_law (a : AcA) (w : World) : Calls Try.prog 6 #[.agg a.l.toArray] w (Ret (.bool true) w) := by
 refine calls_T (vs := [.agg a.l.toArray]) (L0 := [(0, .agg a.l.toArray)]) Try.func6 rfl rfl rfl rfl (KOk.none w) ?_
 refine T.seq ?_
 refine T.region ?_
 refine TL.boxA rfl rfl ?_
 intro b1
 refine TL.val (OpV.assign rfl) rfl ?_
 refine TL.nil ?_
 refine TE.next ?_
 refine T.seq ?_
 refine T.seq ?_
 refine T.region ?_
 refine TL.val (OpV.fieldAddr rfl fo_52_3) rfl ?_
 refine TL.val (OpV.load pl_38 rfl (by first | exact Cel.blk P0 rfl | exact Cel.blk P1 rfl | exact Cel.blk P2 rfl | exact Cel.blk P3 rfl)) rfl ?_
 refine TL.val (OpV.len Try.underlying38 rfl) rfl ?_
 refine TL.val (OpV.gtr rfl rfl) rfl ?_
 refine TL.nil ?_
 refine TE.next ?_
 refine T.cond rfl ?_ ?_
 ·
  intro ht7
  refine T.seq ?_
  refine T.region ?_
  refine TL.call (g := 7) rfl go_7 rfl (fun w1 k1 => known_c w1) rfl ?_
  refine TL.val (OpV.assign rfl) rfl ?_
  refine TL.nil ?_
  refine TE.sub (.cons (t := 2) rfl <| .nil) ?_
  refine TE.next ?_
  refine T.ret ?_
  refine TE.pass_ret ?_
  refine TE.ret1 rfl (ResV.tmp rfl) ?_
  exact fun w1 k1 => ⟨rfl, k1.bel⟩
 ·
  intro ht7
  refine T.skip ?_
  refine TE.next ?_
  refine T.seq ?_
  refine T.region ?_
  refine TL.val (OpV.assign rfl) rfl ?_
  refine TL.nil ?_
  refine TE.next ?_
  refine T.seq ?_
  refine T.region ?_
  refine TL.val (OpV.move rfl) rfl ?_
  refine TL.val (OpV.fieldAddr rfl fo_52_1) rfl ?_
  refine TL.val (OpV.loadA ag_31 rfl (Cels.blkAt a.mrk.l (by first | exact P0 | exact P1 | exact P2 | exact P3 | exact P4 | exact P5 | exact P6) rfl rfl)) rfl ?_
  refine TL.call (g := 8) rfl go_8 rfl (fun w1 k1 => put_nil a.mrk w1) rfl ?_
  refine TL.val (OpV.eql rfl rfl) rfl ?_
  refine TL.said (t := 13) rfl (show _ = Value.bool true from congrArg Value.bool (rfl)) ?_
  refine TL.val (OpV.move rfl) rfl ?_
  refine TL.open rfl rfl ?_
  refine TL.val (OpV.move rfl) rfl ?_
  refine TL.open rfl rfl ?_
  refine TL.val (OpV.fieldAddr rfl fo_52_2) rfl ?_
  refine TL.open rfl rfl ?_
  refine TL.val (OpV.load pl_3 rfl (by first | exact Cel.blk P0 rfl | exact Cel.blk P1 rfl | exact Cel.blk P2 rfl | exact Cel.blk P3 rfl)) rfl ?_
  refine TL.open rfl rfl ?_
  refine TL.call (g := 12) rfl go_12 rfl (fun w1 k1 => evicts_nil a.line 0 1 w1) rfl ?_
  refine TL.said (t := 18) rfl (show _ = Value.bool true from congrArg Value.bool (rfl)) ?_
  refine TL.val ((by first | exact OpV.pick_t rfl rfl | exact OpV.pick_f rfl rfl)) rfl ?_
  refine TL.val (OpV.move rfl) rfl ?_
  refine TL.open rfl rfl ?_
  refine TL.val (OpV.move rfl) rfl ?_
  refine TL.open rfl rfl ?_
  refine TL.val (OpV.fieldAddr rfl fo_52_2) rfl ?_
  refine TL.open rfl rfl ?_
  refine TL.val (OpV.load pl_3 rfl (by first | exact Cel.blk P0 rfl | exact Cel.blk P1 rfl | exact Cel.blk P2 rfl | exact Cel.blk P3 rfl)) rfl ?_
  refine TL.open rfl rfl ?_
  refine TL.val (OpV.fieldAddr rfl fo_52_3) rfl ?_
  refine TL.open rfl rfl ?_
  refine TL.val (OpV.load pl_38 rfl (by first | exact Cel.blk P0 rfl | exact Cel.blk P1 rfl | exact Cel.blk P2 rfl | exact Cel.blk P3 rfl)) rfl ?_
  refine TL.open rfl rfl ?_
  refine TL.val (OpV.build (qs := #[]) (fun _ _ => by simp) (bld_31)) rfl ?_
  refine TL.open rfl rfl ?_
  refine TL.call (g := 14) rfl go_14 rfl (fun w1 k1 => nexts_nil a.line a.A a.n a.c Mk.zero 1 w1) rfl ?_
  refine TL.said (t := 27) rfl (show _ = Value.bool true from congrArg Value.bool (by decide)) ?_
  refine TL.val ((by first | exact OpV.pick_t rfl rfl | exact OpV.pick_f rfl rfl)) rfl ?_
  refine TL.val (OpV.move rfl) rfl ?_
  refine TL.open rfl rfl ?_
  refine TL.val (OpV.move rfl) rfl ?_
  refine TL.open rfl rfl ?_
  refine TL.val (OpV.fieldAddr rfl fo_52_2) rfl ?_
  refine TL.open rfl rfl ?_
  refine TL.val (OpV.load pl_3 rfl (by first | exact Cel.blk P0 rfl | exact Cel.blk P1 rfl | exact Cel.blk P2 rfl | exact Cel.blk P3 rfl)) rfl ?_
  refine TL.open rfl rfl ?_
  refine TL.val (OpV.fieldAddr rfl fo_52_3) rfl ?_
  refine TL.open rfl rfl ?_
  refine TL.val (OpV.load pl_38 rfl (by first | exact Cel.blk P0 rfl | exact Cel.blk P1 rfl | exact Cel.blk P2 rfl | exact Cel.blk P3 rfl)) rfl ?_
  refine TL.open rfl rfl ?_
  refine TL.val (OpV.build (qs := #[]) (fun _ _ => by simp) (bld_31)) rfl ?_
  refine TL.open rfl rfl ?_
  refine TL.call (g := 19) rfl go_19 rfl (fun w1 k1 => prevs_nil a.line a.A a.n a.c Mk.zero 1 w1) rfl ?_
  refine TL.said (t := 36) rfl (show _ = Value.bool true from congrArg Value.bool (by decide)) ?_
  refine TL.val ((by first | exact OpV.pick_t rfl rfl | exact OpV.pick_f rfl rfl)) rfl ?_
  refine TL.val (OpV.move rfl) rfl ?_
  refine TL.open rfl rfl ?_
  refine TL.val (OpV.move rfl) rfl ?_
  refine TL.open rfl rfl ?_
  refine TL.call (g := 11) rfl go_11 rfl (fun w1 k1 => commands_nil w1) rfl ?_
  refine TL.open rfl rfl ?_
  refine TL.val (OpV.len Try.underlying34 rfl) rfl ?_
  refine TL.open rfl rfl ?_
  refine TL.val (OpV.eql rfl rfl) rfl ?_
  refine TL.said (t := 42) rfl (show _ = Value.bool true from congrArg Value.bool (rfl)) ?_
  refine TL.val ((by first | exact OpV.pick_t rfl rfl | exact OpV.pick_f rfl rfl)) rfl ?_
  refine TL.val (OpV.move rfl) rfl ?_
  refine TL.open rfl rfl ?_
  refine TL.val (OpV.move rfl) rfl ?_
  refine TL.open rfl rfl ?_
  refine TL.val (OpV.fieldAddr rfl fo_52_2) rfl ?_
  refine TL.open rfl rfl ?_
  refine TL.val (OpV.load pl_3 rfl (by first | exact Cel.blk P0 rfl | exact Cel.blk P1 rfl | exact Cel.blk P2 rfl | exact Cel.blk P3 rfl)) rfl ?_
  refine TL.open rfl rfl ?_
  refine TL.val (OpV.build (qs := #[]) (fun _ _ => by simp) (bld_41)) rfl ?_
  refine TL.open rfl rfl ?_
  refine TL.call (g := 22) rfl go_22 rfl (fun w1 k1 => ats_nil a.line Cm.zero 1 w1) rfl ?_
  refine TL.said (t := 49) rfl (show _ = Value.bool true from congrArg Value.bool (by decide)) ?_
  refine TL.val ((by first | exact OpV.pick_t rfl rfl | exact OpV.pick_f rfl rfl)) rfl ?_
  refine TL.val (OpV.move rfl) rfl ?_
  refine TL.open rfl rfl ?_
  refine TL.val (OpV.move rfl) rfl ?_
  refine TL.open rfl rfl ?_
  refine TL.call (g := 16) rfl go_16 rfl (fun w1 k1 => all_nil w1) rfl ?_
  refine TL.open rfl rfl ?_
  refine TL.val (OpV.len Try.underlying24 rfl) rfl ?_
  refine TL.open rfl rfl ?_
  refine TL.val (OpV.eql rfl rfl) rfl ?_
  refine TL.said (t := 55) rfl (show _ = Value.bool true from congrArg Value.bool (rfl)) ?_
  refine TL.val ((by first | exact OpV.pick_t rfl rfl | exact OpV.pick_f rfl rfl)) rfl ?_
  refine TL.val (OpV.move rfl) rfl ?_
  refine TL.open rfl rfl ?_
  refine TL.val (OpV.move rfl) rfl ?_
  refine TL.open rfl rfl ?_
  refine TL.call (g := 10) rfl go_10 rfl (fun w1 k1 => len_nil w1) rfl ?_
  refine TL.open rfl rfl ?_
  refine TL.val (OpV.eql rfl rfl) rfl ?_
  refine TL.said (t := 60) rfl (show _ = Value.bool true from congrArg Value.bool (rfl)) ?_
  refine TL.val ((by first | exact OpV.pick_t rfl rfl | exact OpV.pick_f rfl rfl)) rfl ?_
  refine TL.val (OpV.move rfl) rfl ?_
  refine TL.open rfl rfl ?_
  refine TL.val (OpV.move rfl) rfl ?_
  refine TL.open rfl rfl ?_
  refine TL.call (g := 20) rfl go_20 rfl (fun w1 k1 => copy_nil w1) rfl ?_
  refine TL.open rfl rfl ?_
  refine TL.val (OpV.peql Try.underlying23 rfl rfl) rfl ?_
  refine TL.said (t := 65) rfl (show _ = Value.bool true from congrArg Value.bool (rfl)) ?_
  refine TL.val ((by first | exact OpV.pick_t rfl rfl | exact OpV.pick_f rfl rfl)) rfl ?_
  refine TL.val (OpV.move rfl) rfl ?_
  refine TL.open rfl rfl ?_
  refine TL.call (g := 7) rfl go_7 rfl (fun w1 k1 => known_c w1) rfl ?_
  refine TL.val ((by first | exact OpV.pick_t rfl rfl | exact OpV.pick_f rfl rfl)) rfl ?_
  refine TL.val (OpV.assign rfl) rfl ?_
  refine TL.nil ?_
  refine TE.sub (.cons (t := 2) rfl <| .nil) ?_
  refine TE.next ?_
  refine T.ret ?_
  refine TE.ret1 rfl (ResV.tmp rfl) ?_
  exact fun w1 k1 => ⟨rfl, k1.bel⟩
set_option maxRecDepth 100000 in
set_option maxHeartbeats 1000000 in
theorem marksFulls_law (many gone : Int) (w : World) : Calls Try.prog 3 #[.int .i64 many, .int .i64 gone] w (Ret (.bool true) w) := by
 refine calls_T (vs := [.int .i64 many, .int .i64 gone]) (L0 := [(0, .int .i64 many), (1, .int .i64 gone)]) Try.func3 rfl rfl rfl rfl (KOk.none w) ?_
 refine T.seq ?_
 refine T.region ?_
 refine TL.val (OpV.assign rfl) rfl ?_
 refine TL.nil ?_
 refine TE.next ?_
 refine T.seq ?_
 refine T.seq ?_
 refine T.region ?_
 refine TL.val (OpV.move rfl) rfl ?_
 refine TL.val (OpV.lss rfl rfl) rfl ?_
 refine TL.val (OpV.move rfl) rfl ?_
 refine TL.part (t := 11) rfl ?_ ?_
 ·
  intro hg11
  try simp only [decide_eq_true_eq, decide_eq_false_iff_not, beq_iff_eq, beq_eq_false_iff_ne, bne_iff_ne, bne_eq_false_iff_eq, Bool.not_eq_true', Bool.not_eq_false', ne_eq] at hg11
  refine TL.shut rfl rfl ?_
  refine TL.shut rfl rfl ?_
  refine TL.val ((by first | exact OpV.pick_t rfl rfl | exact OpV.pick_f rfl rfl)) rfl ?_
  refine TL.val (OpV.move rfl) rfl ?_
  refine TL.shut rfl rfl ?_
  refine TL.shut rfl rfl ?_
  refine TL.val ((by first | exact OpV.pick_t rfl rfl | exact OpV.pick_f rfl rfl)) rfl ?_
  refine TL.val (OpV.move rfl) rfl ?_
  refine TL.shut rfl rfl ?_
  refine TL.shut rfl rfl ?_
  refine TL.val ((by first | exact OpV.pick_t rfl rfl | exact OpV.pick_f rfl rfl)) rfl ?_
  refine TL.nil ?_
  refine TE.sub (.cons (t := 0) rfl <| .cons (t := 1) rfl <| .cons (t := 22) rfl <| .nil) ?_
  refine TE.next ?_
  refine T.yes rfl ?_
  refine T.seq ?_
  refine T.region ?_
  refine TL.call (g := 7) rfl go_7 rfl (fun w1 k1 => known_c w1) rfl ?_
  refine TL.val (OpV.assign rfl) rfl ?_
  refine TL.nil ?_
  refine TE.next ?_
  refine T.ret ?_
  refine TE.pass_ret ?_
  refine TE.ret1 rfl (ResV.tmp rfl) ?_
  exact fun w1 k1 => ⟨rfl, k1.bel⟩
 ·
  intro hg11
  try simp only [decide_eq_true_eq, decide_eq_false_iff_not, beq_iff_eq, beq_eq_false_iff_ne, bne_iff_ne, bne_eq_false_iff_eq, Bool.not_eq_true', Bool.not_eq_false', ne_eq] at hg11
  refine TL.open rfl rfl ?_
  refine TL.val (OpV.move rfl) rfl ?_
  refine TL.open rfl rfl ?_
  refine TL.val (OpV.gtr rfl rfl) rfl ?_
  refine TL.val ((by first | exact OpV.pick_t rfl rfl | exact OpV.pick_f rfl rfl)) rfl ?_
  refine TL.val (OpV.move rfl) rfl ?_
  refine TL.part (t := 15) rfl ?_ ?_
  ·
   intro hg15
   try simp only [decide_eq_true_eq, decide_eq_false_iff_not, beq_iff_eq, beq_eq_false_iff_ne, bne_iff_ne, bne_eq_false_iff_eq, Bool.not_eq_true', Bool.not_eq_false', ne_eq] at hg15
   refine TL.shut rfl rfl ?_
   refine TL.shut rfl rfl ?_
   refine TL.val ((by first | exact OpV.pick_t rfl rfl | exact OpV.pick_f rfl rfl)) rfl ?_
   refine TL.val (OpV.move rfl) rfl ?_
   refine TL.shut rfl rfl ?_
   refine TL.shut rfl rfl ?_
   refine TL.val ((by first | exact OpV.pick_t rfl rfl | exact OpV.pick_f rfl rfl)) rfl ?_
   refine TL.nil ?_
   refine TE.sub (.cons (t := 0) rfl <| .cons (t := 1) rfl <| .cons (t := 22) rfl <| .nil) ?_
   refine TE.next ?_
   refine T.yes rfl ?_
   refine T.seq ?_
   refine T.region ?_
   refine TL.call (g := 7) rfl go_7 rfl (fun w1 k1 => known_c w1) rfl ?_
   refine TL.val (OpV.assign rfl) rfl ?_
   refine TL.nil ?_
   refine TE.next ?_
   refine T.ret ?_
   refine TE.pass_ret ?_
   refine TE.ret1 rfl (ResV.tmp rfl) ?_
   exact fun w1 k1 => ⟨rfl, k1.bel⟩
  ·
   intro hg15
   try simp only [decide_eq_true_eq, decide_eq_false_iff_not, beq_iff_eq, beq_eq_false_iff_ne, bne_iff_ne, bne_eq_false_iff_eq, Bool.not_eq_true', Bool.not_eq_false', ne_eq] at hg15
   refine TL.open rfl rfl ?_
   refine TL.val (OpV.move rfl) rfl ?_
   refine TL.open rfl rfl ?_
   refine TL.val (OpV.lss rfl rfl) rfl ?_
   refine TL.val ((by first | exact OpV.pick_t rfl rfl | exact OpV.pick_f rfl rfl)) rfl ?_
   refine TL.val (OpV.move rfl) rfl ?_
   refine TL.part (t := 19) rfl ?_ ?_
   ·
    intro hg19
    try simp only [decide_eq_true_eq, decide_eq_false_iff_not, beq_iff_eq, beq_eq_false_iff_ne, bne_iff_ne, bne_eq_false_iff_eq, Bool.not_eq_true', Bool.not_eq_false', ne_eq] at hg19
    refine TL.shut rfl rfl ?_
    refine TL.shut rfl rfl ?_
    refine TL.val ((by first | exact OpV.pick_t rfl rfl | exact OpV.pick_f rfl rfl)) rfl ?_
    refine TL.nil ?_
    refine TE.sub (.cons (t := 0) rfl <| .cons (t := 1) rfl <| .cons (t := 22) rfl <| .nil) ?_
    refine TE.next ?_
    refine T.yes rfl ?_
    refine T.seq ?_
    refine T.region ?_
    refine TL.call (g := 7) rfl go_7 rfl (fun w1 k1 => known_c w1) rfl ?_
    refine TL.val (OpV.assign rfl) rfl ?_
    refine TL.nil ?_
    refine TE.next ?_
    refine T.ret ?_
    refine TE.pass_ret ?_
    refine TE.ret1 rfl (ResV.tmp rfl) ?_
    exact fun w1 k1 => ⟨rfl, k1.bel⟩
   ·
    intro hg19
    try simp only [decide_eq_true_eq, decide_eq_false_iff_not, beq_iff_eq, beq_eq_false_iff_ne, bne_iff_ne, bne_eq_false_iff_eq, Bool.not_eq_true', Bool.not_eq_false', ne_eq] at hg19
    refine TL.open rfl rfl ?_
    refine TL.val (OpV.move rfl) rfl ?_
    refine TL.open rfl rfl ?_
    refine TL.val (OpV.gtr rfl rfl) rfl ?_
    refine TL.val ((by first | exact OpV.pick_t rfl rfl | exact OpV.pick_f rfl rfl)) rfl ?_
    refine TL.nil ?_
    refine TE.sub (.cons (t := 0) rfl <| .cons (t := 1) rfl <| .cons (t := 22) rfl <| .nil) ?_
    refine TE.next ?_
    refine T.cond rfl ?_ ?_
    ·
     intro ht22
     try simp only [decide_eq_true_eq, decide_eq_false_iff_not, beq_iff_eq, beq_eq_false_iff_ne, bne_iff_ne, bne_eq_false_iff_eq, Bool.not_eq_true', Bool.not_eq_false', ne_eq] at ht22
     refine T.seq ?_
     refine T.region ?_
     refine TL.call (g := 7) rfl go_7 rfl (fun w1 k1 => known_c w1) rfl ?_
     refine TL.val (OpV.assign rfl) rfl ?_
     refine TL.nil ?_
     refine TE.next ?_
     refine T.ret ?_
     refine TE.pass_ret ?_
     refine TE.ret1 rfl (ResV.tmp rfl) ?_
     exact fun w1 k1 => ⟨rfl, k1.bel⟩
    ·
     intro ht22
     try simp only [decide_eq_true_eq, decide_eq_false_iff_not, beq_iff_eq, beq_eq_false_iff_ne, bne_iff_ne, bne_eq_false_iff_eq, Bool.not_eq_true', Bool.not_eq_false', ne_eq] at ht22
     have hm0 : 998 ≤ many ∧ many ≤ 1002 ∧ 1 ≤ gone ∧ gone ≤ 997 := by omega
     obtain ⟨m, rfl⟩ : ∃ m : Nat, many = (m : Int) := ⟨many.toNat, by omega⟩
     obtain ⟨g, rfl⟩ : ∃ g : Nat, gone = (g : Int) := ⟨gone.toNat, by omega⟩
     refine T.skip ?_
     refine TE.next ?_
     refine T.seq ?_
     refine T.region ?_
     refine TL.val (OpV.build (qs := #[]) (fun _ _ => by simp) bld_26) rfl ?_
     refine TL.boxA rfl rfl ?_
     intro b25
     refine TL.val (OpV.assign rfl) rfl ?_
     refine TL.nil ?_
     refine TE.next ?_
     refine T.seq ?_
     refine T.seq ?_
     refine T.region ?_
     refine TL.val (OpV.assign rfl) rfl ?_
     refine TL.nil ?_
     refine TE.next ?_
     refine T.block ?_
     refine T.loop (ι := Nat × Option Addr × Nat) (fun ⟨i, A2, c2⟩ => i ≤ m ∧ (A2 = none → c2 = 0)) (fun ⟨i, A2, c2⟩ => (m - i)) (fun ⟨i, A2, c2⟩ => [(0, .int .i64 (m : Int)), (1, .int .i64 (g : Int)), (5, .pointer (some ⟨b25, 0, none⟩)), (6, .int .i64 (i : Int))]) (fun ⟨i, A2, c2⟩ => [.blk b25 [.slice A2 (flM (min i 1000)).length c2] 26, .row 31 3 A2 (flM (min i 1000)).length c2 (ml (flM (min i 1000)))]) (0, none, 0) ⟨Nat.zero_le _, fun _ => rfl⟩ (.cons (t := 0) rfl <| .cons (t := 1) rfl <| .cons (t := 5) rfl <| .cons (t := 6) rfl <| .nil) ((Kle.trans (Kle.nilRow 31 3) (Perm.kle (.cons (by first | exact P0 | exact P1 | exact P2 | exact P3 | exact P4 | exact P5 | exact P6) (.cons (by first | exact P0 | exact P1 | exact P2 | exact P3 | exact P4 | exact P5 | exact P6) .nil))))) ?_
     rintro ⟨i, A2, c2⟩ ⟨hR, hA2⟩
     refine T.seq ?_
     refine T.seq ?_
     refine T.region ?_
     refine TL.val (OpV.move rfl) rfl ?_
     refine TL.val (OpV.move rfl) rfl ?_
     refine TL.val (OpV.lss rfl rfl) rfl ?_
     refine TL.nil ?_
     refine TE.next ?_
     refine T.cond rfl ?_ ?_
     ·
      intro ht28
      try simp only [decide_eq_true_eq, decide_eq_false_iff_not, beq_iff_eq, beq_eq_false_iff_ne, bne_iff_ne, bne_eq_false_iff_eq, Bool.not_eq_true', Bool.not_eq_false', ne_eq] at ht28
      have hp := put_full (i := i) (by omega)
      refine T.skip ?_
      refine TE.next ?_
      refine T.seq ?_
      refine T.block ?_
      refine T.seq ?_
      refine T.region ?_
      refine TL.val (OpV.assign rfl) rfl ?_
      refine TL.nil ?_
      refine TE.next ?_
      refine T.seq ?_
      refine T.seq ?_
      refine T.region ?_
      refine TL.val (OpV.move rfl) rfl ?_
      refine TL.val (OpV.geq rfl rfl) rfl ?_
      refine TL.nil ?_
      refine TE.next ?_
      refine T.cond rfl ?_ ?_
      ·
       intro ht32
       try simp only [decide_eq_true_eq, decide_eq_false_iff_not, beq_iff_eq, beq_eq_false_iff_ne, bne_iff_ne, bne_eq_false_iff_eq, Bool.not_eq_true', Bool.not_eq_false', ne_eq] at ht32
       have hpe : (if 1000 ≤ i then (7 : Int) else 0) = 7 := if_pos (by omega)
       refine T.region ?_
       refine TL.val (OpV.assign rfl) rfl ?_
       refine TL.nil ?_
       refine TE.next ?_
       refine T.seq ?_
       refine T.region ?_
       refine TL.val (OpV.move rfl) rfl ?_
       refine TL.val (OpV.move rfl) rfl ?_
       refine TL.call (g := 9) rfl go_9 rfl (fun w1 k1 => mark_c (i : Int) 1 w1) rfl ?_
       refine TL.callx (g := 8) rfl go_8 rfl (fun wz kz => put_c (xs := (flM (min i 1000))) ⟨(i : Int), 1, 0⟩ hA2 (by rw [flM_len]; omega) ((Perm.kle (.cons (by first | exact P0 | exact P1 | exact P2 | exact P3 | exact P4 | exact P5 | exact P6 | exact P7 | exact P8) (.cons (by first | exact P0 | exact P1 | exact P2 | exact P3 | exact P4 | exact P5 | exact P6 | exact P7 | exact P8) .all))) wz kz)) rfl ?_
       rintro ⟨A3, c3⟩ hA3
       rw [hp.2, hp.1]
       refine TL.val (OpV.move rfl) rfl ?_
       refine TL.val (OpV.neq rfl rfl) rfl ?_
       refine TL.said (t := 38) rfl (show _ = Value.bool false from congrArg Value.bool (by rw [hpe]; rfl)) ?_
       refine TL.nil ?_
       refine TE.sub (.cons (t := 0) rfl <| .cons (t := 1) rfl <| .cons (t := 5) rfl <| .cons (t := 6) rfl <| .cons (t := 38) rfl <| .nil) ?_
       refine TE.next ?_
       refine T.no rfl ?_
       refine T.skip ?_
       refine TE.out ?_
       refine TE.next ?_
       refine T.region ?_
       refine TL.val (OpV.move rfl) rfl ?_
       refine TL.val (OpV.add rfl rfl (by first | exact IntWalk.i64_in _ ⟨by omega, by omega⟩ | rfl)) rfl ?_
       refine TL.val (OpV.assign rfl) rfl ?_
       refine TL.nil ?_
       exact TE.meet (i + 1, A3, c3) ⟨⟨by omega, hA3⟩, by simp only; omega⟩ (.cons (t := 0) (by first | rfl | (simp [lk]; done)) <| .cons (t := 1) (by first | rfl | (simp [lk]; done)) <| .cons (t := 5) (by first | rfl | (simp [lk]; done)) <| .cons (t := 6) (by first | rfl | (simp [lk]; done)) <| .nil) (Perm.kle (.cons (by first | exact P0 | exact P1 | exact P2 | exact P3 | exact P4 | exact P5 | exact P6) (.cons (by first | exact P0 | exact P1 | exact P2 | exact P3 | exact P4 | exact P5 | exact P6) .nil)))
      ·
       intro ht32
       try simp only [decide_eq_true_eq, decide_eq_false_iff_not, beq_iff_eq, beq_eq_false_iff_ne, bne_iff_ne, bne_eq_false_iff_eq, Bool.not_eq_true', Bool.not_eq_false', ne_eq] at ht32
       have hpe : (if 1000 ≤ i then (7 : Int) else 0) = 0 := if_neg (by omega)
       refine T.skip ?_
       refine TE.next ?_
       refine T.seq ?_
       refine T.region ?_
       refine TL.val (OpV.move rfl) rfl ?_
       refine TL.val (OpV.move rfl) rfl ?_
       refine TL.call (g := 9) rfl go_9 rfl (fun w1 k1 => mark_c (i : Int) 1 w1) rfl ?_
       refine TL.callx (g := 8) rfl go_8 rfl (fun wz kz => put_c (xs := (flM (min i 1000))) ⟨(i : Int), 1, 0⟩ hA2 (by rw [flM_len]; omega) ((Perm.kle (.cons (by first | exact P0 | exact P1 | exact P2 | exact P3 | exact P4 | exact P5 | exact P6 | exact P7 | exact P8) (.cons (by first | exact P0 | exact P1 | exact P2 | exact P3 | exact P4 | exact P5 | exact P6 | exact P7 | exact P8) .all))) wz kz)) rfl ?_
       rintro ⟨A3, c3⟩ hA3
       rw [hp.2, hp.1]
       refine TL.val (OpV.move rfl) rfl ?_
       refine TL.val (OpV.neq rfl rfl) rfl ?_
       refine TL.said (t := 38) rfl (show _ = Value.bool false from congrArg Value.bool (by rw [hpe]; rfl)) ?_
       refine TL.nil ?_
       refine TE.sub (.cons (t := 0) rfl <| .cons (t := 1) rfl <| .cons (t := 5) rfl <| .cons (t := 6) rfl <| .cons (t := 38) rfl <| .nil) ?_
       refine TE.next ?_
       refine T.no rfl ?_
       refine T.skip ?_
       refine TE.out ?_
       refine TE.next ?_
       refine T.region ?_
       refine TL.val (OpV.move rfl) rfl ?_
       refine TL.val (OpV.add rfl rfl (by first | exact IntWalk.i64_in _ ⟨by omega, by omega⟩ | rfl)) rfl ?_
       refine TL.val (OpV.assign rfl) rfl ?_
       refine TL.nil ?_
       exact TE.meet (i + 1, A3, c3) ⟨⟨by omega, hA3⟩, by simp only; omega⟩ (.cons (t := 0) (by first | rfl | (simp [lk]; done)) <| .cons (t := 1) (by first | rfl | (simp [lk]; done)) <| .cons (t := 5) (by first | rfl | (simp [lk]; done)) <| .cons (t := 6) (by first | rfl | (simp [lk]; done)) <| .nil) (Perm.kle (.cons (by first | exact P0 | exact P1 | exact P2 | exact P3 | exact P4 | exact P5 | exact P6) (.cons (by first | exact P0 | exact P1 | exact P2 | exact P3 | exact P4 | exact P5 | exact P6) .nil)))
     ·
      intro ht28
      try simp only [decide_eq_true_eq, decide_eq_false_iff_not, beq_iff_eq, beq_eq_false_iff_ne, bne_iff_ne, bne_eq_false_iff_eq, Bool.not_eq_true', Bool.not_eq_false', ne_eq] at ht28
      have hX : (flM (min i 1000)) = (flM (min m 1000)) := by rw [show min i 1000 = min m 1000 by omega]
      have hK : Kle w [.blk b25 [.slice A2 (flM (min i 1000)).length c2] 26, .row 31 3 A2 (flM (min i 1000)).length c2 (ml (flM (min i 1000)))] [.blk b25 [.slice A2 (flM (min m 1000)).length c2] 26, .row 31 3 A2 (flM (min m 1000)).length c2 (ml (flM (min m 1000)))] := by rw [hX]; exact Kle.refl
      refine T.kle hK ?_
      obtain ⟨q1, q2, q3, q4, q5, q6, q7, q8, q9⟩ := full_end (n := min m 1000) (g := g) (by omega) (by omega) (by omega) (by omega)
      refine T.exit ?_
      refine TE.pass_exit ?_
      refine TE.pass_exit ?_
      refine TE.here ?_
      refine TE.next ?_
      refine T.seq ?_
      refine T.region ?_
      refine TL.val (OpV.move rfl) rfl ?_
      refine TL.val (OpV.min rfl rfl) rfl ?_
      refine TL.val (OpV.assign rfl) rfl ?_
      refine TL.nil ?_
      refine TE.sub (.cons (t := 1) rfl <| .cons (t := 5) rfl <| .cons (t := 8) rfl <| .nil) ?_
      refine TE.next ?_
      refine T.seq ?_
      refine T.region ?_
      refine TL.val (OpV.move rfl) rfl ?_
      refine TL.call (g := 10) rfl go_10 rfl (fun w1 k1 => len_c w1 (KOk.mo (b := b25) (c := c2) (T := 26) (e := 31) (A := A2) (xs := (flM (min m 1000))) k1 (by first | exact P0 | exact P1 | exact P2 | exact P3 | exact P4 | exact P5 | exact P6 | exact P7 | exact P8) (by first | exact P0 | exact P1 | exact P2 | exact P3 | exact P4 | exact P5 | exact P6 | exact P7 | exact P8)) (fun _ _ h => h)) rfl ?_
      refine TL.val (OpV.move rfl) rfl ?_
      refine TL.val (OpV.eql rfl rfl) rfl ?_
      refine TL.said (t := 44) rfl (show _ = Value.bool true from congrArg Value.bool (by rw [flM_len]; simp only [beq_iff_eq]; split <;> omega)) ?_
      refine TL.val (OpV.move rfl) rfl ?_
      refine TL.open rfl rfl ?_
      refine TL.val (OpV.move rfl) rfl ?_
      refine TL.open rfl rfl ?_
      refine TL.callx (g := 11) rfl go_11 rfl (fun wz k1 => add_x k1 (commands_c wz (KOk.mo (b := b25) (c := c2) (T := 26) (e := 31) (A := A2) (xs := (flM (min m 1000))) k1 (by first | exact P0 | exact P1 | exact P2 | exact P3 | exact P4 | exact P5 | exact P6 | exact P7 | exact P8) (by first | exact P0 | exact P1 | exact P2 | exact P3 | exact P4 | exact P5 | exact P6 | exact P7 | exact P8)) (fun _ _ h => h) (by rw [flM_len]; omega))) rfl ?_
      rintro ⟨A4, c4⟩ hA4
      refine TL.open rfl rfl ?_
      refine TL.val (OpV.len Try.underlying34 rfl) rfl ?_
      refine TL.open rfl rfl ?_
      refine TL.val (OpV.move rfl) rfl ?_
      refine TL.open rfl rfl ?_
      refine TL.val (OpV.eql rfl rfl) rfl ?_
      refine TL.said (t := 50) rfl (show _ = Value.bool true from congrArg Value.bool (by rw [q1]; simp only [beq_iff_eq]; split <;> omega)) ?_
      refine TL.val ((by first | exact OpV.pick_t rfl rfl | exact OpV.pick_f rfl rfl)) rfl ?_
      refine TL.val (OpV.move rfl) rfl ?_
      refine TL.open rfl rfl ?_
      refine TL.val (OpV.move rfl) rfl ?_
      refine TL.open rfl rfl ?_
      refine TL.val (OpV.move rfl) rfl ?_
      refine TL.open rfl rfl ?_
      refine TL.val (OpV.move rfl) rfl ?_
      refine TL.open rfl rfl ?_
      refine TL.callx (g := 12) rfl go_12 rfl (fun wz kz => evicts_c (xs := (flM (min m 1000))) (g : Int) (g : Int) 0 hA2 (by rw [flM_len]; omega) ((Perm.kle (.cons (by first | exact P0 | exact P1 | exact P2 | exact P3 | exact P4 | exact P5 | exact P6 | exact P7 | exact P8) (.cons (by first | exact P0 | exact P1 | exact P2 | exact P3 | exact P4 | exact P5 | exact P6 | exact P7 | exact P8) .all))) wz kz)) rfl ?_
      rintro ⟨A5, c5⟩ hA5
      rw [q4]
      refine TL.said (t := 56) rfl (show _ = Value.bool true from congrArg Value.bool (by rw [q2, q3]; simp)) ?_
      refine TL.val ((by first | exact OpV.pick_t rfl rfl | exact OpV.pick_f rfl rfl)) rfl ?_
      refine TL.val (OpV.move rfl) rfl ?_
      refine TL.open rfl rfl ?_
      refine TL.val (OpV.move rfl) rfl ?_
      refine TL.open rfl rfl ?_
      refine TL.call (g := 9) rfl go_9 rfl (fun w1 k1 => mark_c 2000 4 w1) rfl ?_
      refine TL.open rfl rfl ?_
      refine TL.callx (g := 8) rfl go_8 rfl (fun wz kz => put_c (xs := ((flM (min m 1000)).drop g)) ⟨2000, 4, 0⟩ hA5 q9 ((Perm.kle (.cons (by first | exact P0 | exact P1 | exact P2 | exact P3 | exact P4 | exact P5 | exact P6 | exact P7 | exact P8) (.cons (by first | exact P0 | exact P1 | exact P2 | exact P3 | exact P4 | exact P5 | exact P6 | exact P7 | exact P8) .all))) wz kz)) rfl ?_
      rintro ⟨A6, c6⟩ hA6
      rw [q6]
      refine TL.open rfl rfl ?_
      refine TL.val (OpV.eql rfl rfl) rfl ?_
      refine TL.said (t := 62) rfl (show _ = Value.bool true from congrArg Value.bool (by rw [q5]; rfl)) ?_
      refine TL.val ((by first | exact OpV.pick_t rfl rfl | exact OpV.pick_f rfl rfl)) rfl ?_
      refine TL.val (OpV.move rfl) rfl ?_
      refine TL.open rfl rfl ?_
      refine TL.val (OpV.move rfl) rfl ?_
      refine TL.open rfl rfl ?_
      refine TL.call (g := 10) rfl go_10 rfl (fun w1 k1 => len_c w1 (KOk.mo (b := b25) (c := c6) (T := 26) (e := 31) (A := A6) (xs := (((flM (min m 1000)).drop g) ++ [⟨2000, 4, 0⟩])) k1 (by first | exact P0 | exact P1 | exact P2 | exact P3 | exact P4 | exact P5 | exact P6 | exact P7 | exact P8) (by first | exact P0 | exact P1 | exact P2 | exact P3 | exact P4 | exact P5 | exact P6 | exact P7 | exact P8)) (fun _ _ h => h)) rfl ?_
      refine TL.open rfl rfl ?_
      refine TL.val (OpV.move rfl) rfl ?_
      refine TL.open rfl rfl ?_
      refine TL.val (OpV.move rfl) rfl ?_
      refine TL.open rfl rfl ?_
      refine TL.val (OpV.sub rfl rfl (IntWalk.i64_in _ ⟨by split <;> omega, by split <;> omega⟩)) rfl ?_
      refine TL.open rfl rfl ?_
      refine TL.val (OpV.add rfl rfl (IntWalk.i64_in _ ⟨by split <;> omega, by split <;> omega⟩)) rfl ?_
      refine TL.open rfl rfl ?_
      refine TL.val (OpV.eql rfl rfl) rfl ?_
      refine TL.said (t := 71) rfl (show _ = Value.bool true from congrArg Value.bool (by rw [q7]; simp only [beq_iff_eq]; split <;> omega)) ?_
      refine TL.val ((by first | exact OpV.pick_t rfl rfl | exact OpV.pick_f rfl rfl)) rfl ?_
      refine TL.val (OpV.move rfl) rfl ?_
      refine TL.open rfl rfl ?_
      refine TL.val (OpV.move rfl) rfl ?_
      refine TL.open rfl rfl ?_
      refine TL.callx (g := 11) rfl go_11 rfl (fun wz k1 => add_x k1 (commands_c wz (KOk.mo (b := b25) (c := c6) (T := 26) (e := 31) (A := A6) (xs := (((flM (min m 1000)).drop g) ++ [⟨2000, 4, 0⟩])) k1 (by first | exact P0 | exact P1 | exact P2 | exact P3 | exact P4 | exact P5 | exact P6 | exact P7 | exact P8) (by first | exact P0 | exact P1 | exact P2 | exact P3 | exact P4 | exact P5 | exact P6 | exact P7 | exact P8)) (fun _ _ h => h) (by rw [q7]; omega))) rfl ?_
      rintro ⟨A7, c7⟩ hA7
      refine TL.open rfl rfl ?_
      refine TL.val (OpV.len Try.underlying34 rfl) rfl ?_
      refine TL.open rfl rfl ?_
      refine TL.val (OpV.move rfl) rfl ?_
      refine TL.open rfl rfl ?_
      refine TL.val (OpV.move rfl) rfl ?_
      refine TL.open rfl rfl ?_
      refine TL.val (OpV.sub rfl rfl (IntWalk.i64_in _ ⟨by split <;> omega, by split <;> omega⟩)) rfl ?_
      refine TL.open rfl rfl ?_
      refine TL.val (OpV.eql rfl rfl) rfl ?_
      refine TL.said (t := 80) rfl (show _ = Value.bool true from congrArg Value.bool (by rw [q8]; simp only [beq_iff_eq]; split <;> omega)) ?_
      refine TL.val ((by first | exact OpV.pick_t rfl rfl | exact OpV.pick_f rfl rfl)) rfl ?_
      refine TL.val (OpV.move rfl) rfl ?_
      refine TL.open rfl rfl ?_
      refine TL.call (g := 7) rfl go_7 rfl (fun w1 k1 => known_c w1) rfl ?_
      refine TL.val ((by first | exact OpV.pick_t rfl rfl | exact OpV.pick_f rfl rfl)) rfl ?_
      refine TL.val (OpV.assign rfl) rfl ?_
      refine TL.nil ?_
      refine TE.sub (.cons (t := 4) rfl <| .nil) ?_
      refine TE.next ?_
      refine T.ret ?_
      refine TE.ret1 rfl (ResV.tmp rfl) ?_
      exact fun w1 k1 => ⟨rfl, k1.bel⟩
end Go.Proofs.Ytaoepaonjeilgaa
