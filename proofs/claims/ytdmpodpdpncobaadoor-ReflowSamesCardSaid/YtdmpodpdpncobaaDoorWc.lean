/-
  The walks of one cell. Condition: the package-level tables hold what they were laid with.
-/
import Derived.Test.YtdmpodpdpncobaaDoorWa
import Derived.Test.YtdmpodpdpncobaaDoorWb
import Derived.Test.YtdmpodpdpncobaaDoorRow
import Derived.Test.YtdmpodpdpncobaaDoorRep
namespace Go.Proofs.YtdmpodpdpncobaaDoor
open Go.RowKit
set_option linter.unusedSimpArgs false
set_option linter.unusedVariables false

def mlL (a b c : Int) : List Value := [.int .i32 a, .int .i32 b, .int .i32 c]
theorem bld_50 (w : World) : (Instr.build 50 #[]).run Tryd.prog w = .ok (.agg (mlL 0 0 0).toArray) w := by kernel_rfl
theorem eqi_50 (d : Nat) (a b c a' b' c' : Int) (w : World) : (Op.equalIn (d + 2) 50 (.agg (mlL a b c).toArray) (.agg (mlL a' b' c').toArray)).run Tryd.prog w = .ok (a == a' && (b == b' && c == c')) w := by
  have hs : ∀ w, (sizeOf 21).run Tryd.prog w = .ok 1 w := fun w => by kernel_rfl
  rw [run_equalIn_array w (d + 1) 50 21 3 1 _ _ Tryd.underlying50 hs]
  cases h1 : a == a' <;> cases h2 : b == b' <;> cases h3 : c == c' <;> simp [List.range, List.range.loop, eqElems, go_sem, part, mlL, h1, h2, h3]
theorem eq_50 (a b c a' b' c' : Int) (w : World) : (Op.equal 50 (.agg (mlL a b c).toArray) (.agg (mlL a' b' c').toArray)).run Tryd.prog w = .ok (a == a' && (b == b' && c == c')) w := eqi_50 9998 a b c a' b' c' w
set_option maxRecDepth 100000 in
set_option maxHeartbeats 1000000 in
theorem cvalid_c (c : Cl) (w : World) (L : LaidW w) : Calls Tryd.prog 95 #[.agg c.l.toArray] w (Ret (.bool (vCl c)) w) := by
 refine calls_T (vs := [.agg c.l.toArray]) (L0 := [(0, .agg c.l.toArray)]) Tryd.func95 rfl rfl rfl rfl (KOk.none w) ?_
 refine T.seq ?_
 refine T.region ?_
 refine TL.boxA rfl rfl ?_
 intro b1
 refine TL.val (OpV.assign rfl) rfl ?_
 refine TL.nil ?_
 refine TE.next ?_
 refine T.seq ?_
 refine T.seq ?_
 refine T.region ?_
 refine TL.val (OpV.fieldAddr rfl fo_58_3) rfl ?_
 refine TL.val (OpV.loadA ag_56 rfl (Cels.blkAt c.pen.l (by first | exact P0 | exact P1 | exact P2 | exact P3) rfl rfl)) rfl ?_
 refine TL.call (g := 101) rfl go_101 rfl (fun w1 _ => valid_c c.pen w1) rfl ?_
 refine TL.val (OpV.not rfl) rfl ?_
 refine TL.nil ?_
 refine TE.next ?_
 refine T.cond rfl ?_ ?_
 ·
  intro ht8
  refine T.seq ?_
  refine T.region ?_
  refine TL.val (OpV.assign rfl) rfl ?_
  refine TL.nil ?_
  refine TE.next ?_
  refine T.ret ?_
  refine TE.pass_ret ?_
  refine TE.ret1 rfl (ResV.tmp rfl) ?_
  exact fun w1 k1 => ⟨ret_bool (by first | (simp_all [vCl, bad]; done) | grind [vCl, bad]), k1.bel⟩
 ·
  intro ht8
  refine T.skip ?_
  refine TE.next ?_
  refine T.seq ?_
  refine T.seq ?_
  refine T.region ?_
  refine TL.val (OpV.fieldAddr rfl fo_58_0) rfl ?_
  refine TL.val (OpV.load pl_21 rfl (by first | exact Cel.blk P0 rfl | exact Cel.blk P1 rfl | exact Cel.blk P2 rfl | exact Cel.blk P3 rfl)) rfl ?_
  refine TL.val (OpV.eql rfl rfl) rfl ?_
  refine TL.nil ?_
  refine TE.sub (.cons (t := 1) rfl <| .cons (t := 11) rfl <| .nil) ?_
  refine TE.next ?_
  refine T.cond rfl ?_ ?_
  ·
   intro ht11
   refine T.seq ?_
   refine T.region ?_
   refine TL.val (OpV.fieldAddr rfl fo_58_2) rfl ?_
   refine TL.val (OpV.load pl_3 rfl (by first | exact Cel.blk P0 rfl | exact Cel.blk P1 rfl | exact Cel.blk P2 rfl | exact Cel.blk P3 rfl)) rfl ?_
   refine TL.val (OpV.eql rfl rfl) rfl ?_
   refine TL.val (OpV.move rfl) rfl ?_
   refine TL.part (t := 15) rfl ?_ ?_
   ·
    intro hg15
    refine TL.shut rfl rfl ?_
    refine TL.shut rfl rfl ?_
    refine TL.shut rfl rfl ?_
    refine TL.val ((by first | exact OpV.pick_t rfl rfl | exact OpV.pick_f rfl rfl)) rfl ?_
    refine TL.val (OpV.move rfl) rfl ?_
    refine TL.open rfl rfl ?_
    refine TL.val (OpV.fieldAddr rfl fo_58_1) rfl ?_
    refine TL.open rfl rfl ?_
    refine TL.val (OpV.loadA ag_50 rfl (Cels.blkAt (mlL c.m0 c.m1 c.m2) (by first | exact P0 | exact P1 | exact P2 | exact P3) rfl rfl)) rfl ?_
    refine TL.open rfl rfl ?_
    refine TL.val (OpV.build (qs := #[]) (fun _ _ => by simp) (bld_50)) rfl ?_
    refine TL.open rfl rfl ?_
    refine TL.val (OpV.aeql rfl rfl eg_50 (eq_50 _ _ _ _ _ _)) rfl ?_
    refine TL.val ((by first | exact OpV.pick_t rfl rfl | exact OpV.pick_f rfl rfl)) rfl ?_
    refine TL.val (OpV.assign rfl) rfl ?_
    refine TL.nil ?_
    refine TE.sub (.cons (t := 2) rfl <| .nil) ?_
    refine TE.next ?_
    refine T.ret ?_
    refine TE.pass_ret ?_
    refine TE.ret1 rfl (ResV.tmp rfl) ?_
    exact fun w1 k1 => ⟨ret_bool (by first | (simp_all [vCl, bad]; done) | grind [vCl, bad]), k1.bel⟩
   ·
    intro hg15
    refine TL.open rfl rfl ?_
    refine TL.val (OpV.fieldAddr rfl fo_58_2) rfl ?_
    refine TL.open rfl rfl ?_
    refine TL.val (OpV.load pl_3 rfl (by first | exact Cel.blk P0 rfl | exact Cel.blk P1 rfl | exact Cel.blk P2 rfl | exact Cel.blk P3 rfl)) rfl ?_
    refine TL.open rfl rfl ?_
    refine TL.val (OpV.eql rfl rfl) rfl ?_
    refine TL.val ((by first | exact OpV.pick_t rfl rfl | exact OpV.pick_f rfl rfl)) rfl ?_
    refine TL.val (OpV.move rfl) rfl ?_
    refine TL.part (t := 20) rfl ?_ ?_
    ·
     intro hg20
     refine TL.open rfl rfl ?_
     refine TL.val (OpV.fieldAddr rfl fo_58_1) rfl ?_
     refine TL.open rfl rfl ?_
     refine TL.val (OpV.loadA ag_50 rfl (Cels.blkAt (mlL c.m0 c.m1 c.m2) (by first | exact P0 | exact P1 | exact P2 | exact P3) rfl rfl)) rfl ?_
     refine TL.open rfl rfl ?_
     refine TL.val (OpV.build (qs := #[]) (fun _ _ => by simp) (bld_50)) rfl ?_
     refine TL.open rfl rfl ?_
     refine TL.val (OpV.aeql rfl rfl eg_50 (eq_50 _ _ _ _ _ _)) rfl ?_
     refine TL.val ((by first | exact OpV.pick_t rfl rfl | exact OpV.pick_f rfl rfl)) rfl ?_
     refine TL.val (OpV.assign rfl) rfl ?_
     refine TL.nil ?_
     refine TE.sub (.cons (t := 2) rfl <| .nil) ?_
     refine TE.next ?_
     refine T.ret ?_
     refine TE.pass_ret ?_
     refine TE.ret1 rfl (ResV.tmp rfl) ?_
     exact fun w1 k1 => ⟨ret_bool (by first | (simp_all [vCl, bad]; done) | grind [vCl, bad]), k1.bel⟩
    ·
     intro hg20
     refine TL.shut rfl rfl ?_
     refine TL.shut rfl rfl ?_
     refine TL.shut rfl rfl ?_
     refine TL.shut rfl rfl ?_
     refine TL.val ((by first | exact OpV.pick_t rfl rfl | exact OpV.pick_f rfl rfl)) rfl ?_
     refine TL.val (OpV.assign rfl) rfl ?_
     refine TL.nil ?_
     refine TE.sub (.cons (t := 2) rfl <| .nil) ?_
     refine TE.next ?_
     refine T.ret ?_
     refine TE.pass_ret ?_
     refine TE.ret1 rfl (ResV.tmp rfl) ?_
     exact fun w1 k1 => ⟨ret_bool (by first | (simp_all [vCl, bad]; done) | grind [vCl, bad]), k1.bel⟩
  ·
   intro ht11
   refine T.skip ?_
   refine TE.next ?_
   refine T.seq ?_
   refine T.seq ?_
   refine T.region ?_
   refine TL.val (OpV.fieldAddr rfl fo_58_1) rfl ?_
   refine TL.val (OpV.loadA ag_50 rfl (Cels.blkAt (mlL c.m0 c.m1 c.m2) (by first | exact P0 | exact P1 | exact P2 | exact P3) rfl rfl)) rfl ?_
   refine TL.val (OpV.move rfl) rfl ?_
   refine TL.nil ?_
   refine TE.next ?_
   refine T.block ?_
   refine T.rounds 3 ?_
   refine T.seq ?_
   refine T.region ?_
   refine TL.val (OpV.lss rfl rfl) rfl ?_
   refine TL.nil ?_
   refine TE.next ?_
   refine T.seq ?_
   refine T.yes rfl ?_
   refine T.skip ?_
   refine TE.next ?_
   refine T.seq ?_
   refine T.cutx (ι := Unit) (fun _ => bad c.m0 false = false) (fun _ => [(1, .pointer (some ⟨b1, 0, none⟩)), (27, .agg (mlL c.m0 c.m1 c.m2).toArray), (28, .int .i64 0)]) (fun _ => [.blk b1 c.l 58]) ?_ ?_
   rotate_left
   ·
    refine T.block ?_
    refine T.seq ?_
    refine T.region ?_
    refine TL.val (OpV.move rfl) rfl ?_
    refine TL.val (OpV.indexA1 (j := 0) ae_50 pl_21 rfl rfl (by rfl) (by decide) (show _ = some (.int .i32 c.m0) from rfl)) rfl ?_
    refine TL.val (OpV.assign rfl) rfl ?_
    refine TL.val (OpV.assign rfl) rfl ?_
    refine TL.nil ?_
    refine TE.next ?_
    refine T.seq ?_
    refine T.region ?_
    refine TL.val (OpV.move rfl) rfl ?_
    refine TL.val (OpV.neq rfl rfl) rfl ?_
    refine TL.val (OpV.move rfl) rfl ?_
    refine TL.part (t := 34) rfl ?_ ?_
    ·
     intro hg34
     refine TL.open rfl rfl ?_
     refine TL.val (OpV.move rfl) rfl ?_
     refine TL.open rfl rfl ?_
     refine TL.call (g := 102) rfl go_102 rfl (fun w1 k1 => of_c c.m0 w1 (L.below k1.bel)) rfl ?_
     refine TL.open rfl rfl ?_
     refine TL.val (OpV.neq rfl rfl) rfl ?_
     refine TL.open rfl rfl ?_
     refine TL.val (OpV.move rfl) rfl ?_
     refine TL.part (t := 38) rfl ?_ ?_
     ·
      intro hg38
      refine TL.shut rfl rfl ?_
      refine TL.shut rfl rfl ?_
      refine TL.shut rfl rfl ?_
      refine TL.shutU rfl rfl ?_
      refine TL.shutU rfl rfl ?_
      refine TL.shutU rfl rfl ?_
      refine TL.shutU rfl rfl ?_
      refine TL.shutU rfl rfl ?_
      refine TL.shutU rfl rfl ?_
      refine TL.shut rfl rfl ?_
      refine TL.open rfl rfl ?_
      refine TL.val ((by first | exact OpV.pick_t rfl rfl | exact OpV.pick_f rfl rfl)) rfl ?_
      refine TL.val ((by first | exact OpV.pick_t rfl rfl | exact OpV.pick_f rfl rfl)) rfl ?_
      refine TL.nil ?_
      refine TE.sub (.cons (t := 1) rfl <| .cons (t := 27) rfl <| .cons (t := 28) rfl <| .cons (t := 50) rfl <| .nil) ?_
      refine TE.next ?_
      refine T.yes rfl ?_
      refine T.seq ?_
      refine T.region ?_
      refine TL.val (OpV.assign rfl) rfl ?_
      refine TL.nil ?_
      refine TE.next ?_
      refine T.ret ?_
      refine TE.out_ret ?_
      refine TE.pass_ret ?_
      refine TE.pass_ret ?_
      refine TE.out_ret ?_
      refine TE.pass_ret ?_
      refine TE.ret1 rfl (ResV.tmp rfl) ?_
      exact fun w1 k1 => ⟨ret_bool (by first | (simp_all [vCl, bad]; done) | grind [vCl, bad]), k1.bel⟩
     ·
      intro hg38
      refine TL.open rfl rfl ?_
      refine TL.val (OpV.move rfl) rfl ?_
      refine TL.open rfl rfl ?_
      refine TL.val (OpV.gtr rfl rfl) rfl ?_
      refine TL.open rfl rfl ?_
      refine TL.val (OpV.move rfl) rfl ?_
      refine TL.shut rfl rfl ?_
      refine TL.shut rfl rfl ?_
      refine TL.shut rfl rfl ?_
      refine TL.shut rfl rfl ?_
      refine TL.shut rfl rfl ?_
      refine TL.shut rfl rfl ?_
      refine TL.open rfl rfl ?_
      refine TL.val ((by first | exact OpV.pick_t rfl rfl | exact OpV.pick_f rfl rfl)) rfl ?_
      refine TL.open rfl rfl ?_
      refine TL.val ((by first | exact OpV.pick_t rfl rfl | exact OpV.pick_f rfl rfl)) rfl ?_
      refine TL.val ((by first | exact OpV.pick_t rfl rfl | exact OpV.pick_f rfl rfl)) rfl ?_
      refine TL.nil ?_
      refine TE.sub (.cons (t := 1) rfl <| .cons (t := 27) rfl <| .cons (t := 28) rfl <| .cons (t := 50) rfl <| .nil) ?_
      refine TE.next ?_
      refine T.no rfl ?_
      refine T.skip ?_
      refine TE.out ?_
      exact TE.meet () (by first | (simp_all [bad]; done) | grind [bad]) (.cons (t := 1) rfl <| .cons (t := 27) rfl <| .cons (t := 28) rfl <| .nil) (Kle.refl)
    ·
     intro hg34
     refine TL.shut rfl rfl ?_
     refine TL.shut rfl rfl ?_
     refine TL.shut rfl rfl ?_
     refine TL.shut rfl rfl ?_
     refine TL.shutU rfl rfl ?_
     refine TL.shutU rfl rfl ?_
     refine TL.shutU rfl rfl ?_
     refine TL.shutU rfl rfl ?_
     refine TL.shutU rfl rfl ?_
     refine TL.shutU rfl rfl ?_
     refine TL.shutU rfl rfl ?_
     refine TL.shutU rfl rfl ?_
     refine TL.shutU rfl rfl ?_
     refine TL.shutU rfl rfl ?_
     refine TL.shut rfl rfl ?_
     refine TL.val ((by first | exact OpV.pick_t rfl rfl | exact OpV.pick_f rfl rfl)) rfl ?_
     refine TL.nil ?_
     refine TE.sub (.cons (t := 1) rfl <| .cons (t := 27) rfl <| .cons (t := 28) rfl <| .cons (t := 50) rfl <| .nil) ?_
     refine TE.next ?_
     refine T.no rfl ?_
     refine T.skip ?_
     refine TE.out ?_
     exact TE.meet () (by first | (simp_all [bad]; done) | grind [bad]) (.cons (t := 1) rfl <| .cons (t := 27) rfl <| .cons (t := 28) rfl <| .nil) (Kle.refl)
   rintro _ hb0
   refine TE.next ?_
   refine T.region ?_
   refine TL.val (OpV.add rfl rfl (by first | exact IntWalk.i64_in _ ⟨by omega, by omega⟩ | rfl)) rfl ?_
   refine TL.val (OpV.move rfl) rfl ?_
   refine TL.nil ?_
   refine TE.round ?_
   refine T.seq ?_
   refine T.region ?_
   refine TL.val (OpV.lss rfl rfl) rfl ?_
   refine TL.nil ?_
   refine TE.next ?_
   refine T.seq ?_
   refine T.yes rfl ?_
   refine T.skip ?_
   refine TE.next ?_
   refine T.seq ?_
   refine T.cutx (ι := Unit) (fun _ => bad c.m1 (c.m0 == 0) = false) (fun _ => [(1, .pointer (some ⟨b1, 0, none⟩)), (27, .agg (mlL c.m0 c.m1 c.m2).toArray), (28, .int .i64 1)]) (fun _ => [.blk b1 c.l 58]) ?_ ?_
   rotate_left
   ·
    refine T.block ?_
    refine T.seq ?_
    refine T.region ?_
    refine TL.val (OpV.move rfl) rfl ?_
    refine TL.val (OpV.indexA1 (j := 1) ae_50 pl_21 rfl rfl (by rfl) (by decide) (show _ = some (.int .i32 c.m1) from rfl)) rfl ?_
    refine TL.val (OpV.assign rfl) rfl ?_
    refine TL.val (OpV.assign rfl) rfl ?_
    refine TL.nil ?_
    refine TE.next ?_
    refine T.seq ?_
    refine T.region ?_
    refine TL.val (OpV.move rfl) rfl ?_
    refine TL.val (OpV.neq rfl rfl) rfl ?_
    refine TL.val (OpV.move rfl) rfl ?_
    refine TL.part (t := 34) rfl ?_ ?_
    ·
     intro hg34
     refine TL.open rfl rfl ?_
     refine TL.val (OpV.move rfl) rfl ?_
     refine TL.open rfl rfl ?_
     refine TL.call (g := 102) rfl go_102 rfl (fun w1 k1 => of_c c.m1 w1 (L.below k1.bel)) rfl ?_
     refine TL.open rfl rfl ?_
     refine TL.val (OpV.neq rfl rfl) rfl ?_
     refine TL.open rfl rfl ?_
     refine TL.val (OpV.move rfl) rfl ?_
     refine TL.part (t := 38) rfl ?_ ?_
     ·
      intro hg38
      refine TL.shut rfl rfl ?_
      refine TL.shut rfl rfl ?_
      refine TL.shut rfl rfl ?_
      refine TL.shutU rfl rfl ?_
      refine TL.shutU rfl rfl ?_
      refine TL.shutU rfl rfl ?_
      refine TL.shutU rfl rfl ?_
      refine TL.shutU rfl rfl ?_
      refine TL.shutU rfl rfl ?_
      refine TL.shut rfl rfl ?_
      refine TL.open rfl rfl ?_
      refine TL.val ((by first | exact OpV.pick_t rfl rfl | exact OpV.pick_f rfl rfl)) rfl ?_
      refine TL.val ((by first | exact OpV.pick_t rfl rfl | exact OpV.pick_f rfl rfl)) rfl ?_
      refine TL.nil ?_
      refine TE.sub (.cons (t := 1) rfl <| .cons (t := 27) rfl <| .cons (t := 28) rfl <| .cons (t := 50) rfl <| .nil) ?_
      refine TE.next ?_
      refine T.yes rfl ?_
      refine T.seq ?_
      refine T.region ?_
      refine TL.val (OpV.assign rfl) rfl ?_
      refine TL.nil ?_
      refine TE.next ?_
      refine T.ret ?_
      refine TE.out_ret ?_
      refine TE.pass_ret ?_
      refine TE.pass_ret ?_
      refine TE.out_ret ?_
      refine TE.pass_ret ?_
      refine TE.ret1 rfl (ResV.tmp rfl) ?_
      exact fun w1 k1 => ⟨ret_bool (by first | (simp_all [vCl, bad]; done) | grind [vCl, bad]), k1.bel⟩
     ·
      intro hg38
      refine TL.open rfl rfl ?_
      refine TL.val (OpV.move rfl) rfl ?_
      refine TL.open rfl rfl ?_
      refine TL.val (OpV.gtr rfl rfl) rfl ?_
      refine TL.open rfl rfl ?_
      refine TL.val (OpV.move rfl) rfl ?_
      refine TL.open rfl rfl ?_
      refine TL.val (OpV.move rfl) rfl ?_
      refine TL.open rfl rfl ?_
      refine TL.val (OpV.sub rfl rfl (by first | exact IntWalk.i64_in _ ⟨by omega, by omega⟩ | rfl)) rfl ?_
      refine TL.open rfl rfl ?_
      refine TL.val (OpV.fieldAddr rfl fo_58_1) rfl ?_
      refine TL.open rfl rfl ?_
      refine TL.val (OpV.indexAddrA (j := 0) ae_50 rfl rfl (by rfl) (by decide)) rfl ?_
      refine TL.open rfl rfl ?_
      refine TL.val (OpV.load pl_21 rfl (by first | exact Cel.blk P0 rfl | exact Cel.blk P1 rfl | exact Cel.blk P2 rfl | exact Cel.blk P3 rfl)) rfl ?_
      refine TL.open rfl rfl ?_
      refine TL.val (OpV.eql rfl rfl) rfl ?_
      refine TL.open rfl rfl ?_
      refine TL.val ((by first | exact OpV.pick_t rfl rfl | exact OpV.pick_f rfl rfl)) rfl ?_
      refine TL.open rfl rfl ?_
      refine TL.val ((by first | exact OpV.pick_t rfl rfl | exact OpV.pick_f rfl rfl)) rfl ?_
      refine TL.val ((by first | exact OpV.pick_t rfl rfl | exact OpV.pick_f rfl rfl)) rfl ?_
      refine TL.nil ?_
      refine TE.sub (.cons (t := 1) rfl <| .cons (t := 27) rfl <| .cons (t := 28) rfl <| .cons (t := 50) rfl <| .nil) ?_
      refine TE.next ?_
      refine T.cond rfl ?_ ?_
      ·
       intro ht50
       refine T.seq ?_
       refine T.region ?_
       refine TL.val (OpV.assign rfl) rfl ?_
       refine TL.nil ?_
       refine TE.next ?_
       refine T.ret ?_
       refine TE.out_ret ?_
       refine TE.pass_ret ?_
       refine TE.pass_ret ?_
       refine TE.out_ret ?_
       refine TE.pass_ret ?_
       refine TE.ret1 rfl (ResV.tmp rfl) ?_
       exact fun w1 k1 => ⟨ret_bool (by first | (simp_all [vCl, bad]; done) | grind [vCl, bad]), k1.bel⟩
      ·
       intro ht50
       refine T.skip ?_
       refine TE.out ?_
       exact TE.meet () (by first | (simp_all [bad]; done) | grind [bad]) (.cons (t := 1) rfl <| .cons (t := 27) rfl <| .cons (t := 28) rfl <| .nil) (Kle.refl)
    ·
     intro hg34
     refine TL.shut rfl rfl ?_
     refine TL.shut rfl rfl ?_
     refine TL.shut rfl rfl ?_
     refine TL.shut rfl rfl ?_
     refine TL.shutU rfl rfl ?_
     refine TL.shutU rfl rfl ?_
     refine TL.shutU rfl rfl ?_
     refine TL.shutU rfl rfl ?_
     refine TL.shutU rfl rfl ?_
     refine TL.shutU rfl rfl ?_
     refine TL.shutU rfl rfl ?_
     refine TL.shutU rfl rfl ?_
     refine TL.shutU rfl rfl ?_
     refine TL.shutU rfl rfl ?_
     refine TL.shut rfl rfl ?_
     refine TL.val ((by first | exact OpV.pick_t rfl rfl | exact OpV.pick_f rfl rfl)) rfl ?_
     refine TL.nil ?_
     refine TE.sub (.cons (t := 1) rfl <| .cons (t := 27) rfl <| .cons (t := 28) rfl <| .cons (t := 50) rfl <| .nil) ?_
     refine TE.next ?_
     refine T.no rfl ?_
     refine T.skip ?_
     refine TE.out ?_
     exact TE.meet () (by first | (simp_all [bad]; done) | grind [bad]) (.cons (t := 1) rfl <| .cons (t := 27) rfl <| .cons (t := 28) rfl <| .nil) (Kle.refl)
   rintro _ hb1
   refine TE.next ?_
   refine T.region ?_
   refine TL.val (OpV.add rfl rfl (by first | exact IntWalk.i64_in _ ⟨by omega, by omega⟩ | rfl)) rfl ?_
   refine TL.val (OpV.move rfl) rfl ?_
   refine TL.nil ?_
   refine TE.round ?_
   refine T.seq ?_
   refine T.region ?_
   refine TL.val (OpV.lss rfl rfl) rfl ?_
   refine TL.nil ?_
   refine TE.next ?_
   refine T.seq ?_
   refine T.yes rfl ?_
   refine T.skip ?_
   refine TE.next ?_
   refine T.seq ?_
   refine T.cutx (ι := Unit) (fun _ => bad c.m2 (c.m1 == 0) = false) (fun _ => [(1, .pointer (some ⟨b1, 0, none⟩)), (27, .agg (mlL c.m0 c.m1 c.m2).toArray), (28, .int .i64 2)]) (fun _ => [.blk b1 c.l 58]) ?_ ?_
   rotate_left
   ·
    refine T.block ?_
    refine T.seq ?_
    refine T.region ?_
    refine TL.val (OpV.move rfl) rfl ?_
    refine TL.val (OpV.indexA1 (j := 2) ae_50 pl_21 rfl rfl (by rfl) (by decide) (show _ = some (.int .i32 c.m2) from rfl)) rfl ?_
    refine TL.val (OpV.assign rfl) rfl ?_
    refine TL.val (OpV.assign rfl) rfl ?_
    refine TL.nil ?_
    refine TE.next ?_
    refine T.seq ?_
    refine T.region ?_
    refine TL.val (OpV.move rfl) rfl ?_
    refine TL.val (OpV.neq rfl rfl) rfl ?_
    refine TL.val (OpV.move rfl) rfl ?_
    refine TL.part (t := 34) rfl ?_ ?_
    ·
     intro hg34
     refine TL.open rfl rfl ?_
     refine TL.val (OpV.move rfl) rfl ?_
     refine TL.open rfl rfl ?_
     refine TL.call (g := 102) rfl go_102 rfl (fun w1 k1 => of_c c.m2 w1 (L.below k1.bel)) rfl ?_
     refine TL.open rfl rfl ?_
     refine TL.val (OpV.neq rfl rfl) rfl ?_
     refine TL.open rfl rfl ?_
     refine TL.val (OpV.move rfl) rfl ?_
     refine TL.part (t := 38) rfl ?_ ?_
     ·
      intro hg38
      refine TL.shut rfl rfl ?_
      refine TL.shut rfl rfl ?_
      refine TL.shut rfl rfl ?_
      refine TL.shutU rfl rfl ?_
      refine TL.shutU rfl rfl ?_
      refine TL.shutU rfl rfl ?_
      refine TL.shutU rfl rfl ?_
      refine TL.shutU rfl rfl ?_
      refine TL.shutU rfl rfl ?_
      refine TL.shut rfl rfl ?_
      refine TL.open rfl rfl ?_
      refine TL.val ((by first | exact OpV.pick_t rfl rfl | exact OpV.pick_f rfl rfl)) rfl ?_
      refine TL.val ((by first | exact OpV.pick_t rfl rfl | exact OpV.pick_f rfl rfl)) rfl ?_
      refine TL.nil ?_
      refine TE.sub (.cons (t := 1) rfl <| .cons (t := 27) rfl <| .cons (t := 28) rfl <| .cons (t := 50) rfl <| .nil) ?_
      refine TE.next ?_
      refine T.yes rfl ?_
      refine T.seq ?_
      refine T.region ?_
      refine TL.val (OpV.assign rfl) rfl ?_
      refine TL.nil ?_
      refine TE.next ?_
      refine T.ret ?_
      refine TE.out_ret ?_
      refine TE.pass_ret ?_
      refine TE.pass_ret ?_
      refine TE.out_ret ?_
      refine TE.pass_ret ?_
      refine TE.ret1 rfl (ResV.tmp rfl) ?_
      exact fun w1 k1 => ⟨ret_bool (by first | (simp_all [vCl, bad]; done) | grind [vCl, bad]), k1.bel⟩
     ·
      intro hg38
      refine TL.open rfl rfl ?_
      refine TL.val (OpV.move rfl) rfl ?_
      refine TL.open rfl rfl ?_
      refine TL.val (OpV.gtr rfl rfl) rfl ?_
      refine TL.open rfl rfl ?_
      refine TL.val (OpV.move rfl) rfl ?_
      refine TL.open rfl rfl ?_
      refine TL.val (OpV.move rfl) rfl ?_
      refine TL.open rfl rfl ?_
      refine TL.val (OpV.sub rfl rfl (by first | exact IntWalk.i64_in _ ⟨by omega, by omega⟩ | rfl)) rfl ?_
      refine TL.open rfl rfl ?_
      refine TL.val (OpV.fieldAddr rfl fo_58_1) rfl ?_
      refine TL.open rfl rfl ?_
      refine TL.val (OpV.indexAddrA (j := 1) ae_50 rfl rfl (by rfl) (by decide)) rfl ?_
      refine TL.open rfl rfl ?_
      refine TL.val (OpV.load pl_21 rfl (by first | exact Cel.blk P0 rfl | exact Cel.blk P1 rfl | exact Cel.blk P2 rfl | exact Cel.blk P3 rfl)) rfl ?_
      refine TL.open rfl rfl ?_
      refine TL.val (OpV.eql rfl rfl) rfl ?_
      refine TL.open rfl rfl ?_
      refine TL.val ((by first | exact OpV.pick_t rfl rfl | exact OpV.pick_f rfl rfl)) rfl ?_
      refine TL.open rfl rfl ?_
      refine TL.val ((by first | exact OpV.pick_t rfl rfl | exact OpV.pick_f rfl rfl)) rfl ?_
      refine TL.val ((by first | exact OpV.pick_t rfl rfl | exact OpV.pick_f rfl rfl)) rfl ?_
      refine TL.nil ?_
      refine TE.sub (.cons (t := 1) rfl <| .cons (t := 27) rfl <| .cons (t := 28) rfl <| .cons (t := 50) rfl <| .nil) ?_
      refine TE.next ?_
      refine T.cond rfl ?_ ?_
      ·
       intro ht50
       refine T.seq ?_
       refine T.region ?_
       refine TL.val (OpV.assign rfl) rfl ?_
       refine TL.nil ?_
       refine TE.next ?_
       refine T.ret ?_
       refine TE.out_ret ?_
       refine TE.pass_ret ?_
       refine TE.pass_ret ?_
       refine TE.out_ret ?_
       refine TE.pass_ret ?_
       refine TE.ret1 rfl (ResV.tmp rfl) ?_
       exact fun w1 k1 => ⟨ret_bool (by first | (simp_all [vCl, bad]; done) | grind [vCl, bad]), k1.bel⟩
      ·
       intro ht50
       refine T.skip ?_
       refine TE.out ?_
       exact TE.meet () (by first | (simp_all [bad]; done) | grind [bad]) (.cons (t := 1) rfl <| .cons (t := 27) rfl <| .cons (t := 28) rfl <| .nil) (Kle.refl)
    ·
     intro hg34
     refine TL.shut rfl rfl ?_
     refine TL.shut rfl rfl ?_
     refine TL.shut rfl rfl ?_
     refine TL.shut rfl rfl ?_
     refine TL.shutU rfl rfl ?_
     refine TL.shutU rfl rfl ?_
     refine TL.shutU rfl rfl ?_
     refine TL.shutU rfl rfl ?_
     refine TL.shutU rfl rfl ?_
     refine TL.shutU rfl rfl ?_
     refine TL.shutU rfl rfl ?_
     refine TL.shutU rfl rfl ?_
     refine TL.shutU rfl rfl ?_
     refine TL.shutU rfl rfl ?_
     refine TL.shut rfl rfl ?_
     refine TL.val ((by first | exact OpV.pick_t rfl rfl | exact OpV.pick_f rfl rfl)) rfl ?_
     refine TL.nil ?_
     refine TE.sub (.cons (t := 1) rfl <| .cons (t := 27) rfl <| .cons (t := 28) rfl <| .cons (t := 50) rfl <| .nil) ?_
     refine TE.next ?_
     refine T.no rfl ?_
     refine T.skip ?_
     refine TE.out ?_
     exact TE.meet () (by first | (simp_all [bad]; done) | grind [bad]) (.cons (t := 1) rfl <| .cons (t := 27) rfl <| .cons (t := 28) rfl <| .nil) (Kle.refl)
   rintro _ hb2
   refine TE.next ?_
   refine T.region ?_
   refine TL.val (OpV.add rfl rfl (by first | exact IntWalk.i64_in _ ⟨by omega, by omega⟩ | rfl)) rfl ?_
   refine TL.val (OpV.move rfl) rfl ?_
   refine TL.nil ?_
   refine TE.round ?_
   refine T.seq ?_
   refine T.region ?_
   refine TL.val (OpV.lss rfl rfl) rfl ?_
   refine TL.nil ?_
   refine TE.next ?_
   refine T.seq ?_
   refine T.no rfl ?_
   refine T.exit ?_
   refine TE.pass_exit ?_
   refine TE.pass_exit ?_
   refine TE.here ?_
   refine TE.next ?_
   refine T.seq ?_
   refine T.quiet mix (by kernel_rfl) ?_
   refine TQ.val (OpV.fieldAddr rfl fo_58_2) rfl ?_
   refine TQ.val (OpV.load pl_3 rfl (by first | exact Cel.blk P0 rfl | exact Cel.blk P1 rfl | exact Cel.blk P2 rfl | exact Cel.blk P3 rfl)) rfl ?_
   refine TQ.val (OpV.gtr rfl rfl) rfl ?_
   refine TQ.val (OpV.move rfl) rfl ?_
   refine TQ.part (t := 55) rfl ?_ ?_
   ·
    intro hg55
    refine TQ.open rfl rfl ?_
    refine TQ.val (OpV.fieldAddr rfl fo_58_2) rfl ?_
    refine TQ.open rfl rfl ?_
    refine TQ.val (OpV.load pl_3 rfl (by first | exact Cel.blk P0 rfl | exact Cel.blk P1 rfl | exact Cel.blk P2 rfl | exact Cel.blk P3 rfl)) rfl ?_
    refine TQ.open rfl rfl ?_
    refine TQ.val (OpV.fieldAddr rfl fo_58_0) rfl ?_
    refine TQ.open rfl rfl ?_
    refine TQ.val (OpV.load pl_21 rfl (by first | exact Cel.blk P0 rfl | exact Cel.blk P1 rfl | exact Cel.blk P2 rfl | exact Cel.blk P3 rfl)) rfl ?_
    refine TQ.open rfl rfl ?_
    refine TQ.call (g := 102) rfl go_102 rfl (fun w1 k1 => of_c c.r w1 (L.below k1.bel)) rfl ?_
    refine TQ.open rfl rfl ?_
    refine TQ.val (OpV.eql rfl rfl) rfl ?_
    refine TQ.val ((by first | exact OpV.pick_t rfl rfl | exact OpV.pick_f rfl rfl)) rfl ?_
    refine TQ.val (OpV.assign rfl) rfl ?_
    refine TQ.nil ?_
    refine TE.sub (.cons (t := 2) rfl <| .nil) ?_
    refine TE.next ?_
    refine T.ret ?_
    refine TE.ret1 rfl (ResV.tmp rfl) ?_
    exact fun w1 k1 => ⟨ret_bool (by first | (simp_all [vCl, bad]; done) | grind [vCl, bad]), k1.bel⟩
   ·
    intro hg55
    refine TQ.shut rfl rfl ?_
    refine TQ.shut rfl rfl ?_
    refine TQ.shut rfl rfl ?_
    refine TQ.shut rfl rfl ?_
    refine TQ.shut rfl rfl ?_
    refine TQ.shut rfl rfl ?_
    refine TQ.val ((by first | exact OpV.pick_t rfl rfl | exact OpV.pick_f rfl rfl)) rfl ?_
    refine TQ.val (OpV.assign rfl) rfl ?_
    refine TQ.nil ?_
    refine TE.sub (.cons (t := 2) rfl <| .nil) ?_
    refine TE.next ?_
    refine T.ret ?_
    refine TE.ret1 rfl (ResV.tmp rfl) ?_
    exact fun w1 k1 => ⟨ret_bool (by first | (simp_all [vCl, bad]; done) | grind [vCl, bad]), k1.bel⟩
set_option maxRecDepth 100000 in
set_option maxHeartbeats 1000000 in
theorem rmarks4_c (c : Cl) (w : World) : Calls Tryd.prog 92 #[.agg c.l.toArray] w (Ret (.tuple #[.int .i64 (mkN c), .bool (mkB c)]) w) := by
 refine calls_T (vs := [.agg c.l.toArray]) (L0 := [(0, .agg c.l.toArray)]) Tryd.func92 rfl rfl rfl rfl (KOk.none w) ?_
 refine T.seq ?_
 refine T.region ?_
 refine TL.boxA rfl rfl ?_
 intro b1
 refine TL.val (OpV.assign rfl) rfl ?_
 refine TL.val (OpV.assign rfl) rfl ?_
 refine TL.nil ?_
 refine TE.next ?_
 refine T.seq ?_
 refine T.region ?_
 refine TL.val (OpV.assign rfl) rfl ?_
 refine TL.nil ?_
 refine TE.next ?_
 refine T.seq ?_
 refine T.block ?_
 refine T.rounds 3 ?_
 refine T.seq ?_
 refine T.seq ?_
 refine T.region ?_
 refine TL.val (OpV.move rfl) rfl ?_
 refine TL.val (OpV.lss rfl rfl) rfl ?_
 refine TL.val (OpV.move rfl) rfl ?_
 refine TL.open rfl rfl ?_
 refine TL.val (OpV.move rfl) rfl ?_
 refine TL.open rfl rfl ?_
 refine TL.val (OpV.fieldAddr rfl fo_58_1) rfl ?_
 refine TL.open rfl rfl ?_
 refine TL.val (OpV.indexAddrA (j := 0) ae_50 rfl rfl (by rfl) (by decide)) rfl ?_
 refine TL.open rfl rfl ?_
 refine TL.val (OpV.load pl_21 rfl (by first | exact Cel.blk P0 rfl | exact Cel.blk P1 rfl | exact Cel.blk P2 rfl | exact Cel.blk P3 rfl)) rfl ?_
 refine TL.open rfl rfl ?_
 refine TL.val (OpV.neq rfl rfl) rfl ?_
 refine TL.val ((by first | exact OpV.pick_t rfl rfl | exact OpV.pick_f rfl rfl)) rfl ?_
 refine TL.nil ?_
 refine TE.sub (.cons (t := 1) rfl <| .cons (t := 4) rfl <| .cons (t := 14) rfl <| .nil) ?_
 refine TE.next ?_
 refine T.cond rfl ?_ ?_
 ·
  intro ht14
  refine T.skip ?_
  refine TE.next ?_
  refine T.block ?_
  refine T.seq ?_
  refine T.seq ?_
  refine T.region ?_
  refine TL.val (OpV.move rfl) rfl ?_
  refine TL.val (OpV.fieldAddr rfl fo_58_1) rfl ?_
  refine TL.val (OpV.indexAddrA (j := 0) ae_50 rfl rfl (by rfl) (by decide)) rfl ?_
  refine TL.val (OpV.load pl_21 rfl (by first | exact Cel.blk P0 rfl | exact Cel.blk P1 rfl | exact Cel.blk P2 rfl | exact Cel.blk P3 rfl)) rfl ?_
  refine TL.call (g := 94) rfl go_94 rfl (fun w1 _ => rof_c c.m0 w1) rfl ?_
  refine TL.val (OpV.neq rfl rfl) rfl ?_
  refine TL.nil ?_
  refine TE.next ?_
  refine T.cond rfl ?_ ?_
  ·
   intro ht20
   refine T.seq ?_
   refine T.region ?_
   refine TL.val (OpV.move rfl) rfl ?_
   refine TL.val (OpV.assign rfl) rfl ?_
   refine TL.val (OpV.assign rfl) rfl ?_
   refine TL.nil ?_
   refine TE.sub (.cons (t := 2) rfl <| .cons (t := 3) rfl <| .nil) ?_
   refine TE.next ?_
   refine T.ret ?_
   refine TE.pass_ret ?_
   refine TE.out_ret ?_
   refine TE.pass_ret ?_
   refine TE.out_ret ?_
   refine TE.pass_ret ?_
   refine TE.retN rfl (.cons (ResV.tmp rfl) <| .cons (ResV.tmp rfl) <| .nil) ?_
   exact fun w1 k1 => ⟨ret_ib (by grind [mkN, mkB]) (by grind [mkN, mkB]), k1.bel⟩
  ·
   intro ht20
   refine T.skip ?_
   refine TE.sub (.cons (t := 1) rfl <| .cons (t := 4) rfl <| .nil) ?_
   refine TE.next ?_
   refine T.region ?_
   refine TL.val (OpV.move rfl) rfl ?_
   refine TL.val (OpV.add rfl rfl (by first | exact IntWalk.i64_in _ ⟨by omega, by omega⟩ | rfl)) rfl ?_
   refine TL.val (OpV.assign rfl) rfl ?_
   refine TL.nil ?_
   refine TE.out ?_
   refine TE.round ?_
   refine T.seq ?_
   refine T.seq ?_
   refine T.region ?_
   refine TL.val (OpV.move rfl) rfl ?_
   refine TL.val (OpV.lss rfl rfl) rfl ?_
   refine TL.val (OpV.move rfl) rfl ?_
   refine TL.open rfl rfl ?_
   refine TL.val (OpV.move rfl) rfl ?_
   refine TL.open rfl rfl ?_
   refine TL.val (OpV.fieldAddr rfl fo_58_1) rfl ?_
   refine TL.open rfl rfl ?_
   refine TL.val (OpV.indexAddrA (j := 1) ae_50 rfl rfl (by rfl) (by decide)) rfl ?_
   refine TL.open rfl rfl ?_
   refine TL.val (OpV.load pl_21 rfl (by first | exact Cel.blk P0 rfl | exact Cel.blk P1 rfl | exact Cel.blk P2 rfl | exact Cel.blk P3 rfl)) rfl ?_
   refine TL.open rfl rfl ?_
   refine TL.val (OpV.neq rfl rfl) rfl ?_
   refine TL.val ((by first | exact OpV.pick_t rfl rfl | exact OpV.pick_f rfl rfl)) rfl ?_
   refine TL.nil ?_
   refine TE.sub (.cons (t := 1) rfl <| .cons (t := 4) rfl <| .cons (t := 14) rfl <| .nil) ?_
   refine TE.next ?_
   refine T.cond rfl ?_ ?_
   ·
    intro ht14
    refine T.skip ?_
    refine TE.next ?_
    refine T.block ?_
    refine T.seq ?_
    refine T.seq ?_
    refine T.region ?_
    refine TL.val (OpV.move rfl) rfl ?_
    refine TL.val (OpV.fieldAddr rfl fo_58_1) rfl ?_
    refine TL.val (OpV.indexAddrA (j := 1) ae_50 rfl rfl (by rfl) (by decide)) rfl ?_
    refine TL.val (OpV.load pl_21 rfl (by first | exact Cel.blk P0 rfl | exact Cel.blk P1 rfl | exact Cel.blk P2 rfl | exact Cel.blk P3 rfl)) rfl ?_
    refine TL.call (g := 94) rfl go_94 rfl (fun w1 _ => rof_c c.m1 w1) rfl ?_
    refine TL.val (OpV.neq rfl rfl) rfl ?_
    refine TL.nil ?_
    refine TE.next ?_
    refine T.cond rfl ?_ ?_
    ·
     intro ht20
     refine T.seq ?_
     refine T.region ?_
     refine TL.val (OpV.move rfl) rfl ?_
     refine TL.val (OpV.assign rfl) rfl ?_
     refine TL.val (OpV.assign rfl) rfl ?_
     refine TL.nil ?_
     refine TE.sub (.cons (t := 2) rfl <| .cons (t := 3) rfl <| .nil) ?_
     refine TE.next ?_
     refine T.ret ?_
     refine TE.pass_ret ?_
     refine TE.out_ret ?_
     refine TE.pass_ret ?_
     refine TE.out_ret ?_
     refine TE.pass_ret ?_
     refine TE.retN rfl (.cons (ResV.tmp rfl) <| .cons (ResV.tmp rfl) <| .nil) ?_
     exact fun w1 k1 => ⟨ret_ib (by grind [mkN, mkB]) (by grind [mkN, mkB]), k1.bel⟩
    ·
     intro ht20
     refine T.skip ?_
     refine TE.sub (.cons (t := 1) rfl <| .cons (t := 4) rfl <| .nil) ?_
     refine TE.next ?_
     refine T.region ?_
     refine TL.val (OpV.move rfl) rfl ?_
     refine TL.val (OpV.add rfl rfl (by first | exact IntWalk.i64_in _ ⟨by omega, by omega⟩ | rfl)) rfl ?_
     refine TL.val (OpV.assign rfl) rfl ?_
     refine TL.nil ?_
     refine TE.out ?_
     refine TE.round ?_
     refine T.seq ?_
     refine T.seq ?_
     refine T.region ?_
     refine TL.val (OpV.move rfl) rfl ?_
     refine TL.val (OpV.lss rfl rfl) rfl ?_
     refine TL.val (OpV.move rfl) rfl ?_
     refine TL.open rfl rfl ?_
     refine TL.val (OpV.move rfl) rfl ?_
     refine TL.open rfl rfl ?_
     refine TL.val (OpV.fieldAddr rfl fo_58_1) rfl ?_
     refine TL.open rfl rfl ?_
     refine TL.val (OpV.indexAddrA (j := 2) ae_50 rfl rfl (by rfl) (by decide)) rfl ?_
     refine TL.open rfl rfl ?_
     refine TL.val (OpV.load pl_21 rfl (by first | exact Cel.blk P0 rfl | exact Cel.blk P1 rfl | exact Cel.blk P2 rfl | exact Cel.blk P3 rfl)) rfl ?_
     refine TL.open rfl rfl ?_
     refine TL.val (OpV.neq rfl rfl) rfl ?_
     refine TL.val ((by first | exact OpV.pick_t rfl rfl | exact OpV.pick_f rfl rfl)) rfl ?_
     refine TL.nil ?_
     refine TE.sub (.cons (t := 1) rfl <| .cons (t := 4) rfl <| .cons (t := 14) rfl <| .nil) ?_
     refine TE.next ?_
     refine T.cond rfl ?_ ?_
     ·
      intro ht14
      refine T.skip ?_
      refine TE.next ?_
      refine T.block ?_
      refine T.seq ?_
      refine T.seq ?_
      refine T.region ?_
      refine TL.val (OpV.move rfl) rfl ?_
      refine TL.val (OpV.fieldAddr rfl fo_58_1) rfl ?_
      refine TL.val (OpV.indexAddrA (j := 2) ae_50 rfl rfl (by rfl) (by decide)) rfl ?_
      refine TL.val (OpV.load pl_21 rfl (by first | exact Cel.blk P0 rfl | exact Cel.blk P1 rfl | exact Cel.blk P2 rfl | exact Cel.blk P3 rfl)) rfl ?_
      refine TL.call (g := 94) rfl go_94 rfl (fun w1 _ => rof_c c.m2 w1) rfl ?_
      refine TL.val (OpV.neq rfl rfl) rfl ?_
      refine TL.nil ?_
      refine TE.next ?_
      refine T.cond rfl ?_ ?_
      ·
       intro ht20
       refine T.seq ?_
       refine T.region ?_
       refine TL.val (OpV.move rfl) rfl ?_
       refine TL.val (OpV.assign rfl) rfl ?_
       refine TL.val (OpV.assign rfl) rfl ?_
       refine TL.nil ?_
       refine TE.sub (.cons (t := 2) rfl <| .cons (t := 3) rfl <| .nil) ?_
       refine TE.next ?_
       refine T.ret ?_
       refine TE.pass_ret ?_
       refine TE.out_ret ?_
       refine TE.pass_ret ?_
       refine TE.out_ret ?_
       refine TE.pass_ret ?_
       refine TE.retN rfl (.cons (ResV.tmp rfl) <| .cons (ResV.tmp rfl) <| .nil) ?_
       exact fun w1 k1 => ⟨ret_ib (by grind [mkN, mkB]) (by grind [mkN, mkB]), k1.bel⟩
      ·
       intro ht20
       refine T.skip ?_
       refine TE.sub (.cons (t := 1) rfl <| .cons (t := 4) rfl <| .nil) ?_
       refine TE.next ?_
       refine T.region ?_
       refine TL.val (OpV.move rfl) rfl ?_
       refine TL.val (OpV.add rfl rfl (by first | exact IntWalk.i64_in _ ⟨by omega, by omega⟩ | rfl)) rfl ?_
       refine TL.val (OpV.assign rfl) rfl ?_
       refine TL.nil ?_
       refine TE.out ?_
       refine TE.round ?_
       refine T.seq ?_
       refine T.seq ?_
       refine T.region ?_
       refine TL.val (OpV.move rfl) rfl ?_
       refine TL.val (OpV.lss rfl rfl) rfl ?_
       refine TL.val (OpV.move rfl) rfl ?_
       refine TL.shut rfl rfl ?_
       refine TL.shut rfl rfl ?_
       refine TL.shut rfl rfl ?_
       refine TL.shut rfl rfl ?_
       refine TL.shut rfl rfl ?_
       refine TL.val ((by first | exact OpV.pick_t rfl rfl | exact OpV.pick_f rfl rfl)) rfl ?_
       refine TL.nil ?_
       refine TE.sub (.cons (t := 1) rfl <| .cons (t := 4) rfl <| .cons (t := 14) rfl <| .nil) ?_
       refine TE.next ?_
       refine T.no rfl ?_
       refine T.exit ?_
       refine TE.pass_exit ?_
       refine TE.pass_exit ?_
       refine TE.here ?_
       refine TE.next ?_
       refine T.seq ?_
       refine T.seq ?_
       refine T.region ?_
       refine TL.val (OpV.move rfl) rfl ?_
       refine TL.val (OpV.assign rfl) rfl ?_
       refine TL.nil ?_
       refine TE.next ?_
       refine T.block ?_
       refine T.rounds 3 ?_
       refine T.seq ?_
       refine T.seq ?_
       refine T.region ?_
       refine TL.val (OpV.move rfl) rfl ?_
       refine TL.val (OpV.lss rfl rfl) rfl ?_
       refine TL.nil ?_
       refine TE.next ?_
       refine T.no rfl ?_
       refine T.exit ?_
       refine TE.pass_exit ?_
       refine TE.pass_exit ?_
       refine TE.here ?_
       refine TE.next ?_
       refine T.seq ?_
       refine T.region ?_
       refine TL.val (OpV.move rfl) rfl ?_
       refine TL.val (OpV.assign rfl) rfl ?_
       refine TL.val (OpV.assign rfl) rfl ?_
       refine TL.nil ?_
       refine TE.sub (.cons (t := 2) rfl <| .cons (t := 3) rfl <| .nil) ?_
       refine TE.next ?_
       refine T.ret ?_
       refine TE.retN rfl (.cons (ResV.tmp rfl) <| .cons (ResV.tmp rfl) <| .nil) ?_
       exact fun w1 k1 => ⟨ret_ib (by grind [mkN, mkB]) (by grind [mkN, mkB]), k1.bel⟩
     ·
      intro ht14
      refine T.exit ?_
      refine TE.pass_exit ?_
      refine TE.pass_exit ?_
      refine TE.here ?_
      refine TE.next ?_
      refine T.seq ?_
      refine T.seq ?_
      refine T.region ?_
      refine TL.val (OpV.move rfl) rfl ?_
      refine TL.val (OpV.assign rfl) rfl ?_
      refine TL.nil ?_
      refine TE.next ?_
      refine T.block ?_
      refine T.rounds 3 ?_
      refine T.seq ?_
      refine T.seq ?_
      refine T.region ?_
      refine TL.val (OpV.move rfl) rfl ?_
      refine TL.val (OpV.lss rfl rfl) rfl ?_
      refine TL.nil ?_
      refine TE.next ?_
      refine T.yes rfl ?_
      refine T.skip ?_
      refine TE.next ?_
      refine T.seq ?_
      refine T.block ?_
      refine T.seq ?_
      refine T.region ?_
      refine TL.val (OpV.move rfl) rfl ?_
      refine TL.val (OpV.fieldAddr rfl fo_58_1) rfl ?_
      refine TL.val (OpV.indexAddrA (j := 2) ae_50 rfl rfl (by rfl) (by decide)) rfl ?_
      refine TL.val (OpV.load pl_21 rfl (by first | exact Cel.blk P0 rfl | exact Cel.blk P1 rfl | exact Cel.blk P2 rfl | exact Cel.blk P3 rfl)) rfl ?_
      refine TL.val (OpV.neq rfl rfl) rfl ?_
      refine TL.nil ?_
      refine TE.sub (.cons (t := 1) rfl <| .cons (t := 4) rfl <| .cons (t := 5) rfl <| .cons (t := 33) rfl <| .nil) ?_
      refine TE.next ?_
      refine T.cond rfl ?_ ?_
      ·
       intro ht33
       refine T.seq ?_
       refine T.region ?_
       refine TL.val (OpV.move rfl) rfl ?_
       refine TL.val (OpV.assign rfl) rfl ?_
       refine TL.val (OpV.assign rfl) rfl ?_
       refine TL.nil ?_
       refine TE.next ?_
       refine T.ret ?_
       refine TE.out_ret ?_
       refine TE.pass_ret ?_
       refine TE.pass_ret ?_
       refine TE.out_ret ?_
       refine TE.pass_ret ?_
       refine TE.retN rfl (.cons (ResV.tmp rfl) <| .cons (ResV.tmp rfl) <| .nil) ?_
       exact fun w1 k1 => ⟨ret_ib (by grind [mkN, mkB]) (by grind [mkN, mkB]), k1.bel⟩
      ·
       intro ht33
       refine T.skip ?_
       refine TE.out ?_
       refine TE.next ?_
       refine T.region ?_
       refine TL.val (OpV.move rfl) rfl ?_
       refine TL.val (OpV.add rfl rfl (by first | exact IntWalk.i64_in _ ⟨by omega, by omega⟩ | rfl)) rfl ?_
       refine TL.val (OpV.assign rfl) rfl ?_
       refine TL.nil ?_
       refine TE.round ?_
       refine T.seq ?_
       refine T.seq ?_
       refine T.region ?_
       refine TL.val (OpV.move rfl) rfl ?_
       refine TL.val (OpV.lss rfl rfl) rfl ?_
       refine TL.nil ?_
       refine TE.next ?_
       refine T.no rfl ?_
       refine T.exit ?_
       refine TE.pass_exit ?_
       refine TE.pass_exit ?_
       refine TE.here ?_
       refine TE.next ?_
       refine T.seq ?_
       refine T.region ?_
       refine TL.val (OpV.move rfl) rfl ?_
       refine TL.val (OpV.assign rfl) rfl ?_
       refine TL.val (OpV.assign rfl) rfl ?_
       refine TL.nil ?_
       refine TE.sub (.cons (t := 2) rfl <| .cons (t := 3) rfl <| .nil) ?_
       refine TE.next ?_
       refine T.ret ?_
       refine TE.retN rfl (.cons (ResV.tmp rfl) <| .cons (ResV.tmp rfl) <| .nil) ?_
       exact fun w1 k1 => ⟨ret_ib (by grind [mkN, mkB]) (by grind [mkN, mkB]), k1.bel⟩
   ·
    intro ht14
    refine T.exit ?_
    refine TE.pass_exit ?_
    refine TE.pass_exit ?_
    refine TE.here ?_
    refine TE.next ?_
    refine T.seq ?_
    refine T.seq ?_
    refine T.region ?_
    refine TL.val (OpV.move rfl) rfl ?_
    refine TL.val (OpV.assign rfl) rfl ?_
    refine TL.nil ?_
    refine TE.next ?_
    refine T.block ?_
    refine T.rounds 3 ?_
    refine T.seq ?_
    refine T.seq ?_
    refine T.region ?_
    refine TL.val (OpV.move rfl) rfl ?_
    refine TL.val (OpV.lss rfl rfl) rfl ?_
    refine TL.nil ?_
    refine TE.next ?_
    refine T.yes rfl ?_
    refine T.skip ?_
    refine TE.next ?_
    refine T.seq ?_
    refine T.block ?_
    refine T.seq ?_
    refine T.region ?_
    refine TL.val (OpV.move rfl) rfl ?_
    refine TL.val (OpV.fieldAddr rfl fo_58_1) rfl ?_
    refine TL.val (OpV.indexAddrA (j := 1) ae_50 rfl rfl (by rfl) (by decide)) rfl ?_
    refine TL.val (OpV.load pl_21 rfl (by first | exact Cel.blk P0 rfl | exact Cel.blk P1 rfl | exact Cel.blk P2 rfl | exact Cel.blk P3 rfl)) rfl ?_
    refine TL.val (OpV.neq rfl rfl) rfl ?_
    refine TL.nil ?_
    refine TE.sub (.cons (t := 1) rfl <| .cons (t := 4) rfl <| .cons (t := 5) rfl <| .cons (t := 33) rfl <| .nil) ?_
    refine TE.next ?_
    refine T.cond rfl ?_ ?_
    ·
     intro ht33
     refine T.seq ?_
     refine T.region ?_
     refine TL.val (OpV.move rfl) rfl ?_
     refine TL.val (OpV.assign rfl) rfl ?_
     refine TL.val (OpV.assign rfl) rfl ?_
     refine TL.nil ?_
     refine TE.next ?_
     refine T.ret ?_
     refine TE.out_ret ?_
     refine TE.pass_ret ?_
     refine TE.pass_ret ?_
     refine TE.out_ret ?_
     refine TE.pass_ret ?_
     refine TE.retN rfl (.cons (ResV.tmp rfl) <| .cons (ResV.tmp rfl) <| .nil) ?_
     exact fun w1 k1 => ⟨ret_ib (by grind [mkN, mkB]) (by grind [mkN, mkB]), k1.bel⟩
    ·
     intro ht33
     refine T.skip ?_
     refine TE.out ?_
     refine TE.next ?_
     refine T.region ?_
     refine TL.val (OpV.move rfl) rfl ?_
     refine TL.val (OpV.add rfl rfl (by first | exact IntWalk.i64_in _ ⟨by omega, by omega⟩ | rfl)) rfl ?_
     refine TL.val (OpV.assign rfl) rfl ?_
     refine TL.nil ?_
     refine TE.round ?_
     refine T.seq ?_
     refine T.seq ?_
     refine T.region ?_
     refine TL.val (OpV.move rfl) rfl ?_
     refine TL.val (OpV.lss rfl rfl) rfl ?_
     refine TL.nil ?_
     refine TE.next ?_
     refine T.yes rfl ?_
     refine T.skip ?_
     refine TE.next ?_
     refine T.seq ?_
     refine T.block ?_
     refine T.seq ?_
     refine T.region ?_
     refine TL.val (OpV.move rfl) rfl ?_
     refine TL.val (OpV.fieldAddr rfl fo_58_1) rfl ?_
     refine TL.val (OpV.indexAddrA (j := 2) ae_50 rfl rfl (by rfl) (by decide)) rfl ?_
     refine TL.val (OpV.load pl_21 rfl (by first | exact Cel.blk P0 rfl | exact Cel.blk P1 rfl | exact Cel.blk P2 rfl | exact Cel.blk P3 rfl)) rfl ?_
     refine TL.val (OpV.neq rfl rfl) rfl ?_
     refine TL.nil ?_
     refine TE.sub (.cons (t := 1) rfl <| .cons (t := 4) rfl <| .cons (t := 5) rfl <| .cons (t := 33) rfl <| .nil) ?_
     refine TE.next ?_
     refine T.cond rfl ?_ ?_
     ·
      intro ht33
      refine T.seq ?_
      refine T.region ?_
      refine TL.val (OpV.move rfl) rfl ?_
      refine TL.val (OpV.assign rfl) rfl ?_
      refine TL.val (OpV.assign rfl) rfl ?_
      refine TL.nil ?_
      refine TE.next ?_
      refine T.ret ?_
      refine TE.out_ret ?_
      refine TE.pass_ret ?_
      refine TE.pass_ret ?_
      refine TE.out_ret ?_
      refine TE.pass_ret ?_
      refine TE.retN rfl (.cons (ResV.tmp rfl) <| .cons (ResV.tmp rfl) <| .nil) ?_
      exact fun w1 k1 => ⟨ret_ib (by grind [mkN, mkB]) (by grind [mkN, mkB]), k1.bel⟩
     ·
      intro ht33
      refine T.skip ?_
      refine TE.out ?_
      refine TE.next ?_
      refine T.region ?_
      refine TL.val (OpV.move rfl) rfl ?_
      refine TL.val (OpV.add rfl rfl (by first | exact IntWalk.i64_in _ ⟨by omega, by omega⟩ | rfl)) rfl ?_
      refine TL.val (OpV.assign rfl) rfl ?_
      refine TL.nil ?_
      refine TE.round ?_
      refine T.seq ?_
      refine T.seq ?_
      refine T.region ?_
      refine TL.val (OpV.move rfl) rfl ?_
      refine TL.val (OpV.lss rfl rfl) rfl ?_
      refine TL.nil ?_
      refine TE.next ?_
      refine T.no rfl ?_
      refine T.exit ?_
      refine TE.pass_exit ?_
      refine TE.pass_exit ?_
      refine TE.here ?_
      refine TE.next ?_
      refine T.seq ?_
      refine T.region ?_
      refine TL.val (OpV.move rfl) rfl ?_
      refine TL.val (OpV.assign rfl) rfl ?_
      refine TL.val (OpV.assign rfl) rfl ?_
      refine TL.nil ?_
      refine TE.sub (.cons (t := 2) rfl <| .cons (t := 3) rfl <| .nil) ?_
      refine TE.next ?_
      refine T.ret ?_
      refine TE.retN rfl (.cons (ResV.tmp rfl) <| .cons (ResV.tmp rfl) <| .nil) ?_
      exact fun w1 k1 => ⟨ret_ib (by grind [mkN, mkB]) (by grind [mkN, mkB]), k1.bel⟩
 ·
  intro ht14
  refine T.exit ?_
  refine TE.pass_exit ?_
  refine TE.pass_exit ?_
  refine TE.here ?_
  refine TE.next ?_
  refine T.seq ?_
  refine T.seq ?_
  refine T.region ?_
  refine TL.val (OpV.move rfl) rfl ?_
  refine TL.val (OpV.assign rfl) rfl ?_
  refine TL.nil ?_
  refine TE.next ?_
  refine T.block ?_
  refine T.rounds 3 ?_
  refine T.seq ?_
  refine T.seq ?_
  refine T.region ?_
  refine TL.val (OpV.move rfl) rfl ?_
  refine TL.val (OpV.lss rfl rfl) rfl ?_
  refine TL.nil ?_
  refine TE.next ?_
  refine T.yes rfl ?_
  refine T.skip ?_
  refine TE.next ?_
  refine T.seq ?_
  refine T.block ?_
  refine T.seq ?_
  refine T.region ?_
  refine TL.val (OpV.move rfl) rfl ?_
  refine TL.val (OpV.fieldAddr rfl fo_58_1) rfl ?_
  refine TL.val (OpV.indexAddrA (j := 0) ae_50 rfl rfl (by rfl) (by decide)) rfl ?_
  refine TL.val (OpV.load pl_21 rfl (by first | exact Cel.blk P0 rfl | exact Cel.blk P1 rfl | exact Cel.blk P2 rfl | exact Cel.blk P3 rfl)) rfl ?_
  refine TL.val (OpV.neq rfl rfl) rfl ?_
  refine TL.nil ?_
  refine TE.sub (.cons (t := 1) rfl <| .cons (t := 4) rfl <| .cons (t := 5) rfl <| .cons (t := 33) rfl <| .nil) ?_
  refine TE.next ?_
  refine T.cond rfl ?_ ?_
  ·
   intro ht33
   refine T.seq ?_
   refine T.region ?_
   refine TL.val (OpV.move rfl) rfl ?_
   refine TL.val (OpV.assign rfl) rfl ?_
   refine TL.val (OpV.assign rfl) rfl ?_
   refine TL.nil ?_
   refine TE.next ?_
   refine T.ret ?_
   refine TE.out_ret ?_
   refine TE.pass_ret ?_
   refine TE.pass_ret ?_
   refine TE.out_ret ?_
   refine TE.pass_ret ?_
   refine TE.retN rfl (.cons (ResV.tmp rfl) <| .cons (ResV.tmp rfl) <| .nil) ?_
   exact fun w1 k1 => ⟨ret_ib (by grind [mkN, mkB]) (by grind [mkN, mkB]), k1.bel⟩
  ·
   intro ht33
   refine T.skip ?_
   refine TE.out ?_
   refine TE.next ?_
   refine T.region ?_
   refine TL.val (OpV.move rfl) rfl ?_
   refine TL.val (OpV.add rfl rfl (by first | exact IntWalk.i64_in _ ⟨by omega, by omega⟩ | rfl)) rfl ?_
   refine TL.val (OpV.assign rfl) rfl ?_
   refine TL.nil ?_
   refine TE.round ?_
   refine T.seq ?_
   refine T.seq ?_
   refine T.region ?_
   refine TL.val (OpV.move rfl) rfl ?_
   refine TL.val (OpV.lss rfl rfl) rfl ?_
   refine TL.nil ?_
   refine TE.next ?_
   refine T.yes rfl ?_
   refine T.skip ?_
   refine TE.next ?_
   refine T.seq ?_
   refine T.block ?_
   refine T.seq ?_
   refine T.region ?_
   refine TL.val (OpV.move rfl) rfl ?_
   refine TL.val (OpV.fieldAddr rfl fo_58_1) rfl ?_
   refine TL.val (OpV.indexAddrA (j := 1) ae_50 rfl rfl (by rfl) (by decide)) rfl ?_
   refine TL.val (OpV.load pl_21 rfl (by first | exact Cel.blk P0 rfl | exact Cel.blk P1 rfl | exact Cel.blk P2 rfl | exact Cel.blk P3 rfl)) rfl ?_
   refine TL.val (OpV.neq rfl rfl) rfl ?_
   refine TL.nil ?_
   refine TE.sub (.cons (t := 1) rfl <| .cons (t := 4) rfl <| .cons (t := 5) rfl <| .cons (t := 33) rfl <| .nil) ?_
   refine TE.next ?_
   refine T.cond rfl ?_ ?_
   ·
    intro ht33
    refine T.seq ?_
    refine T.region ?_
    refine TL.val (OpV.move rfl) rfl ?_
    refine TL.val (OpV.assign rfl) rfl ?_
    refine TL.val (OpV.assign rfl) rfl ?_
    refine TL.nil ?_
    refine TE.next ?_
    refine T.ret ?_
    refine TE.out_ret ?_
    refine TE.pass_ret ?_
    refine TE.pass_ret ?_
    refine TE.out_ret ?_
    refine TE.pass_ret ?_
    refine TE.retN rfl (.cons (ResV.tmp rfl) <| .cons (ResV.tmp rfl) <| .nil) ?_
    exact fun w1 k1 => ⟨ret_ib (by grind [mkN, mkB]) (by grind [mkN, mkB]), k1.bel⟩
   ·
    intro ht33
    refine T.skip ?_
    refine TE.out ?_
    refine TE.next ?_
    refine T.region ?_
    refine TL.val (OpV.move rfl) rfl ?_
    refine TL.val (OpV.add rfl rfl (by first | exact IntWalk.i64_in _ ⟨by omega, by omega⟩ | rfl)) rfl ?_
    refine TL.val (OpV.assign rfl) rfl ?_
    refine TL.nil ?_
    refine TE.round ?_
    refine T.seq ?_
    refine T.seq ?_
    refine T.region ?_
    refine TL.val (OpV.move rfl) rfl ?_
    refine TL.val (OpV.lss rfl rfl) rfl ?_
    refine TL.nil ?_
    refine TE.next ?_
    refine T.yes rfl ?_
    refine T.skip ?_
    refine TE.next ?_
    refine T.seq ?_
    refine T.block ?_
    refine T.seq ?_
    refine T.region ?_
    refine TL.val (OpV.move rfl) rfl ?_
    refine TL.val (OpV.fieldAddr rfl fo_58_1) rfl ?_
    refine TL.val (OpV.indexAddrA (j := 2) ae_50 rfl rfl (by rfl) (by decide)) rfl ?_
    refine TL.val (OpV.load pl_21 rfl (by first | exact Cel.blk P0 rfl | exact Cel.blk P1 rfl | exact Cel.blk P2 rfl | exact Cel.blk P3 rfl)) rfl ?_
    refine TL.val (OpV.neq rfl rfl) rfl ?_
    refine TL.nil ?_
    refine TE.sub (.cons (t := 1) rfl <| .cons (t := 4) rfl <| .cons (t := 5) rfl <| .cons (t := 33) rfl <| .nil) ?_
    refine TE.next ?_
    refine T.cond rfl ?_ ?_
    ·
     intro ht33
     refine T.seq ?_
     refine T.region ?_
     refine TL.val (OpV.move rfl) rfl ?_
     refine TL.val (OpV.assign rfl) rfl ?_
     refine TL.val (OpV.assign rfl) rfl ?_
     refine TL.nil ?_
     refine TE.next ?_
     refine T.ret ?_
     refine TE.out_ret ?_
     refine TE.pass_ret ?_
     refine TE.pass_ret ?_
     refine TE.out_ret ?_
     refine TE.pass_ret ?_
     refine TE.retN rfl (.cons (ResV.tmp rfl) <| .cons (ResV.tmp rfl) <| .nil) ?_
     exact fun w1 k1 => ⟨ret_ib (by grind [mkN, mkB]) (by grind [mkN, mkB]), k1.bel⟩
    ·
     intro ht33
     refine T.skip ?_
     refine TE.out ?_
     refine TE.next ?_
     refine T.region ?_
     refine TL.val (OpV.move rfl) rfl ?_
     refine TL.val (OpV.add rfl rfl (by first | exact IntWalk.i64_in _ ⟨by omega, by omega⟩ | rfl)) rfl ?_
     refine TL.val (OpV.assign rfl) rfl ?_
     refine TL.nil ?_
     refine TE.round ?_
     refine T.seq ?_
     refine T.seq ?_
     refine T.region ?_
     refine TL.val (OpV.move rfl) rfl ?_
     refine TL.val (OpV.lss rfl rfl) rfl ?_
     refine TL.nil ?_
     refine TE.next ?_
     refine T.no rfl ?_
     refine T.exit ?_
     refine TE.pass_exit ?_
     refine TE.pass_exit ?_
     refine TE.here ?_
     refine TE.next ?_
     refine T.seq ?_
     refine T.region ?_
     refine TL.val (OpV.move rfl) rfl ?_
     refine TL.val (OpV.assign rfl) rfl ?_
     refine TL.val (OpV.assign rfl) rfl ?_
     refine TL.nil ?_
     refine TE.sub (.cons (t := 2) rfl <| .cons (t := 3) rfl <| .nil) ?_
     refine TE.next ?_
     refine T.ret ?_
     refine TE.retN rfl (.cons (ResV.tmp rfl) <| .cons (ResV.tmp rfl) <| .nil) ?_
     exact fun w1 k1 => ⟨ret_ib (by grind [mkN, mkB]) (by grind [mkN, mkB]), k1.bel⟩
set_option maxRecDepth 100000 in
set_option maxHeartbeats 1000000 in
theorem rcvalid_c (c : Cl) (w : World) : Calls Tryd.prog 81 #[.agg c.l.toArray] w (Ret (.bool (vCl c)) w) := by
 refine calls_T (vs := [.agg c.l.toArray]) (L0 := [(0, .agg c.l.toArray)]) Tryd.func81 rfl rfl rfl rfl (KOk.none w) ?_
 refine T.seq ?_
 refine T.region ?_
 refine TL.boxA rfl rfl ?_
 intro b1
 refine TL.val (OpV.assign rfl) rfl ?_
 refine TL.nil ?_
 refine TE.next ?_
 refine T.seq ?_
 refine T.region ?_
 refine TL.val (OpV.loadA ag_58 rfl (by first | exact Cels.blk P0 rfl | exact Cels.blk P1 rfl | exact Cels.blk P2 rfl | exact Cels.blk P3 rfl)) rfl ?_
 refine TL.call (g := 92) rfl go_92 rfl (fun w1 _ => rmarks4_c c w1) rfl ?_
 refine TL.val (OpV.move rfl) rfl ?_
 refine TL.val (OpV.extract rfl rfl) rfl ?_
 refine TL.val (OpV.extract rfl rfl) rfl ?_
 refine TL.val (OpV.assign rfl) rfl ?_
 refine TL.val (OpV.assign rfl) rfl ?_
 refine TL.nil ?_
 refine TE.sub (.cons (t := 1) rfl <| .cons (t := 3) rfl <| .cons (t := 4) rfl <| .nil) ?_
 refine TE.next ?_
 refine T.seq ?_
 refine T.seq ?_
 refine T.region ?_
 refine TL.val (OpV.fieldAddr rfl fo_58_3) rfl ?_
 refine TL.val (OpV.loadA ag_56 rfl (Cels.blkAt c.pen.l (by first | exact P0 | exact P1 | exact P2 | exact P3) rfl rfl)) rfl ?_
 refine TL.call (g := 93) rfl go_93 rfl (fun w1 _ => rvalid_c c.pen w1) rfl ?_
 refine TL.val (OpV.not rfl) rfl ?_
 refine TL.val (OpV.move rfl) rfl ?_
 refine TL.part (t := 14) rfl ?_ ?_
 ·
  intro hg14
  refine TL.shut rfl rfl ?_
  refine TL.shut rfl rfl ?_
  refine TL.val ((by first | exact OpV.pick_t rfl rfl | exact OpV.pick_f rfl rfl)) rfl ?_
  refine TL.nil ?_
  refine TE.sub (.cons (t := 1) rfl <| .cons (t := 3) rfl <| .cons (t := 17) rfl <| .nil) ?_
  refine TE.next ?_
  refine T.yes rfl ?_
  refine T.seq ?_
  refine T.region ?_
  refine TL.val (OpV.assign rfl) rfl ?_
  refine TL.nil ?_
  refine TE.next ?_
  refine T.ret ?_
  refine TE.pass_ret ?_
  refine TE.ret1 rfl (ResV.tmp rfl) ?_
  exact fun w1 k1 => ⟨ret_bool (by rw [← rvCl_eq]; (first | contradiction | grind [rvCl])), k1.bel⟩
 ·
  intro hg14
  refine TL.open rfl rfl ?_
  refine TL.val (OpV.move rfl) rfl ?_
  refine TL.open rfl rfl ?_
  refine TL.val (OpV.not rfl) rfl ?_
  refine TL.val ((by first | exact OpV.pick_t rfl rfl | exact OpV.pick_f rfl rfl)) rfl ?_
  refine TL.nil ?_
  refine TE.sub (.cons (t := 1) rfl <| .cons (t := 3) rfl <| .cons (t := 17) rfl <| .nil) ?_
  refine TE.next ?_
  refine T.cond rfl ?_ ?_
  ·
   intro ht17
   refine T.seq ?_
   refine T.region ?_
   refine TL.val (OpV.assign rfl) rfl ?_
   refine TL.nil ?_
   refine TE.next ?_
   refine T.ret ?_
   refine TE.pass_ret ?_
   refine TE.ret1 rfl (ResV.tmp rfl) ?_
   exact fun w1 k1 => ⟨ret_bool (by rw [← rvCl_eq]; (first | contradiction | grind [rvCl])), k1.bel⟩
  ·
   intro ht17
   refine T.skip ?_
   refine TE.next ?_
   refine T.seq ?_
   refine T.seq ?_
   refine T.region ?_
   refine TL.val (OpV.fieldAddr rfl fo_58_2) rfl ?_
   refine TL.val (OpV.load pl_3 rfl (by first | exact Cel.blk P0 rfl | exact Cel.blk P1 rfl | exact Cel.blk P2 rfl | exact Cel.blk P3 rfl)) rfl ?_
   refine TL.nil ?_
   refine TE.next ?_
   refine T.block ?_
   refine T.seq ?_
   refine T.region ?_
   refine TL.val (OpV.eql rfl rfl) rfl ?_
   refine TL.val (OpV.assign rfl) rfl ?_
   refine TL.nil ?_
   refine TE.next ?_
   refine T.cond rfl ?_ ?_
   ·
    intro ht20
    refine T.seq ?_
    refine T.region ?_
    refine TL.val (OpV.fieldAddr rfl fo_58_0) rfl ?_
    refine TL.val (OpV.load pl_21 rfl (by first | exact Cel.blk P0 rfl | exact Cel.blk P1 rfl | exact Cel.blk P2 rfl | exact Cel.blk P3 rfl)) rfl ?_
    refine TL.val (OpV.eql rfl rfl) rfl ?_
    refine TL.val (OpV.move rfl) rfl ?_
    refine TL.part (t := 25) rfl ?_ ?_
    ·
     intro hg25
     refine TL.open rfl rfl ?_
     refine TL.val (OpV.move rfl) rfl ?_
     refine TL.open rfl rfl ?_
     refine TL.val (OpV.eql rfl rfl) rfl ?_
     refine TL.val ((by first | exact OpV.pick_t rfl rfl | exact OpV.pick_f rfl rfl)) rfl ?_
     refine TL.val (OpV.assign rfl) rfl ?_
     refine TL.nil ?_
     refine TE.sub (.cons (t := 2) rfl <| .nil) ?_
     refine TE.next ?_
     refine T.ret ?_
     refine TE.out_ret ?_
     refine TE.pass_ret ?_
     refine TE.ret1 rfl (ResV.tmp rfl) ?_
     exact fun w1 k1 => ⟨ret_bool (by rw [← rvCl_eq]; (first | contradiction | grind [rvCl])), k1.bel⟩
    ·
     intro hg25
     refine TL.shut rfl rfl ?_
     refine TL.shut rfl rfl ?_
     refine TL.val ((by first | exact OpV.pick_t rfl rfl | exact OpV.pick_f rfl rfl)) rfl ?_
     refine TL.val (OpV.assign rfl) rfl ?_
     refine TL.nil ?_
     refine TE.sub (.cons (t := 2) rfl <| .nil) ?_
     refine TE.next ?_
     refine T.ret ?_
     refine TE.out_ret ?_
     refine TE.pass_ret ?_
     refine TE.ret1 rfl (ResV.tmp rfl) ?_
     exact fun w1 k1 => ⟨ret_bool (by rw [← rvCl_eq]; (first | contradiction | grind [rvCl])), k1.bel⟩
   ·
    intro ht20
    refine T.seq ?_
    refine T.region ?_
    refine TL.val (OpV.eql rfl rfl) rfl ?_
    refine TL.val (OpV.assign rfl) rfl ?_
    refine TL.nil ?_
    refine TE.next ?_
    refine T.cond rfl ?_ ?_
    ·
     intro ht29
     refine T.seq ?_
     refine T.region ?_
     refine TL.val (OpV.fieldAddr rfl fo_58_0) rfl ?_
     refine TL.val (OpV.load pl_21 rfl (by first | exact Cel.blk P0 rfl | exact Cel.blk P1 rfl | exact Cel.blk P2 rfl | exact Cel.blk P3 rfl)) rfl ?_
     refine TL.val (OpV.eql rfl rfl) rfl ?_
     refine TL.val (OpV.move rfl) rfl ?_
     refine TL.part (t := 34) rfl ?_ ?_
     ·
      intro hg34
      refine TL.open rfl rfl ?_
      refine TL.val (OpV.move rfl) rfl ?_
      refine TL.open rfl rfl ?_
      refine TL.val (OpV.eql rfl rfl) rfl ?_
      refine TL.val ((by first | exact OpV.pick_t rfl rfl | exact OpV.pick_f rfl rfl)) rfl ?_
      refine TL.val (OpV.move rfl) rfl ?_
      refine TL.part (t := 38) rfl ?_ ?_
      ·
       intro hg38
       refine TL.shut rfl rfl ?_
       refine TL.shut rfl rfl ?_
       refine TL.shut rfl rfl ?_
       refine TL.shut rfl rfl ?_
       refine TL.shutU rfl rfl ?_
       refine TL.shutU rfl rfl ?_
       refine TL.shutU rfl rfl ?_
       refine TL.shutU rfl rfl ?_
       refine TL.shut rfl rfl ?_
       refine TL.val ((by first | exact OpV.pick_t rfl rfl | exact OpV.pick_f rfl rfl)) rfl ?_
       refine TL.val (OpV.assign rfl) rfl ?_
       refine TL.nil ?_
       refine TE.sub (.cons (t := 2) rfl <| .nil) ?_
       refine TE.next ?_
       refine T.ret ?_
       refine TE.out_ret ?_
       refine TE.pass_ret ?_
       refine TE.ret1 rfl (ResV.tmp rfl) ?_
       exact fun w1 k1 => ⟨ret_bool (by rw [← rvCl_eq]; (first | contradiction | grind [rvCl])), k1.bel⟩
      ·
       intro hg38
       refine TL.open rfl rfl ?_
       refine TL.val (OpV.fieldAddr rfl fo_58_0) rfl ?_
       refine TL.open rfl rfl ?_
       refine TL.val (OpV.load pl_21 rfl (by first | exact Cel.blk P0 rfl | exact Cel.blk P1 rfl | exact Cel.blk P2 rfl | exact Cel.blk P3 rfl)) rfl ?_
       refine TL.open rfl rfl ?_
       refine TL.val (OpV.neq rfl rfl) rfl ?_
       refine TL.open rfl rfl ?_
       refine TL.val (OpV.move rfl) rfl ?_
       refine TL.part (t := 42) rfl ?_ ?_
       ·
        intro hg42
        refine TL.open rfl rfl ?_
        refine TL.val (OpV.fieldAddr rfl fo_58_0) rfl ?_
        refine TL.open rfl rfl ?_
        refine TL.val (OpV.load pl_21 rfl (by first | exact Cel.blk P0 rfl | exact Cel.blk P1 rfl | exact Cel.blk P2 rfl | exact Cel.blk P3 rfl)) rfl ?_
        refine TL.open rfl rfl ?_
        refine TL.call (g := 94) rfl go_94 rfl (fun w1 _ => rof_c c.r w1) rfl ?_
        refine TL.open rfl rfl ?_
        refine TL.val (OpV.eql rfl rfl) rfl ?_
        refine TL.open rfl rfl ?_
        refine TL.val ((by first | exact OpV.pick_t rfl rfl | exact OpV.pick_f rfl rfl)) rfl ?_
        refine TL.val ((by first | exact OpV.pick_t rfl rfl | exact OpV.pick_f rfl rfl)) rfl ?_
        refine TL.val (OpV.assign rfl) rfl ?_
        refine TL.nil ?_
        refine TE.sub (.cons (t := 2) rfl <| .nil) ?_
        refine TE.next ?_
        refine T.ret ?_
        refine TE.out_ret ?_
        refine TE.pass_ret ?_
        refine TE.ret1 rfl (ResV.tmp rfl) ?_
        exact fun w1 k1 => ⟨ret_bool (by rw [← rvCl_eq]; (first | contradiction | grind [rvCl])), k1.bel⟩
       ·
        intro hg42
        refine TL.shut rfl rfl ?_
        refine TL.shut rfl rfl ?_
        refine TL.shut rfl rfl ?_
        refine TL.shut rfl rfl ?_
        refine TL.open rfl rfl ?_
        refine TL.val ((by first | exact OpV.pick_t rfl rfl | exact OpV.pick_f rfl rfl)) rfl ?_
        refine TL.val ((by first | exact OpV.pick_t rfl rfl | exact OpV.pick_f rfl rfl)) rfl ?_
        refine TL.val (OpV.assign rfl) rfl ?_
        refine TL.nil ?_
        refine TE.sub (.cons (t := 2) rfl <| .nil) ?_
        refine TE.next ?_
        refine T.ret ?_
        refine TE.out_ret ?_
        refine TE.pass_ret ?_
        refine TE.ret1 rfl (ResV.tmp rfl) ?_
        exact fun w1 k1 => ⟨ret_bool (by rw [← rvCl_eq]; (first | contradiction | grind [rvCl])), k1.bel⟩
     ·
      intro hg34
      refine TL.shut rfl rfl ?_
      refine TL.shut rfl rfl ?_
      refine TL.val ((by first | exact OpV.pick_t rfl rfl | exact OpV.pick_f rfl rfl)) rfl ?_
      refine TL.val (OpV.move rfl) rfl ?_
      refine TL.open rfl rfl ?_
      refine TL.val (OpV.fieldAddr rfl fo_58_0) rfl ?_
      refine TL.open rfl rfl ?_
      refine TL.val (OpV.load pl_21 rfl (by first | exact Cel.blk P0 rfl | exact Cel.blk P1 rfl | exact Cel.blk P2 rfl | exact Cel.blk P3 rfl)) rfl ?_
      refine TL.open rfl rfl ?_
      refine TL.val (OpV.neq rfl rfl) rfl ?_
      refine TL.open rfl rfl ?_
      refine TL.val (OpV.move rfl) rfl ?_
      refine TL.part (t := 42) rfl ?_ ?_
      ·
       intro hg42
       refine TL.open rfl rfl ?_
       refine TL.val (OpV.fieldAddr rfl fo_58_0) rfl ?_
       refine TL.open rfl rfl ?_
       refine TL.val (OpV.load pl_21 rfl (by first | exact Cel.blk P0 rfl | exact Cel.blk P1 rfl | exact Cel.blk P2 rfl | exact Cel.blk P3 rfl)) rfl ?_
       refine TL.open rfl rfl ?_
       refine TL.call (g := 94) rfl go_94 rfl (fun w1 _ => rof_c c.r w1) rfl ?_
       refine TL.open rfl rfl ?_
       refine TL.val (OpV.eql rfl rfl) rfl ?_
       refine TL.open rfl rfl ?_
       refine TL.val ((by first | exact OpV.pick_t rfl rfl | exact OpV.pick_f rfl rfl)) rfl ?_
       refine TL.val ((by first | exact OpV.pick_t rfl rfl | exact OpV.pick_f rfl rfl)) rfl ?_
       refine TL.val (OpV.assign rfl) rfl ?_
       refine TL.nil ?_
       refine TE.sub (.cons (t := 2) rfl <| .nil) ?_
       refine TE.next ?_
       refine T.ret ?_
       refine TE.out_ret ?_
       refine TE.pass_ret ?_
       refine TE.ret1 rfl (ResV.tmp rfl) ?_
       exact fun w1 k1 => ⟨ret_bool (by rw [← rvCl_eq]; (first | contradiction | grind [rvCl])), k1.bel⟩
      ·
       intro hg42
       refine TL.shut rfl rfl ?_
       refine TL.shut rfl rfl ?_
       refine TL.shut rfl rfl ?_
       refine TL.shut rfl rfl ?_
       refine TL.open rfl rfl ?_
       refine TL.val ((by first | exact OpV.pick_t rfl rfl | exact OpV.pick_f rfl rfl)) rfl ?_
       refine TL.val ((by first | exact OpV.pick_t rfl rfl | exact OpV.pick_f rfl rfl)) rfl ?_
       refine TL.val (OpV.assign rfl) rfl ?_
       refine TL.nil ?_
       refine TE.sub (.cons (t := 2) rfl <| .nil) ?_
       refine TE.next ?_
       refine T.ret ?_
       refine TE.out_ret ?_
       refine TE.pass_ret ?_
       refine TE.ret1 rfl (ResV.tmp rfl) ?_
       exact fun w1 k1 => ⟨ret_bool (by rw [← rvCl_eq]; (first | contradiction | grind [rvCl])), k1.bel⟩
    ·
     intro ht29
     refine T.seq ?_
     refine T.region ?_
     refine TL.val (OpV.eql rfl rfl) rfl ?_
     refine TL.val (OpV.assign rfl) rfl ?_
     refine TL.nil ?_
     refine TE.sub (.cons (t := 1) rfl <| .cons (t := 49) rfl <| .nil) ?_
     refine TE.next ?_
     refine T.cond rfl ?_ ?_
     ·
      intro ht49
      refine T.seq ?_
      refine T.region ?_
      refine TL.val (OpV.fieldAddr rfl fo_58_0) rfl ?_
      refine TL.val (OpV.load pl_21 rfl (by first | exact Cel.blk P0 rfl | exact Cel.blk P1 rfl | exact Cel.blk P2 rfl | exact Cel.blk P3 rfl)) rfl ?_
      refine TL.call (g := 94) rfl go_94 rfl (fun w1 _ => rof_c c.r w1) rfl ?_
      refine TL.val (OpV.eql rfl rfl) rfl ?_
      refine TL.val (OpV.assign rfl) rfl ?_
      refine TL.nil ?_
      refine TE.next ?_
      refine T.ret ?_
      refine TE.out_ret ?_
      refine TE.pass_ret ?_
      refine TE.ret1 rfl (ResV.tmp rfl) ?_
      exact fun w1 k1 => ⟨ret_bool (by rw [← rvCl_eq]; (first | contradiction | grind [rvCl])), k1.bel⟩
     ·
      intro ht49
      refine T.skip ?_
      refine TE.out ?_
      refine TE.next ?_
      refine T.seq ?_
      refine T.region ?_
      refine TL.val (OpV.assign rfl) rfl ?_
      refine TL.nil ?_
      refine TE.next ?_
      refine T.ret ?_
      refine TE.ret1 rfl (ResV.tmp rfl) ?_
      exact fun w1 k1 => ⟨ret_bool (by rw [← rvCl_eq]; (first | contradiction | grind [rvCl])), k1.bel⟩
end Go.Proofs.YtdmpodpdpncobaaDoor
