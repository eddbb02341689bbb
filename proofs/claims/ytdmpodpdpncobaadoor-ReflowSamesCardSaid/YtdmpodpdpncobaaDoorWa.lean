/-
  The walks of the colors and the pens. No condition.
-/
import Derived.Test.YtdmpodpdpncobaaDoorBase
import Derived.Test.YtdmpodpdpncobaaDoorEng4
import Derived.Test.YtdmpodpdpncobaaDoorDat
import Derived.Test.YtdmpodpdpncobaaDoorFac
namespace Go.Proofs.YtdmpodpdpncobaaDoor
open Go.RowKit
set_option linter.unusedSimpArgs false
set_option linter.unusedVariables false

theorem eq_53 (k i r g b k' i' r' g' b' : Int) (w : World) : (Op.equal 53 (.agg (colL k i r g b).toArray) (.agg (colL k' i' r' g' b').toArray)).run Tryd.prog w = .ok (k == k' && (i == i' && (r == r' && (g == g' && b == b')))) w := by
  show (Op.equalIn (9998 + 2) _ _ _).run _ _ = _
  cases h1 : k == k' <;> cases h2 : i == i' <;> cases h3 : r == r' <;> cases h4 : g == g' <;> cases h5 : b == b' <;> simp [go_sem, part, colL, h1, h2, h3, h4, h5]
theorem bld_53 (w : World) : (Instr.build 53 #[]).run Tryd.prog w = .ok (.agg (colL 0 0 0 0 0).toArray) w := by kernel_rfl
theorem bld_53_0_1 (k i : Int) (w : World) : (Instr.build 53 #[(0, .int .i64 k), (1, .int .u8 i)]).run Tryd.prog w = .ok (.agg (colL k i 0 0 0).toArray) w := by kernel_rfl
theorem bld_53_0_2_3_4 (k r g b : Int) (w : World) : (Instr.build 53 #[(0, .int .i64 k), (2, .int .u8 r), (3, .int .u8 g), (4, .int .u8 b)]).run Tryd.prog w = .ok (.agg (colL k 0 r g b).toArray) w := by kernel_rfl
set_option maxRecDepth 100000 in
set_option maxHeartbeats 400000 in
theorem pindex_c (n : Int) (w : World) : Calls Tryd.prog 105 #[.int .u8 n] w (Ret (.agg (colL 1 n 0 0 0).toArray) w) := by
 refine calls_T (vs := [.int .u8 n]) (L0 := [(0, .int .u8 n)]) Tryd.func105 rfl rfl rfl rfl (KOk.none w) ?_
 refine T.seq ?_
 refine T.region ?_
 refine TL.alloc zo_53 rfl ?_
 intro b2
 refine TL.nil ?_
 refine TE.next ?_
 refine T.seq ?_
 refine T.region ?_
 refine TL.val (OpV.move rfl) rfl ?_
 refine TL.val (OpV.build (qs := #[(0, _), (1, _)]) (fun _ f => by simp only [List.map_toArray, List.map_cons, List.map_nil]; rw [f.ev (x := .const (.int .i64 1)) rfl, f.ev (x := .tmp 3) rfl]) (bld_53_0_1 _ _ )) rfl ?_
 first
   | refine TL.storeAll rfl rfl szz_53 rfl rfl rfl (by first | exact P0 | exact P1 | exact P2 | exact P3) (by rfl) ?_
   | refine TL.store rfl rfl szz_53 rfl rfl rfl (by first | exact P0 | exact P1 | exact P2 | exact P3) (by first | exact Nat.le_of_ble_eq_true rfl | (simp; done) | (simp; omega)) (by simp only [putL, List.take_succ_cons, List.take_zero, List.drop_succ_cons, List.drop_zero, List.cons_append, List.nil_append, List.length_cons, List.length_nil, Nat.reduceAdd]; rfl) ?_
 refine TL.nil ?_
 refine TE.next ?_
 refine T.ret ?_
 refine TE.ret1 rfl (ResV.cellA rfl ag_53 (by first | exact Cels.blk P0 rfl | exact Cels.blk P1 rfl | exact Cels.blk P2 rfl | exact Cels.blk P3 rfl)) ?_
 exact fun w1 k1 => ⟨rfl, k1.bel⟩
set_option maxRecDepth 100000 in
set_option maxHeartbeats 400000 in
theorem ptrue_c (r g b : Int) (w : World) : Calls Tryd.prog 106 #[.int .u8 r, .int .u8 g, .int .u8 b] w (Ret (.agg (colL 2 0 r g b).toArray) w) := by
 refine calls_T (vs := [.int .u8 r, .int .u8 g, .int .u8 b]) (L0 := [(0, .int .u8 r), (1, .int .u8 g), (2, .int .u8 b)]) Tryd.func106 rfl rfl rfl rfl (KOk.none w) ?_
 refine T.seq ?_
 refine T.region ?_
 refine TL.alloc zo_53 rfl ?_
 intro b6
 refine TL.nil ?_
 refine TE.next ?_
 refine T.seq ?_
 refine T.region ?_
 refine TL.val (OpV.move rfl) rfl ?_
 refine TL.val (OpV.move rfl) rfl ?_
 refine TL.val (OpV.move rfl) rfl ?_
 refine TL.val (OpV.build (qs := #[(0, _), (2, _), (3, _), (4, _)]) (fun _ f => by simp only [List.map_toArray, List.map_cons, List.map_nil]; rw [f.ev (x := .const (.int .i64 2)) rfl, f.ev (x := .tmp 7) rfl, f.ev (x := .tmp 8) rfl, f.ev (x := .tmp 9) rfl]) (bld_53_0_2_3_4 _ _ _ _ )) rfl ?_
 first
   | refine TL.storeAll rfl rfl szz_53 rfl rfl rfl (by first | exact P0 | exact P1 | exact P2 | exact P3) (by rfl) ?_
   | refine TL.store rfl rfl szz_53 rfl rfl rfl (by first | exact P0 | exact P1 | exact P2 | exact P3) (by first | exact Nat.le_of_ble_eq_true rfl | (simp; done) | (simp; omega)) (by simp only [putL, List.take_succ_cons, List.take_zero, List.drop_succ_cons, List.drop_zero, List.cons_append, List.nil_append, List.length_cons, List.length_nil, Nat.reduceAdd]; rfl) ?_
 refine TL.nil ?_
 refine TE.sub (.cons (t := 6) rfl <| .nil) ?_
 refine TE.next ?_
 refine T.ret ?_
 refine TE.ret1 rfl (ResV.cellA rfl ag_53 (by first | exact Cels.blk P0 rfl | exact Cels.blk P1 rfl | exact Cels.blk P2 rfl | exact Cels.blk P3 rfl)) ?_
 exact fun w1 k1 => ⟨rfl, k1.bel⟩
set_option maxRecDepth 100000 in
set_option maxHeartbeats 400000 in
theorem validColor_c (k i r g b : Int) (w : World) : Calls Tryd.prog 103 #[.agg (colL k i r g b).toArray] w (Ret (.bool (vC k i r g b)) w) := by
 refine calls_T (vs := [.agg (colL k i r g b).toArray]) (L0 := [(0, .agg (colL k i r g b).toArray)]) Tryd.func103 rfl rfl rfl rfl (KOk.none w) ?_
 refine T.seq ?_
 refine T.region ?_
 refine TL.boxA rfl rfl ?_
 intro b1
 refine TL.val (OpV.assign rfl) rfl ?_
 refine TL.nil ?_
 refine TE.next ?_
 refine T.seq ?_
 refine T.seq ?_
 refine T.region ?_
 refine TL.val (OpV.fieldAddr rfl fo_53_0) rfl ?_
 refine TL.val (OpV.load pl_51 rfl (by first | exact Cel.blk P0 rfl | exact Cel.blk P1 rfl | exact Cel.blk P2 rfl | exact Cel.blk P3 rfl)) rfl ?_
 refine TL.nil ?_
 refine TE.next ?_
 refine T.block ?_
 refine T.seq ?_
 refine T.region ?_
 refine TL.val (OpV.eql rfl rfl) rfl ?_
 refine TL.val (OpV.assign rfl) rfl ?_
 refine TL.nil ?_
 refine TE.next ?_
 refine T.cond rfl ?_ ?_
 ·
  intro ht5
  refine T.seq ?_
  refine T.region ?_
  refine TL.val (OpV.loadA ag_53 rfl (by first | exact Cels.blk P0 rfl | exact Cels.blk P1 rfl | exact Cels.blk P2 rfl | exact Cels.blk P3 rfl)) rfl ?_
  refine TL.val (OpV.build (qs := #[]) (fun _ _ => by simp) (bld_53)) rfl ?_
  refine TL.val (OpV.aeql rfl rfl eg_53 (eq_53 _ _ _ _ _ _ _ _ _ _)) rfl ?_
  refine TL.val (OpV.assign rfl) rfl ?_
  refine TL.nil ?_
  refine TE.sub (.cons (t := 2) rfl <| .nil) ?_
  refine TE.next ?_
  refine T.ret ?_
  refine TE.out_ret ?_
  refine TE.pass_ret ?_
  refine TE.ret1 rfl (ResV.tmp rfl) ?_
  exact fun w1 k1 => ⟨ret_bool (by simp_all [vC] <;> grind), k1.bel⟩
 ·
  intro ht5
  refine T.seq ?_
  refine T.region ?_
  refine TL.val (OpV.eql rfl rfl) rfl ?_
  refine TL.val (OpV.assign rfl) rfl ?_
  refine TL.nil ?_
  refine TE.next ?_
  refine T.cond rfl ?_ ?_
  ·
   intro ht10
   refine T.seq ?_
   refine T.quiet mix (by kernel_rfl) ?_
   refine TQ.val (OpV.loadA ag_53 rfl (by first | exact Cels.blk P0 rfl | exact Cels.blk P1 rfl | exact Cels.blk P2 rfl | exact Cels.blk P3 rfl)) rfl ?_
   refine TQ.val (OpV.fieldAddr rfl fo_53_1) rfl ?_
   refine TQ.val (OpV.load pl_5 rfl (by first | exact Cel.blk P0 rfl | exact Cel.blk P1 rfl | exact Cel.blk P2 rfl | exact Cel.blk P3 rfl)) rfl ?_
   refine TQ.call (g := 105) rfl go_105 rfl (fun w _ => pindex_c i w) rfl ?_
   refine TQ.val (OpV.aeql rfl rfl eg_53 (eq_53 _ _ _ _ _ _ _ _ _ _)) rfl ?_
   refine TQ.val (OpV.assign rfl) rfl ?_
   refine TQ.nil ?_
   refine TE.sub (.cons (t := 2) rfl <| .nil) ?_
   refine TE.next ?_
   refine T.ret ?_
   refine TE.out_ret ?_
   refine TE.pass_ret ?_
   refine TE.ret1 rfl (ResV.tmp rfl) ?_
   exact fun w1 k1 => ⟨ret_bool (by simp_all [vC] <;> grind), k1.bel⟩
  ·
   intro ht10
   refine T.seq ?_
   refine T.region ?_
   refine TL.val (OpV.eql rfl rfl) rfl ?_
   refine TL.val (OpV.assign rfl) rfl ?_
   refine TL.nil ?_
   refine TE.sub (.cons (t := 1) rfl <| .cons (t := 17) rfl <| .nil) ?_
   refine TE.next ?_
   refine T.cond rfl ?_ ?_
   ·
    intro ht17
    refine T.seq ?_
    refine T.quiet mix (by kernel_rfl) ?_
    refine TQ.val (OpV.loadA ag_53 rfl (by first | exact Cels.blk P0 rfl | exact Cels.blk P1 rfl | exact Cels.blk P2 rfl | exact Cels.blk P3 rfl)) rfl ?_
    refine TQ.val (OpV.fieldAddr rfl fo_53_2) rfl ?_
    refine TQ.val (OpV.load pl_5 rfl (by first | exact Cel.blk P0 rfl | exact Cel.blk P1 rfl | exact Cel.blk P2 rfl | exact Cel.blk P3 rfl)) rfl ?_
    refine TQ.val (OpV.fieldAddr rfl fo_53_3) rfl ?_
    refine TQ.val (OpV.load pl_5 rfl (by first | exact Cel.blk P0 rfl | exact Cel.blk P1 rfl | exact Cel.blk P2 rfl | exact Cel.blk P3 rfl)) rfl ?_
    refine TQ.val (OpV.fieldAddr rfl fo_53_4) rfl ?_
    refine TQ.val (OpV.load pl_5 rfl (by first | exact Cel.blk P0 rfl | exact Cel.blk P1 rfl | exact Cel.blk P2 rfl | exact Cel.blk P3 rfl)) rfl ?_
    refine TQ.call (g := 106) rfl go_106 rfl (fun w _ => ptrue_c r g b w) rfl ?_
    refine TQ.val (OpV.aeql rfl rfl eg_53 (eq_53 _ _ _ _ _ _ _ _ _ _)) rfl ?_
    refine TQ.val (OpV.assign rfl) rfl ?_
    refine TQ.nil ?_
    refine TE.sub (.cons (t := 2) rfl <| .nil) ?_
    refine TE.next ?_
    refine T.ret ?_
    refine TE.out_ret ?_
    refine TE.pass_ret ?_
    refine TE.ret1 rfl (ResV.tmp rfl) ?_
    exact fun w1 k1 => ⟨ret_bool (by simp_all [vC] <;> grind), k1.bel⟩
   ·
    intro ht17
    refine T.skip ?_
    refine TE.out ?_
    refine TE.next ?_
    refine T.seq ?_
    refine T.region ?_
    refine TL.val (OpV.assign rfl) rfl ?_
    refine TL.nil ?_
    refine TE.next ?_
    refine T.ret ?_
    refine TE.ret1 rfl (ResV.tmp rfl) ?_
    exact fun w1 k1 => ⟨ret_bool (by simp_all [vC] <;> grind), k1.bel⟩
set_option maxRecDepth 100000 in
set_option maxHeartbeats 400000 in
theorem rcolor_c (k i r g b : Int) (w : World) : Calls Tryd.prog 96 #[.agg (colL k i r g b).toArray] w (Ret (.bool (vC k i r g b)) w) := by
 refine calls_T (vs := [.agg (colL k i r g b).toArray]) (L0 := [(0, .agg (colL k i r g b).toArray)]) Tryd.func96 rfl rfl rfl rfl (KOk.none w) ?_
 refine T.seq ?_
 refine T.region ?_
 refine TL.boxA rfl rfl ?_
 intro b1
 refine TL.val (OpV.assign rfl) rfl ?_
 refine TL.nil ?_
 refine TE.next ?_
 refine T.seq ?_
 refine T.region ?_
 refine TL.val (OpV.fieldAddr rfl fo_53_2) rfl ?_
 refine TL.val (OpV.load pl_5 rfl (by first | exact Cel.blk P0 rfl | exact Cel.blk P1 rfl | exact Cel.blk P2 rfl | exact Cel.blk P3 rfl)) rfl ?_
 refine TL.val (OpV.neq rfl rfl) rfl ?_
 refine TL.val (OpV.move rfl) rfl ?_
 refine TL.part (t := 7) rfl ?_ ?_
 ·
  intro hg7
  refine TL.shut rfl rfl ?_
  refine TL.shut rfl rfl ?_
  refine TL.shut rfl rfl ?_
  refine TL.val ((by first | exact OpV.pick_t rfl rfl | exact OpV.pick_f rfl rfl)) rfl ?_
  refine TL.val (OpV.move rfl) rfl ?_
  refine TL.shut rfl rfl ?_
  refine TL.shut rfl rfl ?_
  refine TL.shut rfl rfl ?_
  refine TL.val ((by first | exact OpV.pick_t rfl rfl | exact OpV.pick_f rfl rfl)) rfl ?_
  refine TL.val (OpV.assign rfl) rfl ?_
  refine TL.nil ?_
  refine TE.sub (.cons (t := 1) rfl <| .cons (t := 3) rfl <| .nil) ?_
  refine TE.next ?_
  refine T.seq ?_
  refine T.seq ?_
  refine T.region ?_
  refine TL.val (OpV.fieldAddr rfl fo_53_0) rfl ?_
  refine TL.val (OpV.load pl_51 rfl (by first | exact Cel.blk P0 rfl | exact Cel.blk P1 rfl | exact Cel.blk P2 rfl | exact Cel.blk P3 rfl)) rfl ?_
  refine TL.nil ?_
  refine TE.next ?_
  refine T.block ?_
  refine T.seq ?_
  refine T.region ?_
  refine TL.val (OpV.eql rfl rfl) rfl ?_
  refine TL.val (OpV.assign rfl) rfl ?_
  refine TL.nil ?_
  refine TE.next ?_
  refine T.cond rfl ?_ ?_
  ·
   intro ht19
   refine T.seq ?_
   refine T.region ?_
   refine TL.val (OpV.move rfl) rfl ?_
   refine TL.val (OpV.not rfl) rfl ?_
   refine TL.val (OpV.move rfl) rfl ?_
   refine TL.shut rfl rfl ?_
   refine TL.shut rfl rfl ?_
   refine TL.shut rfl rfl ?_
   refine TL.val ((by first | exact OpV.pick_t rfl rfl | exact OpV.pick_f rfl rfl)) rfl ?_
   refine TL.val (OpV.assign rfl) rfl ?_
   refine TL.nil ?_
   refine TE.sub (.cons (t := 2) rfl <| .nil) ?_
   refine TE.next ?_
   refine T.ret ?_
   refine TE.out_ret ?_
   refine TE.pass_ret ?_
   refine TE.ret1 rfl (ResV.tmp rfl) ?_
   exact fun w1 k1 => ⟨ret_bool (by simp_all [vC] <;> grind), k1.bel⟩
  ·
   intro ht19
   refine T.seq ?_
   refine T.region ?_
   refine TL.val (OpV.eql rfl rfl) rfl ?_
   refine TL.val (OpV.assign rfl) rfl ?_
   refine TL.nil ?_
   refine TE.next ?_
   refine T.cond rfl ?_ ?_
   ·
    intro ht28
    refine T.seq ?_
    refine T.region ?_
    refine TL.val (OpV.move rfl) rfl ?_
    refine TL.val (OpV.not rfl) rfl ?_
    refine TL.val (OpV.assign rfl) rfl ?_
    refine TL.nil ?_
    refine TE.sub (.cons (t := 2) rfl <| .nil) ?_
    refine TE.next ?_
    refine T.ret ?_
    refine TE.out_ret ?_
    refine TE.pass_ret ?_
    refine TE.ret1 rfl (ResV.tmp rfl) ?_
    exact fun w1 k1 => ⟨ret_bool (by simp_all [vC] <;> grind), k1.bel⟩
   ·
    intro ht28
    refine T.seq ?_
    refine T.region ?_
    refine TL.val (OpV.eql rfl rfl) rfl ?_
    refine TL.val (OpV.assign rfl) rfl ?_
    refine TL.nil ?_
    refine TE.sub (.cons (t := 1) rfl <| .cons (t := 32) rfl <| .nil) ?_
    refine TE.next ?_
    refine T.cond rfl ?_ ?_
    ·
     intro ht32
     refine T.seq ?_
     refine T.region ?_
     refine TL.val (OpV.fieldAddr rfl fo_53_1) rfl ?_
     refine TL.val (OpV.load pl_5 rfl (by first | exact Cel.blk P0 rfl | exact Cel.blk P1 rfl | exact Cel.blk P2 rfl | exact Cel.blk P3 rfl)) rfl ?_
     refine TL.val (OpV.eql rfl rfl) rfl ?_
     refine TL.val (OpV.assign rfl) rfl ?_
     refine TL.nil ?_
     refine TE.next ?_
     refine T.ret ?_
     refine TE.out_ret ?_
     refine TE.pass_ret ?_
     refine TE.ret1 rfl (ResV.tmp rfl) ?_
     exact fun w1 k1 => ⟨ret_bool (by simp_all [vC] <;> grind), k1.bel⟩
    ·
     intro ht32
     refine T.skip ?_
     refine TE.out ?_
     refine TE.next ?_
     refine T.seq ?_
     refine T.region ?_
     refine TL.val (OpV.assign rfl) rfl ?_
     refine TL.nil ?_
     refine TE.next ?_
     refine T.ret ?_
     refine TE.ret1 rfl (ResV.tmp rfl) ?_
     exact fun w1 k1 => ⟨ret_bool (by simp_all [vC] <;> grind), k1.bel⟩
 ·
  intro hg7
  refine TL.open rfl rfl ?_
  refine TL.val (OpV.fieldAddr rfl fo_53_3) rfl ?_
  refine TL.open rfl rfl ?_
  refine TL.val (OpV.load pl_5 rfl (by first | exact Cel.blk P0 rfl | exact Cel.blk P1 rfl | exact Cel.blk P2 rfl | exact Cel.blk P3 rfl)) rfl ?_
  refine TL.open rfl rfl ?_
  refine TL.val (OpV.neq rfl rfl) rfl ?_
  refine TL.val ((by first | exact OpV.pick_t rfl rfl | exact OpV.pick_f rfl rfl)) rfl ?_
  refine TL.val (OpV.move rfl) rfl ?_
  refine TL.part (t := 12) rfl ?_ ?_
  ·
   intro hg12
   refine TL.shut rfl rfl ?_
   refine TL.shut rfl rfl ?_
   refine TL.shut rfl rfl ?_
   refine TL.val ((by first | exact OpV.pick_t rfl rfl | exact OpV.pick_f rfl rfl)) rfl ?_
   refine TL.val (OpV.assign rfl) rfl ?_
   refine TL.nil ?_
   refine TE.sub (.cons (t := 1) rfl <| .cons (t := 3) rfl <| .nil) ?_
   refine TE.next ?_
   refine T.seq ?_
   refine T.seq ?_
   refine T.region ?_
   refine TL.val (OpV.fieldAddr rfl fo_53_0) rfl ?_
   refine TL.val (OpV.load pl_51 rfl (by first | exact Cel.blk P0 rfl | exact Cel.blk P1 rfl | exact Cel.blk P2 rfl | exact Cel.blk P3 rfl)) rfl ?_
   refine TL.nil ?_
   refine TE.next ?_
   refine T.block ?_
   refine T.seq ?_
   refine T.region ?_
   refine TL.val (OpV.eql rfl rfl) rfl ?_
   refine TL.val (OpV.assign rfl) rfl ?_
   refine TL.nil ?_
   refine TE.next ?_
   refine T.cond rfl ?_ ?_
   ·
    intro ht19
    refine T.seq ?_
    refine T.region ?_
    refine TL.val (OpV.move rfl) rfl ?_
    refine TL.val (OpV.not rfl) rfl ?_
    refine TL.val (OpV.move rfl) rfl ?_
    refine TL.shut rfl rfl ?_
    refine TL.shut rfl rfl ?_
    refine TL.shut rfl rfl ?_
    refine TL.val ((by first | exact OpV.pick_t rfl rfl | exact OpV.pick_f rfl rfl)) rfl ?_
    refine TL.val (OpV.assign rfl) rfl ?_
    refine TL.nil ?_
    refine TE.sub (.cons (t := 2) rfl <| .nil) ?_
    refine TE.next ?_
    refine T.ret ?_
    refine TE.out_ret ?_
    refine TE.pass_ret ?_
    refine TE.ret1 rfl (ResV.tmp rfl) ?_
    exact fun w1 k1 => ⟨ret_bool (by simp_all [vC] <;> grind), k1.bel⟩
   ·
    intro ht19
    refine T.seq ?_
    refine T.region ?_
    refine TL.val (OpV.eql rfl rfl) rfl ?_
    refine TL.val (OpV.assign rfl) rfl ?_
    refine TL.nil ?_
    refine TE.next ?_
    refine T.cond rfl ?_ ?_
    ·
     intro ht28
     refine T.seq ?_
     refine T.region ?_
     refine TL.val (OpV.move rfl) rfl ?_
     refine TL.val (OpV.not rfl) rfl ?_
     refine TL.val (OpV.assign rfl) rfl ?_
     refine TL.nil ?_
     refine TE.sub (.cons (t := 2) rfl <| .nil) ?_
     refine TE.next ?_
     refine T.ret ?_
     refine TE.out_ret ?_
     refine TE.pass_ret ?_
     refine TE.ret1 rfl (ResV.tmp rfl) ?_
     exact fun w1 k1 => ⟨ret_bool (by simp_all [vC] <;> grind), k1.bel⟩
    ·
     intro ht28
     refine T.seq ?_
     refine T.region ?_
     refine TL.val (OpV.eql rfl rfl) rfl ?_
     refine TL.val (OpV.assign rfl) rfl ?_
     refine TL.nil ?_
     refine TE.sub (.cons (t := 1) rfl <| .cons (t := 32) rfl <| .nil) ?_
     refine TE.next ?_
     refine T.cond rfl ?_ ?_
     ·
      intro ht32
      refine T.seq ?_
      refine T.region ?_
      refine TL.val (OpV.fieldAddr rfl fo_53_1) rfl ?_
      refine TL.val (OpV.load pl_5 rfl (by first | exact Cel.blk P0 rfl | exact Cel.blk P1 rfl | exact Cel.blk P2 rfl | exact Cel.blk P3 rfl)) rfl ?_
      refine TL.val (OpV.eql rfl rfl) rfl ?_
      refine TL.val (OpV.assign rfl) rfl ?_
      refine TL.nil ?_
      refine TE.next ?_
      refine T.ret ?_
      refine TE.out_ret ?_
      refine TE.pass_ret ?_
      refine TE.ret1 rfl (ResV.tmp rfl) ?_
      exact fun w1 k1 => ⟨ret_bool (by simp_all [vC] <;> grind), k1.bel⟩
     ·
      intro ht32
      refine T.skip ?_
      refine TE.out ?_
      refine TE.next ?_
      refine T.seq ?_
      refine T.region ?_
      refine TL.val (OpV.assign rfl) rfl ?_
      refine TL.nil ?_
      refine TE.next ?_
      refine T.ret ?_
      refine TE.ret1 rfl (ResV.tmp rfl) ?_
      exact fun w1 k1 => ⟨ret_bool (by simp_all [vC] <;> grind), k1.bel⟩
  ·
   intro hg12
   refine TL.open rfl rfl ?_
   refine TL.val (OpV.fieldAddr rfl fo_53_4) rfl ?_
   refine TL.open rfl rfl ?_
   refine TL.val (OpV.load pl_5 rfl (by first | exact Cel.blk P0 rfl | exact Cel.blk P1 rfl | exact Cel.blk P2 rfl | exact Cel.blk P3 rfl)) rfl ?_
   refine TL.open rfl rfl ?_
   refine TL.val (OpV.neq rfl rfl) rfl ?_
   refine TL.val ((by first | exact OpV.pick_t rfl rfl | exact OpV.pick_f rfl rfl)) rfl ?_
   refine TL.val (OpV.assign rfl) rfl ?_
   refine TL.nil ?_
   refine TE.sub (.cons (t := 1) rfl <| .cons (t := 3) rfl <| .nil) ?_
   refine TE.next ?_
   refine T.seq ?_
   refine T.seq ?_
   refine T.region ?_
   refine TL.val (OpV.fieldAddr rfl fo_53_0) rfl ?_
   refine TL.val (OpV.load pl_51 rfl (by first | exact Cel.blk P0 rfl | exact Cel.blk P1 rfl | exact Cel.blk P2 rfl | exact Cel.blk P3 rfl)) rfl ?_
   refine TL.nil ?_
   refine TE.next ?_
   refine T.block ?_
   refine T.seq ?_
   refine T.region ?_
   refine TL.val (OpV.eql rfl rfl) rfl ?_
   refine TL.val (OpV.assign rfl) rfl ?_
   refine TL.nil ?_
   refine TE.next ?_
   refine T.cond rfl ?_ ?_
   ·
    intro ht19
    refine T.seq ?_
    refine T.region ?_
    refine TL.val (OpV.move rfl) rfl ?_
    refine TL.val (OpV.not rfl) rfl ?_
    refine TL.val (OpV.move rfl) rfl ?_
    refine TL.part (t := 23) rfl ?_ ?_
    ·
     intro hg23
     refine TL.open rfl rfl ?_
     refine TL.val (OpV.fieldAddr rfl fo_53_1) rfl ?_
     refine TL.open rfl rfl ?_
     refine TL.val (OpV.load pl_5 rfl (by first | exact Cel.blk P0 rfl | exact Cel.blk P1 rfl | exact Cel.blk P2 rfl | exact Cel.blk P3 rfl)) rfl ?_
     refine TL.open rfl rfl ?_
     refine TL.val (OpV.eql rfl rfl) rfl ?_
     refine TL.val ((by first | exact OpV.pick_t rfl rfl | exact OpV.pick_f rfl rfl)) rfl ?_
     refine TL.val (OpV.assign rfl) rfl ?_
     refine TL.nil ?_
     refine TE.sub (.cons (t := 2) rfl <| .nil) ?_
     refine TE.next ?_
     refine T.ret ?_
     refine TE.out_ret ?_
     refine TE.pass_ret ?_
     refine TE.ret1 rfl (ResV.tmp rfl) ?_
     exact fun w1 k1 => ⟨ret_bool (by simp_all [vC] <;> grind), k1.bel⟩
    ·
     intro hg23
     refine TL.shut rfl rfl ?_
     refine TL.shut rfl rfl ?_
     refine TL.shut rfl rfl ?_
     refine TL.val ((by first | exact OpV.pick_t rfl rfl | exact OpV.pick_f rfl rfl)) rfl ?_
     refine TL.val (OpV.assign rfl) rfl ?_
     refine TL.nil ?_
     refine TE.sub (.cons (t := 2) rfl <| .nil) ?_
     refine TE.next ?_
     refine T.ret ?_
     refine TE.out_ret ?_
     refine TE.pass_ret ?_
     refine TE.ret1 rfl (ResV.tmp rfl) ?_
     exact fun w1 k1 => ⟨ret_bool (by simp_all [vC] <;> grind), k1.bel⟩
   ·
    intro ht19
    refine T.seq ?_
    refine T.region ?_
    refine TL.val (OpV.eql rfl rfl) rfl ?_
    refine TL.val (OpV.assign rfl) rfl ?_
    refine TL.nil ?_
    refine TE.next ?_
    refine T.cond rfl ?_ ?_
    ·
     intro ht28
     refine T.seq ?_
     refine T.region ?_
     refine TL.val (OpV.move rfl) rfl ?_
     refine TL.val (OpV.not rfl) rfl ?_
     refine TL.val (OpV.assign rfl) rfl ?_
     refine TL.nil ?_
     refine TE.sub (.cons (t := 2) rfl <| .nil) ?_
     refine TE.next ?_
     refine T.ret ?_
     refine TE.out_ret ?_
     refine TE.pass_ret ?_
     refine TE.ret1 rfl (ResV.tmp rfl) ?_
     exact fun w1 k1 => ⟨ret_bool (by simp_all [vC] <;> grind), k1.bel⟩
    ·
     intro ht28
     refine T.seq ?_
     refine T.region ?_
     refine TL.val (OpV.eql rfl rfl) rfl ?_
     refine TL.val (OpV.assign rfl) rfl ?_
     refine TL.nil ?_
     refine TE.sub (.cons (t := 1) rfl <| .cons (t := 32) rfl <| .nil) ?_
     refine TE.next ?_
     refine T.cond rfl ?_ ?_
     ·
      intro ht32
      refine T.seq ?_
      refine T.region ?_
      refine TL.val (OpV.fieldAddr rfl fo_53_1) rfl ?_
      refine TL.val (OpV.load pl_5 rfl (by first | exact Cel.blk P0 rfl | exact Cel.blk P1 rfl | exact Cel.blk P2 rfl | exact Cel.blk P3 rfl)) rfl ?_
      refine TL.val (OpV.eql rfl rfl) rfl ?_
      refine TL.val (OpV.assign rfl) rfl ?_
      refine TL.nil ?_
      refine TE.next ?_
      refine T.ret ?_
      refine TE.out_ret ?_
      refine TE.pass_ret ?_
      refine TE.ret1 rfl (ResV.tmp rfl) ?_
      exact fun w1 k1 => ⟨ret_bool (by simp_all [vC] <;> grind), k1.bel⟩
     ·
      intro ht32
      refine T.skip ?_
      refine TE.out ?_
      refine TE.next ?_
      refine T.seq ?_
      refine T.region ?_
      refine TL.val (OpV.assign rfl) rfl ?_
      refine TL.nil ?_
      refine TE.next ?_
      refine T.ret ?_
      refine TE.ret1 rfl (ResV.tmp rfl) ?_
      exact fun w1 k1 => ⟨ret_bool (by simp_all [vC] <;> grind), k1.bel⟩
set_option maxRecDepth 100000 in
set_option maxHeartbeats 400000 in
theorem valid_c (p : Pen) (w : World) : Calls Tryd.prog 101 #[.agg p.l.toArray] w (Ret (.bool (vPn p)) w) := by
 refine calls_T (vs := [.agg p.l.toArray]) (L0 := [(0, .agg p.l.toArray)]) Tryd.func101 rfl rfl rfl rfl (KOk.none w) ?_
 refine T.seq ?_
 refine T.region ?_
 refine TL.boxA rfl rfl ?_
 intro b1
 refine TL.val (OpV.assign rfl) rfl ?_
 refine TL.nil ?_
 refine TE.next ?_
 refine T.seq ?_
 refine T.region ?_
 refine TL.val (OpV.fieldAddr rfl fo_56_0) rfl ?_
 refine TL.val (OpV.loadA ag_53 rfl (Cels.blkAt (colL p.k1 p.i1 p.r1 p.g1 p.b1) (by first | exact P0 | exact P1 | exact P2) rfl rfl)) rfl ?_
 refine TL.call (g := 103) rfl go_103 rfl (fun w _ => validColor_c _ _ _ _ _ w) rfl ?_
 refine TL.val (OpV.move rfl) rfl ?_
 refine TL.part (t := 6) rfl ?_ ?_
 ·
  intro hg6
  refine TL.open rfl rfl ?_
  refine TL.val (OpV.fieldAddr rfl fo_56_1) rfl ?_
  refine TL.open rfl rfl ?_
  refine TL.val (OpV.loadA ag_53 rfl (Cels.blkAt (colL p.k2 p.i2 p.r2 p.g2 p.b2) (by first | exact P0 | exact P1 | exact P2) rfl rfl)) rfl ?_
  refine TL.open rfl rfl ?_
  refine TL.call (g := 103) rfl go_103 rfl (fun w _ => validColor_c _ _ _ _ _ w) rfl ?_
  refine TL.val ((by first | exact OpV.pick_t rfl rfl | exact OpV.pick_f rfl rfl)) rfl ?_
  refine TL.val (OpV.assign rfl) rfl ?_
  refine TL.nil ?_
  refine TE.sub (.cons (t := 2) rfl <| .nil) ?_
  refine TE.next ?_
  refine T.ret ?_
  refine TE.ret1 rfl (ResV.tmp rfl) ?_
  exact fun w1 k1 => ⟨ret_bool (by simp_all [vPn, vP]), k1.bel⟩
 ·
  intro hg6
  refine TL.shut rfl rfl ?_
  refine TL.shut rfl rfl ?_
  refine TL.shut rfl rfl ?_
  refine TL.val ((by first | exact OpV.pick_t rfl rfl | exact OpV.pick_f rfl rfl)) rfl ?_
  refine TL.val (OpV.assign rfl) rfl ?_
  refine TL.nil ?_
  refine TE.sub (.cons (t := 2) rfl <| .nil) ?_
  refine TE.next ?_
  refine T.ret ?_
  refine TE.ret1 rfl (ResV.tmp rfl) ?_
  exact fun w1 k1 => ⟨ret_bool (by simp_all [vPn, vP]), k1.bel⟩
set_option maxRecDepth 100000 in
set_option maxHeartbeats 400000 in
theorem rvalid_c (p : Pen) (w : World) : Calls Tryd.prog 93 #[.agg p.l.toArray] w (Ret (.bool (vPn p)) w) := by
 refine calls_T (vs := [.agg p.l.toArray]) (L0 := [(0, .agg p.l.toArray)]) Tryd.func93 rfl rfl rfl rfl (KOk.none w) ?_
 refine T.seq ?_
 refine T.region ?_
 refine TL.boxA rfl rfl ?_
 intro b1
 refine TL.val (OpV.assign rfl) rfl ?_
 refine TL.nil ?_
 refine TE.next ?_
 refine T.seq ?_
 refine T.region ?_
 refine TL.val (OpV.fieldAddr rfl fo_56_0) rfl ?_
 refine TL.val (OpV.loadA ag_53 rfl (Cels.blkAt (colL p.k1 p.i1 p.r1 p.g1 p.b1) (by first | exact P0 | exact P1 | exact P2) rfl rfl)) rfl ?_
 refine TL.call (g := 96) rfl go_96 rfl (fun w _ => rcolor_c _ _ _ _ _ w) rfl ?_
 refine TL.val (OpV.move rfl) rfl ?_
 refine TL.part (t := 6) rfl ?_ ?_
 ·
  intro hg6
  refine TL.open rfl rfl ?_
  refine TL.val (OpV.fieldAddr rfl fo_56_1) rfl ?_
  refine TL.open rfl rfl ?_
  refine TL.val (OpV.loadA ag_53 rfl (Cels.blkAt (colL p.k2 p.i2 p.r2 p.g2 p.b2) (by first | exact P0 | exact P1 | exact P2) rfl rfl)) rfl ?_
  refine TL.open rfl rfl ?_
  refine TL.call (g := 96) rfl go_96 rfl (fun w _ => rcolor_c _ _ _ _ _ w) rfl ?_
  refine TL.val ((by first | exact OpV.pick_t rfl rfl | exact OpV.pick_f rfl rfl)) rfl ?_
  refine TL.val (OpV.assign rfl) rfl ?_
  refine TL.nil ?_
  refine TE.sub (.cons (t := 2) rfl <| .nil) ?_
  refine TE.next ?_
  refine T.ret ?_
  refine TE.ret1 rfl (ResV.tmp rfl) ?_
  exact fun w1 k1 => ⟨ret_bool (by simp_all [vPn, vP]), k1.bel⟩
 ·
  intro hg6
  refine TL.shut rfl rfl ?_
  refine TL.shut rfl rfl ?_
  refine TL.shut rfl rfl ?_
  refine TL.val ((by first | exact OpV.pick_t rfl rfl | exact OpV.pick_f rfl rfl)) rfl ?_
  refine TL.val (OpV.assign rfl) rfl ?_
  refine TL.nil ?_
  refine TE.sub (.cons (t := 2) rfl <| .nil) ?_
  refine TE.next ?_
  refine T.ret ?_
  refine TE.ret1 rfl (ResV.tmp rfl) ?_
  exact fun w1 k1 => ⟨ret_bool (by simp_all [vPn, vP]), k1.bel⟩
end Go.Proofs.YtdmpodpdpncobaaDoor
