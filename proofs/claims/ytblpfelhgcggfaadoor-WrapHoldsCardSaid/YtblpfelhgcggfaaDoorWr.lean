/-
  The walk of the law WrapLongs. Condition: the package-level tables hold what they were laid with.
-/
import Derived.Test.YtblpfelhgcggfaaDoorWq
import Derived.Test.YtblpfelhgcggfaaDoorWm
namespace Go.Proofs.YtblpfelhgcggfaaDoor
open Go.RowKit
set_option linter.unusedSimpArgs false
set_option linter.unusedVariables false

set_option maxRecDepth 100000 in
set_option maxHeartbeats 1000000 in
theorem wrapLongs_law (w : World) (q u : Int) (wide : Bool) (L : LaidW w) : Calls Tryd.prog 6 #[.int .u16 q, .int .u16 u, .bool wide] w (Ret (.bool true) w) := by
  refine calls_T (vs := [.int .u16 q, .int .u16 u, .bool wide]) (L0 := [(0, .int .u16 q), (1, .int .u16 u), (2, .bool wide)]) Tryd.func6 rfl rfl rfl rfl (KOk.none w) ?_
  refine T.seq ?_
  refine T.region ?_
  refine TL.val (OpV.assign rfl) rfl ?_
  refine TL.nil ?_
  refine TE.next ?_
  refine T.seq ?_
  refine T.seq ?_
  refine T.region ?_
  refine TL.val (OpV.move rfl) rfl ?_
  refine TL.val (OpV.lss rfl rfl) rfl ?_
  refine TL.val (OpV.move rfl) rfl ?_
  refine TL.part (t := 11) rfl ?_ ?_
  · intro hg11
    refine TL.shut rfl rfl ?_
    refine TL.shut rfl rfl ?_
    refine TL.val ((by first | exact OpV.pick_t rfl rfl | exact OpV.pick_f rfl rfl)) rfl ?_
    refine TL.val (OpV.move rfl) rfl ?_
    refine TL.shut rfl rfl ?_
    refine TL.shut rfl rfl ?_
    refine TL.val ((by first | exact OpV.pick_t rfl rfl | exact OpV.pick_f rfl rfl)) rfl ?_
    refine TL.val (OpV.move rfl) rfl ?_
    refine TL.shut rfl rfl ?_
    refine TL.shut rfl rfl ?_
    refine TL.val ((by first | exact OpV.pick_t rfl rfl | exact OpV.pick_f rfl rfl)) rfl ?_
    refine TL.nil ?_
    refine TE.sub (.cons (t := 0) rfl <| .cons (t := 1) rfl <| .cons (t := 2) rfl <| .cons (t := 22) rfl <| .nil) ?_
    refine TE.next ?_
    refine T.yes rfl ?_
    refine T.seq ?_
    refine T.region ?_
    refine TL.call (g := 12) rfl go_12 rfl (fun w1 k1 => known_law w1 (L.below k1.bel)) rfl ?_
    refine TL.val (OpV.assign rfl) rfl ?_
    refine TL.nil ?_
    refine TE.next ?_
    refine T.ret ?_
    refine TE.pass_ret ?_
    refine TE.ret1 rfl (ResV.tmp rfl) ?_
    exact fun w1 k1 => ⟨rfl, k1.bel⟩
  · intro hg11
    refine TL.open rfl rfl ?_
    refine TL.val (OpV.move rfl) rfl ?_
    refine TL.open rfl rfl ?_
    refine TL.val (OpV.gtr rfl rfl) rfl ?_
    refine TL.val ((by first | exact OpV.pick_t rfl rfl | exact OpV.pick_f rfl rfl)) rfl ?_
    refine TL.val (OpV.move rfl) rfl ?_
    refine TL.part (t := 15) rfl ?_ ?_
    · intro hg15
      refine TL.shut rfl rfl ?_
      refine TL.shut rfl rfl ?_
      refine TL.val ((by first | exact OpV.pick_t rfl rfl | exact OpV.pick_f rfl rfl)) rfl ?_
      refine TL.val (OpV.move rfl) rfl ?_
      refine TL.shut rfl rfl ?_
      refine TL.shut rfl rfl ?_
      refine TL.val ((by first | exact OpV.pick_t rfl rfl | exact OpV.pick_f rfl rfl)) rfl ?_
      refine TL.nil ?_
      refine TE.sub (.cons (t := 0) rfl <| .cons (t := 1) rfl <| .cons (t := 2) rfl <| .cons (t := 22) rfl <| .nil) ?_
      refine TE.next ?_
      refine T.yes rfl ?_
      refine T.seq ?_
      refine T.region ?_
      refine TL.call (g := 12) rfl go_12 rfl (fun w1 k1 => known_law w1 (L.below k1.bel)) rfl ?_
      refine TL.val (OpV.assign rfl) rfl ?_
      refine TL.nil ?_
      refine TE.next ?_
      refine T.ret ?_
      refine TE.pass_ret ?_
      refine TE.ret1 rfl (ResV.tmp rfl) ?_
      exact fun w1 k1 => ⟨rfl, k1.bel⟩
    · intro hg15
      refine TL.open rfl rfl ?_
      refine TL.val (OpV.move rfl) rfl ?_
      refine TL.open rfl rfl ?_
      refine TL.val (OpV.lss rfl rfl) rfl ?_
      refine TL.val ((by first | exact OpV.pick_t rfl rfl | exact OpV.pick_f rfl rfl)) rfl ?_
      refine TL.val (OpV.move rfl) rfl ?_
      refine TL.part (t := 19) rfl ?_ ?_
      · intro hg19
        refine TL.shut rfl rfl ?_
        refine TL.shut rfl rfl ?_
        refine TL.val ((by first | exact OpV.pick_t rfl rfl | exact OpV.pick_f rfl rfl)) rfl ?_
        refine TL.nil ?_
        refine TE.sub (.cons (t := 0) rfl <| .cons (t := 1) rfl <| .cons (t := 2) rfl <| .cons (t := 22) rfl <| .nil) ?_
        refine TE.next ?_
        refine T.yes rfl ?_
        refine T.seq ?_
        refine T.region ?_
        refine TL.call (g := 12) rfl go_12 rfl (fun w1 k1 => known_law w1 (L.below k1.bel)) rfl ?_
        refine TL.val (OpV.assign rfl) rfl ?_
        refine TL.nil ?_
        refine TE.next ?_
        refine T.ret ?_
        refine TE.pass_ret ?_
        refine TE.ret1 rfl (ResV.tmp rfl) ?_
        exact fun w1 k1 => ⟨rfl, k1.bel⟩
      · intro hg19
        refine TL.open rfl rfl ?_
        refine TL.val (OpV.move rfl) rfl ?_
        refine TL.open rfl rfl ?_
        refine TL.val (OpV.gtr rfl rfl) rfl ?_
        refine TL.val ((by first | exact OpV.pick_t rfl rfl | exact OpV.pick_f rfl rfl)) rfl ?_
        refine TL.nil ?_
        refine TE.sub (.cons (t := 0) rfl <| .cons (t := 1) rfl <| .cons (t := 2) rfl <| .cons (t := 22) rfl <| .nil) ?_
        refine TE.next ?_
        refine T.cond rfl ?_ ?_
        · intro ht22
          refine T.seq ?_
          refine T.region ?_
          refine TL.call (g := 12) rfl go_12 rfl (fun w1 k1 => known_law w1 (L.below k1.bel)) rfl ?_
          refine TL.val (OpV.assign rfl) rfl ?_
          refine TL.nil ?_
          refine TE.next ?_
          refine T.ret ?_
          refine TE.pass_ret ?_
          refine TE.ret1 rfl (ResV.tmp rfl) ?_
          exact fun w1 k1 => ⟨rfl, k1.bel⟩
        · intro ht22
          have e1 := of_decide_eq_false hg11
          have e2 := of_decide_eq_false hg15
          have e3 := of_decide_eq_false hg19
          have e4 := of_decide_eq_false ht22
          obtain ⟨m, rfl⟩ : ∃ m : Nat, q = (m : Int) := ⟨q.toNat, by omega⟩
          refine T.skip ?_
          refine TE.next ?_
          refine T.seq ?_
          refine T.region ?_
          refine TL.val (OpV.move rfl) rfl ?_
          obtain ⟨ti, hi, hz, hsz, hbt⟩ := info_parts inf_59
          refine TL.make (m := m) (cs := Cl.zero.l) Tryd.underlying22 hi hz hsz rfl rfl (by decide) rfl rfl (by rw [hbt]; omega) (by omega) rfl ?_
          clear hi hz hsz hbt ti
          intro b7
          rw [zeros_fl]
          refine TL.val (OpV.assign rfl) rfl ?_
          refine TL.nil ?_
          refine TE.next ?_
          refine T.seq ?_
          refine T.seq ?_
          refine T.region ?_
          refine TL.val (OpV.assign rfl) rfl ?_
          refine TL.nil ?_
          refine TE.next ?_
          refine T.block ?_
          refine T.loop (ι := Nat × List Cl) (fun ⟨i, ys⟩ => i ≤ m ∧ ys.length = m ∧ ys.take i = List.replicate i xC) (fun ⟨i, ys⟩ => (m - i)) (fun ⟨i, ys⟩ => [(1, .int .u16 u), (2, .bool wide), (7, .slice (some ⟨b7, 0, none⟩) m m), (8, .int .i64 (i : Int))]) (fun ⟨i, ys⟩ => [.blk b7 (fl ys) 59]) (0, List.replicate m Cl.zero) ⟨Nat.zero_le _, by simp, rfl⟩ (.cons (t := 1) rfl <| .cons (t := 2) rfl <| .cons (t := 7) rfl <| .cons (t := 8) rfl <| .nil) (Kle.refl) ?_
          rintro ⟨i, ys⟩ hR
          refine T.seq ?_
          refine T.seq ?_
          refine T.region ?_
          refine TL.val (OpV.move rfl) rfl ?_
          refine TL.val (OpV.move rfl) rfl ?_
          refine TL.val (OpV.len Tryd.underlying22 rfl) rfl ?_
          refine TL.val (OpV.lss rfl rfl) rfl ?_
          refine TL.nil ?_
          refine TE.next ?_
          refine T.cond rfl ?_ ?_
          · intro ht29
            obtain ⟨q1, q2, q3⟩ := hR
            have hi : i < m := by have h9 := of_decide_eq_true ht29; omega
            refine T.skip ?_
            refine TE.next ?_
            refine T.seq ?_
            refine T.block ?_
            refine T.region ?_
            refine TL.val (OpV.move rfl) rfl ?_
            refine TL.val (OpV.move rfl) rfl ?_
            refine TL.val (OpV.build (qs := #[(0, _), (2, _)]) (fun _ f => by simp only [List.map_toArray, List.map_cons, List.map_nil]; rw [f.ev (x := .const (.int .i32 120)) rfl, f.ev (x := .const (.int .i64 1)) rfl]) (bld_59_0_2 120 1 )) rfl ?_
            refine TL.val (OpV.indexAddr (j := i) se_22 rfl rfl rfl rfl hi) rfl ?_
            refine TL.store (vs := xC.l) (cs' := fl (ys.set i xC)) rfl rfl szz_59 rfl rfl rfl (by first | exact .here | exact (.there .here) | exact (.there (.there .here)) | exact (.there (.there (.there .here))) | exact (.there (.there (.there (.there .here)))) | exact (.there (.there (.there (.there (.there .here)))))) (by rw [length_fl, Cl.l_length]; omega) (by rw [Nat.zero_add]; exact putL_fl _ _ _ (by omega)) ?_
            refine TL.nil ?_
            refine TE.out ?_
            refine TE.sub (.cons (t := 1) rfl <| .cons (t := 2) rfl <| .cons (t := 7) rfl <| .cons (t := 8) rfl <| .nil) ?_
            refine TE.next ?_
            refine T.region ?_
            refine TL.val (OpV.move rfl) rfl ?_
            refine TL.val (OpV.add rfl rfl (by first | exact IntWalk.i64_in _ ⟨by omega, by omega⟩ | rfl)) rfl ?_
            refine TL.val (OpV.assign rfl) rfl ?_
            refine TL.nil ?_
            exact TE.meet (i + 1, ys.set i xC) ⟨⟨by omega, by rw [List.length_set]; exact q2, by rw [List.take_add_one, List.getElem?_set_self (by omega), List.take_set_of_le (Nat.le_refl _), q3, Option.toList_some, ← List.replicate_succ']⟩, by simp only; omega⟩ (.cons (t := 1) (by first | rfl | (simp [lk]; done)) <| .cons (t := 2) (by first | rfl | (simp [lk]; done)) <| .cons (t := 7) (by first | rfl | (simp [lk]; done)) <| .cons (t := 8) (by first | rfl | (simp [lk]; done)) <| .nil) (Kle.refl)
          · intro ht29
            obtain ⟨q1, q2, q3⟩ := hR
            have hin : i = m := by have h9 := of_decide_eq_false ht29; omega
            obtain rfl : ys = List.replicate m xC := by rw [hin, List.take_of_length_le (by omega)] at q3; exact q3
            refine T.exit ?_
            refine TE.pass_exit ?_
            refine TE.pass_exit ?_
            refine TE.here ?_
            refine TE.next ?_
            refine T.seq ?_
            refine T.cut [(1, .int .u16 u), (7, .slice (some ⟨b7, 0, none⟩) m m)] ([.blk b7 (fl (longL m wide)) 59]) ?_ ?_
            · skip
              refine T.seq ?_
              refine T.region ?_
              refine TL.val (OpV.move rfl) rfl ?_
              refine TL.nil ?_
              refine TE.next ?_
              refine T.cond rfl ?_ ?_
              · intro ht36
                refine T.region ?_
                refine TL.val (OpV.move rfl) rfl ?_
                refine TL.val (OpV.move rfl) rfl ?_
                refine TL.val (OpV.len Tryd.underlying22 rfl) rfl ?_
                refine TL.val (OpV.sub rfl rfl (by first | exact IntWalk.i64_in _ ⟨by omega, by omega⟩ | rfl)) rfl ?_
                refine TL.val (OpV.move rfl) rfl ?_
                refine TL.val (OpV.move rfl) rfl ?_
                refine TL.val (OpV.len Tryd.underlying22 rfl) rfl ?_
                refine TL.val (OpV.sub rfl rfl (by first | exact IntWalk.i64_in _ ⟨by omega, by omega⟩ | rfl)) rfl ?_
                refine TL.val (OpV.build (qs := #[(0, _), (2, _)]) (fun _ f => by simp only [List.map_toArray, List.map_cons, List.map_nil]; rw [f.ev (x := .const (.int .i32 19968)) rfl, f.ev (x := .const (.int .i64 2)) rfl]) (bld_59_0_2 19968 2 )) rfl ?_
                refine TL.val (OpV.build (qs := #[]) (fun _ _ => by simp) (bld_59)) rfl ?_
                refine TL.val (OpV.indexAddr (j := (m - 2)) se_22 rfl rfl rfl (by omega) (by omega)) rfl ?_
                refine TL.store (vs := wC.l) (cs' := fl ((List.replicate m xC).set (m - 2) wC)) rfl rfl szz_59 rfl rfl rfl (by first | exact .here | exact (.there .here) | exact (.there (.there .here)) | exact (.there (.there (.there .here))) | exact (.there (.there (.there (.there .here)))) | exact (.there (.there (.there (.there (.there .here)))))) (by rw [length_fl, Cl.l_length]; simp only [List.length_set, List.length_replicate]; omega) (by rw [Nat.zero_add]; exact putL_fl _ _ _ (by simp only [List.length_set, List.length_replicate]; omega)) ?_
                refine TL.val (OpV.indexAddr (j := (m - 1)) se_22 rfl rfl rfl (by omega) (by omega)) rfl ?_
                refine TL.store (vs := Cl.zero.l) (cs' := fl (((List.replicate m xC).set (m - 2) wC).set (m - 1) Cl.zero)) rfl rfl szz_59 rfl rfl rfl (by first | exact .here | exact (.there .here) | exact (.there (.there .here)) | exact (.there (.there (.there .here))) | exact (.there (.there (.there (.there .here)))) | exact (.there (.there (.there (.there (.there .here)))))) (by rw [length_fl, Cl.l_length]; simp only [List.length_set, List.length_replicate]; omega) (by rw [Nat.zero_add]; exact putL_fl _ _ _ (by simp only [List.length_set, List.length_replicate]; omega)) ?_
                refine TL.nil ?_
                subst ht36
                exact TE.met (.cons (t := 1) rfl <| .cons (t := 7) rfl <| .nil) ((fun w k => k))
              · intro ht36
                refine T.skip ?_
                subst ht36
                exact TE.met (.cons (t := 1) rfl <| .cons (t := 7) rfl <| .nil) ((fun w k => k))
            have h7 : CsR (σ1 b7 (.cells (fl (longL m wide)).toArray 59 (0, 0))) (some ⟨b7, 0, none⟩) m m (longL m wide) := CsR.of_blk (longL_length m wide) (by omega)
            refine TE.kle (Kle.trans Kle.blkOwn Kle.ownFr) ?_
            refine TE.next ?_
            refine T.seq ?_
            refine T.seq ?_
            refine T.region ?_
            refine TL.val (OpV.move rfl) rfl ?_
            refine TL.val (OpV.gtr rfl rfl) rfl ?_
            refine TL.nil ?_
            refine TE.next ?_
            refine T.cond rfl ?_ ?_
            · intro ht50
              refine T.seq ?_
              refine T.region ?_
              refine TL.val (OpV.move rfl) rfl ?_
              refine TL.val (OpV.move rfl) rfl ?_
              refine TL.val (OpV.conv Tryd.underlying50 Tryd.underlying3 rfl (by first | exact IntWalk.i64_in _ ⟨by omega, by omega⟩ | rfl)) rfl ?_
              refine TL.call (g := 15) rfl go_15 rfl (fun w1 k1 => wraps_t (σ := (σ1 b7 (.cells (fl (longL m wide)).toArray 59 (0, 0)))) (τ := (σ1 b7 (.cells (fl (longL m wide)).toArray 59 (0, 0)))) w1 u 2 (L.below k1.bel) h7 (LsA_nil _) (k1.get (e := .fr (σ1 b7 (.cells (fl (longL m wide)).toArray 59 (0, 0)))) (by first | exact .here | exact (.there .here) | exact (.there (.there .here)) | exact (.there (.there (.there .here))) | exact (.there (.there (.there (.there .here)))))) (k1.get (e := .fr (σ1 b7 (.cells (fl (longL m wide)).toArray 59 (0, 0)))) (by first | exact .here | exact (.there .here) | exact (.there (.there .here)) | exact (.there (.there (.there .here))) | exact (.there (.there (.there (.there .here)))))) (wraps_bad (longL_bad wide (of_decide_eq_true ht50)))) rfl ?_
              refine TL.val (OpV.move rfl) rfl ?_
              refine TL.open rfl rfl ?_
              refine TL.call (g := 12) rfl go_12 rfl (fun w1 k1 => known_law w1 (L.below k1.bel)) rfl ?_
              refine TL.val ((by first | exact OpV.pick_t rfl rfl | exact OpV.pick_f rfl rfl)) rfl ?_
              refine TL.val (OpV.assign rfl) rfl ?_
              refine TL.nil ?_
              refine TE.sub (.cons (t := 6) rfl <| .nil) ?_
              refine TE.next ?_
              refine T.ret ?_
              refine TE.pass_ret ?_
              refine TE.ret1 rfl (ResV.tmp rfl) ?_
              exact fun w1 k1 => ⟨rfl, k1.bel⟩
            · intro ht50
              have hv : vW (longL m wide) u = true := longL_v wide (by omega) (by omega) (by have h9 := of_decide_eq_false ht50; omega)
              refine T.skip ?_
              refine TE.next ?_
              refine T.seq ?_
              refine T.region ?_
              refine TL.val (OpV.move rfl) rfl ?_
              refine TL.val (OpV.move rfl) rfl ?_
              refine TL.val (OpV.conv Tryd.underlying50 Tryd.underlying3 rfl (by first | exact IntWalk.i64_in _ ⟨by omega, by omega⟩ | rfl)) rfl ?_
              refine TL.val (OpV.move rfl) rfl ?_
              refine TL.val (OpV.move rfl) rfl ?_
              refine TL.val (OpV.conv Tryd.underlying50 Tryd.underlying3 rfl (by first | exact IntWalk.i64_in _ ⟨by omega, by omega⟩ | rfl)) rfl ?_
              refine TL.callx (g := 16) rfl go_16 rfl (fun wz k1 => own_x k1 (refw_c wz u h7 (k1.get (e := .fr (σ1 b7 (.cells (fl (longL m wide)).toArray 59 (0, 0)))) (by first | exact .here | exact (.there .here) | exact (.there (.there .here)) | exact (.there (.there (.there .here))) | exact (.there (.there (.there (.there .here)))))) hv)) rfl ?_
              rintro ⟨A9, n9, c9, ρ9⟩ ⟨ms, hms, hme⟩
              replace hms : LsA ρ9 A9 n9 c9 ms := hms
              refine TL.call (g := 15) rfl go_15 rfl (fun w1 k1 => wraps_t (σ := (σ1 b7 (.cells (fl (longL m wide)).toArray 59 (0, 0)))) (τ := ρ9) w1 u 0 (L.below k1.bel) h7 hms (k1.get (e := .fr (σ1 b7 (.cells (fl (longL m wide)).toArray 59 (0, 0)))) (by first | exact .here | exact (.there .here) | exact (.there (.there .here)) | exact (.there (.there (.there .here))) | exact (.there (.there (.there (.there .here)))))) (fun b o hb => (k1.get (e := .own ρ9) (by first | exact .here | exact (.there .here) | exact (.there (.there .here)) | exact (.there (.there (.there .here))) | exact (.there (.there (.there (.there .here))))) b o hb).2) (by rw [hme]; exact wraps_ok hv)) rfl ?_
              refine TL.val (OpV.move rfl) rfl ?_
              refine TL.open rfl rfl ?_
              refine TL.val (OpV.move rfl) rfl ?_
              refine TL.open rfl rfl ?_
              refine TL.val (OpV.move rfl) rfl ?_
              refine TL.open rfl rfl ?_
              refine TL.val (OpV.conv Tryd.underlying50 Tryd.underlying3 rfl (by first | exact IntWalk.i64_in _ ⟨by omega, by omega⟩ | rfl)) rfl ?_
              refine TL.open rfl rfl ?_
              refine TL.val (OpV.move rfl) rfl ?_
              refine TL.open rfl rfl ?_
              refine TL.val (OpV.len Tryd.underlying22 rfl) rfl ?_
              refine TL.open rfl rfl ?_
              refine TL.val (OpV.sub rfl rfl (by first | exact IntWalk.i64_in _ ⟨by omega, by omega⟩ | rfl)) rfl ?_
              refine TL.open rfl rfl ?_
              refine TL.val (OpV.move rfl) rfl ?_
              refine TL.open rfl rfl ?_
              refine TL.val (OpV.move rfl) rfl ?_
              refine TL.open rfl rfl ?_
              refine TL.val (OpV.conv Tryd.underlying50 Tryd.underlying3 rfl (by first | exact IntWalk.i64_in _ ⟨by omega, by omega⟩ | rfl)) rfl ?_
              refine TL.open rfl rfl ?_
              refine TL.val (OpV.move rfl) rfl ?_
              refine TL.open rfl rfl ?_
              refine TL.val (OpV.len Tryd.underlying22 rfl) rfl ?_
              refine TL.open rfl rfl ?_
              refine TL.val (OpV.sub rfl rfl (by first | exact IntWalk.i64_in _ ⟨by omega, by omega⟩ | rfl)) rfl ?_
              refine TL.open rfl rfl ?_
              refine TL.said (t := 78) rfl (show _ = Value.int .i64 ((m - 1 : Nat) : Int) from congrArg _ (by omega)) ?_
              refine TL.call (g := 23) rfl go_23 rfl (fun w1 k1 => rplace_c w1 u (m - 1) h7 (k1.get (e := .fr (σ1 b7 (.cells (fl (longL m wide)).toArray 59 (0, 0)))) (by first | exact .here | exact (.there .here) | exact (.there (.there .here)) | exact (.there (.there (.there .here))) | exact (.there (.there (.there (.there .here)))))) (by omega) (by have h9 := of_decide_eq_false ht50; omega)) rfl ?_
              refine TL.open rfl rfl ?_
              refine TL.said (t := 72) rfl (show _ = Value.int .i64 ((m - 1 : Nat) : Int) from congrArg _ (by omega)) ?_
              refine TL.call (g := 20) rfl go_20 rfl (fun w1 k1 => placed_t w1 u ((m - 1 : Nat) : Int) _ _ 0 (L.below k1.bel) h7 (k1.get (e := .fr (σ1 b7 (.cells (fl (longL m wide)).toArray 59 (0, 0)))) (by first | exact .here | exact (.there .here) | exact (.there (.there .here)) | exact (.there (.there (.there .here))) | exact (.there (.there (.there (.there .here)))))) (placed_ok hv (by rw [longL_length]; omega))) rfl ?_
              refine TL.val ((by first | exact OpV.pick_t rfl rfl | exact OpV.pick_f rfl rfl)) rfl ?_
              refine TL.val (OpV.move rfl) rfl ?_
              refine TL.open rfl rfl ?_
              refine TL.call (g := 12) rfl go_12 rfl (fun w1 k1 => known_law w1 (L.below k1.bel)) rfl ?_
              refine TL.val ((by first | exact OpV.pick_t rfl rfl | exact OpV.pick_f rfl rfl)) rfl ?_
              refine TL.val (OpV.assign rfl) rfl ?_
              refine TL.nil ?_
              refine TE.sub (.cons (t := 6) rfl <| .nil) ?_
              refine TE.next ?_
              refine T.ret ?_
              refine TE.ret1 rfl (ResV.tmp rfl) ?_
              exact fun w1 k1 => ⟨rfl, k1.bel⟩
end Go.Proofs.YtblpfelhgcggfaaDoor
