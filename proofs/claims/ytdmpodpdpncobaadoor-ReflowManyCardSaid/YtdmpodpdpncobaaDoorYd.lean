/-
  The walk of the law ReflowMany. Condition: the package-level tables hold what they were laid with.
-/
import Derived.Test.YtdmpodpdpncobaaDoorXh
namespace Go.Proofs.YtdmpodpdpncobaaDoor
open Go.RowKit
set_option linter.unusedSimpArgs false
set_option linter.unusedVariables false
theorem go_37 : isGo Tryd.prog 37 = true := by kernel_rfl
set_option maxRecDepth 100000 in
set_option maxHeartbeats 1000000 in
theorem reflowMany_law (q : Int) (w : World) (L : LaidW w) : Calls Tryd.prog 8 #[.int .i64 q] w (Ret (.bool true) w) := by
 refine calls_T (vs := [.int .i64 q]) (L0 := [(0, .int .i64 q)]) Tryd.func8 rfl rfl rfl rfl (KOk.none w) ?_
 refine T.seq ?_
 refine T.region ?_
 refine TL.val (OpV.assign rfl) rfl ?_
 refine TL.nil ?_
 refine TE.next ?_
 refine T.seq ?_
 refine T.seq ?_
 refine T.region ?_
 refine TL.val (OpV.move rfl) rfl ?_
 refine TL.val (OpV.lss rfl rfl) rfl ?_
 refine TL.val (OpV.move rfl) rfl ?_
 refine TL.part (t := 13) rfl ?_ ?_
 ·
  intro hg13
  refine TL.shut rfl rfl ?_
  refine TL.shut rfl rfl ?_
  refine TL.val ((by first | exact OpV.pick_t rfl rfl | exact OpV.pick_f rfl rfl)) rfl ?_
  refine TL.nil ?_
  refine TE.next ?_
  refine T.yes rfl ?_
  refine T.seq ?_
  refine T.region ?_
  refine TL.call (g := 37) rfl go_37 rfl (fun w1 k1 => known30_law w1 (L.below k1.bel)) rfl ?_
  refine TL.val (OpV.assign rfl) rfl ?_
  refine TL.nil ?_
  refine TE.sub (.cons (t := 2) rfl <| .nil) ?_
  refine TE.next ?_
  refine T.ret ?_
  refine TE.pass_ret ?_
  refine TE.ret1 rfl (ResV.tmp rfl) ?_
  exact fun w1 k1 => ⟨rfl, k1.bel⟩
 ·
  intro hg13
  refine TL.open rfl rfl ?_
  refine TL.val (OpV.move rfl) rfl ?_
  refine TL.open rfl rfl ?_
  refine TL.val (OpV.gtr rfl rfl) rfl ?_
  refine TL.val ((by first | exact OpV.pick_t rfl rfl | exact OpV.pick_f rfl rfl)) rfl ?_
  refine TL.nil ?_
  refine TE.next ?_
  refine T.cond rfl ?_ ?_
  ·
   intro ht16
   refine T.seq ?_
   refine T.region ?_
   refine TL.call (g := 37) rfl go_37 rfl (fun w1 k1 => known30_law w1 (L.below k1.bel)) rfl ?_
   refine TL.val (OpV.assign rfl) rfl ?_
   refine TL.nil ?_
   refine TE.sub (.cons (t := 2) rfl <| .nil) ?_
   refine TE.next ?_
   refine T.ret ?_
   refine TE.pass_ret ?_
   refine TE.ret1 rfl (ResV.tmp rfl) ?_
   exact fun w1 k1 => ⟨rfl, k1.bel⟩
  ·
   intro ht16
   have e1 := of_decide_eq_false hg13
   have e2 := of_decide_eq_false ht16
   obtain ⟨m, rfl⟩ : ∃ m : Nat, q = (m : Int) := ⟨q.toNat, by omega⟩
   obtain ⟨hv, hf, hfl, hev⟩ := many_ok (m := m) (by omega) (by omega)
   have ho := refl_ok hv hf
   have hml : (manyR m).length = m := List.length_replicate ..
   refine T.skip ?_
   refine TE.sub (.cons (t := 0) rfl <| .nil) ?_
   refine TE.next ?_
   refine T.seq ?_
   refine T.region ?_
   refine TL.val (OpV.move rfl) rfl ?_
   obtain ⟨ti, hi9, hz9, hsz, hbt⟩ := info_parts inf_65
   refine TL.make (m := m) (cs := zL.l) Tryd.underlying22 hi9 hz9 hsz rfl rfl (by decide) rfl rfl (by rw [hbt]; omega) (by omega) rfl ?_
   clear hi9 hz9 hsz hbt ti
   intro b19
   rw [zeros_fll]
   refine TL.val (OpV.assign rfl) rfl ?_
   refine TL.nil ?_
   refine TE.next ?_
   refine T.seq ?_
   refine T.seq ?_
   refine T.region ?_
   refine TL.val (OpV.assign rfl) rfl ?_
   refine TL.nil ?_
   refine TE.next ?_
   refine T.block ?_
   refine T.loop (ι := Nat × List LnA × (Nat → Option Obj)) (fun ⟨i, ys, τ⟩ => i ≤ m ∧ ys.length = i ∧ ys.map LnA.ln = manyR i ∧ ∀ l ∈ ys, CsR τ l.A l.n l.c l.cells) (fun ⟨i, ys, τ⟩ => (m - i)) (fun ⟨i, ys, τ⟩ => [(0, .int .i64 (m : Int)), (3, .slice (some ⟨b19, 0, none⟩) m m), (4, .int .i64 (i : Int))]) (fun ⟨i, ys, τ⟩ => [.blk b19 (fll (ys ++ List.replicate (m - i) zL)) 65, .own τ]) (0, [], fun _ => none) ⟨Nat.zero_le _, rfl, rfl, fun l hl => by cases hl⟩ (.cons (t := 0) rfl <| .cons (t := 3) rfl <| .cons (t := 4) rfl <| .nil) ((fun wz kz => Perm.kle (.cons (by first | exact P0 | exact P1 | exact P2 | exact P3 | exact P4 | exact P5 | exact P6 | exact P7 | exact P8) (.cons (by first | exact P0 | exact P1 | exact P2 | exact P3 | exact P4 | exact P5 | exact P6 | exact P7 | exact P8) .nil)) wz (KOk.ownNil kz))) ?_
   rintro ⟨i, ys, τ⟩ hR
   refine T.seq ?_
   refine T.seq ?_
   refine T.region ?_
   refine TL.val (OpV.move rfl) rfl ?_
   refine TL.val (OpV.move rfl) rfl ?_
   refine TL.val (OpV.lss rfl rfl) rfl ?_
   refine TL.nil ?_
   refine TE.next ?_
   refine T.cond rfl ?_ ?_
   ·
    intro ht22
    obtain ⟨q1, q2, q3, q4⟩ := hR
    have hi : i < m := by have h9 := of_decide_eq_true ht22; omega
    refine T.skip ?_
    refine TE.next ?_
    refine T.seq ?_
    refine T.block ?_
    refine T.region ?_
    refine TL.val (OpV.move rfl) rfl ?_
    refine TL.val (OpV.move rfl) rfl ?_
    refine TL.val (OpV.build (qs := #[(0, _), (2, _)]) (fun _ f => by simp only [List.map_toArray, List.map_cons, List.map_nil]; rw [f.ev (x := .const (.int .i32 120)) rfl, f.ev (x := .const (.int .i64 1)) rfl]) (bld_58_0_2 120 1 )) rfl ?_
    refine TL.said (t := 27) rfl (show _ = Value.agg xC.l.toArray from rfl) ?_
    refine TL.slit (qs := #[(0, _)]) (fun _ f => by simp only [List.map_toArray, List.map_cons, List.map_nil]; rw [f.ev (x := .tmp 27) rfl]) (sl_35_1_0 xC) rfl ?_
    intro b28
    refine TL.val (OpV.build (qs := #[(0, _)]) (fun _ f => by simp only [List.map_toArray, List.map_cons, List.map_nil]; rw [f.ev (x := .tmp 28) rfl]) (bld30_65 (some ⟨b28, 0, none⟩) 1 1 )) rfl ?_
    refine TL.val (OpV.indexAddr (j := i) se_22 rfl rfl rfl rfl (by omega)) rfl ?_
    refine TL.store (vs := (LnA.mk (some ⟨b28, 0, none⟩) 1 1 [xC] false).l) (cs' := fll ((ys ++ [(LnA.mk (some ⟨b28, 0, none⟩) 1 1 [xC] false)]) ++ List.replicate (m - (i + 1)) zL)) rfl rfl szz_65 rfl rfl rfl (by first | exact P0 | exact P1 | exact P2 | exact P3 | exact P4 | exact P5 | exact P6 | exact P7 | exact P8) (by rw [length_fll, LnA.l_length, List.length_append, List.length_replicate]; omega) (by rw [Nat.zero_add]; exact set_fll q2 (by omega) _) ?_
    refine TL.nil ?_
    refine TE.out ?_
    refine TE.sub (.cons (t := 0) rfl <| .cons (t := 3) rfl <| .cons (t := 4) rfl <| .nil) ?_
    refine TE.next ?_
    refine T.ex (ι := Nat → Option Obj) (R := fun π => ∀ l ∈ ys ++ [(LnA.mk (some ⟨b28, 0, none⟩) 1 1 [xC] false)], CsR π l.A l.n l.c l.cells) (K2 := fun π => [.blk b19 (fll ((ys ++ [(LnA.mk (some ⟨b28, 0, none⟩) 1 1 [xC] false)]) ++ List.replicate (m - (i + 1)) zL)) 65, .own π]) (fun wz kz => ?_) ?_
    · skip
      obtain ⟨π, ⟨f1, f2⟩, k2⟩ := KOk.own2 (Kle.blkOwn wz ((kz.pick (e := .own τ) (by first | exact P0 | exact P1 | exact P2 | exact P3 | exact P4 | exact P5 | exact P6 | exact P7 | exact P8)).pick (e := .blk b28 xC.l 58) (by first | exact P0 | exact P1 | exact P2 | exact P3 | exact P4 | exact P5 | exact P6 | exact P7 | exact P8)))
      exact ⟨π, fun l hl => by rcases List.mem_append.1 hl with hl | hl; exact (q4 l hl).mono f2; obtain rfl := List.mem_singleton.1 hl; exact (CsR.of_blk (ys := [xC]) (m := 1) rfl (by decide)).mono f1, Perm.kle (.cons (by first | exact P0 | exact P1 | exact P2 | exact P3 | exact P4 | exact P5 | exact P6 | exact P7 | exact P8) (.cons (by first | exact P0 | exact P1 | exact P2 | exact P3 | exact P4 | exact P5 | exact P6 | exact P7 | exact P8) .nil)) wz k2⟩
    rintro π hπ
    replace hπ : ∀ l ∈ ys ++ [(LnA.mk (some ⟨b28, 0, none⟩) 1 1 [xC] false)], CsR π l.A l.n l.c l.cells := hπ
    refine T.region ?_
    refine TL.val (OpV.move rfl) rfl ?_
    refine TL.val (OpV.add rfl rfl (by first | exact IntWalk.i64_in _ ⟨by omega, by omega⟩ | rfl)) rfl ?_
    refine TL.val (OpV.assign rfl) rfl ?_
    refine TL.nil ?_
    exact TE.meet (i + 1, ys ++ [(LnA.mk (some ⟨b28, 0, none⟩) 1 1 [xC] false)], π) ⟨⟨by omega, by rw [List.length_append, q2]; rfl, by rw [List.map_append, q3, manyR, manyR, List.replicate_succ']; rfl, hπ⟩, by (try simp only); omega⟩ (.cons (t := 0) (by first | rfl | (simp [lk]; done)) <| .cons (t := 3) (by first | rfl | (simp [lk]; done)) <| .cons (t := 4) (by first | rfl | (simp [lk]; done)) <| .nil) (Perm.kle (.cons (by first | exact P0 | exact P1 | exact P2 | exact P3 | exact P4 | exact P5 | exact P6 | exact P7 | exact P8) (.cons (by first | exact P0 | exact P1 | exact P2 | exact P3 | exact P4 | exact P5 | exact P6 | exact P7 | exact P8) .nil)))
   ·
    intro ht22
    obtain ⟨q1, q2, q3, q4⟩ := hR
    have hi : m = i := by have h9 := of_decide_eq_false ht22; omega
    subst hi
    simp only [Nat.sub_self, List.replicate_zero, List.append_nil]
    refine T.exit ?_
    refine TE.pass_exit ?_
    refine TE.pass_exit ?_
    refine TE.here ?_
    refine TE.next ?_
    refine T.seq ?_
    refine T.ex (ι := Nat → Option Obj) (R := fun π => LsA π (some ⟨b19, 0, none⟩) m m ys) (K2 := fun π => [.own π]) (fun wz kz => ?_) ?_
    · skip
      obtain ⟨π, ⟨f1, f2⟩, k2⟩ := KOk.own2 (Kle.blkOwn wz ((kz.pick (e := .own τ) (by first | exact P0 | exact P1 | exact P2 | exact P3 | exact P4 | exact P5 | exact P6 | exact P7 | exact P8)).pick (e := .blk b19 (fll ys) 65) (by first | exact P0 | exact P1 | exact P2 | exact P3 | exact P4 | exact P5 | exact P6 | exact P7 | exact P8)))
      exact ⟨π, ⟨SlR.of_row LnA.l_length ⟨length_fll ys ▸ q2 ▸ rfl, Nat.le_refl _, by omega, fun h9 => (by cases h9), fun _ => ⟨b19, rfl, fun j v hj => ⟨_, _, _, f1 _ _ (σ1_self _ _), by rw [Nat.zero_add, List.getElem?_toArray]; exact hj⟩⟩⟩ q2, fun l hl => (q4 l hl).mono f2⟩, Perm.kle (.cons .here .nil) wz k2⟩
    rintro π h
    replace h : LsA π (some ⟨b19, 0, none⟩) m m ys := h
    refine T.region ?_
    refine TL.val (OpV.move rfl) rfl ?_
    refine TL.callx (g := 38) rfl go_38 rfl (fun wz k1 => own_x k1 (rfl_c (υ := fun b => wz.heap[b]?) 1 wz (L.below k1.bel) h (AsR_nil _) (by omega) (by decide) (fun b o hb => (k1.get (e := .own π) (by first | exact P0 | exact P1 | exact P2 | exact P3 | exact P4 | exact P5 | exact P6 | exact P7 | exact P8) b o hb).2) (fun b o hb => hb))) rfl ?_
    rintro ⟨A5, n5, c5, A9, n9, c9, τ0⟩ ⟨⟨l5, h5, h5e⟩, _⟩
    replace h5 : LsW 58 τ0 (1 : Int).toNat A5 n5 c5 l5 := h5
    replace h5e : l5.map LnA.ln = reflV (ys.map LnA.ln) 1 [] := h5e
    rw [q3, ho.2] at h5e
    have hn5 : n5 = m := by have h9 := congrArg List.length h5e; rw [List.length_map, h5.1.1, hfl] at h9; exact h9
    refine TL.said (t := 33) rfl (show _ = Value.tuple #[.slice A5 n5 c5, .slice A9 n9 c9, .int .i64 0] by rw [q3, ho.1]; rfl) ?_
    refine TL.val (OpV.move rfl) rfl ?_
    refine TL.val (OpV.extract rfl rfl) rfl ?_
    refine TL.val (OpV.extract rfl rfl) rfl ?_
    refine TL.val (OpV.extract rfl rfl) rfl ?_
    refine TL.val (OpV.assign rfl) rfl ?_
    refine TL.val (OpV.assign rfl) rfl ?_
    refine TL.val (OpV.assign rfl) rfl ?_
    refine TL.nil ?_
    refine TE.sub (.cons (t := 0) rfl <| .cons (t := 3) rfl <| .cons (t := 5) rfl <| .cons (t := 7) rfl <| .nil) ?_
    refine TE.next ?_
    refine T.seq ?_
    refine T.region ?_
    refine TL.val (OpV.move rfl) rfl ?_
    refine TL.val (OpV.move rfl) rfl ?_
    refine TL.val (OpV.sub rfl rfl (by first | exact IntWalk.i64_in _ ⟨by omega, by omega⟩ | rfl)) rfl ?_
    have hso := scr_ok (X := manyR m) (rows := 2) (must := (m : Int) - 1) hev (by decide) (by rw [hml]; omega)
    rw [hml] at hso
    refine TL.callx (g := 39) rfl go_39 rfl (fun wz k1 => own_x k1 (scr_c 2 ((m : Int) - 1) wz (L.below k1.bel) h (fun b o hb => (k1.get (e := .own π) (by first | exact P0 | exact P1 | exact P2 | exact P3 | exact P4 | exact P5 | exact P6 | exact P7 | exact P8) b o hb).2) (by omega))) rfl ?_
    rintro ⟨A6, n6, c6, τ6⟩ ⟨l6, h6, h6e⟩
    replace h6 : LsO 58 τ6 (hdN (ys.map LnA.ln)) A6 n6 c6 l6 := h6
    replace h6e : l6.map LnA.ln = scrV (ys.map LnA.ln) 2 ((m : Int) - 1) := h6e
    rw [q3, hso.2.2] at h6e
    have hn6 : n6 = 2 := by obtain ⟨tp, t1, t2, t3, t4⟩ := screen_at (X := manyR m) (r := 2) (k := m - 1) (by rw [hml]; omega) (by decide); have h9 := congrArg List.length h6e; rw [List.length_map, h6.1.1.1, show (m : Int) - 1 = ((m - 1 : Nat) : Int) by omega] at h9; rw [h9]; exact t3
    refine TL.said (t := 41) rfl (show _ = Value.tuple #[.int .i64 (topV (m : Int) 2 ((m : Int) - 1)), .slice A6 n6 c6, .int .i64 0] by rw [q3, hso.1, hso.2.1]; rfl) ?_
    refine TL.val (OpV.move rfl) rfl ?_
    refine TL.val (OpV.extract rfl rfl) rfl ?_
    refine TL.val (OpV.extract rfl rfl) rfl ?_
    refine TL.val (OpV.extract rfl rfl) rfl ?_
    refine TL.val (OpV.assign rfl) rfl ?_
    refine TL.val (OpV.assign rfl) rfl ?_
    refine TL.val (OpV.assign rfl) rfl ?_
    refine TL.nil ?_
    refine TE.sub (.cons (t := 0) rfl <| .cons (t := 5) rfl <| .cons (t := 7) rfl <| .cons (t := 8) rfl <| .cons (t := 9) rfl <| .cons (t := 10) rfl <| .nil) ?_
    refine TE.next ?_
    refine T.seq ?_
    refine T.region ?_
    refine TL.val (OpV.move rfl) rfl ?_
    refine TL.val (OpV.len Tryd.underlying22 rfl) rfl ?_
    refine TL.val (OpV.move rfl) rfl ?_
    refine TL.val (OpV.eql rfl rfl) rfl ?_
    refine TL.said (t := 48) rfl (show _ = Value.bool true from congrArg Value.bool ((by rw [hn5]; simp))) ?_
    refine TL.val (OpV.move rfl) rfl ?_
    refine TL.open rfl rfl ?_
    refine TL.val (OpV.move rfl) rfl ?_
    refine TL.open rfl rfl ?_
    refine TL.val (OpV.eql rfl rfl) rfl ?_
    refine TL.said (t := 51) rfl (show _ = Value.bool true from congrArg Value.bool (rfl)) ?_
    refine TL.val ((by first | exact OpV.pick_t rfl rfl | exact OpV.pick_f rfl rfl)) rfl ?_
    refine TL.val (OpV.move rfl) rfl ?_
    refine TL.open rfl rfl ?_
    refine TL.val (OpV.move rfl) rfl ?_
    refine TL.open rfl rfl ?_
    refine TL.val (OpV.move rfl) rfl ?_
    refine TL.open rfl rfl ?_
    refine TL.val (OpV.sub rfl rfl (by first | exact IntWalk.i64_in _ ⟨by omega, by omega⟩ | rfl)) rfl ?_
    refine TL.open rfl rfl ?_
    refine TL.val (OpV.max rfl rfl) rfl ?_
    refine TL.open rfl rfl ?_
    refine TL.val (OpV.eql rfl rfl) rfl ?_
    refine TL.said (t := 58) rfl (show _ = Value.bool true from congrArg Value.bool ((by rw [top_many (by omega)]; simp))) ?_
    refine TL.val ((by first | exact OpV.pick_t rfl rfl | exact OpV.pick_f rfl rfl)) rfl ?_
    refine TL.val (OpV.move rfl) rfl ?_
    refine TL.open rfl rfl ?_
    refine TL.val (OpV.move rfl) rfl ?_
    refine TL.open rfl rfl ?_
    refine TL.val (OpV.len Tryd.underlying22 rfl) rfl ?_
    refine TL.open rfl rfl ?_
    refine TL.val (OpV.eql rfl rfl) rfl ?_
    refine TL.said (t := 63) rfl (show _ = Value.bool true from congrArg Value.bool ((by rw [hn6]; rfl))) ?_
    refine TL.val ((by first | exact OpV.pick_t rfl rfl | exact OpV.pick_f rfl rfl)) rfl ?_
    refine TL.val (OpV.move rfl) rfl ?_
    refine TL.open rfl rfl ?_
    refine TL.val (OpV.move rfl) rfl ?_
    refine TL.open rfl rfl ?_
    refine TL.val (OpV.eql rfl rfl) rfl ?_
    refine TL.said (t := 67) rfl (show _ = Value.bool true from congrArg Value.bool (rfl)) ?_
    refine TL.val ((by first | exact OpV.pick_t rfl rfl | exact OpV.pick_f rfl rfl)) rfl ?_
    refine TL.val (OpV.move rfl) rfl ?_
    refine TL.open rfl rfl ?_
    refine TL.call (g := 37) rfl go_37 rfl (fun w1 k1 => known30_law w1 (L.below k1.bel)) rfl ?_
    refine TL.val ((by first | exact OpV.pick_t rfl rfl | exact OpV.pick_f rfl rfl)) rfl ?_
    refine TL.val (OpV.assign rfl) rfl ?_
    refine TL.nil ?_
    refine TE.sub (.cons (t := 2) rfl <| .nil) ?_
    refine TE.next ?_
    refine T.ret ?_
    refine TE.ret1 rfl (ResV.tmp rfl) ?_
    exact fun w1 k1 => ⟨rfl, k1.bel⟩
end Go.Proofs.YtdmpodpdpncobaaDoor
