/-
  The walk of the law PackedLongs. Condition: the package-level tables hold what they were laid with.
-/
import Derived.Test.YtfbkoflapamicaaDoorPe
import Derived.Test.YtfbkoflapamicaaDoorPg
import Derived.Test.YtfbkoflapamicaaDoorSto
namespace Go.Proofs.YtfbkoflapamicaaDoor
open Go.RowKit
set_option linter.unusedSimpArgs false
set_option linter.unusedVariables false

def lgC (u : Int) : Cl := ⟨0, 0, 0, 0, 1, ⟨1, u, 0, 0, 0, 0, 0, 0, 0, 0, 0⟩⟩
def aC : Cl := ⟨120, 0, 0, 0, 1, Pen.zero⟩
theorem bld_28_0 (k i r g b : Int) (w : World) : (Instr.build 28 #[(0, .agg (colL k i r g b).toArray)]).run Tryd.prog w = .ok (.agg (Pen.mk k i r g b 0 0 0 0 0 0).l.toArray) w := by kernel_rfl
theorem lgC_in {u : Int} (h : 0 ≤ u ∧ u ≤ 255) : InP (lgC u).pen := by
  simp only [lgC, InP]
  omega
theorem aC_in : InP aC.pen := inPB_ok (by decide)
set_option maxRecDepth 100000 in
set_option maxHeartbeats 1000000 in
theorem packedLongs_law (q u t : Int) (w : World) (L : LaidW w) (hu : 0 ≤ u ∧ u ≤ 255) : Calls Tryd.prog 7 #[.int .i64 q, .int .u8 u, .int .i64 t] w (Ret (.bool true) w) := by
  refine calls_T (vs := [.int .i64 q, .int .u8 u, .int .i64 t]) (L0 := [(0, .int .i64 q), (1, .int .u8 u), (2, .int .i64 t)]) Tryd.func7 rfl rfl rfl rfl (KOk.none w) ?_
  refine T.seq ?_
  refine T.region ?_
  refine TL.val (OpV.assign rfl) rfl ?_
  refine TL.nil ?_
  refine TE.next ?_
  refine T.seq ?_
  refine T.seq ?_
  refine T.region ?_
  refine TL.val (OpV.move rfl) rfl ?_
  refine TL.val (OpV.lss rfl rfl) rfl ?_
  refine TL.val (OpV.move rfl) rfl ?_
  refine TL.part (t := 14) rfl ?_ ?_
  · intro hg14
    refine TL.shut rfl rfl ?_
    refine TL.shut rfl rfl ?_
    refine TL.val ((by first | exact OpV.pick_t rfl rfl | exact OpV.pick_f rfl rfl)) rfl ?_
    refine TL.nil ?_
    refine TE.next ?_
    refine T.yes rfl ?_
    refine T.seq ?_
    refine T.region ?_
    refine TL.call (g := 11) rfl go_11 rfl (fun w1 k1 => known05_law w1 (L.below k1.bel)) rfl ?_
    refine TL.val (OpV.assign rfl) rfl ?_
    refine TL.nil ?_
    refine TE.sub (.cons (t := 6) rfl <| .nil) ?_
    refine TE.next ?_
    refine T.ret ?_
    refine TE.pass_ret ?_
    refine TE.ret1 rfl (ResV.tmp rfl) ?_
    exact fun w1 k1 => ⟨rfl, k1.bel⟩
  · intro hg14
    have e1 := of_decide_eq_false hg14
    refine TL.open rfl rfl ?_
    refine TL.val (OpV.move rfl) rfl ?_
    refine TL.open rfl rfl ?_
    refine TL.val (OpV.gtr rfl rfl) rfl ?_
    refine TL.val ((by first | exact OpV.pick_t rfl rfl | exact OpV.pick_f rfl rfl)) rfl ?_
    refine TL.nil ?_
    refine TE.next ?_
    refine T.cond rfl ?_ ?_
    · intro ht17
      refine T.seq ?_
      refine T.region ?_
      refine TL.call (g := 11) rfl go_11 rfl (fun w1 k1 => known05_law w1 (L.below k1.bel)) rfl ?_
      refine TL.val (OpV.assign rfl) rfl ?_
      refine TL.nil ?_
      refine TE.sub (.cons (t := 6) rfl <| .nil) ?_
      refine TE.next ?_
      refine T.ret ?_
      refine TE.pass_ret ?_
      refine TE.ret1 rfl (ResV.tmp rfl) ?_
      exact fun w1 k1 => ⟨rfl, k1.bel⟩
    · intro ht17
      have e2 := of_decide_eq_false ht17
      obtain ⟨m, rfl⟩ : ∃ m : Nat, q = (m : Int) := ⟨q.toNat, by omega⟩
      refine T.skip ?_
      refine TE.sub (.cons (t := 0) rfl <| .cons (t := 1) rfl <| .cons (t := 2) rfl <| .nil) ?_
      refine TE.next ?_
      refine T.seq ?_
      refine T.region ?_
      refine TL.val (OpV.move rfl) rfl ?_
      refine TL.val (OpV.build (qs := #[(0, _), (1, _)]) (fun _ f => by simp only [List.map_toArray, List.map_cons, List.map_nil]; rw [f.ev (x := .const (.int .i64 1)) rfl, f.ev (x := .tmp 19) rfl]) (bld_25_0_1 1 u )) rfl ?_
      refine TL.val (OpV.build (qs := #[(0, _)]) (fun _ f => by simp only [List.map_toArray, List.map_cons, List.map_nil]; rw [f.ev (x := .tmp 20) rfl]) (bld_28_0 1 u 0 0 0 )) rfl ?_
      refine TL.val (OpV.build (qs := #[(2, _), (3, _)]) (fun _ f => by simp only [List.map_toArray, List.map_cons, List.map_nil]; rw [f.ev (x := .const (.int .i64 1)) rfl, f.ev (x := .tmp 21) rfl]) (bld_30_2_3 1 ⟨1, u, 0, 0, 0, 0, 0, 0, 0, 0, 0⟩ )) rfl ?_
      refine TL.said (t := 22) rfl (show _ = Value.agg (lgC u).l.toArray from rfl) ?_
      refine TL.alloc zo_30 rfl ?_
      intro b7
      first
        | refine TL.storeAll rfl rfl szz_30 rfl rfl rfl (by first | exact P0 | exact P1 | exact P2 | exact P3 | exact P4) (by rfl) ?_
        | refine TL.store rfl rfl szz_30 rfl rfl rfl (by first | exact P0 | exact P1 | exact P2 | exact P3 | exact P4) (by first | exact Nat.le_of_ble_eq_true rfl | (simp; done) | (simp; omega)) (by simp only [putL, List.take_succ_cons, List.take_zero, List.drop_succ_cons, List.drop_zero, List.cons_append, List.nil_append, List.length_cons, List.length_nil, Nat.reduceAdd]; rfl) ?_
      refine TL.nil ?_
      refine TE.next ?_
      refine T.seq ?_
      refine T.region ?_
      refine TL.val (OpV.move rfl) rfl ?_
      obtain ⟨ti, hi, hz, hsz, hbt⟩ := info_parts inf_30
      refine TL.make (m := m) (cs := Cl.zero.l) Tryd.underlying42 hi hz hsz rfl rfl (by decide) rfl rfl (by rw [hbt]; omega) (by omega) rfl ?_
      clear hi hz hsz hbt ti
      intro b8
      rw [zeros_fl]
      refine TL.val (OpV.assign rfl) rfl ?_
      refine TL.nil ?_
      refine TE.sub (.cons (t := 0) rfl <| .cons (t := 2) rfl <| .cons (t := 7) rfl <| .cons (t := 8) rfl <| .nil) ?_
      refine TE.next ?_
      refine T.seq ?_
      refine T.seq ?_
      refine T.region ?_
      refine TL.val (OpV.move rfl) rfl ?_
      refine TL.val (OpV.len Tryd.underlying42 rfl) rfl ?_
      refine TL.val (OpV.move rfl) rfl ?_
      refine TL.nil ?_
      refine TE.next ?_
      refine T.block ?_
      refine T.loop (ι := Nat × List Cl) (fun ⟨i, ys⟩ => i ≤ m ∧ ys.length = m ∧ ys.take i = List.replicate i (lgC u)) (fun ⟨i, ys⟩ => (m - i)) (fun ⟨i, ys⟩ => [(0, .int .i64 (m : Int)), (2, .int .i64 t), (7, .pointer (some ⟨b7, 0, none⟩)), (8, .slice (some ⟨b8, 0, none⟩) m m), (26, .int .i64 (m : Int)), (27, .int .i64 (i : Int))]) (fun ⟨i, ys⟩ => [.blk b8 (fl ys) 30, .blk b7 (lgC u).l 30]) (0, List.replicate m Cl.zero) ⟨Nat.zero_le _, by simp, rfl⟩ (.cons (t := 0) rfl <| .cons (t := 2) rfl <| .cons (t := 7) rfl <| .cons (t := 8) rfl <| .cons (t := 26) rfl <| .cons (t := 27) rfl <| .nil) (Kle.refl) ?_
      rintro ⟨i, ys⟩ hR
      refine T.seq ?_
      refine T.region ?_
      refine TL.val (OpV.lss rfl rfl) rfl ?_
      refine TL.nil ?_
      refine TE.next ?_
      refine T.seq ?_
      refine T.cond rfl ?_ ?_
      · intro ht28
        obtain ⟨q1, q2, q3⟩ := hR
        have hi : i < m := by have h9 := of_decide_eq_true ht28; omega
        refine T.skip ?_
        refine TE.next ?_
        refine T.seq ?_
        refine T.block ?_
        refine T.seq ?_
        refine T.region ?_
        refine TL.val (OpV.move rfl) rfl ?_
        refine TL.val (OpV.assign rfl) rfl ?_
        refine TL.nil ?_
        refine TE.next ?_
        refine T.region ?_
        refine TL.val (OpV.move rfl) rfl ?_
        refine TL.val (OpV.move rfl) rfl ?_
        refine TL.val (OpV.loadA ag_30 rfl (Cels.blkAt (lgC u).l (by first | exact P0 | exact P1 | exact P2 | exact P3 | exact P4) rfl rfl)) rfl ?_
        refine TL.val (OpV.indexAddr (j := i) se_42 rfl rfl rfl rfl hi) rfl ?_
        refine TL.store (vs := (lgC u).l) (cs' := fl (ys.set i (lgC u))) rfl rfl szz_30 rfl rfl rfl (by first | exact P0 | exact P1 | exact P2 | exact P3 | exact P4 | exact P5) (by rw [length_fl, Cl.l_length]; (try simp only [List.length_set, List.length_replicate]); omega) (by rw [Nat.zero_add]; exact putL_fl _ _ _ (by (try simp only [List.length_set, List.length_replicate]); omega)) ?_
        refine TL.nil ?_
        refine TE.out ?_
        refine TE.sub (.cons (t := 0) rfl <| .cons (t := 2) rfl <| .cons (t := 7) rfl <| .cons (t := 8) rfl <| .cons (t := 26) rfl <| .cons (t := 27) rfl <| .nil) ?_
        refine TE.next ?_
        refine T.region ?_
        refine TL.val (OpV.add rfl rfl (by first | exact IntWalk.i64_in _ ⟨by omega, by omega⟩ | rfl)) rfl ?_
        refine TL.val (OpV.move rfl) rfl ?_
        refine TL.nil ?_
        exact TE.meet (i + 1, ys.set i (lgC u)) ⟨⟨by omega, by rw [List.length_set]; exact q2, by rw [List.take_add_one, List.getElem?_set_self (by omega), List.take_set_of_le (Nat.le_refl _), q3, Option.toList_some, ← List.replicate_succ']⟩, by simp only; omega⟩ (.cons (t := 0) (by first | rfl | (simp [lk]; done)) <| .cons (t := 2) (by first | rfl | (simp [lk]; done)) <| .cons (t := 7) (by first | rfl | (simp [lk]; done)) <| .cons (t := 8) (by first | rfl | (simp [lk]; done)) <| .cons (t := 26) (by first | rfl | (simp [lk]; done)) <| .cons (t := 27) (by first | rfl | (simp [lk]; done)) <| .nil) (Kle.refl)
      · intro ht28
        obtain ⟨q1, q2, q3⟩ := hR
        have hin : i = m := by have h9 := of_decide_eq_false ht28; omega
        obtain rfl : ys = (List.replicate m (lgC u)) := by rw [hin, List.take_of_length_le (by omega)] at q3; exact q3
        refine T.exit ?_
        refine TE.pass_exit ?_
        refine TE.pass_exit ?_
        refine TE.here ?_
        refine TE.next ?_
        refine T.seq ?_
        refine T.cutx (ι := List Cl) (fun ys2 => ys2.length = m ∧ ∀ c ∈ ys2, InP c.pen) (fun ys2 => [(0, .int .i64 (m : Int)), (8, .slice (some ⟨b8, 0, none⟩) m m)]) (fun ys2 => [.blk b8 (fl ys2) 30]) ?_ ?_
        rotate_left
        · skip
          refine T.seq ?_
          refine T.region ?_
          refine TL.val (OpV.move rfl) rfl ?_
          refine TL.val (OpV.geq rfl rfl) rfl ?_
          refine TL.val (OpV.move rfl) rfl ?_
          refine TL.part (t := 37) rfl ?_ ?_
          · intro hg37
            refine TL.open rfl rfl ?_
            refine TL.val (OpV.move rfl) rfl ?_
            refine TL.open rfl rfl ?_
            refine TL.val (OpV.move rfl) rfl ?_
            refine TL.open rfl rfl ?_
            refine TL.val (OpV.lss rfl rfl) rfl ?_
            refine TL.val ((by first | exact OpV.pick_t rfl rfl | exact OpV.pick_f rfl rfl)) rfl ?_
            refine TL.nil ?_
            refine TE.sub (.cons (t := 0) rfl <| .cons (t := 2) rfl <| .cons (t := 8) rfl <| .cons (t := 41) rfl <| .nil) ?_
            refine TE.next ?_
            refine T.cond rfl ?_ ?_
            · intro ht41
              have ha1 := of_decide_eq_true hg37
              have ha2 := of_decide_eq_true ht41
              obtain ⟨k, rfl⟩ : ∃ k : Nat, t = (k : Int) := ⟨t.toNat, by omega⟩
              refine T.region ?_
              refine TL.val (OpV.move rfl) rfl ?_
              refine TL.val (OpV.move rfl) rfl ?_
              refine TL.val (OpV.build (qs := #[(0, _), (2, _)]) (fun _ f => by simp only [List.map_toArray, List.map_cons, List.map_nil]; rw [f.ev (x := .const (.int .i32 120)) rfl, f.ev (x := .const (.int .i64 1)) rfl]) (bld_30_0_2 120 1 )) rfl ?_
              refine TL.said (t := 44) rfl (show _ = Value.agg aC.l.toArray from rfl) ?_
              refine TL.val (OpV.indexAddr (j := k) se_42 rfl rfl rfl rfl (by omega)) rfl ?_
              refine TL.store (vs := aC.l) (cs' := fl ((List.replicate m (lgC u)).set k aC)) rfl rfl szz_30 rfl rfl rfl (by first | exact P0 | exact P1 | exact P2 | exact P3 | exact P4 | exact P5) (by rw [length_fl, Cl.l_length]; (try simp only [List.length_set, List.length_replicate]); omega) (by rw [Nat.zero_add]; exact putL_fl _ _ _ (by (try simp only [List.length_set, List.length_replicate]); omega)) ?_
              refine TL.nil ?_
              exact TE.meet ((List.replicate m (lgC u)).set k aC) ⟨by rw [List.length_set, List.length_replicate], fun c hc => by rcases List.mem_or_eq_of_mem_set hc with hc | rfl; rw [List.eq_of_mem_replicate hc]; exact lgC_in hu; exact aC_in⟩ (.cons (t := 0) rfl <| .cons (t := 8) rfl <| .nil) (Perm.kle (.cons (by first | exact P0 | exact P1 | exact P2 | exact P3 | exact P4 | exact P5) .nil))
            · intro ht41
              refine T.skip ?_
              exact TE.meet (List.replicate m (lgC u)) ⟨List.length_replicate, fun c hc => by rw [List.eq_of_mem_replicate hc]; exact lgC_in hu⟩ (.cons (t := 0) rfl <| .cons (t := 8) rfl <| .nil) (Perm.kle (.cons (by first | exact P0 | exact P1 | exact P2 | exact P3 | exact P4 | exact P5) .nil))
          · intro hg37
            refine TL.shut rfl rfl ?_
            refine TL.shut rfl rfl ?_
            refine TL.shut rfl rfl ?_
            refine TL.val ((by first | exact OpV.pick_t rfl rfl | exact OpV.pick_f rfl rfl)) rfl ?_
            refine TL.nil ?_
            refine TE.sub (.cons (t := 0) rfl <| .cons (t := 2) rfl <| .cons (t := 8) rfl <| .cons (t := 41) rfl <| .nil) ?_
            refine TE.next ?_
            refine T.no rfl ?_
            refine T.skip ?_
            exact TE.meet (List.replicate m (lgC u)) ⟨List.length_replicate, fun c hc => by rw [List.eq_of_mem_replicate hc]; exact lgC_in hu⟩ (.cons (t := 0) rfl <| .cons (t := 8) rfl <| .nil) (Perm.kle (.cons (by first | exact P0 | exact P1 | exact P2 | exact P3 | exact P4 | exact P5) .nil))
        rintro ys2 ⟨hy1, hy2⟩
        have h7 : CsR (σ1 b8 (.cells (fl ys2).toArray 30 (0, 0))) (some ⟨b8, 0, none⟩) m m ys2 := CsR.of_blk hy1 (by omega)
        refine TE.kle (Kle.trans Kle.blkOwn Kle.ownFr) ?_
        refine TE.next ?_
        refine T.seq ?_
        refine T.region ?_
        refine TL.val (OpV.move rfl) rfl ?_
        refine TL.callx (g := 15) rfl go_15 rfl (fun wz k1 => own_x k1 (rpack_c wz h7 hy2 (k1.get (e := .fr (σ1 b8 (.cells (fl ys2).toArray 30 (0, 0)))) (by first | exact P0 | exact P1 | exact P2 | exact P3 | exact P4 | exact P5 | exact P6 | exact P7)))) rfl ?_
        rintro ⟨A10, n10, c10, ρ10⟩ h10
        replace h10 : RsR ρ10 A10 n10 c10 (packV ys2) := h10
        refine TL.said (t := 48) rfl (show _ = Value.tuple #[.slice A10 n10 c10, .int .i64 (packE ys2)] from rfl) ?_
        refine TL.val (OpV.move rfl) rfl ?_
        refine TL.val (OpV.extract rfl rfl) rfl ?_
        refine TL.val (OpV.extract rfl rfl) rfl ?_
        refine TL.val (OpV.assign rfl) rfl ?_
        refine TL.val (OpV.assign rfl) rfl ?_
        refine TL.nil ?_
        refine TE.next ?_
        refine T.seq ?_
        refine T.seq ?_
        refine T.region ?_
        refine TL.val (OpV.move rfl) rfl ?_
        refine TL.val (OpV.move rfl) rfl ?_
        refine TL.val (OpV.move rfl) rfl ?_
        refine TL.call (g := 16) rfl go_16 rfl (fun w1 k1 => packsl_c w1 (packE ys2) (L.below k1.bel) h7 hy2 h10 (k1.get (e := .fr (σ1 b8 (.cells (fl ys2).toArray 30 (0, 0)))) (by first | exact P0 | exact P1 | exact P2 | exact P3 | exact P4 | exact P5 | exact P6 | exact P7)) (fun b o hb => (k1.get (e := .own ρ10) (by first | exact P0 | exact P1 | exact P2 | exact P3 | exact P4 | exact P5 | exact P6 | exact P7) b o hb).2)) rfl ?_
        refine TL.said (t := 54) rfl (show _ = Value.bool true from congrArg Value.bool (packs_ok ys2)) ?_
        refine TL.val (OpV.not rfl) rfl ?_
        refine TL.nil ?_
        refine TE.sub (.cons (t := 0) rfl <| .cons (t := 10) rfl <| .cons (t := 11) rfl <| .cons (t := 55) rfl <| .nil) ?_
        refine TE.next ?_
        refine T.no rfl ?_
        refine T.skip ?_
        refine TE.next ?_
        refine T.seq ?_
        refine T.region ?_
        refine TL.val (OpV.move rfl) rfl ?_
        refine TL.val (OpV.neq rfl rfl) rfl ?_
        refine TL.val (OpV.move rfl) rfl ?_
        refine TL.part (t := 58) rfl ?_ ?_
        · intro hg58
          refine TL.shut rfl rfl ?_
          refine TL.shut rfl rfl ?_
          refine TL.shut rfl rfl ?_
          refine TL.shut rfl rfl ?_
          refine TL.shut rfl rfl ?_
          refine TL.shutU rfl rfl ?_
          refine TL.shutU rfl rfl ?_
          refine TL.shut rfl rfl ?_
          refine TL.val ((by first | exact OpV.pick_t rfl rfl | exact OpV.pick_f rfl rfl)) rfl ?_
          refine TL.val (OpV.move rfl) rfl ?_
          refine TL.open rfl rfl ?_
          refine TL.call (g := 11) rfl go_11 rfl (fun w1 k1 => known05_law w1 (L.below k1.bel)) rfl ?_
          refine TL.val ((by first | exact OpV.pick_t rfl rfl | exact OpV.pick_f rfl rfl)) rfl ?_
          refine TL.val (OpV.assign rfl) rfl ?_
          refine TL.nil ?_
          refine TE.sub (.cons (t := 6) rfl <| .nil) ?_
          refine TE.next ?_
          refine T.ret ?_
          refine TE.ret1 rfl (ResV.tmp rfl) ?_
          exact fun w1 k1 => ⟨rfl, k1.bel⟩
        · intro hg58
          have hpe : packE ys2 = 0 := by simpa using hg58
          obtain ⟨pb1, pb2, pb3, pb4⟩ := pack_back hpe hy2
          refine TL.open rfl rfl ?_
          refine TL.val (OpV.move rfl) rfl ?_
          refine TL.open rfl rfl ?_
          refine TL.call (g := 21) rfl go_21 rfl (fun w1 k1 => count_c w1 (L.below k1.bel) h10 pb3 (fun b o hb => (k1.get (e := .own ρ10) (by first | exact P0 | exact P1 | exact P2 | exact P3 | exact P4 | exact P5 | exact P6 | exact P7) b o hb).2)) rfl ?_
          refine TL.open rfl rfl ?_
          refine TL.val (OpV.move rfl) rfl ?_
          refine TL.open rfl rfl ?_
          refine TL.val (OpV.eql rfl rfl) rfl ?_
          refine TL.said (t := 62) rfl (show _ = Value.bool true from congrArg Value.bool ((by rw [count_len pb2, pb1, hy1]; simp))) ?_
          refine TL.open rfl rfl ?_
          refine TL.val (OpV.move rfl) rfl ?_
          refine TL.open rfl rfl ?_
          refine TL.val (OpV.move rfl) rfl ?_
          refine TL.open rfl rfl ?_
          refine TL.call (g := 20) rfl go_20 rfl (fun w1 k1 => valid5_c w1 (L.below k1.bel) h10 pb3 (fun b o hb => (k1.get (e := .own ρ10) (by first | exact P0 | exact P1 | exact P2 | exact P3 | exact P4 | exact P5 | exact P6 | exact P7) b o hb).2)) rfl ?_
          refine TL.said (t := 65) rfl (show _ = Value.bool true from congrArg Value.bool (pb2)) ?_
          refine TL.open rfl rfl ?_
          refine TL.val ((by first | exact OpV.pick_t rfl rfl | exact OpV.pick_f rfl rfl)) rfl ?_
          refine TL.val ((by first | exact OpV.pick_t rfl rfl | exact OpV.pick_f rfl rfl)) rfl ?_
          refine TL.val (OpV.move rfl) rfl ?_
          refine TL.open rfl rfl ?_
          refine TL.call (g := 11) rfl go_11 rfl (fun w1 k1 => known05_law w1 (L.below k1.bel)) rfl ?_
          refine TL.val ((by first | exact OpV.pick_t rfl rfl | exact OpV.pick_f rfl rfl)) rfl ?_
          refine TL.val (OpV.assign rfl) rfl ?_
          refine TL.nil ?_
          refine TE.sub (.cons (t := 6) rfl <| .nil) ?_
          refine TE.next ?_
          refine T.ret ?_
          refine TE.ret1 rfl (ResV.tmp rfl) ?_
          exact fun w1 k1 => ⟨rfl, k1.bel⟩
end Go.Proofs.YtfbkoflapamicaaDoor
