/-
  The walk of the law UnwrapWraps. Condition: the package-level tables hold what they were laid with.
-/
import Derived.Test.YtblpfelhgcggfaaDoorUf
import Derived.Test.YtblpfelhgcggfaaDoorUnp
import Derived.Test.YtblpfelhgcggfaaDoorWo
import Derived.Test.YtblpfelhgcggfaaDoorWh
namespace Go.Proofs.YtblpfelhgcggfaaDoor
open Go.RowKit
set_option linter.unusedSimpArgs false
set_option linter.unusedVariables false
set_option maxRecDepth 100000 in
set_option maxHeartbeats 1000000 in
theorem unwrapWraps_law {σ : Nat → Option Obj} {A : Option Addr} {n c : Nat} {xs : List Cl} (w : World) (u : Int) (L : LaidW w) (h : CsR σ A n c xs) (hs : ∀ b o, σ b = some o → w.heap[b]? = some o) : Calls Tryd.prog 11 #[.slice A n c, .int .u8 u] w (Ret (.bool true) w) := by
  have hn63 := h.2.1
  have hc63 := h.2.2.1
  have hl1 := h.1
  refine calls_T (vs := [.slice A n c, .int .u8 u]) (L0 := [(0, .slice A n c), (1, .int .u8 u)]) Tryd.func11 rfl rfl rfl rfl (KOk.fr1 hs) ?_
  refine T.seq ?_
  refine T.region ?_
  refine TL.val (OpV.assign rfl) rfl ?_
  refine TL.nil ?_
  refine TE.next ?_
  refine T.seq ?_
  refine T.seq ?_
  refine T.region ?_
  refine TL.val (OpV.move rfl) rfl ?_
  refine TL.val (OpV.len Tryd.underlying22 rfl) rfl ?_
  refine TL.val (OpV.gtr rfl rfl) rfl ?_
  refine TL.val (OpV.move rfl) rfl ?_
  refine TL.part (t := 11) rfl ?_ ?_
  · intro hg11
    refine TL.shut rfl rfl ?_
    refine TL.shut rfl rfl ?_
    refine TL.shut rfl rfl ?_
    refine TL.val ((by first | exact OpV.pick_t rfl rfl | exact OpV.pick_f rfl rfl)) rfl ?_
    refine TL.val (OpV.move rfl) rfl ?_
    refine TL.shut rfl rfl ?_
    refine TL.shut rfl rfl ?_
    refine TL.val ((by first | exact OpV.pick_t rfl rfl | exact OpV.pick_f rfl rfl)) rfl ?_
    refine TL.val (OpV.move rfl) rfl ?_
    refine TL.shut rfl rfl ?_
    refine TL.shut rfl rfl ?_
    refine TL.val ((by first | exact OpV.pick_t rfl rfl | exact OpV.pick_f rfl rfl)) rfl ?_
    refine TL.nil ?_
    refine TE.sub (.cons (t := 0) rfl <| .cons (t := 1) rfl <| .cons (t := 23) rfl <| .nil) ?_
    refine TE.next ?_
    refine T.yes rfl ?_
    refine T.seq ?_
    refine T.region ?_
    refine TL.call (g := 30) rfl go_30 rfl (fun w1 k1 => known28_law w1 (L.below k1.bel)) rfl ?_
    refine TL.val (OpV.assign rfl) rfl ?_
    refine TL.nil ?_
    refine TE.next ?_
    refine T.ret ?_
    refine TE.pass_ret ?_
    refine TE.ret1 rfl (ResV.tmp rfl) ?_
    exact fun w1 k1 => ⟨rfl, k1.bel⟩
  · intro hg11
    refine TL.open rfl rfl ?_
    refine TL.val (OpV.move rfl) rfl ?_
    refine TL.open rfl rfl ?_
    refine TL.call (g := 26) rfl go_26 rfl (fun w1 k1 => rrow_c w1 h (k1.get (e := .fr σ) (by first | exact P0 | exact P1 | exact P2 | exact P3 | exact P4 | exact P5 | exact P6))) rfl ?_
    refine TL.open rfl rfl ?_
    refine TL.val (OpV.not rfl) rfl ?_
    refine TL.val ((by first | exact OpV.pick_t rfl rfl | exact OpV.pick_f rfl rfl)) rfl ?_
    refine TL.val (OpV.move rfl) rfl ?_
    refine TL.part (t := 16) rfl ?_ ?_
    · intro hg16
      refine TL.shut rfl rfl ?_
      refine TL.shut rfl rfl ?_
      refine TL.val ((by first | exact OpV.pick_t rfl rfl | exact OpV.pick_f rfl rfl)) rfl ?_
      refine TL.val (OpV.move rfl) rfl ?_
      refine TL.shut rfl rfl ?_
      refine TL.shut rfl rfl ?_
      refine TL.val ((by first | exact OpV.pick_t rfl rfl | exact OpV.pick_f rfl rfl)) rfl ?_
      refine TL.nil ?_
      refine TE.sub (.cons (t := 0) rfl <| .cons (t := 1) rfl <| .cons (t := 23) rfl <| .nil) ?_
      refine TE.next ?_
      refine T.yes rfl ?_
      refine T.seq ?_
      refine T.region ?_
      refine TL.call (g := 30) rfl go_30 rfl (fun w1 k1 => known28_law w1 (L.below k1.bel)) rfl ?_
      refine TL.val (OpV.assign rfl) rfl ?_
      refine TL.nil ?_
      refine TE.next ?_
      refine T.ret ?_
      refine TE.pass_ret ?_
      refine TE.ret1 rfl (ResV.tmp rfl) ?_
      exact fun w1 k1 => ⟨rfl, k1.bel⟩
    · intro hg16
      refine TL.open rfl rfl ?_
      refine TL.val (OpV.move rfl) rfl ?_
      refine TL.open rfl rfl ?_
      refine TL.val (OpV.lss rfl rfl) rfl ?_
      refine TL.val ((by first | exact OpV.pick_t rfl rfl | exact OpV.pick_f rfl rfl)) rfl ?_
      refine TL.val (OpV.move rfl) rfl ?_
      refine TL.part (t := 20) rfl ?_ ?_
      · intro hg20
        refine TL.shut rfl rfl ?_
        refine TL.shut rfl rfl ?_
        refine TL.val ((by first | exact OpV.pick_t rfl rfl | exact OpV.pick_f rfl rfl)) rfl ?_
        refine TL.nil ?_
        refine TE.sub (.cons (t := 0) rfl <| .cons (t := 1) rfl <| .cons (t := 23) rfl <| .nil) ?_
        refine TE.next ?_
        refine T.yes rfl ?_
        refine T.seq ?_
        refine T.region ?_
        refine TL.call (g := 30) rfl go_30 rfl (fun w1 k1 => known28_law w1 (L.below k1.bel)) rfl ?_
        refine TL.val (OpV.assign rfl) rfl ?_
        refine TL.nil ?_
        refine TE.next ?_
        refine T.ret ?_
        refine TE.pass_ret ?_
        refine TE.ret1 rfl (ResV.tmp rfl) ?_
        exact fun w1 k1 => ⟨rfl, k1.bel⟩
      · intro hg20
        refine TL.open rfl rfl ?_
        refine TL.val (OpV.move rfl) rfl ?_
        refine TL.open rfl rfl ?_
        refine TL.val (OpV.gtr rfl rfl) rfl ?_
        refine TL.val ((by first | exact OpV.pick_t rfl rfl | exact OpV.pick_f rfl rfl)) rfl ?_
        refine TL.nil ?_
        refine TE.sub (.cons (t := 0) rfl <| .cons (t := 1) rfl <| .cons (t := 23) rfl <| .nil) ?_
        refine TE.next ?_
        refine T.cond rfl ?_ ?_
        · intro ht23
          refine T.seq ?_
          refine T.region ?_
          refine TL.call (g := 30) rfl go_30 rfl (fun w1 k1 => known28_law w1 (L.below k1.bel)) rfl ?_
          refine TL.val (OpV.assign rfl) rfl ?_
          refine TL.nil ?_
          refine TE.next ?_
          refine T.ret ?_
          refine TE.pass_ret ?_
          refine TE.ret1 rfl (ResV.tmp rfl) ?_
          exact fun w1 k1 => ⟨rfl, k1.bel⟩
        · intro ht23
          have e1 := of_decide_eq_false hg11
          have e2 := of_decide_eq_false ht23
          have e3 := of_decide_eq_false hg20
          obtain ⟨m, rfl⟩ : ∃ m : Nat, u = (m : Int) := ⟨u.toNat, by omega⟩
          have hm2 : 2 ≤ m := by omega
          have hn60 : n ≤ 60 := by omega
          have hrr : rowR xs = true := by simpa using hg16
          have hv : vW xs (m : Int) = true := by simp [vW, hrr]; omega
          have hch := wrapV_ch hv hm2
          have hlenX : (wrapV xs (m : Int)).length ≤ 61 := by rw [wrapV_ref hv, refW_length]; have h8 := (plR_bd (m : Int) xs).2.1; rw [rowsN]; omega
          have hE : rowsE xs (m : Int) = 0 := by rw [rowsE, hv]; rfl
          refine T.skip ?_
          refine TE.next ?_
          refine T.seq ?_
          refine T.seq ?_
          refine T.region ?_
          refine TL.val (OpV.assign rfl) rfl ?_
          refine TL.nil ?_
          refine TE.next ?_
          refine T.block ?_
          refine T.loop (ι := Nat) (fun i => i ≤ n ∧ ∀ (j : Nat) x y, j < i → xs[j]? = some x → xs[j + 1]? = some y → isB x = true → y.w ≠ 2) (fun i => (n - i)) (fun i => [(0, .slice A n c), (1, .int .u8 (m : Int)), (5, .int .i64 (i : Int))]) (fun i => [.fr σ]) 0 ⟨Nat.zero_le _, fun j x y hj => absurd hj (Nat.not_lt_zero _)⟩ (.cons (t := 0) rfl <| .cons (t := 1) rfl <| .cons (t := 5) rfl <| .nil) (Kle.refl) ?_
          rintro i hR
          refine T.seq ?_
          refine T.seq ?_
          refine T.region ?_
          refine TL.val (OpV.move rfl) rfl ?_
          refine TL.val (OpV.add rfl rfl (by first | exact IntWalk.i64_in _ ⟨by omega, by omega⟩ | rfl)) rfl ?_
          refine TL.val (OpV.move rfl) rfl ?_
          refine TL.val (OpV.len Tryd.underlying22 rfl) rfl ?_
          refine TL.val (OpV.lss rfl rfl) rfl ?_
          refine TL.nil ?_
          refine TE.next ?_
          refine T.cond rfl ?_ ?_
          · intro ht29
            obtain ⟨q1, q2⟩ := hR
            have hi : i + 1 < n := by have h9 := of_decide_eq_true ht29; omega
            obtain ⟨x, hx⟩ := get_of_lt h.1 (show i < n by omega)
            obtain ⟨y, hy⟩ := get_of_lt h.1 hi
            obtain ⟨b, o, hA, hat⟩ := h.pos (by omega)
            have hatx := hat i x hx
            have haty := hat (i + 1) y hy
            refine T.skip ?_
            refine TE.next ?_
            refine T.seq ?_
            refine T.block ?_
            refine T.seq ?_
            refine T.region ?_
            refine TL.val (OpV.move rfl) rfl ?_
            refine TL.val (OpV.move rfl) rfl ?_
            refine TL.val (OpV.indexAddr se_22 rfl hA rfl (by rfl) (by first | omega | simp)) rfl ?_
            refine TL.val (OpV.loadA ag_59 rfl (by first | exact Cels.blk P0 rfl | exact Cels.blk P1 rfl | exact Cels.blk P2 rfl | exact Cels.blk P3 rfl | exact Cels.blk P4 rfl | exact Cels.blk P5 rfl | exact Cels.frA hatx rfl | exact Cels.frA haty rfl)) rfl ?_
            refine TL.val (OpV.build (qs := #[(2, _)]) (fun _ f => by simp only [List.map_toArray, List.map_cons, List.map_nil]; rw [f.ev (x := .const (.int .i64 1)) rfl]) (bld_59_2 1 )) rfl ?_
            refine TL.val (OpV.aeql rfl rfl eg_59 (eq_59 x (blank Pen.zero))) rfl ?_
            refine TL.val (OpV.move rfl) rfl ?_
            refine TL.part (t := 38) rfl ?_ ?_
            · intro hg38
              refine TL.open rfl rfl ?_
              refine TL.val (OpV.move rfl) rfl ?_
              refine TL.open rfl rfl ?_
              refine TL.val (OpV.move rfl) rfl ?_
              refine TL.open rfl rfl ?_
              refine TL.val (OpV.add rfl rfl (by first | exact IntWalk.i64_in _ ⟨by omega, by omega⟩ | rfl)) rfl ?_
              refine TL.open rfl rfl ?_
              refine TL.val (OpV.indexAddr (j := (i + 1)) se_22 rfl hA rfl (by omega) (by omega)) rfl ?_
              refine TL.open rfl rfl ?_
              refine TL.val (OpV.fieldAddr rfl fo_59_2) rfl ?_
              refine TL.open rfl rfl ?_
              refine TL.val (OpV.load pl_3 rfl (by first | exact Cel.blk P0 rfl | exact Cel.blk P1 rfl | exact Cel.blk P2 rfl | exact Cel.blk P3 rfl | exact Cel.blk P4 rfl | exact Cel.blk P5 rfl | exact Cel.frA (hatx _ _ rfl) | exact Cel.frA (haty _ _ rfl))) rfl ?_
              refine TL.open rfl rfl ?_
              refine TL.val (OpV.eql rfl rfl) rfl ?_
              refine TL.val ((by first | exact OpV.pick_t rfl rfl | exact OpV.pick_f rfl rfl)) rfl ?_
              refine TL.nil ?_
              refine TE.sub (.cons (t := 0) rfl <| .cons (t := 1) rfl <| .cons (t := 5) rfl <| .cons (t := 46) rfl <| .nil) ?_
              refine TE.next ?_
              refine T.cond rfl ?_ ?_
              · intro ht46
                refine T.seq ?_
                refine T.region ?_
                refine TL.call (g := 30) rfl go_30 rfl (fun w1 k1 => known28_law w1 (L.below k1.bel)) rfl ?_
                refine TL.val (OpV.assign rfl) rfl ?_
                refine TL.nil ?_
                refine TE.next ?_
                refine T.ret ?_
                refine TE.out_ret ?_
                refine TE.pass_ret ?_
                refine TE.pass_ret ?_
                refine TE.out_ret ?_
                refine TE.pass_ret ?_
                refine TE.ret1 rfl (ResV.tmp rfl) ?_
                exact fun w1 k1 => ⟨rfl, k1.bel⟩
              · intro ht46
                have hst : ∀ x' y', xs[i]? = some x' → xs[i + 1]? = some y' → isB x' = true → y'.w ≠ 2 := fun x' y' hx' hy' hb => by rw [hx] at hx'; rw [hy] at hy'; cases hx'; cases hy'; exact beq_eq_false_iff_ne.1 ht46
                refine T.skip ?_
                refine TE.out ?_
                refine TE.next ?_
                refine T.region ?_
                refine TL.val (OpV.move rfl) rfl ?_
                refine TL.val (OpV.add rfl rfl (by first | exact IntWalk.i64_in _ ⟨by omega, by omega⟩ | rfl)) rfl ?_
                refine TL.val (OpV.assign rfl) rfl ?_
                refine TL.nil ?_
                exact TE.meet (i + 1) ⟨⟨by omega, fun j x' y' hj hx' hy' hb => by rcases Nat.lt_succ_iff_lt_or_eq.1 hj with hj | rfl; exact q2 j x' y' hj hx' hy' hb; exact hst x' y' hx' hy' hb⟩, by omega⟩ (.cons (t := 0) (by first | rfl | (simp [lk]; done)) <| .cons (t := 1) (by first | rfl | (simp [lk]; done)) <| .cons (t := 5) (by first | rfl | (simp [lk]; done)) <| .nil) (Kle.refl)
            · intro hg38
              have hst : ∀ x' y', xs[i]? = some x' → xs[i + 1]? = some y' → isB x' = true → y'.w ≠ 2 := fun x' y' hx' hy' hb => by rw [hx] at hx'; rw [hy] at hy'; cases hx'; cases hy'; have h9 : decide (x = blank Pen.zero) = false := hg38; rw [isB, h9] at hb; cases hb
              refine TL.shut rfl rfl ?_
              refine TL.shut rfl rfl ?_
              refine TL.shut rfl rfl ?_
              refine TL.shut rfl rfl ?_
              refine TL.shut rfl rfl ?_
              refine TL.shut rfl rfl ?_
              refine TL.shut rfl rfl ?_
              refine TL.val ((by first | exact OpV.pick_t rfl rfl | exact OpV.pick_f rfl rfl)) rfl ?_
              refine TL.nil ?_
              refine TE.sub (.cons (t := 0) rfl <| .cons (t := 1) rfl <| .cons (t := 5) rfl <| .cons (t := 46) rfl <| .nil) ?_
              refine TE.next ?_
              refine T.no rfl ?_
              refine T.skip ?_
              refine TE.out ?_
              refine TE.next ?_
              refine T.region ?_
              refine TL.val (OpV.move rfl) rfl ?_
              refine TL.val (OpV.add rfl rfl (by first | exact IntWalk.i64_in _ ⟨by omega, by omega⟩ | rfl)) rfl ?_
              refine TL.val (OpV.assign rfl) rfl ?_
              refine TL.nil ?_
              exact TE.meet (i + 1) ⟨⟨by omega, fun j x' y' hj hx' hy' hb => by rcases Nat.lt_succ_iff_lt_or_eq.1 hj with hj | rfl; exact q2 j x' y' hj hx' hy' hb; exact hst x' y' hx' hy' hb⟩, by omega⟩ (.cons (t := 0) (by first | rfl | (simp [lk]; done)) <| .cons (t := 1) (by first | rfl | (simp [lk]; done)) <| .cons (t := 5) (by first | rfl | (simp [lk]; done)) <| .nil) (Kle.refl)
          · intro ht29
            obtain ⟨q1, q2⟩ := hR
            have hnb : NoB xs := fun j x y hx hy hb => q2 j x y (by have h9 := of_decide_eq_false ht29; have h8 := (List.getElem?_eq_some_iff.1 hy).1; omega) hx hy hb
            refine T.exit ?_
            refine TE.pass_exit ?_
            refine TE.pass_exit ?_
            refine TE.here ?_
            refine TE.next ?_
            refine T.seq ?_
            refine T.region ?_
            refine TL.val (OpV.move rfl) rfl ?_
            refine TL.val (OpV.move rfl) rfl ?_
            refine TL.val (OpV.conv Tryd.underlying5 Tryd.underlying3 rfl (by first | exact IntWalk.i64_in _ ⟨by omega, by omega⟩ | rfl)) rfl ?_
            refine TL.callx (g := 17) rfl go_17 rfl (fun wz k1 => own_x k1 (wrap_c wz (m : Int) (L.below k1.bel) h (k1.get (e := .fr σ) (by first | exact P0 | exact P1 | exact P2 | exact P3 | exact P4 | exact P5 | exact P6)))) rfl ?_
            rintro ⟨A6, n6, c6, ρ6⟩ ⟨l6, h6, h6e⟩
            replace h6 : LsA ρ6 A6 n6 c6 l6 := h6
            have hn6 : n6 ≤ 61 := by have h9 := congrArg List.length h6e; rw [List.length_map, h6.1.1] at h9; omega
            refine TL.said (t := 52) rfl (show Value.tuple #[SV.v ⟨A6, n6, c6, ρ6⟩, _] = Value.tuple #[.slice A6 n6 c6, .int .i64 0] by rw [hE]; rfl) ?_
            refine TL.val (OpV.move rfl) rfl ?_
            refine TL.val (OpV.extract rfl rfl) rfl ?_
            refine TL.val (OpV.extract rfl rfl) rfl ?_
            refine TL.val (OpV.assign rfl) rfl ?_
            refine TL.val (OpV.assign rfl) rfl ?_
            refine TL.nil ?_
            refine TE.sub (.cons (t := 0) rfl <| .cons (t := 1) rfl <| .cons (t := 6) rfl <| .cons (t := 7) rfl <| .nil) ?_
            refine TE.next ?_
            refine T.seq ?_
            refine T.region ?_
            refine TL.val (OpV.move rfl) rfl ?_
            refine TL.val (OpV.eql rfl rfl) rfl ?_
            refine TL.said (t := 56) rfl (show _ = Value.bool true from congrArg Value.bool (rfl)) ?_
            refine TL.val (OpV.move rfl) rfl ?_
            refine TL.open rfl rfl ?_
            refine TL.val (OpV.move rfl) rfl ?_
            refine TL.open rfl rfl ?_
            refine TL.val (OpV.move rfl) rfl ?_
            refine TL.open rfl rfl ?_
            refine TL.val (OpV.move rfl) rfl ?_
            refine TL.open rfl rfl ?_
            refine TL.val (OpV.conv Tryd.underlying5 Tryd.underlying3 rfl (by first | exact IntWalk.i64_in _ ⟨by omega, by omega⟩ | rfl)) rfl ?_
            refine TL.open rfl rfl ?_
            refine TL.callx (g := 16) rfl go_16 rfl (fun wz k1 => own_x k1 (refw_c wz (m : Int) h (k1.get (e := .fr σ) (by first | exact P0 | exact P1 | exact P2 | exact P3 | exact P4 | exact P5 | exact P6)) hv)) rfl ?_
            rintro ⟨A7, n7, c7, ρ7⟩ ⟨l7, h7, h7e⟩
            replace h7 : LsA ρ7 A7 n7 c7 l7 := h7
            refine TL.open rfl rfl ?_
            refine TL.call (g := 41) rfl go_41 rfl (fun w1 k1 => same_c w1 h6 h7 (fun b o hb => (k1.get (e := .own ρ6) (by first | exact P0 | exact P1 | exact P2 | exact P3 | exact P4 | exact P5 | exact P6) b o hb).2) (fun b o hb => (k1.get (e := .own ρ7) (by first | exact P0 | exact P1 | exact P2 | exact P3 | exact P4 | exact P5 | exact P6) b o hb).2)) rfl ?_
            refine TL.said (t := 63) rfl (show _ = Value.bool true by rw [h6e, h7e, wrapV_ref hv]; simp) ?_
            refine TL.val ((by first | exact OpV.pick_t rfl rfl | exact OpV.pick_f rfl rfl)) rfl ?_
            refine TL.val (OpV.move rfl) rfl ?_
            refine TL.open rfl rfl ?_
            refine TL.val (OpV.move rfl) rfl ?_
            refine TL.open rfl rfl ?_
            refine TL.val (OpV.move rfl) rfl ?_
            refine TL.open rfl rfl ?_
            refine TL.callx (g := 42) rfl go_42 rfl (fun wz k1 => own_x k1 (rtrim_c wz h (k1.get (e := .fr σ) (by first | exact P0 | exact P1 | exact P2 | exact P3 | exact P4 | exact P5 | exact P6)) (by omega))) rfl ?_
            rintro ⟨A8, n8, c8, ρ8⟩ h8
            replace h8 : CsR ρ8 A8 n8 c8 (trimV xs) := h8
            refine TL.said (t := 68) rfl (show SV.v ⟨A8, n8, c8, ρ8⟩ = Value.slice A8 n8 c8 from rfl) ?_
            refine TL.open rfl rfl ?_
            refine TL.call (g := 34) rfl go_34 rfl (fun w1 k1 => one_t (σ := ρ6) (τ := ρ8) w1 0 (L.below k1.bel) (⟨l6, h6, h6e⟩ : LsR ρ6 A6 n6 c6 (wrapV xs (m : Int))) h8 (fun b o hb => (k1.get (e := .own ρ6) (by first | exact P0 | exact P1 | exact P2 | exact P3 | exact P4 | exact P5 | exact P6) b o hb).2) (fun b o hb => (k1.get (e := .own ρ8) (by first | exact P0 | exact P1 | exact P2 | exact P3 | exact P4 | exact P5 | exact P6) b o hb).2) (by omega) (wrap_one hv hm2 hnb (by omega))) rfl ?_
            refine TL.val ((by first | exact OpV.pick_t rfl rfl | exact OpV.pick_f rfl rfl)) rfl ?_
            refine TL.val (OpV.move rfl) rfl ?_
            refine TL.open rfl rfl ?_
            refine TL.call (g := 30) rfl go_30 rfl (fun w1 k1 => known28_law w1 (L.below k1.bel)) rfl ?_
            refine TL.val ((by first | exact OpV.pick_t rfl rfl | exact OpV.pick_f rfl rfl)) rfl ?_
            refine TL.val (OpV.assign rfl) rfl ?_
            refine TL.nil ?_
            refine TE.sub (.cons (t := 4) rfl <| .nil) ?_
            refine TE.next ?_
            refine T.ret ?_
            refine TE.ret1 rfl (ResV.tmp rfl) ?_
            exact fun w1 k1 => ⟨rfl, k1.bel⟩
end Go.Proofs.YtblpfelhgcggfaaDoor
