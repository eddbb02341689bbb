/-
  The walk of the law WrapAll. Condition: the package-level tables hold what they were laid with.
-/
import Derived.Test.YtblpfelhgcggfaaDoorWl
import Derived.Test.YtblpfelhgcggfaaDoorPla
import Derived.Test.YtblpfelhgcggfaaDoorWq
namespace Go.Proofs.YtblpfelhgcggfaaDoor
open Go.RowKit
set_option linter.unusedSimpArgs false
set_option linter.unusedVariables false
theorem go_23 : isGo Tryd.prog 23 = true := by kernel_rfl
theorem go_25 : isGo Tryd.prog 25 = true := by kernel_rfl
theorem fld_44_2 (A1 : Option Addr) (n1 c1 : Nat) (A2 : Option Addr) (n2 c2 : Nat) (r k : Int) (w : World) : (Instr.field 44 (.agg (ptL A1 n1 c1 A2 n2 c2 r k).toArray) 2).run Tryd.prog w = .ok (.int .i64 r) w := by kernel_rfl
set_option maxRecDepth 100000 in
set_option maxHeartbeats 1000000 in
theorem wrapAll_law {σ : Nat → Option Obj} {A : Option Addr} {n c : Nat} {xs : List Cl} (w : World) (u : Int) (L : LaidW w) (h : CsR σ A n c xs) (hs : ∀ b o, σ b = some o → w.heap[b]? = some o) : Calls Tryd.prog 5 #[.slice A n c, .int .u8 u] w (Ret (.bool true) w) := by
  have hn63 := h.2.1
  have hc63 := h.2.2.1
  have hl1 := h.1
  refine calls_T (vs := [.slice A n c, .int .u8 u]) (L0 := [(0, .slice A n c), (1, .int .u8 u)]) Tryd.func5 rfl rfl rfl rfl (KOk.fr1 hs) ?_
  refine T.seq ?_
  refine T.region ?_
  refine TL.val (OpV.assign rfl) rfl ?_
  refine TL.nil ?_
  refine TE.next ?_
  refine T.seq ?_
  refine T.seq ?_
  refine T.region ?_
  refine TL.val (OpV.move rfl) rfl ?_
  refine TL.val (OpV.len Tryd.underlying22 rfl) rfl ?_
  refine TL.val (OpV.gtr rfl rfl) rfl ?_
  refine TL.val (OpV.move rfl) rfl ?_
  refine TL.part (t := 12) rfl ?_ ?_
  · intro hg12
    refine TL.shut rfl rfl ?_
    refine TL.shut rfl rfl ?_
    refine TL.shut rfl rfl ?_
    refine TL.val ((by first | exact OpV.pick_t rfl rfl | exact OpV.pick_f rfl rfl)) rfl ?_
    refine TL.val (OpV.move rfl) rfl ?_
    refine TL.shut rfl rfl ?_
    refine TL.shut rfl rfl ?_
    refine TL.val ((by first | exact OpV.pick_t rfl rfl | exact OpV.pick_f rfl rfl)) rfl ?_
    refine TL.val (OpV.move rfl) rfl ?_
    refine TL.shut rfl rfl ?_
    refine TL.shut rfl rfl ?_
    refine TL.val ((by first | exact OpV.pick_t rfl rfl | exact OpV.pick_f rfl rfl)) rfl ?_
    refine TL.nil ?_
    refine TE.sub (.cons (t := 0) rfl <| .cons (t := 1) rfl <| .cons (t := 24) rfl <| .nil) ?_
    refine TE.next ?_
    refine T.yes rfl ?_
    refine T.seq ?_
    refine T.region ?_
    refine TL.call (g := 12) rfl go_12 rfl (fun w1 k1 => known_law w1 (L.below k1.bel)) rfl ?_
    refine TL.val (OpV.assign rfl) rfl ?_
    refine TL.nil ?_
    refine TE.next ?_
    refine T.ret ?_
    refine TE.pass_ret ?_
    refine TE.ret1 rfl (ResV.tmp rfl) ?_
    exact fun w1 k1 => ⟨rfl, k1.bel⟩
  · intro hg12
    refine TL.open rfl rfl ?_
    refine TL.val (OpV.move rfl) rfl ?_
    refine TL.open rfl rfl ?_
    refine TL.call (g := 26) rfl go_26 rfl (fun w1 k1 => rrow_c w1 h (k1.get (e := .fr σ) (by first | exact .here | exact (.there .here) | exact (.there (.there .here)) | exact (.there (.there (.there .here))) | exact (.there (.there (.there (.there .here))))))) rfl ?_
    refine TL.open rfl rfl ?_
    refine TL.val (OpV.not rfl) rfl ?_
    refine TL.val ((by first | exact OpV.pick_t rfl rfl | exact OpV.pick_f rfl rfl)) rfl ?_
    refine TL.val (OpV.move rfl) rfl ?_
    refine TL.part (t := 17) rfl ?_ ?_
    · intro hg17
      refine TL.shut rfl rfl ?_
      refine TL.shut rfl rfl ?_
      refine TL.val ((by first | exact OpV.pick_t rfl rfl | exact OpV.pick_f rfl rfl)) rfl ?_
      refine TL.val (OpV.move rfl) rfl ?_
      refine TL.shut rfl rfl ?_
      refine TL.shut rfl rfl ?_
      refine TL.val ((by first | exact OpV.pick_t rfl rfl | exact OpV.pick_f rfl rfl)) rfl ?_
      refine TL.nil ?_
      refine TE.sub (.cons (t := 0) rfl <| .cons (t := 1) rfl <| .cons (t := 24) rfl <| .nil) ?_
      refine TE.next ?_
      refine T.yes rfl ?_
      refine T.seq ?_
      refine T.region ?_
      refine TL.call (g := 12) rfl go_12 rfl (fun w1 k1 => known_law w1 (L.below k1.bel)) rfl ?_
      refine TL.val (OpV.assign rfl) rfl ?_
      refine TL.nil ?_
      refine TE.next ?_
      refine T.ret ?_
      refine TE.pass_ret ?_
      refine TE.ret1 rfl (ResV.tmp rfl) ?_
      exact fun w1 k1 => ⟨rfl, k1.bel⟩
    · intro hg17
      refine TL.open rfl rfl ?_
      refine TL.val (OpV.move rfl) rfl ?_
      refine TL.open rfl rfl ?_
      refine TL.val (OpV.lss rfl rfl) rfl ?_
      refine TL.val ((by first | exact OpV.pick_t rfl rfl | exact OpV.pick_f rfl rfl)) rfl ?_
      refine TL.val (OpV.move rfl) rfl ?_
      refine TL.part (t := 21) rfl ?_ ?_
      · intro hg21
        refine TL.shut rfl rfl ?_
        refine TL.shut rfl rfl ?_
        refine TL.val ((by first | exact OpV.pick_t rfl rfl | exact OpV.pick_f rfl rfl)) rfl ?_
        refine TL.nil ?_
        refine TE.sub (.cons (t := 0) rfl <| .cons (t := 1) rfl <| .cons (t := 24) rfl <| .nil) ?_
        refine TE.next ?_
        refine T.yes rfl ?_
        refine T.seq ?_
        refine T.region ?_
        refine TL.call (g := 12) rfl go_12 rfl (fun w1 k1 => known_law w1 (L.below k1.bel)) rfl ?_
        refine TL.val (OpV.assign rfl) rfl ?_
        refine TL.nil ?_
        refine TE.next ?_
        refine T.ret ?_
        refine TE.pass_ret ?_
        refine TE.ret1 rfl (ResV.tmp rfl) ?_
        exact fun w1 k1 => ⟨rfl, k1.bel⟩
      · intro hg21
        refine TL.open rfl rfl ?_
        refine TL.val (OpV.move rfl) rfl ?_
        refine TL.open rfl rfl ?_
        refine TL.val (OpV.gtr rfl rfl) rfl ?_
        refine TL.val ((by first | exact OpV.pick_t rfl rfl | exact OpV.pick_f rfl rfl)) rfl ?_
        refine TL.nil ?_
        refine TE.sub (.cons (t := 0) rfl <| .cons (t := 1) rfl <| .cons (t := 24) rfl <| .nil) ?_
        refine TE.next ?_
        refine T.cond rfl ?_ ?_
        · intro ht24
          refine T.seq ?_
          refine T.region ?_
          refine TL.call (g := 12) rfl go_12 rfl (fun w1 k1 => known_law w1 (L.below k1.bel)) rfl ?_
          refine TL.val (OpV.assign rfl) rfl ?_
          refine TL.nil ?_
          refine TE.next ?_
          refine T.ret ?_
          refine TE.pass_ret ?_
          refine TE.ret1 rfl (ResV.tmp rfl) ?_
          exact fun w1 k1 => ⟨rfl, k1.bel⟩
        · intro ht24
          have hv : vW xs u = true := by have h9 := of_decide_eq_false hg12; have h8 := of_decide_eq_false hg21; have h7 := of_decide_eq_false ht24; simp [vW]; refine ⟨by omega, by omega, by omega, by simpa using hg17⟩
          have hu : 1 ≤ u ∧ u ≤ 12 := by have h8 := of_decide_eq_false hg21; have h7 := of_decide_eq_false ht24; omega
          have hn20 : n ≤ 20 := by have h9 := of_decide_eq_false hg12; omega
          have hrb := (plR_bd u xs).2.1
          refine T.skip ?_
          refine TE.next ?_
          refine T.seq ?_
          refine T.region ?_
          refine TL.val (OpV.move rfl) rfl ?_
          refine TL.val (OpV.conv Tryd.underlying5 Tryd.underlying3 rfl (by first | exact IntWalk.i64_in _ ⟨by omega, by omega⟩ | rfl)) rfl ?_
          refine TL.val (OpV.assign rfl) rfl ?_
          refine TL.nil ?_
          refine TE.next ?_
          refine T.seq ?_
          refine T.seq ?_
          refine T.region ?_
          refine TL.val (OpV.assign rfl) rfl ?_
          refine TL.nil ?_
          refine TE.next ?_
          refine T.block ?_
          refine T.loop (ι := Nat) (fun i => i ≤ n + 1) (fun i => (n + 1 - i)) (fun i => [(0, .slice A n c), (5, .int .i64 u), (6, .int .i64 (i : Int))]) (fun i => [.fr σ]) 0 (Nat.zero_le _) (.cons (t := 0) rfl <| .cons (t := 5) rfl <| .cons (t := 6) rfl <| .nil) (Kle.refl) ?_
          rintro i hR
          refine T.seq ?_
          refine T.seq ?_
          refine T.region ?_
          refine TL.val (OpV.move rfl) rfl ?_
          refine TL.val (OpV.move rfl) rfl ?_
          refine TL.val (OpV.len Tryd.underlying22 rfl) rfl ?_
          refine TL.val (OpV.leq rfl rfl) rfl ?_
          refine TL.nil ?_
          refine TE.next ?_
          refine T.cond rfl ?_ ?_
          · intro ht31
            have hi : i ≤ n := by have h9 := of_decide_eq_true ht31; omega
            refine T.skip ?_
            refine TE.next ?_
            refine T.seq ?_
            refine T.block ?_
            refine T.seq ?_
            refine T.region ?_
            refine TL.val (OpV.move rfl) rfl ?_
            refine TL.val (OpV.move rfl) rfl ?_
            refine TL.val (OpV.move rfl) rfl ?_
            refine TL.val (OpV.move rfl) rfl ?_
            refine TL.val (OpV.move rfl) rfl ?_
            refine TL.val (OpV.move rfl) rfl ?_
            refine TL.call (g := 23) rfl go_23 rfl (fun w1 k1 => rplace_c w1 u i h (k1.get (e := .fr σ) (by first | exact .here | exact (.there .here) | exact (.there (.there .here)) | exact (.there (.there (.there .here))) | exact (.there (.there (.there (.there .here)))))) (by omega) (by omega)) rfl ?_
            refine TL.call (g := 20) rfl go_20 rfl (fun w1 k1 => placed_t w1 u i _ _ 0 (L.below k1.bel) h (k1.get (e := .fr σ) (by first | exact .here | exact (.there .here) | exact (.there (.there .here)) | exact (.there (.there (.there .here))) | exact (.there (.there (.there (.there .here)))))) (placed_ok hv (by omega))) rfl ?_
            refine TL.val (OpV.not rfl) rfl ?_
            refine TL.nil ?_
            refine TE.sub (.cons (t := 0) rfl <| .cons (t := 5) rfl <| .cons (t := 6) rfl <| .cons (t := 42) rfl <| .nil) ?_
            refine TE.next ?_
            refine T.no rfl ?_
            refine T.skip ?_
            refine TE.out ?_
            refine TE.next ?_
            refine T.region ?_
            refine TL.val (OpV.move rfl) rfl ?_
            refine TL.val (OpV.add rfl rfl (by first | exact IntWalk.i64_in _ ⟨by omega, by omega⟩ | rfl)) rfl ?_
            refine TL.val (OpV.assign rfl) rfl ?_
            refine TL.nil ?_
            exact TE.meet (i + 1) ⟨by omega, by omega⟩ (.cons (t := 0) (by first | rfl | (simp [lk]; done)) <| .cons (t := 5) (by first | rfl | (simp [lk]; done)) <| .cons (t := 6) (by first | rfl | (simp [lk]; done)) <| .nil) (Perm.kle (.cons (by first | exact .here | exact (.there .here) | exact (.there (.there .here)) | exact (.there (.there (.there .here))) | exact (.there (.there (.there (.there .here)))) | exact (.there (.there (.there (.there (.there .here)))))) .nil))
          · intro ht31
            refine T.exit ?_
            refine TE.pass_exit ?_
            refine TE.pass_exit ?_
            refine TE.here ?_
            refine TE.next ?_
            refine T.seq ?_
            refine T.seq ?_
            refine T.region ?_
            refine TL.val (OpV.assign rfl) rfl ?_
            refine TL.nil ?_
            refine TE.next ?_
            refine T.block ?_
            refine T.loop (ι := Nat) (fun r => (r : Int) ≤ (plR u xs).2.1 + 1) (fun r => ((plR u xs).2.1 + 1 - (r : Int)).toNat) (fun r => [(0, .slice A n c), (5, .int .i64 u), (7, .int .i64 (r : Int))]) (fun r => [.fr σ]) 0 (by omega) (.cons (t := 0) rfl <| .cons (t := 5) rfl <| .cons (t := 7) rfl <| .nil) (Kle.refl) ?_
            rintro r hR
            refine T.seq ?_
            refine T.seq ?_
            refine T.region ?_
            refine TL.val (OpV.move rfl) rfl ?_
            refine TL.val (OpV.move rfl) rfl ?_
            refine TL.val (OpV.move rfl) rfl ?_
            refine TL.callx (g := 24) rfl go_24 rfl (fun wz k1 => own_x k1 (places_c wz u h (k1.get (e := .fr σ) (by first | exact .here | exact (.there .here) | exact (.there (.there .here)) | exact (.there (.there (.there .here))) | exact (.there (.there (.there (.there .here)))))) (by omega) (by omega))) rfl ?_
            rintro ⟨A1, c1, A2, c2, m, ρ⟩ hpl
            refine TL.val (OpV.field rfl (fld_44_2 _ _ _ _ _ _ _ _)) rfl ?_
            refine TL.val (OpV.lss rfl rfl) rfl ?_
            refine TL.nil ?_
            refine TE.next ?_
            refine T.cond rfl ?_ ?_
            · intro ht48
              have hrr : (r : Int) < (plR u xs).2.1 + 1 := of_decide_eq_true ht48
              refine T.skip ?_
              refine TE.next ?_
              refine T.seq ?_
              refine T.block ?_
              refine T.seq ?_
              refine T.region ?_
              refine TL.val (OpV.assign rfl) rfl ?_
              refine TL.nil ?_
              refine TE.next ?_
              refine T.block ?_
              refine T.loop (ι := Nat) (fun k => (k : Int) ≤ u) (fun k => (u - (k : Int)).toNat) (fun k => [(0, .slice A n c), (5, .int .i64 u), (7, .int .i64 (r : Int)), (8, .int .i64 (k : Int))]) (fun k => [.fr σ]) 0 (by omega) (.cons (t := 0) rfl <| .cons (t := 5) rfl <| .cons (t := 7) rfl <| .cons (t := 8) rfl <| .nil) (Perm.kle (.cons (by first | exact .here | exact (.there .here) | exact (.there (.there .here)) | exact (.there (.there (.there .here))) | exact (.there (.there (.there (.there .here)))) | exact (.there (.there (.there (.there (.there .here)))))) .nil)) ?_
              rintro k hR2
              refine T.seq ?_
              refine T.seq ?_
              refine T.region ?_
              refine TL.val (OpV.move rfl) rfl ?_
              refine TL.val (OpV.move rfl) rfl ?_
              refine TL.val (OpV.lss rfl rfl) rfl ?_
              refine TL.nil ?_
              refine TE.next ?_
              refine T.cond rfl ?_ ?_
              · intro ht53
                have hkk : (k : Int) < u := of_decide_eq_true ht53
                refine T.skip ?_
                refine TE.next ?_
                refine T.seq ?_
                refine T.block ?_
                refine T.seq ?_
                refine T.region ?_
                refine TL.val (OpV.move rfl) rfl ?_
                refine TL.val (OpV.move rfl) rfl ?_
                refine TL.val (OpV.move rfl) rfl ?_
                refine TL.val (OpV.move rfl) rfl ?_
                refine TL.call (g := 21) rfl go_21 rfl (fun w1 k1 => at_law _ _ w1) rfl ?_
                refine TL.val (OpV.move rfl) rfl ?_
                refine TL.val (OpV.move rfl) rfl ?_
                refine TL.val (OpV.move rfl) rfl ?_
                refine TL.val (OpV.move rfl) rfl ?_
                refine TL.call (g := 21) rfl go_21 rfl (fun w1 k1 => at_law _ _ w1) rfl ?_
                refine TL.call (g := 25) rfl go_25 rfl (fun w1 k1 => rindex_c w1 u _ _ h (k1.get (e := .fr σ) (by first | exact .here | exact (.there .here) | exact (.there (.there .here)) | exact (.there (.there (.there .here))) | exact (.there (.there (.there (.there .here)))))) (by omega) (by omega)) rfl ?_
                refine TL.call (g := 22) rfl go_22 rfl (fun w1 k1 => indexed_t w1 u _ _ _ 0 (L.below k1.bel) h (k1.get (e := .fr σ) (by first | exact .here | exact (.there .here) | exact (.there (.there .here)) | exact (.there (.there (.there .here))) | exact (.there (.there (.there (.there .here)))))) (indexed_ok hv (by simp [inA, rows_eq hv]; omega))) rfl ?_
                refine TL.val (OpV.not rfl) rfl ?_
                refine TL.nil ?_
                refine TE.sub (.cons (t := 0) rfl <| .cons (t := 5) rfl <| .cons (t := 7) rfl <| .cons (t := 8) rfl <| .cons (t := 68) rfl <| .nil) ?_
                refine TE.next ?_
                refine T.no rfl ?_
                refine T.skip ?_
                refine TE.out ?_
                refine TE.next ?_
                refine T.region ?_
                refine TL.val (OpV.move rfl) rfl ?_
                refine TL.val (OpV.add rfl rfl (by first | exact IntWalk.i64_in _ ⟨by omega, by omega⟩ | rfl)) rfl ?_
                refine TL.val (OpV.assign rfl) rfl ?_
                refine TL.nil ?_
                exact TE.meet (k + 1) ⟨by omega, by omega⟩ (.cons (t := 0) (by first | rfl | (simp [lk]; done)) <| .cons (t := 5) (by first | rfl | (simp [lk]; done)) <| .cons (t := 7) (by first | rfl | (simp [lk]; done)) <| .cons (t := 8) (by first | rfl | (simp [lk]; done)) <| .nil) (Perm.kle (.cons (by first | exact .here | exact (.there .here) | exact (.there (.there .here)) | exact (.there (.there (.there .here))) | exact (.there (.there (.there (.there .here)))) | exact (.there (.there (.there (.there (.there .here)))))) .nil))
              · intro ht53
                refine T.exit ?_
                refine TE.pass_exit ?_
                refine TE.pass_exit ?_
                refine TE.here ?_
                refine TE.out ?_
                refine TE.next ?_
                refine T.region ?_
                refine TL.val (OpV.move rfl) rfl ?_
                refine TL.val (OpV.add rfl rfl (by first | exact IntWalk.i64_in _ ⟨by omega, by omega⟩ | rfl)) rfl ?_
                refine TL.val (OpV.assign rfl) rfl ?_
                refine TL.nil ?_
                exact TE.meet (r + 1) ⟨by omega, by omega⟩ (.cons (t := 0) (by first | rfl | (simp [lk]; done)) <| .cons (t := 5) (by first | rfl | (simp [lk]; done)) <| .cons (t := 7) (by first | rfl | (simp [lk]; done)) <| .nil) (Perm.kle (.cons (by first | exact .here | exact (.there .here) | exact (.there (.there .here)) | exact (.there (.there (.there .here))) | exact (.there (.there (.there (.there .here)))) | exact (.there (.there (.there (.there (.there .here)))))) .nil))
            · intro ht48
              refine T.exit ?_
              refine TE.pass_exit ?_
              refine TE.pass_exit ?_
              refine TE.here ?_
              refine TE.next ?_
              refine T.seq ?_
              refine T.region ?_
              refine TL.call (g := 12) rfl go_12 rfl (fun w1 k1 => known_law w1 (L.below k1.bel)) rfl ?_
              refine TL.val (OpV.assign rfl) rfl ?_
              refine TL.nil ?_
              refine TE.sub (.cons (t := 4) rfl <| .nil) ?_
              refine TE.next ?_
              refine T.ret ?_
              refine TE.ret1 rfl (ResV.tmp rfl) ?_
              exact fun w1 k1 => ⟨rfl, k1.bel⟩
end Go.Proofs.YtblpfelhgcggfaaDoor
