/-
  The walk of the law UnwrapLines. Condition: the package-level tables hold what they were laid with.
-/
import Derived.Test.YtblpfelhgcggfaaDoorUf
import Derived.Test.YtblpfelhgcggfaaDoorUnp
import Derived.Test.YtblpfelhgcggfaaDoorWt
namespace Go.Proofs.YtblpfelhgcggfaaDoor
open Go.RowKit
set_option linter.unusedSimpArgs false
set_option linter.unusedVariables false
set_option maxRecDepth 100000 in
set_option maxHeartbeats 1000000 in
theorem unwrapLines_law {σ : Nat → Option Obj} {A : Option Addr} {n c : Nat} {ls : List LnA} (w : World) (L : LaidW w) (h : LsA σ A n c ls) (hs : ∀ b o, σ b = some o → w.heap[b]? = some o) : Calls Tryd.prog 8 #[.slice A n c] w (Ret (.bool true) w) := by
  have hn63 := h.1.2.1
  have hc63 := h.1.2.2.1
  have hl1 := h.1.1
  have hXl : (ls.map LnA.ln).length = n := by rw [List.length_map]; exact hl1
  refine calls_T (vs := [.slice A n c]) (L0 := [(0, .slice A n c)]) Tryd.func8 rfl rfl rfl rfl (KOk.fr1 hs) ?_
  refine T.seq ?_
  refine T.region ?_
  refine TL.val (OpV.assign rfl) rfl ?_
  refine TL.nil ?_
  refine TE.next ?_
  refine T.seq ?_
  refine T.seq ?_
  refine T.region ?_
  refine TL.val (OpV.move rfl) rfl ?_
  refine TL.call (g := 29) rfl go_29 rfl (fun w1 k1 => few_c w1 h (k1.get (e := .fr σ) (by first | exact P0 | exact P1 | exact P2 | exact P3 | exact P4 | exact P5 | exact P6))) rfl ?_
  refine TL.val (OpV.not rfl) rfl ?_
  refine TL.nil ?_
  refine TE.next ?_
  refine T.cond rfl ?_ ?_
  · intro ht10
    refine T.seq ?_
    refine T.region ?_
    refine TL.call (g := 30) rfl go_30 rfl (fun w1 k1 => known28_law w1 (L.below k1.bel)) rfl ?_
    refine TL.val (OpV.assign rfl) rfl ?_
    refine TL.nil ?_
    refine TE.next ?_
    refine T.ret ?_
    refine TE.pass_ret ?_
    refine TE.ret1 rfl (ResV.tmp rfl) ?_
    exact fun w1 k1 => ⟨rfl, k1.bel⟩
  · intro ht10
    have hfew : fewV (ls.map LnA.ln) = true := by simpa using ht10
    have hfb := few_bd hfew
    have hn16 : n ≤ 16 := by rw [hXl] at hfb; exact hfb.1
    have hcn : ∀ l ∈ ls, l.n ≤ 24 := fun l hl => by have h9 := hfb.2 l.ln (List.mem_map_of_mem hl); have h8 : l.ln.cells.length = l.n := (h.2 l hl).1; omega
    have hb24 : ∀ x ∈ ls.map LnA.cells, x.length ≤ 1000 := fun x hx => by obtain ⟨l, hl, rfl⟩ := List.mem_map.1 hx; have h9 := hcn l hl; have h8 := (h.2 l hl).1; omega
    refine T.skip ?_
    refine TE.next ?_
    refine T.seq ?_
    refine T.region ?_
    refine TL.val (OpV.move rfl) rfl ?_
    refine TL.callx (g := 31) rfl go_31 rfl (fun wz k1 => own_x k1 (rcopy_c wz h (k1.get (e := .fr σ) (by first | exact P0 | exact P1 | exact P2 | exact P3 | exact P4 | exact P5 | exact P6)) (by omega) (fun l hl => by have h9 := hcn l hl; omega))) rfl ?_
    rintro ⟨A3, n3, c3, ρ3⟩ ⟨l3, h3, h3e⟩
    replace h3 : LsA ρ3 A3 n3 c3 l3 := h3
    have hn3 : n3 = n := by have h9 := congrArg List.length h3e; rw [List.length_map, hXl, h3.1.1] at h9; exact h9
    refine TL.said (t := 13) rfl (show SV.v ⟨A3, n3, c3, ρ3⟩ = Value.slice A3 n3 c3 from rfl) ?_
    refine TL.val (OpV.assign rfl) rfl ?_
    refine TL.nil ?_
    refine TE.next ?_
    refine T.seq ?_
    refine T.seq ?_
    refine T.region ?_
    refine TL.val (OpV.move rfl) rfl ?_
    refine TL.call (g := 32) rfl go_32 rfl (fun w1 k1 => ruvalid_c w1 h (k1.get (e := .fr σ) (by first | exact P0 | exact P1 | exact P2 | exact P3 | exact P4 | exact P5 | exact P6))) rfl ?_
    refine TL.val (OpV.not rfl) rfl ?_
    refine TL.nil ?_
    refine TE.sub (.cons (t := 0) rfl <| .cons (t := 3) rfl <| .cons (t := 16) rfl <| .nil) ?_
    refine TE.next ?_
    refine T.cond rfl ?_ ?_
    · intro ht16
      have hv : vLs (ls.map LnA.ln) = false := by simpa using ht16
      refine T.seq ?_
      refine T.region ?_
      refine TL.val (OpV.move rfl) rfl ?_
      refine TL.call (g := 33) rfl go_33 rfl (fun w1 k1 => lines_t (σ := ρ3) (τ := ρ3) w1 2 (L.below k1.bel) (⟨l3, h3, h3e⟩ : LsR ρ3 A3 n3 c3 (ls.map LnA.ln)) (GsA_nil _) (fun b o hb => (k1.get (e := .own ρ3) (by first | exact P0 | exact P1 | exact P2 | exact P3 | exact P4 | exact P5 | exact P6) b o hb).2) (fun b o hb => (k1.get (e := .own ρ3) (by first | exact P0 | exact P1 | exact P2 | exact P3 | exact P4 | exact P5 | exact P6) b o hb).2) (by omega) (lines_bad hv)) rfl ?_
      refine TL.val (OpV.move rfl) rfl ?_
      refine TL.open rfl rfl ?_
      refine TL.val (OpV.move rfl) rfl ?_
      refine TL.open rfl rfl ?_
      refine TL.call (g := 34) rfl go_34 rfl (fun w1 k1 => one_t (σ := ρ3) (τ := ρ3) w1 2 (L.below k1.bel) (⟨l3, h3, h3e⟩ : LsR ρ3 A3 n3 c3 (ls.map LnA.ln)) (CsR_nil _) (fun b o hb => (k1.get (e := .own ρ3) (by first | exact P0 | exact P1 | exact P2 | exact P3 | exact P4 | exact P5 | exact P6) b o hb).2) (fun b o hb => (k1.get (e := .own ρ3) (by first | exact P0 | exact P1 | exact P2 | exact P3 | exact P4 | exact P5 | exact P6) b o hb).2) (by omega) (one_bad (.inl hv))) rfl ?_
      refine TL.val ((by first | exact OpV.pick_t rfl rfl | exact OpV.pick_f rfl rfl)) rfl ?_
      refine TL.val (OpV.move rfl) rfl ?_
      refine TL.open rfl rfl ?_
      refine TL.call (g := 30) rfl go_30 rfl (fun w1 k1 => known28_law w1 (L.below k1.bel)) rfl ?_
      refine TL.val ((by first | exact OpV.pick_t rfl rfl | exact OpV.pick_f rfl rfl)) rfl ?_
      refine TL.val (OpV.assign rfl) rfl ?_
      refine TL.nil ?_
      refine TE.sub (.cons (t := 2) rfl <| .nil) ?_
      refine TE.next ?_
      refine T.ret ?_
      refine TE.pass_ret ?_
      refine TE.ret1 rfl (ResV.tmp rfl) ?_
      exact fun w1 k1 => ⟨rfl, k1.bel⟩
    · intro ht16
      have hv : vLs (ls.map LnA.ln) = true := by simpa using ht16
      refine T.skip ?_
      refine TE.next ?_
      refine T.seq ?_
      refine T.region ?_
      refine TL.val (OpV.move rfl) rfl ?_
      refine TL.callx (g := 35) rfl go_35 rfl (fun wz k1 => own_x k1 (rlines_c wz h (k1.get (e := .fr σ) (by first | exact P0 | exact P1 | exact P2 | exact P3 | exact P4 | exact P5 | exact P6)) (by omega) hb24)) rfl ?_
      rintro ⟨A4, n4, c4, ρ4⟩ ⟨gs, hgs, hge⟩
      replace hgs : GsA ρ4 A4 n4 c4 gs := hgs
      have hn4 : (lgG [] 0 (ls.map LnA.ln)).length = n4 := by rw [← hge, List.length_map]; exact hgs.1.1
      have hn4c := hgs.1.2.1
      have hn4d := hgs.1.2.2.1
      refine TL.said (t := 27) rfl (show SV.v ⟨A4, n4, c4, ρ4⟩ = Value.slice A4 n4 c4 from rfl) ?_
      refine TL.val (OpV.assign rfl) rfl ?_
      refine TL.nil ?_
      refine TE.next ?_
      refine T.seq ?_
      refine T.seq ?_
      refine T.region ?_
      refine TL.val (OpV.move rfl) rfl ?_
      refine TL.val (OpV.move rfl) rfl ?_
      refine TL.call (g := 33) rfl go_33 rfl (fun w1 k1 => lines_t (σ := ρ3) (τ := ρ4) w1 0 (L.below k1.bel) (⟨l3, h3, h3e⟩ : LsR ρ3 A3 n3 c3 (ls.map LnA.ln)) hgs (fun b o hb => (k1.get (e := .own ρ3) (by first | exact P0 | exact P1 | exact P2 | exact P3 | exact P4 | exact P5 | exact P6) b o hb).2) (fun b o hb => (k1.get (e := .own ρ4) (by first | exact P0 | exact P1 | exact P2 | exact P3 | exact P4 | exact P5 | exact P6) b o hb).2) (by omega) (by rw [hge]; exact lines_ok hv)) rfl ?_
      refine TL.val (OpV.not rfl) rfl ?_
      refine TL.nil ?_
      refine TE.next ?_
      refine T.no rfl ?_
      refine T.skip ?_
      refine TE.sub (.cons (t := 0) rfl <| .cons (t := 3) rfl <| .cons (t := 4) rfl <| .nil) ?_
      refine TE.next ?_
      refine T.seq ?_
      refine T.cut [(0, .slice A n c), (3, .slice A3 n3 c3)] ([.own ρ3, .fr σ]) ?_ ?_
      · skip
        refine T.seq ?_
        refine T.region ?_
        refine TL.val (OpV.move rfl) rfl ?_
        refine TL.val (OpV.len Tryd.underlying69 rfl) rfl ?_
        refine TL.val (OpV.neq rfl rfl) rfl ?_
        refine TL.nil ?_
        refine TE.next ?_
        refine T.cond rfl ?_ ?_
        · intro ht34
          have h41 : n4 ≠ 1 := by have h9 : ((n4 : Int) != 1) = true := ht34; simp at h9; omega
          refine T.seq ?_
          refine T.region ?_
          refine TL.val (OpV.move rfl) rfl ?_
          refine TL.call (g := 34) rfl go_34 rfl (fun w1 k1 => one_t (σ := ρ3) (τ := ρ3) w1 2 (L.below k1.bel) (⟨l3, h3, h3e⟩ : LsR ρ3 A3 n3 c3 (ls.map LnA.ln)) (CsR_nil _) (fun b o hb => (k1.get (e := .own ρ3) (by first | exact P0 | exact P1 | exact P2 | exact P3 | exact P4 | exact P5 | exact P6) b o hb).2) (fun b o hb => (k1.get (e := .own ρ3) (by first | exact P0 | exact P1 | exact P2 | exact P3 | exact P4 | exact P5 | exact P6) b o hb).2) (by omega) (one_bad (.inr (by rw [hn4]; exact h41)))) rfl ?_
          refine TL.val (OpV.not rfl) rfl ?_
          refine TL.nil ?_
          refine TE.next ?_
          refine T.no rfl ?_
          refine T.skip ?_
          exact TE.met (.cons (t := 0) rfl <| .cons (t := 3) rfl <| .nil) (Perm.kle (.cons (by first | exact P0 | exact P1 | exact P2 | exact P3 | exact P4 | exact P5 | exact P6) (.cons (by first | exact P0 | exact P1 | exact P2 | exact P3 | exact P4 | exact P5 | exact P6) .nil)))
        · intro ht34
          have h41 : n4 = 1 := by have h9 : ((n4 : Int) != 1) = false := ht34; simp at h9; omega
          obtain ⟨g, hg⟩ := get_of_lt hgs.1.1 (show 0 < n4 by omega)
          obtain ⟨b4, o4, hA4, hat4⟩ := hgs.1.2.2.2.2 (by omega)
          obtain ⟨_, rfl, _, hatg⟩ := hat4 _ g hg
          have hcg := hgs.2 g (List.mem_of_getElem? hg)
          have hn6 := hgs.1.1
          have hg1 : (lgG [] 0 (ls.map LnA.ln)) = [g.lg] := by rw [← hge]; match gs, hn6, hg with | [y], _, hg => (simp at hg; rw [hg]; rfl) | [], h9, _ => (simp at h9; omega) | _ :: _ :: _, h9, _ => (simp at h9; omega)
          refine T.seq ?_
          refine T.region ?_
          refine TL.val (OpV.move rfl) rfl ?_
          refine TL.val (OpV.move rfl) rfl ?_
          refine TL.val (OpV.indexAddr (j := 0) se_69 rfl hA4 rfl rfl (by omega)) rfl ?_
          refine TL.val (OpV.fieldAddr rfl fo_72_0) rfl ?_
          refine TL.val (OpV.load pl_22 rfl (by first | exact Cel.blk P0 rfl | exact Cel.blk P1 rfl | exact Cel.blk P2 rfl | exact Cel.blk P3 rfl | exact Cel.blk P4 rfl | exact Cel.blk P5 rfl | exact Cel.ownA (hatl 0 _ rfl) | exact Cel.ownA (hatg _ _ rfl))) rfl ?_
          refine TL.call (g := 34) rfl go_34 rfl (fun w1 k1 => one_t (σ := ρ3) (τ := ρ4) w1 0 (L.below k1.bel) (⟨l3, h3, h3e⟩ : LsR ρ3 A3 n3 c3 (ls.map LnA.ln)) hcg (fun b o hb => (k1.get (e := .own ρ3) (by first | exact P0 | exact P1 | exact P2 | exact P3 | exact P4 | exact P5 | exact P6) b o hb).2) (fun b o hb => (k1.get (e := .own ρ4) (by first | exact P0 | exact P1 | exact P2 | exact P3 | exact P4 | exact P5 | exact P6) b o hb).2) (by omega) (by exact one_ok (y := g.lg) hv hg1)) rfl ?_
          refine TL.val (OpV.not rfl) rfl ?_
          refine TL.nil ?_
          refine TE.sub (.cons (t := 0) rfl <| .cons (t := 3) rfl <| .cons (t := 44) rfl <| .nil) ?_
          refine TE.next ?_
          refine T.no rfl ?_
          refine T.skip ?_
          exact TE.met (.cons (t := 0) rfl <| .cons (t := 3) rfl <| .nil) (Perm.kle (.cons (by first | exact P0 | exact P1 | exact P2 | exact P3 | exact P4 | exact P5 | exact P6) (.cons (by first | exact P0 | exact P1 | exact P2 | exact P3 | exact P4 | exact P5 | exact P6) .nil)))
      refine TE.next ?_
      refine T.seq ?_
      refine T.region ?_
      refine TL.val (OpV.move rfl) rfl ?_
      refine TL.callx (g := 36) rfl go_36 rfl (fun wz k1 => own_x k1 (ulines_c wz (L.below k1.bel) h3 (fun b o hb => (k1.get (e := .own ρ3) (by first | exact P0 | exact P1 | exact P2 | exact P3 | exact P4 | exact P5 | exact P6) b o hb).2) (by omega))) rfl ?_
      rintro ⟨A5, n5, c5, τ0⟩ ⟨g0, hg0, _⟩
      replace hg0 : GsW 59 τ0 A5 n5 c5 g0 := hg0
      have hn5c := hg0.1.2.1
      have hn5d := hg0.1.2.2.1
      refine TL.said (t := 47) rfl (show Value.tuple #[SV.v ⟨A5, n5, c5, τ0⟩, _] = Value.tuple #[.slice A5 n5 c5, .int .i64 (linesE (l3.map LnA.ln))] from rfl) ?_
      refine TL.val (OpV.move rfl) rfl ?_
      refine TL.val (OpV.extract rfl rfl) rfl ?_
      refine TL.val (OpV.extract rfl rfl) rfl ?_
      refine TL.val (OpV.assign rfl) rfl ?_
      refine TL.val (OpV.assign rfl) rfl ?_
      refine TL.nil ?_
      refine TE.next ?_
      refine T.seq ?_
      refine T.seq ?_
      refine T.region ?_
      refine TL.val (OpV.assign rfl) rfl ?_
      refine TL.nil ?_
      refine TE.next ?_
      refine T.block ?_
      refine T.loop (ι := Nat × List LgA × (Nat → Option Obj)) (fun ⟨i, gs5, τ⟩ => i ≤ n5 ∧ GsW 59 τ A5 n5 c5 gs5) (fun ⟨i, gs5, τ⟩ => (n5 - i)) (fun ⟨i, gs5, τ⟩ => [(0, .slice A n c), (3, .slice A3 n3 c3), (5, .slice A5 n5 c5), (7, .int .i64 (i : Int))]) (fun ⟨i, gs5, τ⟩ => [.own τ, .own ρ3, .fr σ]) (0, g0, τ0) ⟨Nat.zero_le _, hg0⟩ (.cons (t := 0) rfl <| .cons (t := 3) rfl <| .cons (t := 5) rfl <| .cons (t := 7) rfl <| .nil) (Perm.kle (.cons (by first | exact P0 | exact P1 | exact P2 | exact P3 | exact P4 | exact P5 | exact P6) (.cons (by first | exact P0 | exact P1 | exact P2 | exact P3 | exact P4 | exact P5 | exact P6) (.cons (by first | exact P0 | exact P1 | exact P2 | exact P3 | exact P4 | exact P5 | exact P6) .nil)))) ?_
      rintro ⟨i, gs5, τ⟩ hR
      refine T.seq ?_
      refine T.seq ?_
      refine T.region ?_
      refine TL.val (OpV.move rfl) rfl ?_
      refine TL.val (OpV.move rfl) rfl ?_
      refine TL.val (OpV.len Tryd.underlying69 rfl) rfl ?_
      refine TL.val (OpV.lss rfl rfl) rfl ?_
      refine TL.nil ?_
      refine TE.next ?_
      refine T.cond rfl ?_ ?_
      · intro ht53
        obtain ⟨q1, q2⟩ := hR
        have hi : i < n5 := by have h9 := of_decide_eq_true ht53; omega
        obtain ⟨l, hl⟩ := get_of_lt q2.1.1 hi
        obtain ⟨b, hlA, hlc, hln, hlm, cs, hτ, hcs⟩ := q2.2.1.1 l (List.mem_of_getElem? hl)
        obtain ⟨b5, o5, hA5, hat5⟩ := q2.1.2.2.2.2 (by omega)
        obtain ⟨_, rfl, _, hatl⟩ := hat5 _ l hl
        refine T.skip ?_
        refine TE.next ?_
        refine T.seq ?_
        refine T.block ?_
        refine T.region ?_
        refine TL.val (OpV.move rfl) rfl ?_
        refine TL.val (OpV.move rfl) rfl ?_
        refine TL.val (OpV.indexAddr se_69 rfl hA5 rfl (by rfl) (by first | omega | simp)) rfl ?_
        refine TL.val (OpV.fieldAddr rfl fo_72_0) rfl ?_
        refine TL.val (OpV.load pl_22 rfl (by first | exact Cel.blk P0 rfl | exact Cel.blk P1 rfl | exact Cel.blk P2 rfl | exact Cel.blk P3 rfl | exact Cel.blk P4 rfl | exact Cel.blk P5 rfl | exact Cel.ownA (hatl 0 _ rfl) | exact Cel.ownA (hatg _ _ rfl))) rfl ?_
        refine TL.said (t := 60) rfl (show Value.slice l.A l.n l.c = Value.slice (some ⟨b, 0, none⟩) l.n l.c by rw [hlA]) ?_
        refine TL.kle (Kle.carve hτ) ?_
        refine TL.callx (g := 18) rfl go_18 rfl (fun wz kz => stain_c (b := b) (n := l.n) (c := l.c) wz kz hlc (by omega) hcs) rfl ?_
        rintro ⟨cs2, ys⟩ ⟨hy1, hy2⟩
        refine TL.nil ?_
        refine TE.out ?_
        refine TE.sub (.cons (t := 0) rfl <| .cons (t := 3) rfl <| .cons (t := 5) rfl <| .cons (t := 7) rfl <| .nil) ?_
        refine TE.next ?_
        refine T.region ?_
        refine TL.val (OpV.move rfl) rfl ?_
        refine TL.val (OpV.add rfl rfl (by first | exact IntWalk.i64_in _ ⟨by omega, by omega⟩ | rfl)) rfl ?_
        refine TL.val (OpV.assign rfl) rfl ?_
        refine TL.nil ?_
        exact TE.meet (i + 1, gs5.set i { l with cells := ys }, upd (del τ b) b (.cells cs2.toArray 59 (0, 0))) ⟨⟨by omega, q2.setRow hl hlA hy2 hy1⟩, by simp only; omega⟩ (.cons (t := 0) (by first | rfl | (simp [lk]; done)) <| .cons (t := 3) (by first | rfl | (simp [lk]; done)) <| .cons (t := 5) (by first | rfl | (simp [lk]; done)) <| .cons (t := 7) (by first | rfl | (simp [lk]; done)) <| .nil) ((Kle.trans (Perm.kle (.cons (by first | exact P0 | exact P1 | exact P2 | exact P3 | exact P4 | exact P5 | exact P6) (.cons (by first | exact P0 | exact P1 | exact P2 | exact P3 | exact P4 | exact P5 | exact P6) (.cons (by first | exact P0 | exact P1 | exact P2 | exact P3 | exact P4 | exact P5 | exact P6) (.cons (by first | exact P0 | exact P1 | exact P2 | exact P3 | exact P4 | exact P5 | exact P6) .nil))))) Kle.uncarve))
      · intro ht53
        refine T.exit ?_
        refine TE.pass_exit ?_
        refine TE.pass_exit ?_
        refine TE.here ?_
        refine TE.next ?_
        refine T.seq ?_
        refine T.region ?_
        refine TL.val (OpV.move rfl) rfl ?_
        refine TL.val (OpV.move rfl) rfl ?_
        refine TL.call (g := 37) rfl go_37 rfl (fun w1 k1 => lall_c w1 h3 h (fun b o hb => (k1.get (e := .own ρ3) (by first | exact P0 | exact P1 | exact P2 | exact P3 | exact P4 | exact P5 | exact P6) b o hb).2) (k1.get (e := .fr σ) (by first | exact P0 | exact P1 | exact P2 | exact P3 | exact P4 | exact P5 | exact P6))) rfl ?_
        refine TL.said (t := 64) rfl (show _ = Value.bool true by rw [h3e]; simp) ?_
        refine TL.val (OpV.move rfl) rfl ?_
        refine TL.open rfl rfl ?_
        refine TL.call (g := 30) rfl go_30 rfl (fun w1 k1 => known28_law w1 (L.below k1.bel)) rfl ?_
        refine TL.val ((by first | exact OpV.pick_t rfl rfl | exact OpV.pick_f rfl rfl)) rfl ?_
        refine TL.val (OpV.assign rfl) rfl ?_
        refine TL.nil ?_
        refine TE.sub (.cons (t := 2) rfl <| .nil) ?_
        refine TE.next ?_
        refine T.ret ?_
        refine TE.ret1 rfl (ResV.tmp rfl) ?_
        exact fun w1 k1 => ⟨rfl, k1.bel⟩
end Go.Proofs.YtblpfelhgcggfaaDoor
