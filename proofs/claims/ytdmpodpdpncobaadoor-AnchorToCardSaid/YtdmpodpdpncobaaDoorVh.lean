/-
  The walk of the law AnchorTo. Condition: the package-level tables hold what they were laid with.
-/
import Derived.Test.YtdmpodpdpncobaaDoorVg
namespace Go.Proofs.YtdmpodpdpncobaaDoor
open Go.RowKit
set_option linter.unusedSimpArgs false
set_option linter.unusedVariables false
set_option maxRecDepth 100000 in
set_option maxHeartbeats 1000000 in
theorem anchorTo_law {σ : Nat → Option Obj} {A : Option Addr} {n c : Nat} {ls : List LnA} (a1 a2 : Int) (w : World) (L : LaidW w) (h : LsA σ A n c ls) (hs : ∀ b o, σ b = some o → w.heap[b]? = some o) : Calls Tryd.prog 3 #[.slice A n c, .agg (anL a1 a2).toArray] w (Ret (.bool true) w) := by
  have hn63 := h.1.2.1
  have hc63 := h.1.2.2.1
  have hl1 := h.1.1
  refine calls_T (vs := [.slice A n c, .agg (anL a1 a2).toArray]) (L0 := [(0, .slice A n c), (1, .agg (anL a1 a2).toArray)]) Tryd.func3 rfl rfl rfl rfl (KOk.fr1 hs) ?_
  refine T.seq ?_
  refine T.region ?_
  refine TL.boxA rfl rfl ?_
  intro b3
  refine TL.val (OpV.assign rfl) rfl ?_
  refine TL.nil ?_
  refine TE.next ?_
  refine T.seq ?_
  refine T.seq ?_
  refine T.region ?_
  refine TL.val (OpV.move rfl) rfl ?_
  refine TL.call (g := 13) rfl go_13 rfl (fun w1 k1 => few29_c w1 h (k1.get (e := .fr σ) (by first | exact P0 | exact P1 | exact P2 | exact P3 | exact P4 | exact P5 | exact P6 | exact P7))) rfl ?_
  refine TL.val (OpV.not rfl) rfl ?_
  refine TL.nil ?_
  refine TE.next ?_
  refine T.cond rfl ?_ ?_
  · intro ht10
    refine T.seq ?_
    refine T.region ?_
    refine TL.call (g := 14) rfl go_14 rfl (fun w1 k1 => known29_law w1 (L.below k1.bel)) rfl ?_
    refine TL.val (OpV.assign rfl) rfl ?_
    refine TL.nil ?_
    refine TE.sub (.cons (t := 4) rfl <| .nil) ?_
    refine TE.next ?_
    refine T.ret ?_
    refine TE.pass_ret ?_
    refine TE.ret1 rfl (ResV.tmp rfl) ?_
    exact fun w1 k1 => ⟨rfl, k1.bel⟩
  · intro ht10
    have hfew : few29V (ls.map LnA.ln) = true := by simpa using ht10
    have hfb := few29_bd hfew
    have hn12 : n ≤ 12 := by rw [List.length_map, hl1] at hfb; exact hfb.1
    have hcn : ∀ l ∈ ls, l.n ≤ 16 := fun l hl => by have h9 := hfb.2 l.ln (List.mem_map_of_mem hl); have h8 : l.ln.cells.length = l.n := (h.2 l hl).1; omega
    have hb16 : ∀ x ∈ ls.map LnA.cells, x.length ≤ 1000 := fun x hx => by obtain ⟨l, hl, rfl⟩ := List.mem_map.1 hx; have h9 := hcn l hl; have h8 := (h.2 l hl).1; omega
    refine T.skip ?_
    refine TE.next ?_
    refine T.seq ?_
    refine T.region ?_
    refine TL.val (OpV.move rfl) rfl ?_
    refine TL.callx (g := 15) rfl go_15 rfl (fun wz k1 => own_x k1 (rcopy_c wz h (k1.get (e := .fr σ) (by first | exact P0 | exact P1 | exact P2 | exact P3 | exact P4 | exact P5 | exact P6 | exact P7)) (by omega) (fun l hl => by have h9 := hcn l hl; omega))) rfl ?_
    rintro ⟨A3, n3, c3, ρ3⟩ ⟨l3, h3, h3e⟩
    replace h3 : LsA ρ3 A3 n3 c3 l3 := h3
    have hn3 : n3 = n := by have h9 := congrArg List.length h3e; rw [List.length_map, List.length_map, h3.1.1, hl1] at h9; exact h9
    refine TL.said (t := 13) rfl (show SV.v ⟨A3, n3, c3, ρ3⟩ = Value.slice A3 n3 c3 from rfl) ?_
    refine TL.val (OpV.assign rfl) rfl ?_
    refine TL.nil ?_
    refine TE.sub (.cons (t := 0) rfl <| .cons (t := 3) rfl <| .cons (t := 5) rfl <| .nil) ?_
    refine TE.next ?_
    refine T.seq ?_
    refine T.seq ?_
    refine T.region ?_
    refine TL.val (OpV.move rfl) rfl ?_
    refine TL.call (g := 16) rfl go_16 rfl (fun w1 k1 => ruvalid_c w1 h (k1.get (e := .fr σ) (by first | exact P0 | exact P1 | exact P2 | exact P3 | exact P4 | exact P5 | exact P6 | exact P7))) rfl ?_
    refine TL.val (OpV.not rfl) rfl ?_
    refine TL.nil ?_
    refine TE.next ?_
    refine T.cond rfl ?_ ?_
    · intro ht16
      have hv : vLs (ls.map LnA.ln) = false := by simpa using ht16
      refine T.seq ?_
      refine T.region ?_
      refine TL.val (OpV.move rfl) rfl ?_
      refine TL.val (OpV.loadA ag_24 rfl (Cels.blkAt (anL a1 a2) (by first | exact P0 | exact P1 | exact P2 | exact P3 | exact P4 | exact P5 | exact P6) rfl rfl)) rfl ?_
      refine TL.call (g := 17) rfl go_17 rfl (fun w1 k1 => tol_r a1 a2 0 0 2 w1 (L.below k1.bel) (⟨l3, h3, h3e⟩ : LsR ρ3 A3 n3 c3 (ls.map LnA.ln)) (by omega) (fun b o hb => (k1.get (e := .own ρ3) (by first | exact P0 | exact P1 | exact P2 | exact P3 | exact P4 | exact P5 | exact P6 | exact P7) b o hb).2)) rfl ?_
      refine TL.said (t := 19) rfl (show _ = Value.bool true from congrArg Value.bool (to_bad hv)) ?_
      refine TL.val (OpV.move rfl) rfl ?_
      refine TL.open rfl rfl ?_
      refine TL.call (g := 14) rfl go_14 rfl (fun w1 k1 => known29_law w1 (L.below k1.bel)) rfl ?_
      refine TL.val ((by first | exact OpV.pick_t rfl rfl | exact OpV.pick_f rfl rfl)) rfl ?_
      refine TL.val (OpV.assign rfl) rfl ?_
      refine TL.nil ?_
      refine TE.sub (.cons (t := 4) rfl <| .nil) ?_
      refine TE.next ?_
      refine T.ret ?_
      refine TE.pass_ret ?_
      refine TE.ret1 rfl (ResV.tmp rfl) ?_
      exact fun w1 k1 => ⟨rfl, k1.bel⟩
    · intro ht16
      have hv : vLs (ls.map LnA.ln) = true := by simpa using ht16
      refine T.skip ?_
      refine TE.next ?_
      refine T.seq ?_
      refine T.seq ?_
      refine T.region ?_
      refine TL.val (OpV.move rfl) rfl ?_
      refine TL.val (OpV.loadA ag_24 rfl (Cels.blkAt (anL a1 a2) (by first | exact P0 | exact P1 | exact P2 | exact P3 | exact P4 | exact P5 | exact P6) rfl rfl)) rfl ?_
      refine TL.call (g := 18) rfl go_18 rfl (fun w1 k1 => rhas_c a1 a2 w1 h (k1.get (e := .fr σ) (by first | exact P0 | exact P1 | exact P2 | exact P3 | exact P4 | exact P5 | exact P6 | exact P7))) rfl ?_
      refine TL.val (OpV.not rfl) rfl ?_
      refine TL.nil ?_
      refine TE.next ?_
      refine T.cond rfl ?_ ?_
      · intro ht26
        have hP : hasP (ls.map LnA.ln) (a1, a2) = false := by simpa using ht26
        refine T.seq ?_
        refine T.region ?_
        refine TL.val (OpV.move rfl) rfl ?_
        refine TL.val (OpV.loadA ag_24 rfl (Cels.blkAt (anL a1 a2) (by first | exact P0 | exact P1 | exact P2 | exact P3 | exact P4 | exact P5 | exact P6) rfl rfl)) rfl ?_
        refine TL.call (g := 17) rfl go_17 rfl (fun w1 k1 => tol_r a1 a2 0 0 3 w1 (L.below k1.bel) (⟨l3, h3, h3e⟩ : LsR ρ3 A3 n3 c3 (ls.map LnA.ln)) (by omega) (fun b o hb => (k1.get (e := .own ρ3) (by first | exact P0 | exact P1 | exact P2 | exact P3 | exact P4 | exact P5 | exact P6 | exact P7) b o hb).2)) rfl ?_
        refine TL.said (t := 29) rfl (show _ = Value.bool true from congrArg Value.bool (to_out hv hP)) ?_
        refine TL.val (OpV.move rfl) rfl ?_
        refine TL.open rfl rfl ?_
        refine TL.call (g := 14) rfl go_14 rfl (fun w1 k1 => known29_law w1 (L.below k1.bel)) rfl ?_
        refine TL.val ((by first | exact OpV.pick_t rfl rfl | exact OpV.pick_f rfl rfl)) rfl ?_
        refine TL.val (OpV.assign rfl) rfl ?_
        refine TL.nil ?_
        refine TE.sub (.cons (t := 4) rfl <| .nil) ?_
        refine TE.next ?_
        refine T.ret ?_
        refine TE.pass_ret ?_
        refine TE.ret1 rfl (ResV.tmp rfl) ?_
        exact fun w1 k1 => ⟨rfl, k1.bel⟩
      · intro ht26
        have hP : hasP (ls.map LnA.ln) (a1, a2) = true := by simpa using ht26
        refine T.skip ?_
        refine TE.sub (.cons (t := 0) rfl <| .cons (t := 3) rfl <| .cons (t := 5) rfl <| .nil) ?_
        refine TE.next ?_
        refine T.seq ?_
        refine T.region ?_
        refine TL.val (OpV.move rfl) rfl ?_
        refine TL.val (OpV.loadA ag_24 rfl (Cels.blkAt (anL a1 a2) (by first | exact P0 | exact P1 | exact P2 | exact P3 | exact P4 | exact P5 | exact P6) rfl rfl)) rfl ?_
        refine TL.call (g := 19) rfl go_19 rfl (fun w1 k1 => rto_c a1 a2 w1 h (by omega) hv hP (k1.get (e := .fr σ) (by first | exact P0 | exact P1 | exact P2 | exact P3 | exact P4 | exact P5 | exact P6 | exact P7))) rfl ?_
        refine TL.val (OpV.move rfl) rfl ?_
        refine TL.val (OpV.extract rfl rfl) rfl ?_
        refine TL.val (OpV.extract rfl rfl) rfl ?_
        refine TL.val (OpV.assign rfl) rfl ?_
        refine TL.val (OpV.assign rfl) rfl ?_
        refine TL.nil ?_
        refine TE.next ?_
        refine T.seq ?_
        refine T.region ?_
        refine TL.val (OpV.move rfl) rfl ?_
        refine TL.val (OpV.loadA ag_24 rfl (Cels.blkAt (anL a1 a2) (by first | exact P0 | exact P1 | exact P2 | exact P3 | exact P4 | exact P5 | exact P6) rfl rfl)) rfl ?_
        refine TL.val (OpV.move rfl) rfl ?_
        refine TL.val (OpV.move rfl) rfl ?_
        refine TL.call (g := 17) rfl go_17 rfl (fun w1 k1 => tol_r a1 a2 (toV (ls.map LnA.ln) (a1, a2)).1 (toV (ls.map LnA.ln) (a1, a2)).2 0 w1 (L.below k1.bel) (⟨l3, h3, h3e⟩ : LsR ρ3 A3 n3 c3 (ls.map LnA.ln)) (by omega) (fun b o hb => (k1.get (e := .own ρ3) (by first | exact P0 | exact P1 | exact P2 | exact P3 | exact P4 | exact P5 | exact P6 | exact P7) b o hb).2)) rfl ?_
        refine TL.said (t := 43) rfl (show _ = Value.bool true from congrArg Value.bool (to_ok hv hP)) ?_
        refine TL.val (OpV.move rfl) rfl ?_
        refine TL.open rfl rfl ?_
        refine TL.val (OpV.move rfl) rfl ?_
        refine TL.open rfl rfl ?_
        refine TL.val (OpV.move rfl) rfl ?_
        refine TL.open rfl rfl ?_
        refine TL.call (g := 20) rfl go_20 rfl (fun w1 k1 => lall_c w1 h3 h (fun b o hb => (k1.get (e := .own ρ3) (by first | exact P0 | exact P1 | exact P2 | exact P3 | exact P4 | exact P5 | exact P6 | exact P7) b o hb).2) (k1.get (e := .fr σ) (by first | exact P0 | exact P1 | exact P2 | exact P3 | exact P4 | exact P5 | exact P6 | exact P7))) rfl ?_
        refine TL.said (t := 47) rfl (show _ = Value.bool true from congrArg Value.bool ((by rw [h3e]; simp))) ?_
        refine TL.val ((by first | exact OpV.pick_t rfl rfl | exact OpV.pick_f rfl rfl)) rfl ?_
        refine TL.val (OpV.move rfl) rfl ?_
        refine TL.open rfl rfl ?_
        refine TL.call (g := 14) rfl go_14 rfl (fun w1 k1 => known29_law w1 (L.below k1.bel)) rfl ?_
        refine TL.val ((by first | exact OpV.pick_t rfl rfl | exact OpV.pick_f rfl rfl)) rfl ?_
        refine TL.val (OpV.assign rfl) rfl ?_
        refine TL.nil ?_
        refine TE.sub (.cons (t := 4) rfl <| .nil) ?_
        refine TE.next ?_
        refine T.ret ?_
        refine TE.ret1 rfl (ResV.tmp rfl) ?_
        exact fun w1 k1 => ⟨rfl, k1.bel⟩
end Go.Proofs.YtdmpodpdpncobaaDoor
