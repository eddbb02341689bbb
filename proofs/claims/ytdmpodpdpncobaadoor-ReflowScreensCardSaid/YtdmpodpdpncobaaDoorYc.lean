/-
  The walk of the law ReflowScreens. Condition: the package-level tables hold what they were laid with.
-/
import Derived.Test.YtdmpodpdpncobaaDoorXh
import Derived.Test.YtdmpodpdpncobaaDoorXe
namespace Go.Proofs.YtdmpodpdpncobaaDoor
open Go.RowKit
set_option linter.unusedSimpArgs false
set_option linter.unusedVariables false
theorem go_37 : isGo Tryd.prog 37 = true := by kernel_rfl
theorem go_40 : isGo Tryd.prog 40 = true := by kernel_rfl
theorem go_46 : isGo Tryd.prog 46 = true := by kernel_rfl
theorem go_48 : isGo Tryd.prog 48 = true := by kernel_rfl
theorem go_50 : isGo Tryd.prog 50 = true := by kernel_rfl
set_option maxRecDepth 100000 in
set_option maxHeartbeats 1000000 in
theorem reflowScreens_law {σ : Nat → Option Obj} {A : Option Addr} {n c : Nat} {ls : List LnA} (q mu : Int) (w : World) (L : LaidW w) (h : LsA σ A n c ls) (hs : ∀ b o, σ b = some o → w.heap[b]? = some o) : Calls Tryd.prog 12 #[.slice A n c, .int .i64 q, .int .i64 mu] w (Ret (.bool true) w) := by
 have hn63 := h.1.2.1
 have hc63 := h.1.2.2.1
 have hl1 := h.1.1
 have hXl : (ls.map LnA.ln).length = n := by rw [List.length_map]; exact hl1
 refine calls_T (vs := [.slice A n c, .int .i64 q, .int .i64 mu]) (L0 := [(0, .slice A n c), (1, .int .i64 q), (2, .int .i64 mu)]) Tryd.func12 rfl rfl rfl rfl (KOk.fr1 hs) ?_
 refine T.seq ?_
 refine T.region ?_
 refine TL.val (OpV.assign rfl) rfl ?_
 refine TL.nil ?_
 refine TE.next ?_
 refine T.seq ?_
 refine T.seq ?_
 refine T.cut [(0, .slice A n c), (1, .int .i64 q), (2, .int .i64 mu), (24, .bool (!(few29V (ls.map LnA.ln)) || (decide (100 < q) && decide (q ≤ 1000))))] ([.fr σ]) ?_ ?_
 ·
  refine T.region ?_
  refine TL.val (OpV.move rfl) rfl ?_
  refine TL.call (g := 40) rfl go_40 rfl (fun w1 k1 => few29_c w1 h (k1.get (e := .fr σ) (by first | exact P0 | exact P1 | exact P2 | exact P3 | exact P4 | exact P5 | exact P6 | exact P7 | exact P8))) rfl ?_
  refine TL.val (OpV.not rfl) rfl ?_
  refine TL.val (OpV.move rfl) rfl ?_
  refine TL.part (t := 17) rfl ?_ ?_
  ·
   intro hg17
   refine TL.shut rfl rfl ?_
   refine TL.shut rfl rfl ?_
   refine TL.shut rfl rfl ?_
   refine TL.shutU rfl rfl ?_
   refine TL.shutU rfl rfl ?_
   refine TL.shut rfl rfl ?_
   refine TL.val ((by first | exact OpV.pick_t rfl rfl | exact OpV.pick_f rfl rfl)) rfl ?_
   refine TL.nil ?_
   exact TE.met (.cons (t := 0) rfl <| .cons (t := 1) rfl <| .cons (t := 2) rfl <| .cons (t := 24) (congrArg (fun b => some (Value.bool b)) (by rw [hg17]; rfl)) <| .nil) (Kle.refl)
  ·
   intro hg17
   refine TL.open rfl rfl ?_
   refine TL.val (OpV.move rfl) rfl ?_
   refine TL.open rfl rfl ?_
   refine TL.val (OpV.gtr rfl rfl) rfl ?_
   refine TL.open rfl rfl ?_
   refine TL.val (OpV.move rfl) rfl ?_
   refine TL.part (t := 20) rfl ?_ ?_
   ·
    intro hg20
    refine TL.open rfl rfl ?_
    refine TL.val (OpV.move rfl) rfl ?_
    refine TL.open rfl rfl ?_
    refine TL.val (OpV.leq rfl rfl) rfl ?_
    refine TL.open rfl rfl ?_
    refine TL.val ((by first | exact OpV.pick_t rfl rfl | exact OpV.pick_f rfl rfl)) rfl ?_
    refine TL.val ((by first | exact OpV.pick_t rfl rfl | exact OpV.pick_f rfl rfl)) rfl ?_
    refine TL.nil ?_
    exact TE.met (.cons (t := 0) rfl <| .cons (t := 1) rfl <| .cons (t := 2) rfl <| .cons (t := 24) (congrArg (fun b => some (Value.bool b)) (by rw [hg17, hg20]; rfl)) <| .nil) (Kle.refl)
   ·
    intro hg20
    refine TL.shut rfl rfl ?_
    refine TL.shut rfl rfl ?_
    refine TL.open rfl rfl ?_
    refine TL.val ((by first | exact OpV.pick_t rfl rfl | exact OpV.pick_f rfl rfl)) rfl ?_
    refine TL.val ((by first | exact OpV.pick_t rfl rfl | exact OpV.pick_f rfl rfl)) rfl ?_
    refine TL.nil ?_
    exact TE.met (.cons (t := 0) rfl <| .cons (t := 1) rfl <| .cons (t := 2) rfl <| .cons (t := 24) (congrArg (fun b => some (Value.bool b)) (by rw [hg17, hg20]; rfl)) <| .nil) (Kle.refl)
 refine TE.next ?_
 refine T.cond rfl ?_ ?_
 ·
  intro ht24
  refine T.seq ?_
  refine T.region ?_
  refine TL.call (g := 37) rfl go_37 rfl (fun w1 k1 => known30_law w1 (L.below k1.bel)) rfl ?_
  refine TL.val (OpV.assign rfl) rfl ?_
  refine TL.nil ?_
  refine TE.next ?_
  refine T.ret ?_
  refine TE.pass_ret ?_
  refine TE.ret1 rfl (ResV.tmp rfl) ?_
  exact fun w1 k1 => ⟨rfl, k1.bel⟩
 ·
  intro ht24
  have hfw : (!few29V (ls.map LnA.ln)) = false := by cases hz : (!few29V (ls.map LnA.ln)) with | false => rfl | true => (rw [hz] at ht24; cases ht24)
  have hfew : few29V (ls.map LnA.ln) = true := by simpa using hfw
  have hfb := few29_bd hfew
  have hn12 : n ≤ 12 := by rw [List.length_map, hl1] at hfb; exact hfb.1
  have hcn : ∀ l ∈ ls, l.n ≤ 16 := fun l hl => by have h9 := hfb.2 l.ln (List.mem_map_of_mem hl); have h8 : l.ln.cells.length = l.n := (h.2 l hl).1; omega
  have hb16 : ∀ x ∈ ls.map LnA.cells, x.length ≤ 1000 := fun x hx => by obtain ⟨l, hl, rfl⟩ := List.mem_map.1 hx; have h9 := hcn l hl; have h8 := (h.2 l hl).1; omega
  refine T.skip ?_
  refine TE.next ?_
  refine T.seq ?_
  refine T.seq ?_
  refine T.region ?_
  refine TL.val (OpV.move rfl) rfl ?_
  refine TL.call (g := 48) rfl go_48 rfl (fun w1 k1 => reven_c w1 h (k1.get (e := .fr σ) (by first | exact P0 | exact P1 | exact P2 | exact P3 | exact P4 | exact P5 | exact P6 | exact P7 | exact P8)) (by omega)) rfl ?_
  refine TL.val (OpV.not rfl) rfl ?_
  refine TL.val (OpV.move rfl) rfl ?_
  refine TL.part (t := 29) rfl ?_ ?_
  ·
   intro hg29
   have hbad : evenV (ls.map LnA.ln) = false ∨ q < 1 ∨ 1000 < q := .inl (by simpa using hg29)
   refine TL.shut rfl rfl ?_
   refine TL.shut rfl rfl ?_
   refine TL.val ((by first | exact OpV.pick_t rfl rfl | exact OpV.pick_f rfl rfl)) rfl ?_
   refine TL.val (OpV.move rfl) rfl ?_
   refine TL.shut rfl rfl ?_
   refine TL.shut rfl rfl ?_
   refine TL.val ((by first | exact OpV.pick_t rfl rfl | exact OpV.pick_f rfl rfl)) rfl ?_
   refine TL.nil ?_
   refine TE.sub (.cons (t := 0) rfl <| .cons (t := 1) rfl <| .cons (t := 2) rfl <| .cons (t := 36) rfl <| .nil) ?_
   refine TE.next ?_
   refine T.yes rfl ?_
   refine T.seq ?_
   refine T.region ?_
   refine TL.val (OpV.move rfl) rfl ?_
   refine TL.val (OpV.move rfl) rfl ?_
   refine TL.val (OpV.move rfl) rfl ?_
   refine TL.call (g := 49) rfl go_49 rfl (fun w1 k1 => parts_r (σ := σ) (τ := σ) q mu 0 2 w1 (L.below k1.bel) ⟨ls, h, rfl⟩ (LsR_nil _) (by omega) (k1.get (e := .fr σ) (by first | exact P0 | exact P1 | exact P2 | exact P3 | exact P4 | exact P5 | exact P6 | exact P7 | exact P8)) (k1.get (e := .fr σ) (by first | exact P0 | exact P1 | exact P2 | exact P3 | exact P4 | exact P5 | exact P6 | exact P7 | exact P8))) rfl ?_
   refine TL.said (t := 40) rfl (show _ = Value.bool true from congrArg Value.bool (parts_bad hbad)) ?_
   refine TL.val (OpV.move rfl) rfl ?_
   refine TL.open rfl rfl ?_
   refine TL.call (g := 37) rfl go_37 rfl (fun w1 k1 => known30_law w1 (L.below k1.bel)) rfl ?_
   refine TL.val ((by first | exact OpV.pick_t rfl rfl | exact OpV.pick_f rfl rfl)) rfl ?_
   refine TL.val (OpV.assign rfl) rfl ?_
   refine TL.nil ?_
   refine TE.sub (.cons (t := 6) rfl <| .nil) ?_
   refine TE.next ?_
   refine T.ret ?_
   refine TE.pass_ret ?_
   refine TE.ret1 rfl (ResV.tmp rfl) ?_
   exact fun w1 k1 => ⟨rfl, k1.bel⟩
  ·
   intro hg29
   have hev : evenV (ls.map LnA.ln) = true := by simpa using hg29
   refine TL.open rfl rfl ?_
   refine TL.val (OpV.move rfl) rfl ?_
   refine TL.open rfl rfl ?_
   refine TL.val (OpV.lss rfl rfl) rfl ?_
   refine TL.val ((by first | exact OpV.pick_t rfl rfl | exact OpV.pick_f rfl rfl)) rfl ?_
   refine TL.val (OpV.move rfl) rfl ?_
   refine TL.part (t := 33) rfl ?_ ?_
   ·
    intro hg33
    have hbad : evenV (ls.map LnA.ln) = false ∨ q < 1 ∨ 1000 < q := .inr (.inl (of_decide_eq_true hg33))
    refine TL.shut rfl rfl ?_
    refine TL.shut rfl rfl ?_
    refine TL.val ((by first | exact OpV.pick_t rfl rfl | exact OpV.pick_f rfl rfl)) rfl ?_
    refine TL.nil ?_
    refine TE.sub (.cons (t := 0) rfl <| .cons (t := 1) rfl <| .cons (t := 2) rfl <| .cons (t := 36) rfl <| .nil) ?_
    refine TE.next ?_
    refine T.yes rfl ?_
    refine T.seq ?_
    refine T.region ?_
    refine TL.val (OpV.move rfl) rfl ?_
    refine TL.val (OpV.move rfl) rfl ?_
    refine TL.val (OpV.move rfl) rfl ?_
    refine TL.call (g := 49) rfl go_49 rfl (fun w1 k1 => parts_r (σ := σ) (τ := σ) q mu 0 2 w1 (L.below k1.bel) ⟨ls, h, rfl⟩ (LsR_nil _) (by omega) (k1.get (e := .fr σ) (by first | exact P0 | exact P1 | exact P2 | exact P3 | exact P4 | exact P5 | exact P6 | exact P7 | exact P8)) (k1.get (e := .fr σ) (by first | exact P0 | exact P1 | exact P2 | exact P3 | exact P4 | exact P5 | exact P6 | exact P7 | exact P8))) rfl ?_
    refine TL.said (t := 40) rfl (show _ = Value.bool true from congrArg Value.bool (parts_bad hbad)) ?_
    refine TL.val (OpV.move rfl) rfl ?_
    refine TL.open rfl rfl ?_
    refine TL.call (g := 37) rfl go_37 rfl (fun w1 k1 => known30_law w1 (L.below k1.bel)) rfl ?_
    refine TL.val ((by first | exact OpV.pick_t rfl rfl | exact OpV.pick_f rfl rfl)) rfl ?_
    refine TL.val (OpV.assign rfl) rfl ?_
    refine TL.nil ?_
    refine TE.sub (.cons (t := 6) rfl <| .nil) ?_
    refine TE.next ?_
    refine T.ret ?_
    refine TE.pass_ret ?_
    refine TE.ret1 rfl (ResV.tmp rfl) ?_
    exact fun w1 k1 => ⟨rfl, k1.bel⟩
   ·
    intro hg33
    refine TL.open rfl rfl ?_
    refine TL.val (OpV.move rfl) rfl ?_
    refine TL.open rfl rfl ?_
    refine TL.val (OpV.gtr rfl rfl) rfl ?_
    refine TL.val ((by first | exact OpV.pick_t rfl rfl | exact OpV.pick_f rfl rfl)) rfl ?_
    refine TL.nil ?_
    refine TE.sub (.cons (t := 0) rfl <| .cons (t := 1) rfl <| .cons (t := 2) rfl <| .cons (t := 36) rfl <| .nil) ?_
    refine TE.next ?_
    refine T.cond rfl ?_ ?_
    ·
     intro ht36
     have hbad : evenV (ls.map LnA.ln) = false ∨ q < 1 ∨ 1000 < q := .inr (.inr (of_decide_eq_true ht36))
     refine T.seq ?_
     refine T.region ?_
     refine TL.val (OpV.move rfl) rfl ?_
     refine TL.val (OpV.move rfl) rfl ?_
     refine TL.val (OpV.move rfl) rfl ?_
     refine TL.call (g := 49) rfl go_49 rfl (fun w1 k1 => parts_r (σ := σ) (τ := σ) q mu 0 2 w1 (L.below k1.bel) ⟨ls, h, rfl⟩ (LsR_nil _) (by omega) (k1.get (e := .fr σ) (by first | exact P0 | exact P1 | exact P2 | exact P3 | exact P4 | exact P5 | exact P6 | exact P7 | exact P8)) (k1.get (e := .fr σ) (by first | exact P0 | exact P1 | exact P2 | exact P3 | exact P4 | exact P5 | exact P6 | exact P7 | exact P8))) rfl ?_
     refine TL.said (t := 40) rfl (show _ = Value.bool true from congrArg Value.bool (parts_bad hbad)) ?_
     refine TL.val (OpV.move rfl) rfl ?_
     refine TL.open rfl rfl ?_
     refine TL.call (g := 37) rfl go_37 rfl (fun w1 k1 => known30_law w1 (L.below k1.bel)) rfl ?_
     refine TL.val ((by first | exact OpV.pick_t rfl rfl | exact OpV.pick_f rfl rfl)) rfl ?_
     refine TL.val (OpV.assign rfl) rfl ?_
     refine TL.nil ?_
     refine TE.sub (.cons (t := 6) rfl <| .nil) ?_
     refine TE.next ?_
     refine T.ret ?_
     refine TE.pass_ret ?_
     refine TE.ret1 rfl (ResV.tmp rfl) ?_
     exact fun w1 k1 => ⟨rfl, k1.bel⟩
    ·
     intro ht36
     have e1 := of_decide_eq_false hg33
     have e2 := of_decide_eq_false ht36
     have hvX : vLs (ls.map LnA.ln) = true := by rw [evenV, Bool.and_eq_true] at hev; exact hev.1
     refine T.skip ?_
     refine TE.next ?_
     refine T.seq ?_
     refine T.seq ?_
     refine T.region ?_
     refine TL.val (OpV.move rfl) rfl ?_
     refine TL.val (OpV.lss rfl rfl) rfl ?_
     refine TL.val (OpV.move rfl) rfl ?_
     refine TL.part (t := 46) rfl ?_ ?_
     ·
      intro hg46
      have hout : mu < 0 ∨ ((ls.map LnA.ln).length : Int) ≤ mu := .inl (of_decide_eq_true hg46)
      have e1 := of_decide_eq_false hg33
      have e2 := of_decide_eq_false ht36
      refine TL.shut rfl rfl ?_
      refine TL.shut rfl rfl ?_
      refine TL.shut rfl rfl ?_
      refine TL.shut rfl rfl ?_
      refine TL.val ((by first | exact OpV.pick_t rfl rfl | exact OpV.pick_f rfl rfl)) rfl ?_
      refine TL.nil ?_
      refine TE.sub (.cons (t := 0) rfl <| .cons (t := 1) rfl <| .cons (t := 2) rfl <| .cons (t := 51) rfl <| .nil) ?_
      refine TE.next ?_
      refine T.yes rfl ?_
      refine T.seq ?_
      refine T.region ?_
      refine TL.val (OpV.move rfl) rfl ?_
      refine TL.val (OpV.move rfl) rfl ?_
      refine TL.val (OpV.move rfl) rfl ?_
      refine TL.call (g := 49) rfl go_49 rfl (fun w1 k1 => parts_r (σ := σ) (τ := σ) q mu 0 3 w1 (L.below k1.bel) ⟨ls, h, rfl⟩ (LsR_nil _) (by omega) (k1.get (e := .fr σ) (by first | exact P0 | exact P1 | exact P2 | exact P3 | exact P4 | exact P5 | exact P6 | exact P7 | exact P8)) (k1.get (e := .fr σ) (by first | exact P0 | exact P1 | exact P2 | exact P3 | exact P4 | exact P5 | exact P6 | exact P7 | exact P8))) rfl ?_
      refine TL.said (t := 55) rfl (show _ = Value.bool true from congrArg Value.bool (parts_out hev (by omega) hout)) ?_
      refine TL.val (OpV.move rfl) rfl ?_
      refine TL.open rfl rfl ?_
      refine TL.call (g := 37) rfl go_37 rfl (fun w1 k1 => known30_law w1 (L.below k1.bel)) rfl ?_
      refine TL.val ((by first | exact OpV.pick_t rfl rfl | exact OpV.pick_f rfl rfl)) rfl ?_
      refine TL.val (OpV.assign rfl) rfl ?_
      refine TL.nil ?_
      refine TE.sub (.cons (t := 6) rfl <| .nil) ?_
      refine TE.next ?_
      refine T.ret ?_
      refine TE.pass_ret ?_
      refine TE.ret1 rfl (ResV.tmp rfl) ?_
      exact fun w1 k1 => ⟨rfl, k1.bel⟩
     ·
      intro hg46
      refine TL.open rfl rfl ?_
      refine TL.val (OpV.move rfl) rfl ?_
      refine TL.open rfl rfl ?_
      refine TL.val (OpV.move rfl) rfl ?_
      refine TL.open rfl rfl ?_
      refine TL.val (OpV.len Tryd.underlying22 rfl) rfl ?_
      refine TL.open rfl rfl ?_
      refine TL.val (OpV.geq rfl rfl) rfl ?_
      refine TL.val ((by first | exact OpV.pick_t rfl rfl | exact OpV.pick_f rfl rfl)) rfl ?_
      refine TL.nil ?_
      refine TE.sub (.cons (t := 0) rfl <| .cons (t := 1) rfl <| .cons (t := 2) rfl <| .cons (t := 51) rfl <| .nil) ?_
      refine TE.next ?_
      refine T.cond rfl ?_ ?_
      ·
       intro ht51
       have hout : mu < 0 ∨ ((ls.map LnA.ln).length : Int) ≤ mu := .inr (by rw [hXl]; exact of_decide_eq_true ht51)
       refine T.seq ?_
       refine T.region ?_
       refine TL.val (OpV.move rfl) rfl ?_
       refine TL.val (OpV.move rfl) rfl ?_
       refine TL.val (OpV.move rfl) rfl ?_
       refine TL.call (g := 49) rfl go_49 rfl (fun w1 k1 => parts_r (σ := σ) (τ := σ) q mu 0 3 w1 (L.below k1.bel) ⟨ls, h, rfl⟩ (LsR_nil _) (by omega) (k1.get (e := .fr σ) (by first | exact P0 | exact P1 | exact P2 | exact P3 | exact P4 | exact P5 | exact P6 | exact P7 | exact P8)) (k1.get (e := .fr σ) (by first | exact P0 | exact P1 | exact P2 | exact P3 | exact P4 | exact P5 | exact P6 | exact P7 | exact P8))) rfl ?_
       refine TL.said (t := 55) rfl (show _ = Value.bool true from congrArg Value.bool (parts_out hev (by omega) hout)) ?_
       refine TL.val (OpV.move rfl) rfl ?_
       refine TL.open rfl rfl ?_
       refine TL.call (g := 37) rfl go_37 rfl (fun w1 k1 => known30_law w1 (L.below k1.bel)) rfl ?_
       refine TL.val ((by first | exact OpV.pick_t rfl rfl | exact OpV.pick_f rfl rfl)) rfl ?_
       refine TL.val (OpV.assign rfl) rfl ?_
       refine TL.nil ?_
       refine TE.sub (.cons (t := 6) rfl <| .nil) ?_
       refine TE.next ?_
       refine T.ret ?_
       refine TE.pass_ret ?_
       refine TE.ret1 rfl (ResV.tmp rfl) ?_
       exact fun w1 k1 => ⟨rfl, k1.bel⟩
      ·
       intro ht51
       have e3 := of_decide_eq_false hg46
       have e4 := of_decide_eq_false ht51
       obtain ⟨r, rfl⟩ : ∃ r : Nat, q = (r : Int) := ⟨q.toNat, by omega⟩
       have hm1 : hdN (ls.map LnA.ln) ≤ 1000 := by obtain ⟨z, hz⟩ := get_of_lt hXl (show 0 < n by omega); have h9 := hdN_get hz; have h8 := vLs_row hvX (List.mem_of_getElem? hz); omega
       refine T.skip ?_
       refine TE.next ?_
       refine T.seq ?_
       refine T.region ?_
       refine TL.val (OpV.move rfl) rfl ?_
       refine TL.val (OpV.move rfl) rfl ?_
       refine TL.val (OpV.move rfl) rfl ?_
       refine TL.callx (g := 50) rfl go_50 rfl (fun wz k1 => own_x k1 (rscr_c r mu wz h (k1.get (e := .fr σ) (by first | exact P0 | exact P1 | exact P2 | exact P3 | exact P4 | exact P5 | exact P6 | exact P7 | exact P8)) (by omega) (by omega) (by omega) hm1)) rfl ?_
       rintro ⟨A8, n8, c8, ρ8⟩ h8
       replace h8 : LsR (σ2 ρ8 σ) A8 n8 c8 (screenV (ls.map LnA.ln) (r : Int) mu) := h8
       refine TL.kle (Kle.trans (Perm.kle (.cons (e := .own ρ8) (by first | exact P0 | exact P1 | exact P2 | exact P3 | exact P4 | exact P5 | exact P6 | exact P7 | exact P8) (.cons (e := .fr σ) (by first | exact P0 | exact P1 | exact P2 | exact P3 | exact P4 | exact P5 | exact P6 | exact P7 | exact P8) .nil))) (Kle.trans Kle.ownFr Kle.fr2)) ?_
       refine TL.said (t := 63) rfl (show _ = Value.tuple #[.int .i64 (topV (n : Int) (r : Int) mu), .slice A8 n8 c8] from rfl) ?_
       refine TL.val (OpV.move rfl) rfl ?_
       refine TL.val (OpV.extract rfl rfl) rfl ?_
       refine TL.val (OpV.extract rfl rfl) rfl ?_
       refine TL.val (OpV.assign rfl) rfl ?_
       refine TL.val (OpV.assign rfl) rfl ?_
       refine TL.nil ?_
       refine TE.sub (.cons (t := 0) rfl <| .cons (t := 1) rfl <| .cons (t := 2) rfl <| .cons (t := 7) rfl <| .cons (t := 8) rfl <| .nil) ?_
       refine TE.next ?_
       refine T.seq ?_
       refine T.region ?_
       refine TL.val (OpV.move rfl) rfl ?_
       refine TL.callx (g := 15) rfl go_15 rfl (fun wz k1 => own_x k1 (rcopy_c wz h (k1.get (e := .fr σ) (by first | exact P0 | exact P1 | exact P2 | exact P3 | exact P4 | exact P5 | exact P6 | exact P7 | exact P8)) (by omega) (fun l hl => by have h9 := hcn l hl; omega))) rfl ?_
       rintro ⟨A3, n3, c3, ρ3⟩ ⟨l3, h3, h3e⟩
       replace h3 : LsA ρ3 A3 n3 c3 l3 := h3
       replace h3e : l3.map LnA.ln = (ls.map LnA.ln) := h3e
       have hn3 : n3 = n := by have h9 := congrArg List.length h3e; rw [List.length_map, List.length_map, h3.1.1, hl1] at h9; exact h9
       refine TL.said (t := 67) rfl (show SV.v ⟨A3, n3, c3, ρ3⟩ = Value.slice A3 n3 c3 from rfl) ?_
       refine TL.val (OpV.assign rfl) rfl ?_
       refine TL.nil ?_
       refine TE.next ?_
       refine T.seq ?_
       refine T.seq ?_
       refine T.region ?_
       refine TL.val (OpV.move rfl) rfl ?_
       refine TL.val (OpV.move rfl) rfl ?_
       refine TL.val (OpV.move rfl) rfl ?_
       refine TL.val (OpV.move rfl) rfl ?_
       refine TL.val (OpV.move rfl) rfl ?_
       refine TL.call (g := 49) rfl go_49 rfl (fun w1 k1 => parts_r (σ := ρ3) (τ := σ2 ρ8 σ) (r : Int) mu (topV (n : Int) (r : Int) mu) 0 w1 (L.below k1.bel) (⟨l3, h3, h3e⟩ : LsR ρ3 A3 n3 c3 (ls.map LnA.ln)) h8 (by omega) (fun b o hb => (k1.get (e := .own ρ3) (by first | exact P0 | exact P1 | exact P2 | exact P3 | exact P4 | exact P5 | exact P6 | exact P7 | exact P8) b o hb).2) (k1.get (e := .fr (σ2 ρ8 σ)) (by first | exact P0 | exact P1 | exact P2 | exact P3 | exact P4 | exact P5 | exact P6 | exact P7 | exact P8))) rfl ?_
       refine TL.said (t := 73) rfl (show _ = Value.bool true from congrArg Value.bool ((by have h9 := parts_ok (rows := (r : Int)) (must := mu) hev (by omega) (by rw [hXl]; omega); rwa [hXl] at h9))) ?_
       refine TL.val (OpV.not rfl) rfl ?_
       refine TL.nil ?_
       refine TE.sub (.cons (t := 0) rfl <| .cons (t := 1) rfl <| .cons (t := 2) rfl <| .cons (t := 9) rfl <| .cons (t := 74) rfl <| .nil) ?_
       refine TE.next ?_
       refine T.no rfl ?_
       refine T.skip ?_
       refine TE.next ?_
       refine T.seq ?_
       refine T.region ?_
       refine TL.val (OpV.move rfl) rfl ?_
       refine TL.val (OpV.move rfl) rfl ?_
       refine TL.val (OpV.move rfl) rfl ?_
       refine TL.callx (g := 39) rfl go_39 rfl (fun wz k1 => own_x k1 (scr_c (r : Int) mu wz (L.below k1.bel) h3 (fun b o hb => (k1.get (e := .own ρ3) (by first | exact P0 | exact P1 | exact P2 | exact P3 | exact P4 | exact P5 | exact P6 | exact P7 | exact P8) b o hb).2) (by omega))) rfl ?_
       rintro ⟨A5, n5, c5, τ0⟩ ⟨l5, h5, _⟩
       replace h5 : LsO 58 τ0 (hdN (l3.map LnA.ln)) A5 n5 c5 l5 := h5
       have h51 := h5.1.1.2.1
       have h52 := h5.1.1.2.2.1
       refine TL.said (t := 79) rfl (show _ = Value.tuple #[.int .i64 (scrT (l3.map LnA.ln) (r : Int) mu), .slice A5 n5 c5, .int .i64 (scrE (l3.map LnA.ln) (r : Int) mu)] from rfl) ?_
       obtain ⟨m, hm⟩ : ∃ q, q = hdN (l3.map LnA.ln) := ⟨_, rfl⟩
       rw [← hm] at h5
       refine TL.val (OpV.move rfl) rfl ?_
       refine TL.val (OpV.extract rfl rfl) rfl ?_
       refine TL.val (OpV.extract rfl rfl) rfl ?_
       refine TL.val (OpV.extract rfl rfl) rfl ?_
       refine TL.val (OpV.assign rfl) rfl ?_
       refine TL.val (OpV.assign rfl) rfl ?_
       refine TL.val (OpV.assign rfl) rfl ?_
       refine TL.nil ?_
       refine TE.sub (.cons (t := 0) rfl <| .cons (t := 9) rfl <| .cons (t := 11) rfl <| .nil) ?_
       refine TE.next ?_
       refine T.seq ?_
       refine T.seq ?_
       refine T.region ?_
       refine TL.val (OpV.assign rfl) rfl ?_
       refine TL.nil ?_
       refine TE.next ?_
       refine T.block ?_
       refine T.loop (ι := Nat × List LnA × (Nat → Option Obj)) (fun ⟨i, ls5, τ⟩ => i ≤ n5 ∧ LsO 58 τ m A5 n5 c5 ls5) (fun ⟨i, ls5, τ⟩ => (n5 - i)) (fun ⟨i, ls5, τ⟩ => [(0, .slice A n c), (9, .slice A3 n3 c3), (11, .slice A5 n5 c5), (13, .int .i64 (i : Int))]) (fun ⟨i, ls5, τ⟩ => [.own τ, .own ρ3, .fr σ]) (0, l5, τ0) ⟨Nat.zero_le _, h5⟩ (.cons (t := 0) rfl <| .cons (t := 9) rfl <| .cons (t := 11) rfl <| .cons (t := 13) rfl <| .nil) (Perm.kle (.cons (by first | exact P0 | exact P1 | exact P2 | exact P3 | exact P4 | exact P5 | exact P6 | exact P7 | exact P8) (.cons (by first | exact P0 | exact P1 | exact P2 | exact P3 | exact P4 | exact P5 | exact P6 | exact P7 | exact P8) (.cons (by first | exact P0 | exact P1 | exact P2 | exact P3 | exact P4 | exact P5 | exact P6 | exact P7 | exact P8) .nil)))) ?_
       rintro ⟨i, ls5, τ⟩ hR1
       refine T.seq ?_
       refine T.seq ?_
       refine T.region ?_
       refine TL.val (OpV.move rfl) rfl ?_
       refine TL.val (OpV.move rfl) rfl ?_
       refine TL.val (OpV.len Tryd.underlying22 rfl) rfl ?_
       refine TL.val (OpV.lss rfl rfl) rfl ?_
       refine TL.nil ?_
       refine TE.next ?_
       refine T.cond rfl ?_ ?_
       ·
        intro ht86
        obtain ⟨p1, p2⟩ := hR1
        have hi : i < n5 := by have h9 := of_decide_eq_true ht86; omega
        obtain ⟨l, hl⟩ := get_of_lt p2.1.1.1 hi
        obtain ⟨b8, o8, hA8, hat8⟩ := p2.1.1.2.2.2.2 (by omega)
        obtain ⟨_, rfl, _, hatl⟩ := hat8 _ l hl
        refine T.skip ?_
        refine TE.next ?_
        refine T.seq ?_
        refine T.block ?_
        refine T.region ?_
        refine TL.val (OpV.move rfl) rfl ?_
        refine TL.val (OpV.move rfl) rfl ?_
        refine TL.val (OpV.indexAddr (j := i) se_22 rfl hA8 rfl rfl (by omega)) rfl ?_
        refine TL.val (OpV.fieldAddr rfl fo_65_0) rfl ?_
        refine TL.val (OpV.load pl_35 rfl (by first | exact Cel.blk P0 rfl | exact Cel.blk P1 rfl | exact Cel.blk P2 rfl | exact Cel.blk P3 rfl | exact Cel.blk P4 rfl | exact Cel.ownA (hatl 0 _ rfl))) rfl ?_
        refine TL.callx (g := 46) rfl go_46 rfl (fun wz kz => stainw_c wz kz p2 hl) rfl ?_
        rintro ⟨ls9, τ9⟩ p3
        refine TL.nil ?_
        refine TE.out ?_
        refine TE.sub (.cons (t := 0) rfl <| .cons (t := 9) rfl <| .cons (t := 11) rfl <| .cons (t := 13) rfl <| .nil) ?_
        refine TE.next ?_
        refine T.region ?_
        refine TL.val (OpV.move rfl) rfl ?_
        refine TL.val (OpV.add rfl rfl (by first | exact IntWalk.i64_in _ ⟨by omega, by omega⟩ | rfl)) rfl ?_
        refine TL.val (OpV.assign rfl) rfl ?_
        refine TL.nil ?_
        exact TE.meet (i + 1, ls9, τ9) ⟨⟨by omega, p3⟩, by (try simp only); omega⟩ (.cons (t := 0) (by first | rfl | (simp [lk]; done)) <| .cons (t := 9) (by first | rfl | (simp [lk]; done)) <| .cons (t := 11) (by first | rfl | (simp [lk]; done)) <| .cons (t := 13) (by first | rfl | (simp [lk]; done)) <| .nil) (Perm.kle (.cons (by first | exact P0 | exact P1 | exact P2 | exact P3 | exact P4 | exact P5 | exact P6 | exact P7 | exact P8) (.cons (by first | exact P0 | exact P1 | exact P2 | exact P3 | exact P4 | exact P5 | exact P6 | exact P7 | exact P8) (.cons (by first | exact P0 | exact P1 | exact P2 | exact P3 | exact P4 | exact P5 | exact P6 | exact P7 | exact P8) .nil))))
       ·
        intro ht86
        refine T.exit ?_
        refine TE.pass_exit ?_
        refine TE.pass_exit ?_
        refine TE.here ?_
        refine TE.next ?_
        refine T.seq ?_
        refine T.region ?_
        refine TL.val (OpV.move rfl) rfl ?_
        refine TL.val (OpV.move rfl) rfl ?_
        refine TL.call (g := 20) rfl go_20 rfl (fun w1 k1 => lall_c w1 h3 h (fun b o hb => (k1.get (e := .own ρ3) (by first | exact P0 | exact P1 | exact P2 | exact P3 | exact P4 | exact P5 | exact P6 | exact P7 | exact P8) b o hb).2) (k1.get (e := .fr σ) (by first | exact P0 | exact P1 | exact P2 | exact P3 | exact P4 | exact P5 | exact P6 | exact P7 | exact P8))) rfl ?_
        refine TL.said (t := 97) rfl (show _ = Value.bool true from congrArg Value.bool ((by rw [h3e]; simp))) ?_
        refine TL.val (OpV.move rfl) rfl ?_
        refine TL.open rfl rfl ?_
        refine TL.call (g := 37) rfl go_37 rfl (fun w1 k1 => known30_law w1 (L.below k1.bel)) rfl ?_
        refine TL.val ((by first | exact OpV.pick_t rfl rfl | exact OpV.pick_f rfl rfl)) rfl ?_
        refine TL.val (OpV.assign rfl) rfl ?_
        refine TL.nil ?_
        refine TE.sub (.cons (t := 6) rfl <| .nil) ?_
        refine TE.next ?_
        refine T.ret ?_
        refine TE.ret1 rfl (ResV.tmp rfl) ?_
        exact fun w1 k1 => ⟨rfl, k1.bel⟩
end Go.Proofs.YtdmpodpdpncobaaDoor
