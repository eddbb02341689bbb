/-
  The walk of the law ReflowSames. Condition: the package-level tables hold what they were laid with.
-/
import Derived.Test.YtdmpodpdpncobaaDoorXh
import Derived.Test.YtdmpodpdpncobaaDoorXe
namespace Go.Proofs.YtdmpodpdpncobaaDoor
open Go.RowKit
set_option linter.unusedSimpArgs false
set_option linter.unusedVariables false
theorem go_37 : isGo Tryd.prog 37 = true := by kernel_rfl
theorem go_40 : isGo Tryd.prog 40 = true := by kernel_rfl
theorem go_45 : isGo Tryd.prog 45 = true := by kernel_rfl
theorem go_47 : isGo Tryd.prog 47 = true := by kernel_rfl
set_option maxRecDepth 100000 in
set_option maxHeartbeats 1000000 in
theorem reflowSames_law {σ τ : Nat → Option Obj} {A A2 : Option Addr} {n c n2 c2 : Nat} {ls ms : List LnA} (made : Bool) (u : Int) (w : World) (L : LaidW w) (h : LsA σ A n c ls) (h2 : LsA τ A2 n2 c2 ms) (hs : ∀ b o, σ b = some o → w.heap[b]? = some o) (ht : ∀ b o, τ b = some o → w.heap[b]? = some o) : Calls Tryd.prog 11 #[.slice A n c, .slice A2 n2 c2, .bool made, .int .u8 u] w (Ret (.bool true) w) := by
 have hn63 := h.1.2.1
 have hc63 := h.1.2.2.1
 have hl1 := h.1.1
 have hXl : (ls.map LnA.ln).length = n := by rw [List.length_map]; exact hl1
 have hn64 := h2.1.2.1
 have hc64 := h2.1.2.2.1
 refine calls_T (vs := [.slice A n c, .slice A2 n2 c2, .bool made, .int .u8 u]) (L0 := [(0, .slice A n c), (1, .slice A2 n2 c2), (2, .bool made), (3, .int .u8 u)]) Tryd.func11 rfl rfl rfl rfl (KOk.frs hs ht) ?_
 refine T.seq ?_
 refine T.region ?_
 refine TL.val (OpV.assign rfl) rfl ?_
 refine TL.nil ?_
 refine TE.next ?_
 refine T.seq ?_
 refine T.seq ?_
 refine T.region ?_
 refine TL.val (OpV.move rfl) rfl ?_
 refine TL.call (g := 40) rfl go_40 rfl (fun w1 k1 => few29_c w1 h (k1.get (e := .fr σ) (by first | exact P0 | exact P1 | exact P2 | exact P3 | exact P4 | exact P5 | exact P6 | exact P7 | exact P8))) rfl ?_
 refine TL.val (OpV.not rfl) rfl ?_
 refine TL.val (OpV.move rfl) rfl ?_
 refine TL.part (t := 12) rfl ?_ ?_
 ·
  intro hg12
  refine TL.shut rfl rfl ?_
  refine TL.shut rfl rfl ?_
  refine TL.shut rfl rfl ?_
  refine TL.val ((by first | exact OpV.pick_t rfl rfl | exact OpV.pick_f rfl rfl)) rfl ?_
  refine TL.val (OpV.move rfl) rfl ?_
  refine TL.shut rfl rfl ?_
  refine TL.shut rfl rfl ?_
  refine TL.val ((by first | exact OpV.pick_t rfl rfl | exact OpV.pick_f rfl rfl)) rfl ?_
  refine TL.val (OpV.move rfl) rfl ?_
  refine TL.shut rfl rfl ?_
  refine TL.shut rfl rfl ?_
  refine TL.val ((by first | exact OpV.pick_t rfl rfl | exact OpV.pick_f rfl rfl)) rfl ?_
  refine TL.nil ?_
  refine TE.sub (.cons (t := 0) rfl <| .cons (t := 1) rfl <| .cons (t := 2) rfl <| .cons (t := 3) rfl <| .cons (t := 24) rfl <| .nil) ?_
  refine TE.next ?_
  refine T.yes rfl ?_
  refine T.seq ?_
  refine T.region ?_
  refine TL.call (g := 37) rfl go_37 rfl (fun w1 k1 => known30_law w1 (L.below k1.bel)) rfl ?_
  refine TL.val (OpV.assign rfl) rfl ?_
  refine TL.nil ?_
  refine TE.next ?_
  refine T.ret ?_
  refine TE.pass_ret ?_
  refine TE.ret1 rfl (ResV.tmp rfl) ?_
  exact fun w1 k1 => ⟨rfl, k1.bel⟩
 ·
  intro hg12
  have hfew : few29V (ls.map LnA.ln) = true := by simpa using hg12
  have hfb := few29_bd hfew
  have hn12 : n ≤ 12 := by rw [List.length_map, hl1] at hfb; exact hfb.1
  have hcn : ∀ l ∈ ls, l.n ≤ 16 := fun l hl => by have h9 := hfb.2 l.ln (List.mem_map_of_mem hl); have h8 : l.ln.cells.length = l.n := (h.2 l hl).1; omega
  have hb16 : ∀ x ∈ ls.map LnA.cells, x.length ≤ 1000 := fun x hx => by obtain ⟨l, hl, rfl⟩ := List.mem_map.1 hx; have h9 := hcn l hl; have h8 := (h.2 l hl).1; omega
  refine TL.open rfl rfl ?_
  refine TL.val (OpV.move rfl) rfl ?_
  refine TL.open rfl rfl ?_
  refine TL.call (g := 40) rfl go_40 rfl (fun w1 k1 => few29_c w1 h2 (k1.get (e := .fr τ) (by first | exact P0 | exact P1 | exact P2 | exact P3 | exact P4 | exact P5 | exact P6 | exact P7 | exact P8))) rfl ?_
  refine TL.open rfl rfl ?_
  refine TL.val (OpV.not rfl) rfl ?_
  refine TL.val ((by first | exact OpV.pick_t rfl rfl | exact OpV.pick_f rfl rfl)) rfl ?_
  refine TL.val (OpV.move rfl) rfl ?_
  refine TL.part (t := 17) rfl ?_ ?_
  ·
   intro hg17
   refine TL.shut rfl rfl ?_
   refine TL.shut rfl rfl ?_
   refine TL.val ((by first | exact OpV.pick_t rfl rfl | exact OpV.pick_f rfl rfl)) rfl ?_
   refine TL.val (OpV.move rfl) rfl ?_
   refine TL.shut rfl rfl ?_
   refine TL.shut rfl rfl ?_
   refine TL.val ((by first | exact OpV.pick_t rfl rfl | exact OpV.pick_f rfl rfl)) rfl ?_
   refine TL.nil ?_
   refine TE.sub (.cons (t := 0) rfl <| .cons (t := 1) rfl <| .cons (t := 2) rfl <| .cons (t := 3) rfl <| .cons (t := 24) rfl <| .nil) ?_
   refine TE.next ?_
   refine T.yes rfl ?_
   refine T.seq ?_
   refine T.region ?_
   refine TL.call (g := 37) rfl go_37 rfl (fun w1 k1 => known30_law w1 (L.below k1.bel)) rfl ?_
   refine TL.val (OpV.assign rfl) rfl ?_
   refine TL.nil ?_
   refine TE.next ?_
   refine T.ret ?_
   refine TE.pass_ret ?_
   refine TE.ret1 rfl (ResV.tmp rfl) ?_
   exact fun w1 k1 => ⟨rfl, k1.bel⟩
  ·
   intro hg17
   have hfew2 : few29V (ms.map LnA.ln) = true := by simpa using hg17
   have hfb2 := few29_bd hfew2
   have hn212 : n2 ≤ 12 := by rw [List.length_map, h2.1.1] at hfb2; exact hfb2.1
   refine TL.open rfl rfl ?_
   refine TL.val (OpV.move rfl) rfl ?_
   refine TL.open rfl rfl ?_
   refine TL.val (OpV.lss rfl rfl) rfl ?_
   refine TL.val ((by first | exact OpV.pick_t rfl rfl | exact OpV.pick_f rfl rfl)) rfl ?_
   refine TL.val (OpV.move rfl) rfl ?_
   refine TL.part (t := 21) rfl ?_ ?_
   ·
    intro hg21
    refine TL.shut rfl rfl ?_
    refine TL.shut rfl rfl ?_
    refine TL.val ((by first | exact OpV.pick_t rfl rfl | exact OpV.pick_f rfl rfl)) rfl ?_
    refine TL.nil ?_
    refine TE.sub (.cons (t := 0) rfl <| .cons (t := 1) rfl <| .cons (t := 2) rfl <| .cons (t := 3) rfl <| .cons (t := 24) rfl <| .nil) ?_
    refine TE.next ?_
    refine T.yes rfl ?_
    refine T.seq ?_
    refine T.region ?_
    refine TL.call (g := 37) rfl go_37 rfl (fun w1 k1 => known30_law w1 (L.below k1.bel)) rfl ?_
    refine TL.val (OpV.assign rfl) rfl ?_
    refine TL.nil ?_
    refine TE.next ?_
    refine T.ret ?_
    refine TE.pass_ret ?_
    refine TE.ret1 rfl (ResV.tmp rfl) ?_
    exact fun w1 k1 => ⟨rfl, k1.bel⟩
   ·
    intro hg21
    refine TL.open rfl rfl ?_
    refine TL.val (OpV.move rfl) rfl ?_
    refine TL.open rfl rfl ?_
    refine TL.val (OpV.gtr rfl rfl) rfl ?_
    refine TL.val ((by first | exact OpV.pick_t rfl rfl | exact OpV.pick_f rfl rfl)) rfl ?_
    refine TL.nil ?_
    refine TE.sub (.cons (t := 0) rfl <| .cons (t := 1) rfl <| .cons (t := 2) rfl <| .cons (t := 3) rfl <| .cons (t := 24) rfl <| .nil) ?_
    refine TE.next ?_
    refine T.cond rfl ?_ ?_
    ·
     intro ht24
     refine T.seq ?_
     refine T.region ?_
     refine TL.call (g := 37) rfl go_37 rfl (fun w1 k1 => known30_law w1 (L.below k1.bel)) rfl ?_
     refine TL.val (OpV.assign rfl) rfl ?_
     refine TL.nil ?_
     refine TE.next ?_
     refine T.ret ?_
     refine TE.pass_ret ?_
     refine TE.ret1 rfl (ResV.tmp rfl) ?_
     exact fun w1 k1 => ⟨rfl, k1.bel⟩
    ·
     intro ht24
     have e1 := of_decide_eq_false hg21
     have e2 := of_decide_eq_false ht24
     obtain ⟨m, rfl⟩ : ∃ m : Nat, u = (m : Int) := ⟨u.toNat, by omega⟩
     have LX : LsR σ A n c (ls.map LnA.ln) := ⟨ls, h, rfl⟩
     have LY : LsR τ A2 n2 c2 (ms.map LnA.ln) := ⟨ms, h2, rfl⟩
     refine T.skip ?_
     refine TE.next ?_
     refine T.seq ?_
     refine T.seq ?_
     refine T.region ?_
     refine TL.val (OpV.move rfl) rfl ?_
     refine TL.val (OpV.move rfl) rfl ?_
     refine TL.part (t := 27) rfl ?_ ?_
     ·
      intro hg27
      refine TL.open rfl rfl ?_
      refine TL.val (OpV.move rfl) rfl ?_
      refine TL.open rfl rfl ?_
      refine TL.call (g := 16) rfl go_16 rfl (fun w1 k1 => ruvalid_c w1 h (k1.get (e := .fr σ) (by first | exact P0 | exact P1 | exact P2 | exact P3 | exact P4 | exact P5 | exact P6 | exact P7 | exact P8))) rfl ?_
      refine TL.val ((by first | exact OpV.pick_t rfl rfl | exact OpV.pick_f rfl rfl)) rfl ?_
      refine TL.nil ?_
      refine TE.next ?_
      refine T.cond rfl ?_ ?_
      ·
       intro ht30
       have hv : vLs (ls.map LnA.ln) = true := ht30
       have hf : fineB (lgG [] 0 (ls.map LnA.ln)) (m : Int) = true := fine_of hv (by rw [hXl]; omega) (by omega)
       refine T.region ?_
       refine TL.val (OpV.move rfl) rfl ?_
       refine TL.val (OpV.move rfl) rfl ?_
       refine TL.val (OpV.conv Tryd.underlying5 Tryd.underlying3 rfl (by first | exact IntWalk.i64_in _ ⟨by omega, by omega⟩ | rfl)) rfl ?_
       refine TL.callx (g := 45) rfl go_45 rfl (fun wz k1 => own_x k1 (rrl_c (m : Int) wz h (k1.get (e := .fr σ) (by first | exact P0 | exact P1 | exact P2 | exact P3 | exact P4 | exact P5 | exact P6 | exact P7 | exact P8)) (by omega) hv hf)) rfl ?_
       rintro ⟨A9, n9, c9, ρ9⟩ h9
       replace h9 : LsR ρ9 A9 n9 c9 (flowV (lgG [] 0 (ls.map LnA.ln)) (m : Int)) := h9
       have hn9 : n9 ≤ 204 := by have h8 := flow_few hfew hf; obtain ⟨l9, g1, g2⟩ := h9; have h7 := congrArg List.length g2; rw [List.length_map, g1.1.1] at h7; omega
       refine TL.said (t := 34) rfl (show SV.v ⟨A9, n9, c9, ρ9⟩ = Value.slice A9 n9 c9 from rfl) ?_
       refine TL.val (OpV.assign rfl) rfl ?_
       refine TL.nil ?_
       refine TE.sub (.cons (t := 0) rfl <| .cons (t := 1) rfl <| .nil) ?_
       refine TE.next ?_
       refine T.seq ?_
       refine T.region ?_
       refine TL.val (OpV.move rfl) rfl ?_
       refine TL.val (OpV.move rfl) rfl ?_
       refine TL.call (g := 42) rfl go_42 rfl (fun w1 k1 => same30_r w1 (L.below k1.bel) LX h9 (by omega) (by omega) (k1.get (e := .fr σ) (by first | exact P0 | exact P1 | exact P2 | exact P3 | exact P4 | exact P5 | exact P6 | exact P7 | exact P8)) (fun b o hb => (k1.get (e := .own ρ9) (by first | exact P0 | exact P1 | exact P2 | exact P3 | exact P4 | exact P5 | exact P6 | exact P7 | exact P8) b o hb).2)) rfl ?_
       refine TL.val (OpV.move rfl) rfl ?_
       refine TL.val (OpV.move rfl) rfl ?_
       refine TL.call (g := 47) rfl go_47 rfl (fun w1 k1 => rsame30_r w1 LX h9 (by omega) (by omega) (k1.get (e := .fr σ) (by first | exact P0 | exact P1 | exact P2 | exact P3 | exact P4 | exact P5 | exact P6 | exact P7 | exact P8)) (fun b o hb => (k1.get (e := .own ρ9) (by first | exact P0 | exact P1 | exact P2 | exact P3 | exact P4 | exact P5 | exact P6 | exact P7 | exact P8) b o hb).2)) rfl ?_
       refine TL.val (OpV.beql Tryd.underlying4 rfl rfl) rfl ?_
       refine TL.said (t := 41) rfl (show _ = Value.bool true from congrArg Value.bool ((by simp))) ?_
       refine TL.val (OpV.move rfl) rfl ?_
       refine TL.open rfl rfl ?_
       refine TL.val (OpV.move rfl) rfl ?_
       refine TL.open rfl rfl ?_
       refine TL.val (OpV.move rfl) rfl ?_
       refine TL.open rfl rfl ?_
       refine TL.call (g := 42) rfl go_42 rfl (fun w1 k1 => same30_r w1 (L.below k1.bel) h9 LX (by omega) (by omega) (fun b o hb => (k1.get (e := .own ρ9) (by first | exact P0 | exact P1 | exact P2 | exact P3 | exact P4 | exact P5 | exact P6 | exact P7 | exact P8) b o hb).2) (k1.get (e := .fr σ) (by first | exact P0 | exact P1 | exact P2 | exact P3 | exact P4 | exact P5 | exact P6 | exact P7 | exact P8))) rfl ?_
       refine TL.open rfl rfl ?_
       refine TL.val (OpV.move rfl) rfl ?_
       refine TL.open rfl rfl ?_
       refine TL.val (OpV.move rfl) rfl ?_
       refine TL.open rfl rfl ?_
       refine TL.call (g := 47) rfl go_47 rfl (fun w1 k1 => rsame30_r w1 h9 LX (by omega) (by omega) (fun b o hb => (k1.get (e := .own ρ9) (by first | exact P0 | exact P1 | exact P2 | exact P3 | exact P4 | exact P5 | exact P6 | exact P7 | exact P8) b o hb).2) (k1.get (e := .fr σ) (by first | exact P0 | exact P1 | exact P2 | exact P3 | exact P4 | exact P5 | exact P6 | exact P7 | exact P8))) rfl ?_
       refine TL.open rfl rfl ?_
       refine TL.val (OpV.beql Tryd.underlying4 rfl rfl) rfl ?_
       refine TL.said (t := 49) rfl (show _ = Value.bool true from congrArg Value.bool ((by simp))) ?_
       refine TL.val ((by first | exact OpV.pick_t rfl rfl | exact OpV.pick_f rfl rfl)) rfl ?_
       refine TL.val (OpV.move rfl) rfl ?_
       refine TL.open rfl rfl ?_
       refine TL.call (g := 37) rfl go_37 rfl (fun w1 k1 => known30_law w1 (L.below k1.bel)) rfl ?_
       refine TL.val ((by first | exact OpV.pick_t rfl rfl | exact OpV.pick_f rfl rfl)) rfl ?_
       refine TL.val (OpV.assign rfl) rfl ?_
       refine TL.nil ?_
       refine TE.sub (.cons (t := 8) rfl <| .nil) ?_
       refine TE.next ?_
       refine T.ret ?_
       refine TE.ret1 rfl (ResV.tmp rfl) ?_
       exact fun w1 k1 => ⟨rfl, k1.bel⟩
      ·
       intro ht30
       refine T.skip ?_
       refine TE.sub (.cons (t := 0) rfl <| .cons (t := 1) rfl <| .nil) ?_
       refine TE.next ?_
       refine T.seq ?_
       refine T.region ?_
       refine TL.val (OpV.move rfl) rfl ?_
       refine TL.val (OpV.move rfl) rfl ?_
       refine TL.call (g := 42) rfl go_42 rfl (fun w1 k1 => same30_r w1 (L.below k1.bel) LX LY (by omega) (by omega) (k1.get (e := .fr σ) (by first | exact P0 | exact P1 | exact P2 | exact P3 | exact P4 | exact P5 | exact P6 | exact P7 | exact P8)) (k1.get (e := .fr τ) (by first | exact P0 | exact P1 | exact P2 | exact P3 | exact P4 | exact P5 | exact P6 | exact P7 | exact P8))) rfl ?_
       refine TL.val (OpV.move rfl) rfl ?_
       refine TL.val (OpV.move rfl) rfl ?_
       refine TL.call (g := 47) rfl go_47 rfl (fun w1 k1 => rsame30_r w1 LX LY (by omega) (by omega) (k1.get (e := .fr σ) (by first | exact P0 | exact P1 | exact P2 | exact P3 | exact P4 | exact P5 | exact P6 | exact P7 | exact P8)) (k1.get (e := .fr τ) (by first | exact P0 | exact P1 | exact P2 | exact P3 | exact P4 | exact P5 | exact P6 | exact P7 | exact P8))) rfl ?_
       refine TL.val (OpV.beql Tryd.underlying4 rfl rfl) rfl ?_
       refine TL.said (t := 41) rfl (show _ = Value.bool true from congrArg Value.bool ((by simp))) ?_
       refine TL.val (OpV.move rfl) rfl ?_
       refine TL.open rfl rfl ?_
       refine TL.val (OpV.move rfl) rfl ?_
       refine TL.open rfl rfl ?_
       refine TL.val (OpV.move rfl) rfl ?_
       refine TL.open rfl rfl ?_
       refine TL.call (g := 42) rfl go_42 rfl (fun w1 k1 => same30_r w1 (L.below k1.bel) LY LX (by omega) (by omega) (k1.get (e := .fr τ) (by first | exact P0 | exact P1 | exact P2 | exact P3 | exact P4 | exact P5 | exact P6 | exact P7 | exact P8)) (k1.get (e := .fr σ) (by first | exact P0 | exact P1 | exact P2 | exact P3 | exact P4 | exact P5 | exact P6 | exact P7 | exact P8))) rfl ?_
       refine TL.open rfl rfl ?_
       refine TL.val (OpV.move rfl) rfl ?_
       refine TL.open rfl rfl ?_
       refine TL.val (OpV.move rfl) rfl ?_
       refine TL.open rfl rfl ?_
       refine TL.call (g := 47) rfl go_47 rfl (fun w1 k1 => rsame30_r w1 LY LX (by omega) (by omega) (k1.get (e := .fr τ) (by first | exact P0 | exact P1 | exact P2 | exact P3 | exact P4 | exact P5 | exact P6 | exact P7 | exact P8)) (k1.get (e := .fr σ) (by first | exact P0 | exact P1 | exact P2 | exact P3 | exact P4 | exact P5 | exact P6 | exact P7 | exact P8))) rfl ?_
       refine TL.open rfl rfl ?_
       refine TL.val (OpV.beql Tryd.underlying4 rfl rfl) rfl ?_
       refine TL.said (t := 49) rfl (show _ = Value.bool true from congrArg Value.bool ((by simp))) ?_
       refine TL.val ((by first | exact OpV.pick_t rfl rfl | exact OpV.pick_f rfl rfl)) rfl ?_
       refine TL.val (OpV.move rfl) rfl ?_
       refine TL.open rfl rfl ?_
       refine TL.call (g := 37) rfl go_37 rfl (fun w1 k1 => known30_law w1 (L.below k1.bel)) rfl ?_
       refine TL.val ((by first | exact OpV.pick_t rfl rfl | exact OpV.pick_f rfl rfl)) rfl ?_
       refine TL.val (OpV.assign rfl) rfl ?_
       refine TL.nil ?_
       refine TE.sub (.cons (t := 8) rfl <| .nil) ?_
       refine TE.next ?_
       refine T.ret ?_
       refine TE.ret1 rfl (ResV.tmp rfl) ?_
       exact fun w1 k1 => ⟨rfl, k1.bel⟩
     ·
      intro hg27
      refine TL.shut rfl rfl ?_
      refine TL.shut rfl rfl ?_
      refine TL.val ((by first | exact OpV.pick_t rfl rfl | exact OpV.pick_f rfl rfl)) rfl ?_
      refine TL.nil ?_
      refine TE.next ?_
      refine T.no rfl ?_
      refine T.skip ?_
      refine TE.sub (.cons (t := 0) rfl <| .cons (t := 1) rfl <| .nil) ?_
      refine TE.next ?_
      refine T.seq ?_
      refine T.region ?_
      refine TL.val (OpV.move rfl) rfl ?_
      refine TL.val (OpV.move rfl) rfl ?_
      refine TL.call (g := 42) rfl go_42 rfl (fun w1 k1 => same30_r w1 (L.below k1.bel) LX LY (by omega) (by omega) (k1.get (e := .fr σ) (by first | exact P0 | exact P1 | exact P2 | exact P3 | exact P4 | exact P5 | exact P6 | exact P7 | exact P8)) (k1.get (e := .fr τ) (by first | exact P0 | exact P1 | exact P2 | exact P3 | exact P4 | exact P5 | exact P6 | exact P7 | exact P8))) rfl ?_
      refine TL.val (OpV.move rfl) rfl ?_
      refine TL.val (OpV.move rfl) rfl ?_
      refine TL.call (g := 47) rfl go_47 rfl (fun w1 k1 => rsame30_r w1 LX LY (by omega) (by omega) (k1.get (e := .fr σ) (by first | exact P0 | exact P1 | exact P2 | exact P3 | exact P4 | exact P5 | exact P6 | exact P7 | exact P8)) (k1.get (e := .fr τ) (by first | exact P0 | exact P1 | exact P2 | exact P3 | exact P4 | exact P5 | exact P6 | exact P7 | exact P8))) rfl ?_
      refine TL.val (OpV.beql Tryd.underlying4 rfl rfl) rfl ?_
      refine TL.said (t := 41) rfl (show _ = Value.bool true from congrArg Value.bool ((by simp))) ?_
      refine TL.val (OpV.move rfl) rfl ?_
      refine TL.open rfl rfl ?_
      refine TL.val (OpV.move rfl) rfl ?_
      refine TL.open rfl rfl ?_
      refine TL.val (OpV.move rfl) rfl ?_
      refine TL.open rfl rfl ?_
      refine TL.call (g := 42) rfl go_42 rfl (fun w1 k1 => same30_r w1 (L.below k1.bel) LY LX (by omega) (by omega) (k1.get (e := .fr τ) (by first | exact P0 | exact P1 | exact P2 | exact P3 | exact P4 | exact P5 | exact P6 | exact P7 | exact P8)) (k1.get (e := .fr σ) (by first | exact P0 | exact P1 | exact P2 | exact P3 | exact P4 | exact P5 | exact P6 | exact P7 | exact P8))) rfl ?_
      refine TL.open rfl rfl ?_
      refine TL.val (OpV.move rfl) rfl ?_
      refine TL.open rfl rfl ?_
      refine TL.val (OpV.move rfl) rfl ?_
      refine TL.open rfl rfl ?_
      refine TL.call (g := 47) rfl go_47 rfl (fun w1 k1 => rsame30_r w1 LY LX (by omega) (by omega) (k1.get (e := .fr τ) (by first | exact P0 | exact P1 | exact P2 | exact P3 | exact P4 | exact P5 | exact P6 | exact P7 | exact P8)) (k1.get (e := .fr σ) (by first | exact P0 | exact P1 | exact P2 | exact P3 | exact P4 | exact P5 | exact P6 | exact P7 | exact P8))) rfl ?_
      refine TL.open rfl rfl ?_
      refine TL.val (OpV.beql Tryd.underlying4 rfl rfl) rfl ?_
      refine TL.said (t := 49) rfl (show _ = Value.bool true from congrArg Value.bool ((by simp))) ?_
      refine TL.val ((by first | exact OpV.pick_t rfl rfl | exact OpV.pick_f rfl rfl)) rfl ?_
      refine TL.val (OpV.move rfl) rfl ?_
      refine TL.open rfl rfl ?_
      refine TL.call (g := 37) rfl go_37 rfl (fun w1 k1 => known30_law w1 (L.below k1.bel)) rfl ?_
      refine TL.val ((by first | exact OpV.pick_t rfl rfl | exact OpV.pick_f rfl rfl)) rfl ?_
      refine TL.val (OpV.assign rfl) rfl ?_
      refine TL.nil ?_
      refine TE.sub (.cons (t := 8) rfl <| .nil) ?_
      refine TE.next ?_
      refine T.ret ?_
      refine TE.ret1 rfl (ResV.tmp rfl) ?_
      exact fun w1 k1 => ⟨rfl, k1.bel⟩
end Go.Proofs.YtdmpodpdpncobaaDoor
