/-
  The walks of the reference's Lines, Spoils and Screen. No condition.
-/
import Derived.Test.YtdmpodpdpncobaaDoorRfl
import Derived.Test.YtdmpodpdpncobaaDoorUd
import Derived.Test.YtdmpodpdpncobaaDoorWo
namespace Go.Proofs.YtdmpodpdpncobaaDoor
open Go.RowKit
set_option linter.unusedSimpArgs false
set_option linter.unusedVariables false
theorem go_30 : isGo Tryd.prog 30 = true := by kernel_rfl
set_option maxRecDepth 100000 in
set_option maxHeartbeats 1000000 in
theorem rrl_c {σ : Nat → Option Obj} {A : Option Addr} {n c : Nat} {ls : List LnA} (cols : Int) (w : World) (h : LsA σ A n c ls) (hs : ∀ b o, σ b = some o → w.heap[b]? = some o) (hn : n ≤ 20000) (hv : vLs (ls.map LnA.ln) = true) (hf : fineB (lgG [] 0 (ls.map LnA.ln)) cols = true) : Calls Tryd.prog 45 #[.slice A n c, .int .i64 cols] w (fun e w' => ∃ v : SV, e = .returned v.v ∧ LsR v.σ v.A v.n v.c (flowV (lgG [] 0 (ls.map LnA.ln)) cols) ∧ KOk w [.own v.σ] w') := by
 have hn63 := h.1.2.1
 have hc63 := h.1.2.2.1
 have hl1 := h.1.1
 have hXl : (ls.map LnA.ln).length = n := by rw [List.length_map]; exact hl1
 refine calls_T (vs := [.slice A n c, .int .i64 cols]) (L0 := [(0, .slice A n c), (1, .int .i64 cols)]) Tryd.func45 rfl rfl rfl rfl (KOk.fr1 hs) ?_
 refine T.seq ?_
 refine T.region ?_
 refine TL.val (OpV.assign rfl) rfl ?_
 refine TL.nil ?_
 refine TE.next ?_
 refine T.seq ?_
 refine T.region ?_
 refine TL.val (OpV.assign rfl) rfl ?_
 refine TL.nil ?_
 refine TE.next ?_
 refine T.seq ?_
 refine T.region ?_
 refine TL.val (OpV.move rfl) rfl ?_
 refine TL.callx (g := 26) rfl go_26 rfl (fun wz k1 => own_x k1 (rlines_c wz h (k1.get (e := .fr σ) (by first | exact P0 | exact P1 | exact P2 | exact P3 | exact P4 | exact P5 | exact P6 | exact P7)) (by omega) (LsA.len h hv))) rfl ?_
 rintro ⟨A6, n6, c6, ρ⟩ ⟨gs, hgs, hge⟩
 replace hgs : GsA ρ A6 n6 c6 gs := hgs
 refine TL.said (t := 9) rfl (show SV.v ⟨A6, n6, c6, ρ⟩ = Value.slice A6 n6 c6 from rfl) ?_
 have hgs1 := hgs.1.1
 have hgs2 := hgs.1.2.1
 have hgs3 := hgs.1.2.2.1
 have hn6 : n6 ≤ n := by have h9 := okG_len _ 0 (ok_lines hv); rw [← hge, List.length_map, hgs.1.1, List.length_map, hl1] at h9; omega
 refine TL.val (OpV.assign rfl) rfl ?_
 refine TL.nil ?_
 refine TE.next ?_
 refine T.seq ?_
 refine T.seq ?_
 refine T.region ?_
 refine TL.val (OpV.assign rfl) rfl ?_
 refine TL.nil ?_
 refine TE.next ?_
 refine T.block ?_
 refine T.loop (ι := Nat × FV) (fun ⟨q, As, cs, os, τ⟩ => q ≤ n6 ∧ os.map LnA.ln = flowV ((gs.map LgA.lg).take q) cols ∧ (∀ l ∈ os, CsR τ l.A l.n l.c l.cells) ∧ (As = none → cs = 0) ∧ (os.length : Int) = rwS cols ((gs.map LgA.lg).take q)) (fun ⟨q, As, cs, os, τ⟩ => (n6 - q)) (fun ⟨q, As, cs, os, τ⟩ => [(1, .int .i64 cols), (5, .slice As os.length cs), (6, .slice A6 n6 c6), (7, .int .i64 (q : Int))]) (fun ⟨q, As, cs, os, τ⟩ => [.row 65 2 As os.length cs (fll os), .own τ, .own ρ, .fr σ]) (0, FV.mk none 0 [] (fun _ => none)) ⟨Nat.zero_le _, rfl, fun l hl => (by cases hl), fun _ => rfl, rfl⟩ (.cons (t := 1) rfl <| .cons (t := 5) rfl <| .cons (t := 6) rfl <| .cons (t := 7) rfl <| .nil) ((fun wz kz => Perm.kle (.cons (by first | exact P0 | exact P1 | exact P2 | exact P3 | exact P4 | exact P5 | exact P6 | exact P7) (.cons (by first | exact P0 | exact P1 | exact P2 | exact P3 | exact P4 | exact P5 | exact P6 | exact P7) (.cons (by first | exact P0 | exact P1 | exact P2 | exact P3 | exact P4 | exact P5 | exact P6 | exact P7) (.cons (by first | exact P0 | exact P1 | exact P2 | exact P3 | exact P4 | exact P5 | exact P6 | exact P7) .nil)))) wz (Kle.nilRow 65 2 wz (KOk.ownNil kz)))) ?_
 rintro ⟨q, As, cs, os, τ⟩ hR
 refine T.seq ?_
 refine T.seq ?_
 refine T.region ?_
 refine TL.val (OpV.move rfl) rfl ?_
 refine TL.val (OpV.move rfl) rfl ?_
 refine TL.val (OpV.len Tryd.underlying34 rfl) rfl ?_
 refine TL.val (OpV.lss rfl rfl) rfl ?_
 refine TL.nil ?_
 refine TE.next ?_
 refine T.cond rfl ?_ ?_
 ·
  intro ht13
  obtain ⟨q1, q2, q3, q4, q5⟩ := hR
  have hq : q < n6 := by have h9 := of_decide_eq_true ht13; omega
  obtain ⟨g, hg⟩ := get_of_lt hgs.1.1 hq
  obtain ⟨b2, o2, hA2, hat2⟩ := hgs.1.2.2.2.2 (by omega)
  obtain ⟨_, rfl, _, hatg⟩ := hat2 _ g hg
  have hcg := hgs.2 g (List.mem_of_getElem? hg)
  have hG : (gs.map LgA.lg)[q]? = some g.lg := by simp [hg]
  have hvg : vW g.cells cols = true := fine_at (by rw [hge]; exact hf) hG
  have hcb : ∀ g ∈ (gs.map LgA.lg), g.cells.length ≤ 20000000 := by rw [hge]; exact okG_cells hv (by rw [hXl]; exact hn)
  have hrb := rwS_len (cols := cols) ((gs.map LgA.lg).take q) (fun g hg => hcb g (List.mem_of_mem_take hg))
  have hrl : ((gs.map LgA.lg).take q).length ≤ 20000 := by rw [List.length_take, List.length_map, hgs.1.1]; omega
  have hrs : rwS cols ((gs.map LgA.lg).take (q + 1)) = rwS cols ((gs.map LgA.lg).take q) + rowsV g.cells cols := rwS_snoc hG
  have hrv := rowsV_len g.cells cols
  have hwl := wrapV_len hvg
  have hgb : g.cells.length ≤ 20000000 := hcb g.lg (List.mem_of_getElem? hG)
  refine T.skip ?_
  refine TE.next ?_
  refine T.seq ?_
  refine T.block ?_
  refine T.region ?_
  refine TL.val (OpV.move rfl) rfl ?_
  refine TL.val (OpV.move rfl) rfl ?_
  refine TL.val (OpV.move rfl) rfl ?_
  refine TL.val (OpV.indexAddr (j := q) se_34 rfl hA2 rfl rfl (by omega)) rfl ?_
  refine TL.val (OpV.fieldAddr rfl fo_37_0) rfl ?_
  refine TL.val (OpV.load pl_35 rfl (by first | exact Cel.blk P0 rfl | exact Cel.blk P1 rfl | exact Cel.blk P2 rfl | exact Cel.blk P3 rfl | exact Cel.blk P4 rfl | exact Cel.blk P5 rfl | exact Cel.ownA (hatg _ _ rfl))) rfl ?_
  refine TL.val (OpV.move rfl) rfl ?_
  refine TL.callx (g := 30) rfl go_30 rfl (fun wz k1 => own_x k1 (refw_c wz cols hcg (fun b o hb => (k1.get (e := .own ρ) (by first | exact P0 | exact P1 | exact P2 | exact P3 | exact P4 | exact P5 | exact P6 | exact P7) b o hb).2) hvg)) rfl ?_
  rintro ⟨A5, n5, c5, ρ5⟩ ⟨l5, h5, h5e⟩
  replace h5 : LsA ρ5 A5 n5 c5 l5 := h5
  replace h5e : l5.map LnA.ln = refW cols g.cells := h5e
  rw [← wrapV_ref hvg] at h5e
  have h51 := h5.1.1
  rw [← h5e, List.length_map, h51] at hwl
  refine TL.said (t := 23) rfl (show SV.v ⟨A5, n5, c5, ρ5⟩ = Value.slice A5 n5 c5 from rfl) ?_
  obtain ⟨ti24, hi24, hz24, hs24, hb24⟩ := info_parts inf_65
  refine TL.append rfl rfl Tryd.underlying22 hi24 hz24 hs24 hb24 rfl (by omega) (by first | exact P0 | exact P1 | exact P2 | exact P3 | exact P4 | exact P5) (Src.slK LnA.l_length (by decide) (fun w k1 => (fun b o hb => (k1.get (e := .own ρ5) (by first | exact P0 | exact P1 | exact P2 | exact P3 | exact P4 | exact P5 | exact P6 | exact P7) b o hb).2)) h5.1) (fun h9 => h5.1.2.2.2.1 h9) (oneC_fll _) (by omega) (by omega) rfl ?_
  clear hi24 hz24 hs24 hb24 ti24
  intro A24 c24 hn24
  refine TL.val (OpV.assign rfl) rfl ?_
  refine TL.nil ?_
  refine TE.out ?_
  refine TE.sub (.cons (t := 1) rfl <| .cons (t := 5) rfl <| .cons (t := 6) rfl <| .cons (t := 7) rfl <| .nil) ?_
  refine TE.next ?_
  refine T.ex (ι := Nat → Option Obj) (R := fun π => (∀ b o, ρ5 b = some o → π b = some o) ∧ (∀ b o, τ b = some o → π b = some o)) (K2 := fun π => [.row 65 2 A24 (os.length + n5) c24 (fll os ++ l5.flatMap LnA.l), .own π, .own ρ, .fr σ]) (fun wz kz => ?_) ?_
  · skip
    obtain ⟨π, h9, k2⟩ := KOk.own2 ((kz.pick (e := .own τ) (by first | exact P0 | exact P1 | exact P2 | exact P3 | exact P4 | exact P5 | exact P6 | exact P7)).pick (e := .own ρ5) (by first | exact P0 | exact P1 | exact P2 | exact P3 | exact P4 | exact P5 | exact P6 | exact P7))
    exact ⟨π, h9, Perm.kle (.cons (by first | exact P0 | exact P1 | exact P2 | exact P3 | exact P4 | exact P5 | exact P6 | exact P7) (.cons (by first | exact P0 | exact P1 | exact P2 | exact P3 | exact P4 | exact P5 | exact P6 | exact P7) (.cons (by first | exact P0 | exact P1 | exact P2 | exact P3 | exact P4 | exact P5 | exact P6 | exact P7) (.cons (by first | exact P0 | exact P1 | exact P2 | exact P3 | exact P4 | exact P5 | exact P6 | exact P7) .nil)))) wz k2⟩
  rintro π ⟨e1, e2⟩
  refine T.region ?_
  refine TL.val (OpV.move rfl) rfl ?_
  refine TL.val (OpV.add rfl rfl (by first | exact IntWalk.i64_in _ ⟨by omega, by omega⟩ | rfl)) rfl ?_
  refine TL.val (OpV.assign rfl) rfl ?_
  refine TL.nil ?_
  exact TE.meet (q + 1, FV.mk A24 c24 (os ++ l5) π) ⟨⟨by omega, by rw [List.map_append, q2, h5e, flowV_snoc hG]; rfl, fun l hl => by rcases List.mem_append.1 hl with hl | hl; exact (q3 l hl).mono e2; exact (h5.2 l hl).mono e1, hn24, by rw [hrs, List.length_append]; omega⟩, by (try simp only); omega⟩ (.cons (t := 1) (by first | rfl | (simp [lk]; done)) <| .cons (t := 5) (by simp only [List.length_append, h51]; rfl) <| .cons (t := 6) (by first | rfl | (simp [lk]; done)) <| .cons (t := 7) (by first | rfl | (simp [lk]; done)) <| .nil) ((by simp only [fll_append, List.length_append, h51]; exact Perm.kle (.cons (by first | exact P0 | exact P1 | exact P2 | exact P3 | exact P4 | exact P5 | exact P6 | exact P7) (.cons (by first | exact P0 | exact P1 | exact P2 | exact P3 | exact P4 | exact P5 | exact P6 | exact P7) (.cons (by first | exact P0 | exact P1 | exact P2 | exact P3 | exact P4 | exact P5 | exact P6 | exact P7) (.cons (by first | exact P0 | exact P1 | exact P2 | exact P3 | exact P4 | exact P5 | exact P6 | exact P7) .nil))))))
 ·
  intro ht13
  obtain ⟨q1, q2, q3, q4, q5⟩ := hR
  have hq : ¬ q < n6 := by have h9 := of_decide_eq_false ht13; omega
  rw [List.take_of_length_le (by rw [List.length_map, hgs.1.1]; omega), hge] at q2
  refine T.exit ?_
  refine TE.pass_exit ?_
  refine TE.pass_exit ?_
  refine TE.here ?_
  refine TE.next ?_
  refine T.seq ?_
  refine T.region ?_
  refine TL.val (OpV.move rfl) rfl ?_
  refine TL.val (OpV.assign rfl) rfl ?_
  refine TL.nil ?_
  refine TE.sub (.cons (t := 4) rfl <| .nil) ?_
  refine TE.next ?_
  refine T.ret ?_
  refine TE.ret1 rfl (ResV.tmp rfl) ?_
  intro wz kz
  obtain ⟨π, ⟨r2, r3⟩, k2⟩ := KOk.rowInto (e := 65) (z := 2) (A := As) (m := os.length) (c := cs) (xs := fll os) (τ := τ) kz (by first | exact P0 | exact P1 | exact P2 | exact P3 | exact P4 | exact P5 | exact P6 | exact P7) (by first | exact P0 | exact P1 | exact P2 | exact P3 | exact P4 | exact P5 | exact P6 | exact P7)
  exact ⟨⟨As, os.length, cs, π⟩, rfl, ⟨os, ⟨SlR.of_row LnA.l_length r2 rfl, fun l hl => (q3 l hl).mono r3⟩, q2⟩, Perm.kle (.cons .here .nil) wz k2⟩
set_option maxRecDepth 100000 in
set_option maxHeartbeats 1000000 in
theorem spoils_c {σ : Nat → Option Obj} {A : Option Addr} {n c : Nat} {ls : List LnA} (w : World) (h : LsA σ A n c ls) (hs : ∀ b o, σ b = some o → w.heap[b]? = some o) (hn : n ≤ 20000) (hv : vLs (ls.map LnA.ln) = true) : Calls Tryd.prog 41 #[.slice A n c] w (fun e w' => ∃ v : Bool, e = .returned (.bool v) ∧ (v = false → ∀ g ∈ (lgG [] 0 (ls.map LnA.ln)), NoB g.cells) ∧ Below w.heap.size w w') := by
 have hn63 := h.1.2.1
 have hc63 := h.1.2.2.1
 have hl1 := h.1.1
 have hXl : (ls.map LnA.ln).length = n := by rw [List.length_map]; exact hl1
 refine calls_T (vs := [.slice A n c]) (L0 := [(0, .slice A n c)]) Tryd.func41 rfl rfl rfl rfl (KOk.fr1 hs) ?_
 refine T.seq ?_
 refine T.region ?_
 refine TL.val (OpV.assign rfl) rfl ?_
 refine TL.nil ?_
 refine TE.next ?_
 refine T.seq ?_
 refine T.region ?_
 refine TL.val (OpV.move rfl) rfl ?_
 refine TL.callx (g := 26) rfl go_26 rfl (fun wz k1 => own_x k1 (rlines_c wz h (k1.get (e := .fr σ) (by first | exact P0 | exact P1 | exact P2 | exact P3 | exact P4 | exact P5 | exact P6 | exact P7)) (by omega) (LsA.len h hv))) rfl ?_
 rintro ⟨A6, n6, c6, ρ⟩ ⟨gs, hgs, hge⟩
 replace hgs : GsA ρ A6 n6 c6 gs := hgs
 refine TL.said (t := 8) rfl (show SV.v ⟨A6, n6, c6, ρ⟩ = Value.slice A6 n6 c6 from rfl) ?_
 have hgs1 := hgs.1.1
 have hgs2 := hgs.1.2.1
 have hgs3 := hgs.1.2.2.1
 have hn6 : n6 ≤ n := by have h9 := okG_len _ 0 (ok_lines hv); rw [← hge, List.length_map, hgs.1.1, List.length_map, hl1] at h9; omega
 refine TL.val (OpV.assign rfl) rfl ?_
 refine TL.nil ?_
 refine TE.next ?_
 refine T.seq ?_
 refine T.seq ?_
 refine T.region ?_
 refine TL.val (OpV.assign rfl) rfl ?_
 refine TL.nil ?_
 refine TE.next ?_
 refine T.block ?_
 refine T.loop (ι := Nat) (fun i => i ≤ n6 ∧ ∀ g ∈ gs.take i, NoB g.cells) (fun i => (n6 - i)) (fun i => [(3, .slice A6 n6 c6), (4, .int .i64 (i : Int))]) (fun i => [.own ρ]) 0 ⟨Nat.zero_le _, fun g hg => by simp at hg⟩ (.cons (t := 3) rfl <| .cons (t := 4) rfl <| .nil) (Perm.kle (.cons (by first | exact P0 | exact P1 | exact P2 | exact P3 | exact P4 | exact P5 | exact P6 | exact P7) .nil)) ?_
 rintro i hR
 refine T.seq ?_
 refine T.seq ?_
 refine T.region ?_
 refine TL.val (OpV.move rfl) rfl ?_
 refine TL.val (OpV.move rfl) rfl ?_
 refine TL.val (OpV.len Tryd.underlying34 rfl) rfl ?_
 refine TL.val (OpV.lss rfl rfl) rfl ?_
 refine TL.nil ?_
 refine TE.next ?_
 refine T.cond rfl ?_ ?_
 ·
  intro ht12
  obtain ⟨q1, q2⟩ := hR
  have hi : i < n6 := by have h9 := of_decide_eq_true ht12; omega
  obtain ⟨g, hg⟩ := get_of_lt hgs.1.1 hi
  obtain ⟨b2, o2, hA2, hat2⟩ := hgs.1.2.2.2.2 (by omega)
  obtain ⟨_, rfl, _, hatg⟩ := hat2 _ g hg
  have hcg := hgs.2 g (List.mem_of_getElem? hg)
  have hcg1 := hcg.1
  have hcg2 := hcg.2.1
  have hcg3 := hcg.2.2.1
  have hgb : g.cells.length ≤ 20000000 := okG_cells hv (by rw [hXl]; exact hn) g.lg (by rw [← hge]; exact List.mem_map_of_mem (List.mem_of_getElem? hg))
  refine T.skip ?_
  refine TE.next ?_
  refine T.seq ?_
  refine T.block ?_
  refine T.seq ?_
  refine T.region ?_
  refine TL.val (OpV.move rfl) rfl ?_
  refine TL.val (OpV.move rfl) rfl ?_
  refine TL.val (OpV.indexAddr (j := i) se_34 rfl hA2 rfl rfl (by omega)) rfl ?_
  refine TL.val (OpV.fieldAddr rfl fo_37_0) rfl ?_
  refine TL.val (OpV.load pl_35 rfl (by first | exact Cel.blk P0 rfl | exact Cel.blk P1 rfl | exact Cel.blk P2 rfl | exact Cel.blk P3 rfl | exact Cel.ownA (hatg _ _ rfl) | exact Cel.ownA (hatx _ _ rfl) | exact Cel.ownA (haty _ _ rfl))) rfl ?_
  refine TL.val (OpV.assign rfl) rfl ?_
  refine TL.nil ?_
  refine TE.sub (.cons (t := 3) rfl <| .cons (t := 4) rfl <| .cons (t := 5) rfl <| .nil) ?_
  refine TE.next ?_
  refine T.seq ?_
  refine T.region ?_
  refine TL.val (OpV.assign rfl) rfl ?_
  refine TL.nil ?_
  refine TE.next ?_
  refine T.block ?_
  refine T.loop (ι := Nat) (fun k => k ≤ g.n ∧ ∀ (j : Nat) x y, j < k → g.cells[j]? = some x → g.cells[j + 1]? = some y → isB x = true → y.w ≠ 2) (fun k => (g.n - k)) (fun k => [(3, .slice A6 n6 c6), (4, .int .i64 (i : Int)), (5, .slice g.A g.n g.c), (6, .int .i64 (k : Int))]) (fun k => [.own ρ]) 0 ⟨Nat.zero_le _, fun j x y hj => absurd hj (Nat.not_lt_zero _)⟩ (.cons (t := 3) rfl <| .cons (t := 4) rfl <| .cons (t := 5) rfl <| .cons (t := 6) rfl <| .nil) (Kle.refl) ?_
  rintro k hR1
  refine T.seq ?_
  refine T.seq ?_
  refine T.region ?_
  refine TL.val (OpV.move rfl) rfl ?_
  refine TL.val (OpV.add rfl rfl (by first | exact IntWalk.i64_in _ ⟨by omega, by omega⟩ | rfl)) rfl ?_
  refine TL.val (OpV.move rfl) rfl ?_
  refine TL.val (OpV.len Tryd.underlying35 rfl) rfl ?_
  refine TL.val (OpV.lss rfl rfl) rfl ?_
  refine TL.nil ?_
  refine TE.next ?_
  refine T.cond rfl ?_ ?_
  ·
   intro ht24
   obtain ⟨p1, p2⟩ := hR1
   have hk : k + 1 < g.n := by have h9 := of_decide_eq_true ht24; omega
   obtain ⟨x, hx⟩ := get_of_lt hcg.1 (show k < g.n by omega)
   obtain ⟨y, hy⟩ := get_of_lt hcg.1 hk
   obtain ⟨b, o, hA, hat⟩ := hcg.pos (by omega)
   have hatx := hat k x hx
   have haty := hat (k + 1) y hy
   refine T.skip ?_
   refine TE.next ?_
   refine T.seq ?_
   refine T.block ?_
   refine T.seq ?_
   refine T.region ?_
   refine TL.val (OpV.move rfl) rfl ?_
   refine TL.val (OpV.move rfl) rfl ?_
   refine TL.val (OpV.indexAddr (j := k) se_35 rfl hA rfl rfl (by omega)) rfl ?_
   refine TL.val (OpV.loadA ag_58 rfl (by first | exact Cels.blk P0 rfl | exact Cels.blk P1 rfl | exact Cels.blk P2 rfl | exact Cels.blk P3 rfl | exact Cels.ownA (hatg) rfl | exact Cels.ownA (hatx) rfl | exact Cels.ownA (haty) rfl)) rfl ?_
   refine TL.val (OpV.build (qs := #[(2, _)]) (fun _ f => by simp only [List.map_toArray, List.map_cons, List.map_nil]; rw [f.ev (x := .const (.int .i64 1)) rfl]) (bld_58_2 1 )) rfl ?_
   refine TL.val (OpV.aeql rfl rfl eg_58 (eq_58 x (blank Pen.zero))) rfl ?_
   refine TL.val (OpV.move rfl) rfl ?_
   refine TL.part (t := 33) rfl ?_ ?_
   ·
    intro hg33
    refine TL.open rfl rfl ?_
    refine TL.val (OpV.move rfl) rfl ?_
    refine TL.open rfl rfl ?_
    refine TL.val (OpV.move rfl) rfl ?_
    refine TL.open rfl rfl ?_
    refine TL.val (OpV.add rfl rfl (by first | exact IntWalk.i64_in _ ⟨by omega, by omega⟩ | rfl)) rfl ?_
    refine TL.open rfl rfl ?_
    refine TL.val (OpV.indexAddr (j := (k + 1)) se_35 rfl hA rfl (by omega) (by omega)) rfl ?_
    refine TL.open rfl rfl ?_
    refine TL.val (OpV.fieldAddr rfl fo_58_2) rfl ?_
    refine TL.open rfl rfl ?_
    refine TL.val (OpV.load pl_3 rfl (by first | exact Cel.blk P0 rfl | exact Cel.blk P1 rfl | exact Cel.blk P2 rfl | exact Cel.blk P3 rfl | exact Cel.ownA (hatg _ _ rfl) | exact Cel.ownA (hatx _ _ rfl) | exact Cel.ownA (haty _ _ rfl))) rfl ?_
    refine TL.open rfl rfl ?_
    refine TL.val (OpV.eql rfl rfl) rfl ?_
    refine TL.val ((by first | exact OpV.pick_t rfl rfl | exact OpV.pick_f rfl rfl)) rfl ?_
    refine TL.nil ?_
    refine TE.sub (.cons (t := 3) rfl <| .cons (t := 4) rfl <| .cons (t := 5) rfl <| .cons (t := 6) rfl <| .cons (t := 41) rfl <| .nil) ?_
    refine TE.next ?_
    refine T.cond rfl ?_ ?_
    ·
     intro ht41
     refine T.seq ?_
     refine T.region ?_
     refine TL.val (OpV.assign rfl) rfl ?_
     refine TL.nil ?_
     refine TE.next ?_
     refine T.ret ?_
     refine TE.out_ret ?_
     refine TE.pass_ret ?_
     refine TE.pass_ret ?_
     refine TE.out_ret ?_
     refine TE.out_ret ?_
     refine TE.pass_ret ?_
     refine TE.pass_ret ?_
     refine TE.out_ret ?_
     refine TE.pass_ret ?_
     refine TE.ret1 rfl (ResV.tmp rfl) ?_
     exact fun wz kz => ⟨true, rfl, fun h9 => (by cases h9), kz.bel⟩
    ·
     intro ht41
     have hst : ∀ x' y', g.cells[k]? = some x' → g.cells[k + 1]? = some y' → isB x' = true → y'.w ≠ 2 := fun x' y' hx' hy' hb => by rw [hx] at hx'; rw [hy] at hy'; cases hx'; cases hy'; exact beq_eq_false_iff_ne.1 ht41
     refine T.skip ?_
     refine TE.out ?_
     refine TE.next ?_
     refine T.region ?_
     refine TL.val (OpV.move rfl) rfl ?_
     refine TL.val (OpV.add rfl rfl (by first | exact IntWalk.i64_in _ ⟨by omega, by omega⟩ | rfl)) rfl ?_
     refine TL.val (OpV.assign rfl) rfl ?_
     refine TL.nil ?_
     exact TE.meet (k + 1) ⟨⟨by omega, fun j x' y' hj hx' hy' hb => by rcases Nat.lt_succ_iff_lt_or_eq.1 hj with hj | rfl; exact p2 j x' y' hj hx' hy' hb; exact hst x' y' hx' hy' hb⟩, by omega⟩ (.cons (t := 3) (by first | rfl | (simp [lk]; done)) <| .cons (t := 4) (by first | rfl | (simp [lk]; done)) <| .cons (t := 5) (by first | rfl | (simp [lk]; done)) <| .cons (t := 6) (by first | rfl | (simp [lk]; done)) <| .nil) (Kle.refl)
   ·
    intro hg33
    have hst : ∀ x' y', g.cells[k]? = some x' → g.cells[k + 1]? = some y' → isB x' = true → y'.w ≠ 2 := fun x' y' hx' hy' hb => by rw [hx] at hx'; rw [hy] at hy'; cases hx'; cases hy'; have h9 : decide (x = blank Pen.zero) = false := hg33; rw [isB, h9] at hb; cases hb
    refine TL.shut rfl rfl ?_
    refine TL.shut rfl rfl ?_
    refine TL.shut rfl rfl ?_
    refine TL.shut rfl rfl ?_
    refine TL.shut rfl rfl ?_
    refine TL.shut rfl rfl ?_
    refine TL.shut rfl rfl ?_
    refine TL.val ((by first | exact OpV.pick_t rfl rfl | exact OpV.pick_f rfl rfl)) rfl ?_
    refine TL.nil ?_
    refine TE.sub (.cons (t := 3) rfl <| .cons (t := 4) rfl <| .cons (t := 5) rfl <| .cons (t := 6) rfl <| .cons (t := 41) rfl <| .nil) ?_
    refine TE.next ?_
    refine T.no rfl ?_
    refine T.skip ?_
    refine TE.out ?_
    refine TE.next ?_
    refine T.region ?_
    refine TL.val (OpV.move rfl) rfl ?_
    refine TL.val (OpV.add rfl rfl (by first | exact IntWalk.i64_in _ ⟨by omega, by omega⟩ | rfl)) rfl ?_
    refine TL.val (OpV.assign rfl) rfl ?_
    refine TL.nil ?_
    exact TE.meet (k + 1) ⟨⟨by omega, fun j x' y' hj hx' hy' hb => by rcases Nat.lt_succ_iff_lt_or_eq.1 hj with hj | rfl; exact p2 j x' y' hj hx' hy' hb; exact hst x' y' hx' hy' hb⟩, by omega⟩ (.cons (t := 3) (by first | rfl | (simp [lk]; done)) <| .cons (t := 4) (by first | rfl | (simp [lk]; done)) <| .cons (t := 5) (by first | rfl | (simp [lk]; done)) <| .cons (t := 6) (by first | rfl | (simp [lk]; done)) <| .nil) (Kle.refl)
  ·
   intro ht24
   obtain ⟨p1, p2⟩ := hR1
   have hnb : NoB g.cells := fun j x y hx hy hb => p2 j x y (by have h9 := of_decide_eq_false ht24; have h8 := (List.getElem?_eq_some_iff.1 hy).1; omega) hx hy hb
   refine T.exit ?_
   refine TE.pass_exit ?_
   refine TE.pass_exit ?_
   refine TE.here ?_
   refine TE.out ?_
   refine TE.next ?_
   refine T.region ?_
   refine TL.val (OpV.move rfl) rfl ?_
   refine TL.val (OpV.add rfl rfl (by first | exact IntWalk.i64_in _ ⟨by omega, by omega⟩ | rfl)) rfl ?_
   refine TL.val (OpV.assign rfl) rfl ?_
   refine TL.nil ?_
   exact TE.meet (i + 1) ⟨⟨by omega, fun g' hg' => by rw [take_snoc hg] at hg'; rcases List.mem_append.1 hg' with h9 | h9; exact q2 g' h9; obtain rfl := List.mem_singleton.1 h9; exact hnb⟩, by omega⟩ (.cons (t := 3) (by first | rfl | (simp [lk]; done)) <| .cons (t := 4) (by first | rfl | (simp [lk]; done)) <| .nil) (Kle.refl)
 ·
  intro ht12
  obtain ⟨q1, q2⟩ := hR
  have hi : ¬ i < n6 := by have h9 := of_decide_eq_false ht12; omega
  rw [List.take_of_length_le (by omega)] at q2
  refine T.exit ?_
  refine TE.pass_exit ?_
  refine TE.pass_exit ?_
  refine TE.here ?_
  refine TE.next ?_
  refine T.seq ?_
  refine T.region ?_
  refine TL.val (OpV.assign rfl) rfl ?_
  refine TL.nil ?_
  refine TE.next ?_
  refine T.ret ?_
  refine TE.ret1 rfl (ResV.tmp rfl) ?_
  exact fun wz kz => ⟨false, rfl, fun _ g hg => by rw [← hge] at hg; obtain ⟨y, hy, rfl⟩ := List.mem_map.1 hg; exact q2 y hy, kz.bel⟩
theorem bld31_65 (w : World) : (Instr.build 65 #[]).run Tryd.prog w = .ok (.agg [Value.slice none 0 0, Value.bool false].toArray) w := by kernel_rfl
set_option maxRecDepth 100000 in
set_option maxHeartbeats 1000000 in
theorem rscr_c {σ : Nat → Option Obj} {A : Option Addr} {n c : Nat} {ls : List LnA} (r : Nat) (must : Int) (w : World) (h : LsA σ A n c ls) (hs : ∀ b o, σ b = some o → w.heap[b]? = some o) (hn : n ≤ 131072) (hr : 1 ≤ r ∧ r ≤ 1000) (hmu : 0 ≤ must ∧ must < (n : Int)) (hm1 : hdN (ls.map LnA.ln) ≤ 1000) : Calls Tryd.prog 50 #[.slice A n c, .int .i64 (r : Int), .int .i64 must] w (fun e w' => ∃ v : SV, e = .returned (.tuple #[.int .i64 (topV (n : Int) (r : Int) must), v.v]) ∧ LsR (σ2 v.σ σ) v.A v.n v.c (screenV (ls.map LnA.ln) (r : Int) must) ∧ KOk w [.own v.σ] w') := by
 have hn63 := h.1.2.1
 have hc63 := h.1.2.2.1
 have hl1 := h.1.1
 have hXl : (ls.map LnA.ln).length = n := by rw [List.length_map]; exact hl1
 obtain ⟨tp, htp⟩ : ∃ q : Nat, topV (n : Int) (r : Int) must = (q : Int) := ⟨(topV (n : Int) (r : Int) must).toNat, by unfold topV; (repeat' split) <;> omega⟩
 have htq : (tp : Int) = must ∧ (tp : Int) + (r : Int) ≤ (n : Int) ∨ (tp : Int) + (r : Int) = (n : Int) ∧ (tp : Int) ≤ must ∨ tp = 0 ∧ (n : Int) ≤ (r : Int) := by have h9 : (if must < (if 0 < (n : Int) - r then (n : Int) - r else 0) then must else (if 0 < (n : Int) - r then (n : Int) - r else 0)) = (tp : Int) := htp; (repeat' split at h9) <;> omega
 obtain ⟨hi, hhi⟩ : ∃ q, q = min n (tp + r) := ⟨_, rfl⟩
 obtain ⟨n5, hn5⟩ : ∃ q, q = hi - tp := ⟨_, rfl⟩
 obtain ⟨ks, hks⟩ : ∃ q, q = (ls.take hi).drop tp := ⟨_, rfl⟩
 have hkl : ks.length = n5 := by rw [hks, List.length_drop, List.length_take]; omega
 obtain ⟨m, hm⟩ : ∃ q, q = hdN (ls.map LnA.ln) := ⟨_, rfl⟩
 rw [← hm] at hm1
 obtain ⟨z, hz⟩ := get_of_lt h.1.1 (show 0 < n by omega)
 obtain ⟨bz, oz, hAz, hatz0⟩ := h.1.2.2.2.2 (by omega)
 obtain ⟨_, rfl, _, hatz⟩ := hatz0 _ z hz
 have hzm : z.n = m := by have h9 := hdN_get (X := (ls.map LnA.ln)) (x := z.ln) (by simp [hz]); have h8 : z.ln.cells.length = z.n := (h.2 z (List.mem_of_getElem? hz)).1; omega
 refine calls_T (vs := [.slice A n c, .int .i64 (r : Int), .int .i64 must]) (L0 := [(0, .slice A n c), (1, .int .i64 (r : Int)), (2, .int .i64 must)]) Tryd.func50 rfl rfl rfl rfl (KOk.fr1 hs) ?_
 refine T.seq ?_
 refine T.region ?_
 refine TL.val (OpV.assign rfl) rfl ?_
 refine TL.val (OpV.assign rfl) rfl ?_
 refine TL.nil ?_
 refine TE.next ?_
 refine T.seq ?_
 refine T.region ?_
 refine TL.val (OpV.assign rfl) rfl ?_
 refine TL.nil ?_
 refine TE.next ?_
 refine T.seq ?_
 refine T.block ?_
 refine T.loop (ι := Nat) (fun t => t ≤ tp) (fun t => (tp - t)) (fun t => [(0, .slice A n c), (1, .int .i64 (r : Int)), (2, .int .i64 must), (8, .int .i64 (t : Int))]) (fun t => [.fr σ]) 0 (Nat.zero_le _) (.cons (t := 0) rfl <| .cons (t := 1) rfl <| .cons (t := 2) rfl <| .cons (t := 8) rfl <| .nil) (Kle.refl) ?_
 rintro t hR
 refine T.seq ?_
 refine T.seq ?_
 refine T.cut [(0, .slice A n c), (1, .int .i64 (r : Int)), (2, .int .i64 must), (8, .int .i64 (t : Int)), (23, .bool (decide (t < tp)))] ([.fr σ]) ?_ ?_
 ·
  refine T.region ?_
  refine TL.val (OpV.move rfl) rfl ?_
  refine TL.val (OpV.len Tryd.underlying22 rfl) rfl ?_
  refine TL.val (OpV.move rfl) rfl ?_
  refine TL.val (OpV.sub rfl rfl (by first | exact IntWalk.i64_in _ ⟨by omega, by omega⟩ | rfl)) rfl ?_
  refine TL.val (OpV.move rfl) rfl ?_
  refine TL.val (OpV.gtr rfl rfl) rfl ?_
  refine TL.val (OpV.move rfl) rfl ?_
  refine TL.part (t := 19) rfl ?_ ?_
  ·
   intro hg19
   have c1 := of_decide_eq_true hg19
   refine TL.open rfl rfl ?_
   refine TL.val (OpV.move rfl) rfl ?_
   refine TL.open rfl rfl ?_
   refine TL.val (OpV.move rfl) rfl ?_
   refine TL.open rfl rfl ?_
   refine TL.val (OpV.lss rfl rfl) rfl ?_
   refine TL.val ((by first | exact OpV.pick_t rfl rfl | exact OpV.pick_f rfl rfl)) rfl ?_
   refine TL.nil ?_
   exact TE.met (.cons (t := 0) rfl <| .cons (t := 1) rfl <| .cons (t := 2) rfl <| .cons (t := 8) rfl <| .cons (t := 23) (congrArg (fun b => some (Value.bool b)) (by rw [eq_comm, decide_eq_decide]; omega)) <| .nil) (Kle.refl)
  ·
   intro hg19
   have c1 := of_decide_eq_false hg19
   refine TL.shut rfl rfl ?_
   refine TL.shut rfl rfl ?_
   refine TL.shut rfl rfl ?_
   refine TL.val ((by first | exact OpV.pick_t rfl rfl | exact OpV.pick_f rfl rfl)) rfl ?_
   refine TL.nil ?_
   exact TE.met (.cons (t := 0) rfl <| .cons (t := 1) rfl <| .cons (t := 2) rfl <| .cons (t := 8) rfl <| .cons (t := 23) (congrArg (fun b => some (Value.bool b)) ((decide_eq_false (by omega)).symm)) <| .nil) (Kle.refl)
 refine TE.next ?_
 refine T.cond rfl ?_ ?_
 ·
  intro ht23
  have htt : t < tp := of_decide_eq_true ht23
  refine T.skip ?_
  refine TE.next ?_
  refine T.block ?_
  refine T.region ?_
  refine TL.val (OpV.move rfl) rfl ?_
  refine TL.val (OpV.add rfl rfl (by first | exact IntWalk.i64_in _ ⟨by omega, by omega⟩ | rfl)) rfl ?_
  refine TL.val (OpV.assign rfl) rfl ?_
  refine TL.nil ?_
  refine TE.out ?_
  exact TE.meet (t + 1) ⟨by omega, by omega⟩ (.cons (t := 0) (by first | rfl | (simp [lk]; done)) <| .cons (t := 1) (by first | rfl | (simp [lk]; done)) <| .cons (t := 2) (by first | rfl | (simp [lk]; done)) <| .cons (t := 8) (by first | rfl | (simp [lk]; done)) <| .nil) (Kle.refl)
 ·
  intro ht23
  have htt : tp = t := by have h9 := of_decide_eq_false ht23; omega
  subst htt
  refine T.exit ?_
  refine TE.pass_exit ?_
  refine TE.pass_exit ?_
  refine TE.here ?_
  refine TE.next ?_
  refine T.seq ?_
  refine T.region ?_
  refine TL.val (OpV.assign rfl) rfl ?_
  refine TL.nil ?_
  refine TE.next ?_
  refine T.seq ?_
  refine T.seq ?_
  refine T.region ?_
  refine TL.val (OpV.move rfl) rfl ?_
  refine TL.val (OpV.assign rfl) rfl ?_
  refine TL.nil ?_
  refine TE.next ?_
  refine T.block ?_
  refine T.loop (ι := Nat × Option Addr × Nat) (fun ⟨q, As, cs⟩ => q ≤ n5 ∧ (As = none → cs = 0)) (fun ⟨q, As, cs⟩ => (n5 - q)) (fun ⟨q, As, cs⟩ => [(0, .slice A n c), (1, .int .i64 (r : Int)), (8, .int .i64 (tp : Int)), (9, .slice As q cs), (10, .int .i64 ((tp + q : Nat) : Int))]) (fun ⟨q, As, cs⟩ => [.row 65 2 As q cs (fll (ks.take q)), .fr σ]) (0, none, 0) ⟨Nat.zero_le _, fun _ => rfl⟩ (.cons (t := 0) rfl <| .cons (t := 1) rfl <| .cons (t := 8) rfl <| .cons (t := 9) rfl <| .cons (t := 10) rfl <| .nil) ((fun wz kz => Perm.kle (.cons (by first | exact P0 | exact P1 | exact P2 | exact P3 | exact P4 | exact P5 | exact P6 | exact P7) (.cons (by first | exact P0 | exact P1 | exact P2 | exact P3 | exact P4 | exact P5 | exact P6 | exact P7) .nil)) wz (Kle.nilRow 65 2 wz kz))) ?_
  rintro ⟨q, As, cs⟩ hR1
  obtain ⟨q1, q2⟩ := hR1
  refine T.seq ?_
  refine T.seq ?_
  refine T.cut [(0, .slice A n c), (1, .int .i64 (r : Int)), (8, .int .i64 (tp : Int)), (9, .slice As q cs), (10, .int .i64 ((tp + q : Nat) : Int)), (36, .bool (decide (q < n5)))] ([.row 65 2 As q cs (fll (ks.take q)), .fr σ]) ?_ ?_
  ·
   refine T.region ?_
   refine TL.val (OpV.move rfl) rfl ?_
   refine TL.val (OpV.move rfl) rfl ?_
   refine TL.val (OpV.len Tryd.underlying22 rfl) rfl ?_
   refine TL.val (OpV.lss rfl rfl) rfl ?_
   refine TL.val (OpV.move rfl) rfl ?_
   refine TL.part (t := 31) rfl ?_ ?_
   ·
    intro hg31
    have c2 := of_decide_eq_true hg31
    refine TL.open rfl rfl ?_
    refine TL.val (OpV.move rfl) rfl ?_
    refine TL.open rfl rfl ?_
    refine TL.val (OpV.len Tryd.underlying22 rfl) rfl ?_
    refine TL.open rfl rfl ?_
    refine TL.val (OpV.move rfl) rfl ?_
    refine TL.open rfl rfl ?_
    refine TL.val (OpV.lss rfl rfl) rfl ?_
    refine TL.val ((by first | exact OpV.pick_t rfl rfl | exact OpV.pick_f rfl rfl)) rfl ?_
    refine TL.nil ?_
    exact TE.met (.cons (t := 0) rfl <| .cons (t := 1) rfl <| .cons (t := 8) rfl <| .cons (t := 9) rfl <| .cons (t := 10) rfl <| .cons (t := 36) (congrArg (fun b => some (Value.bool b)) (by rw [eq_comm, decide_eq_decide]; omega)) <| .nil) (Kle.refl)
   ·
    intro hg31
    have c2 := of_decide_eq_false hg31
    refine TL.shut rfl rfl ?_
    refine TL.shut rfl rfl ?_
    refine TL.shut rfl rfl ?_
    refine TL.shut rfl rfl ?_
    refine TL.val ((by first | exact OpV.pick_t rfl rfl | exact OpV.pick_f rfl rfl)) rfl ?_
    refine TL.nil ?_
    exact TE.met (.cons (t := 0) rfl <| .cons (t := 1) rfl <| .cons (t := 8) rfl <| .cons (t := 9) rfl <| .cons (t := 10) rfl <| .cons (t := 36) (congrArg (fun b => some (Value.bool b)) ((decide_eq_false (by omega)).symm)) <| .nil) (Kle.refl)
  refine TE.next ?_
  refine T.cond rfl ?_ ?_
  ·
   intro ht36
   have hq : q < n5 := of_decide_eq_true ht36
   obtain ⟨x, hx⟩ := get_of_lt h.1.1 (show tp + q < n by omega)
   obtain ⟨b2, o2, hA, hat2⟩ := h.1.2.2.2.2 (by omega)
   obtain ⟨_, rfl, _, hatx⟩ := hat2 _ x hx
   have hkx : ks[q]? = some x := by rw [hks, List.getElem?_drop, List.getElem?_take, if_pos (by omega)]; exact hx
   refine T.skip ?_
   refine TE.next ?_
   refine T.seq ?_
   refine T.block ?_
   refine T.region ?_
   refine TL.val (OpV.move rfl) rfl ?_
   refine TL.val (OpV.move rfl) rfl ?_
   refine TL.val (OpV.move rfl) rfl ?_
   refine TL.val (OpV.indexAddr (j := (tp + q)) se_22 rfl hA rfl (by omega) (by omega)) rfl ?_
   refine TL.val (OpV.loadA ag_65 rfl (by first | exact Cels.blk P0 rfl | exact Cels.blk P1 rfl | exact Cels.blk P2 rfl | exact Cels.blk P3 rfl | exact Cels.blk P4 rfl | exact Cels.blk P5 rfl | exact Cels.frA hatx rfl | exact Cels.frA hatz rfl)) rfl ?_
   refine TL.slit (qs := #[(0, _)]) (fun _ f => by simp only [List.map_toArray, List.map_cons, List.map_nil]; rw [f.ev (x := .tmp 43) rfl]) (sl_22_1_0 x) rfl ?_
   intro b44
   obtain ⟨ti45, hi45, hz45, hs45, hb45⟩ := info_parts inf_65
   refine TL.append rfl rfl Tryd.underlying22 hi45 hz45 hs45 hb45 rfl (by omega) (by first | exact P0 | exact P1 | exact P2 | exact P3 | exact P4 | exact P5) (by first | exact Src.nil | exact Src.blk P0 rfl | exact Src.blk P1 rfl | exact Src.blk P2 rfl | exact Src.blk P3 rfl | exact Src.blk P4 rfl | exact Src.blk P5 rfl | exact Src.row P0 | exact Src.row P1 | exact Src.row P2 | exact Src.row P3 | exact Src.row P4 | exact Src.row P5) (fun h => by cases h) rfl (by omega) (by omega) rfl ?_
   clear hi45 hz45 hs45 hb45 ti45
   intro A45 c45 hn45
   refine TL.val (OpV.assign rfl) rfl ?_
   refine TL.nil ?_
   refine TE.out ?_
   refine TE.sub (.cons (t := 0) rfl <| .cons (t := 1) rfl <| .cons (t := 8) rfl <| .cons (t := 9) rfl <| .cons (t := 10) rfl <| .nil) ?_
   refine TE.next ?_
   refine T.region ?_
   refine TL.val (OpV.move rfl) rfl ?_
   refine TL.val (OpV.add rfl rfl (by first | exact IntWalk.i64_in _ ⟨by omega, by omega⟩ | rfl)) rfl ?_
   refine TL.val (OpV.assign rfl) rfl ?_
   refine TL.nil ?_
   exact TE.meet (q + 1, A45, c45) ⟨⟨by omega, hn45⟩, by (try simp only); omega⟩ (.cons (t := 0) (by first | rfl | (simp [lk]; done)) <| .cons (t := 1) (by first | rfl | (simp [lk]; done)) <| .cons (t := 8) (by first | rfl | (simp [lk]; done)) <| .cons (t := 9) (by first | rfl | (simp [lk]; done)) <| .cons (t := 10) (congrArg (fun q => some (Value.int .i64 q)) (by omega)) <| .nil) ((by simp only [take_snoc hkx, fll_snoc]; exact Perm.kle (.cons (by first | exact P0 | exact P1 | exact P2 | exact P3 | exact P4 | exact P5 | exact P6 | exact P7) (.cons (by first | exact P0 | exact P1 | exact P2 | exact P3 | exact P4 | exact P5 | exact P6 | exact P7) .nil))))
  ·
   intro ht36
   have hq : n5 = q := by have h9 := of_decide_eq_false ht36; omega
   subst hq
   rw [List.take_of_length_le (by omega)]
   refine T.exit ?_
   refine TE.pass_exit ?_
   refine TE.pass_exit ?_
   refine TE.here ?_
   refine TE.next ?_
   refine T.seq ?_
   refine T.region ?_
   refine TL.val (OpV.build (qs := #[]) (fun _ _ => by simp) (bld31_65)) rfl ?_
   refine TL.alloc zo_65 rfl ?_
   intro b11
   first
     | refine TL.storeAll rfl rfl szz_65 rfl rfl rfl (by first | exact P0 | exact P1 | exact P2 | exact P3 | exact P4 | exact P5) (by rfl) ?_
     | refine TL.store rfl rfl szz_65 rfl rfl rfl (by first | exact P0 | exact P1 | exact P2 | exact P3 | exact P4 | exact P5) (by first | exact Nat.le_of_ble_eq_true rfl | (simp; done) | (simp; omega)) (by simp only [LnA.l, putL, List.take_succ_cons, List.take_zero, List.drop_succ_cons, List.drop_zero, List.cons_append, List.nil_append, List.length_cons, List.length_nil, Nat.reduceAdd]; rfl) ?_
   refine TL.nil ?_
   refine TE.next ?_
   refine T.seq ?_
   refine T.seq ?_
   refine T.region ?_
   refine TL.val (OpV.assign rfl) rfl ?_
   refine TL.nil ?_
   refine TE.next ?_
   refine T.block ?_
   refine T.loop (ι := Nat × Option Addr × Nat) (fun ⟨j, A7, c7⟩ => j ≤ m ∧ (A7 = none → c7 = 0)) (fun ⟨j, A7, c7⟩ => (m - j)) (fun ⟨j, A7, c7⟩ => [(0, .slice A n c), (1, .int .i64 (r : Int)), (8, .int .i64 (tp : Int)), (9, .slice As n5 cs), (11, .pointer (some ⟨b11, 0, none⟩)), (12, .int .i64 (j : Int))]) (fun ⟨j, A7, c7⟩ => [.blk b11 [.slice A7 j c7, .bool false] 65, .row 58 16 A7 j c7 (fl (List.replicate j (blank Pen.zero))), .row 65 2 As n5 cs (fll ks), .fr σ]) (0, none, 0) ⟨Nat.zero_le _, fun _ => rfl⟩ (.cons (t := 0) rfl <| .cons (t := 1) rfl <| .cons (t := 8) rfl <| .cons (t := 9) rfl <| .cons (t := 11) rfl <| .cons (t := 12) rfl <| .nil) ((fun wz kz => Perm.kle (.cons (by first | exact P0 | exact P1 | exact P2 | exact P3 | exact P4 | exact P5 | exact P6 | exact P7) (.cons (by first | exact P0 | exact P1 | exact P2 | exact P3 | exact P4 | exact P5 | exact P6 | exact P7) (.cons (by first | exact P0 | exact P1 | exact P2 | exact P3 | exact P4 | exact P5 | exact P6 | exact P7) (.cons (by first | exact P0 | exact P1 | exact P2 | exact P3 | exact P4 | exact P5 | exact P6 | exact P7) .nil)))) wz (Kle.nilRow 58 16 wz kz))) ?_
   rintro ⟨j, A7, c7⟩ hR2
   obtain ⟨p1, p2⟩ := hR2
   refine T.seq ?_
   refine T.seq ?_
   refine T.region ?_
   refine TL.val (OpV.move rfl) rfl ?_
   refine TL.val (OpV.move rfl) rfl ?_
   refine TL.val (OpV.indexAddr (j := 0) se_22 rfl hAz rfl rfl (by omega)) rfl ?_
   refine TL.val (OpV.fieldAddr rfl fo_65_0) rfl ?_
   refine TL.val (OpV.load pl_35 rfl (by first | exact Cel.blk P0 rfl | exact Cel.blk P1 rfl | exact Cel.blk P2 rfl | exact Cel.blk P3 rfl | exact Cel.blk P4 rfl | exact Cel.blk P5 rfl | exact Cel.frA (hatx _ _ rfl) | exact Cel.frA (hatz _ _ rfl))) rfl ?_
   refine TL.val (OpV.len Tryd.underlying35 rfl) rfl ?_
   refine TL.val (OpV.lss rfl rfl) rfl ?_
   refine TL.nil ?_
   refine TE.next ?_
   refine T.cond rfl ?_ ?_
   ·
    intro ht53
    have hj : j < m := by have h9 := of_decide_eq_true ht53; omega
    refine T.skip ?_
    refine TE.sub (.cons (t := 0) rfl <| .cons (t := 1) rfl <| .cons (t := 8) rfl <| .cons (t := 9) rfl <| .cons (t := 11) rfl <| .cons (t := 12) rfl <| .nil) ?_
    refine TE.next ?_
    refine T.seq ?_
    refine T.block ?_
    refine T.region ?_
    refine TL.val (OpV.fieldAddr rfl fo_65_0) rfl ?_
    refine TL.val (OpV.load pl_35 rfl (by first | exact Cel.blk P0 rfl | exact Cel.blk P1 rfl | exact Cel.blk P2 rfl | exact Cel.blk P3 rfl | exact Cel.blk P4 rfl | exact Cel.blk P5 rfl | exact Cel.frA (hatx _ _ rfl) | exact Cel.frA (hatz _ _ rfl))) rfl ?_
    refine TL.val (OpV.build (qs := #[(2, _)]) (fun _ f => by simp only [List.map_toArray, List.map_cons, List.map_nil]; rw [f.ev (x := .const (.int .i64 1)) rfl]) (bld_58_2 1 )) rfl ?_
    refine TL.slit (qs := #[(0, _)]) (fun _ f => by simp only [List.map_toArray, List.map_cons, List.map_nil]; rw [f.ev (x := .tmp 58) rfl]) (sl_35_1_0 (Cl.mk 0 0 0 0 1 Pen.zero)) rfl ?_
    intro b59
    obtain ⟨ti60, hi60, hz60, hs60, hb60⟩ := info_parts inf_58
    refine TL.append rfl rfl Tryd.underlying35 hi60 hz60 hs60 hb60 rfl (by omega) (by first | exact P0 | exact P1 | exact P2 | exact P3 | exact P4 | exact P5) (by first | exact Src.nil | exact Src.blk P0 rfl | exact Src.blk P1 rfl | exact Src.blk P2 rfl | exact Src.blk P3 rfl | exact Src.blk P4 rfl | exact Src.blk P5 rfl | exact Src.row P0 | exact Src.row P1 | exact Src.row P2 | exact Src.row P3 | exact Src.row P4 | exact Src.row P5) (fun h => by cases h) rfl (by omega) (by omega) rfl ?_
    clear hi60 hz60 hs60 hb60 ti60
    intro A60 c60 hn60
    refine TL.val (OpV.fieldAddr rfl fo_65_0) rfl ?_
    refine TL.store rfl rfl szz_35 rfl rfl rfl (by first | exact P0 | exact P1 | exact P2 | exact P3 | exact P4 | exact P5) (by first | exact Nat.le_of_ble_eq_true rfl | (simp; done) | (simp; omega)) (by simp only [LnA.l, putL, List.take_succ_cons, List.take_zero, List.drop_succ_cons, List.drop_zero, List.cons_append, List.nil_append, List.length_cons, List.length_nil, Nat.reduceAdd]; rfl) ?_
    refine TL.nil ?_
    refine TE.out ?_
    refine TE.next ?_
    refine T.region ?_
    refine TL.val (OpV.move rfl) rfl ?_
    refine TL.val (OpV.add rfl rfl (by first | exact IntWalk.i64_in _ ⟨by omega, by omega⟩ | rfl)) rfl ?_
    refine TL.val (OpV.assign rfl) rfl ?_
    refine TL.nil ?_
    exact TE.meet (j + 1, A60, c60) ⟨⟨by omega, hn60⟩, by (try simp only); omega⟩ (.cons (t := 0) (by first | rfl | (simp [lk]; done)) <| .cons (t := 1) (by first | rfl | (simp [lk]; done)) <| .cons (t := 8) (by first | rfl | (simp [lk]; done)) <| .cons (t := 9) (by first | rfl | (simp [lk]; done)) <| .cons (t := 11) (by first | rfl | (simp [lk]; done)) <| .cons (t := 12) (by first | rfl | (simp [lk]; done)) <| .nil) ((by simp only [fl_rep_succ]; exact Perm.kle (.cons (by first | exact P0 | exact P1 | exact P2 | exact P3 | exact P4 | exact P5 | exact P6 | exact P7) (.cons (by first | exact P0 | exact P1 | exact P2 | exact P3 | exact P4 | exact P5 | exact P6 | exact P7) (.cons (by first | exact P0 | exact P1 | exact P2 | exact P3 | exact P4 | exact P5 | exact P6 | exact P7) (.cons (by first | exact P0 | exact P1 | exact P2 | exact P3 | exact P4 | exact P5 | exact P6 | exact P7) .nil))))))
   ·
    intro ht53
    have hj : m = j := by have h9 := of_decide_eq_false ht53; omega
    subst hj
    refine T.exit ?_
    refine TE.pass_exit ?_
    refine TE.pass_exit ?_
    refine TE.here ?_
    refine TE.sub (.cons (t := 0) rfl <| .cons (t := 1) rfl <| .cons (t := 8) rfl <| .cons (t := 9) rfl <| .cons (t := 11) rfl <| .cons (t := 12) rfl <| .nil) ?_
    refine TE.next ?_
    refine T.seq ?_
    refine T.block ?_
    refine T.loop (ι := Nat × Option Addr × Nat) (fun ⟨k, As, cs⟩ => (n5 ≤ k ∧ k ≤ r) ∧ (As = none → cs = 0)) (fun ⟨k, As, cs⟩ => (r - k)) (fun ⟨k, As, cs⟩ => [(1, .int .i64 (r : Int)), (8, .int .i64 (tp : Int)), (9, .slice As k cs), (11, .pointer (some ⟨b11, 0, none⟩))]) (fun ⟨k, As, cs⟩ => [.row 65 2 As k cs (fll (ks ++ List.replicate (k - n5) (LnA.mk A7 m c7 (List.replicate m (blank Pen.zero)) false))), .blk b11 [.slice A7 m c7, .bool false] 65, .row 58 16 A7 m c7 (fl (List.replicate m (blank Pen.zero))), .fr σ]) (n5, As, cs) ⟨⟨Nat.le_refl _, by omega⟩, q2⟩ (.cons (t := 1) rfl <| .cons (t := 8) rfl <| .cons (t := 9) rfl <| .cons (t := 11) rfl <| .nil) ((by simp only [Nat.sub_self, List.replicate_zero, List.append_nil]; exact Perm.kle (.cons (by first | exact P0 | exact P1 | exact P2 | exact P3 | exact P4 | exact P5 | exact P6 | exact P7) (.cons (by first | exact P0 | exact P1 | exact P2 | exact P3 | exact P4 | exact P5 | exact P6 | exact P7) (.cons (by first | exact P0 | exact P1 | exact P2 | exact P3 | exact P4 | exact P5 | exact P6 | exact P7) (.cons (by first | exact P0 | exact P1 | exact P2 | exact P3 | exact P4 | exact P5 | exact P6 | exact P7) .nil)))))) ?_
    rintro ⟨k, As, cs⟩ hR3
    obtain ⟨⟨p3, p4⟩, p5⟩ := hR3
    refine T.seq ?_
    refine T.seq ?_
    refine T.region ?_
    refine TL.val (OpV.move rfl) rfl ?_
    refine TL.val (OpV.len Tryd.underlying22 rfl) rfl ?_
    refine TL.val (OpV.move rfl) rfl ?_
    refine TL.val (OpV.lss rfl rfl) rfl ?_
    refine TL.nil ?_
    refine TE.next ?_
    refine T.cond rfl ?_ ?_
    ·
     intro ht65
     have hk : k < r := by have h9 := of_decide_eq_true ht65; omega
     refine T.skip ?_
     refine TE.next ?_
     refine T.block ?_
     refine T.region ?_
     refine TL.val (OpV.move rfl) rfl ?_
     refine TL.val (OpV.loadA ag_65 rfl (by first | exact Cels.blk P0 rfl | exact Cels.blk P1 rfl | exact Cels.blk P2 rfl | exact Cels.blk P3 rfl | exact Cels.blk P4 rfl | exact Cels.blk P5 rfl | exact Cels.frA hatx rfl | exact Cels.frA hatz rfl)) rfl ?_
     refine TL.said (t := 67) rfl (show _ = Value.agg (LnA.mk A7 m c7 (List.replicate m (blank Pen.zero)) false).l.toArray from rfl) ?_
     refine TL.slit (qs := #[(0, _)]) (fun _ f => by simp only [List.map_toArray, List.map_cons, List.map_nil]; rw [f.ev (x := .tmp 67) rfl]) (sl_22_1_0 (LnA.mk A7 m c7 (List.replicate m (blank Pen.zero)) false)) rfl ?_
     intro b68
     obtain ⟨ti69, hi69, hz69, hs69, hb69⟩ := info_parts inf_65
     refine TL.append rfl rfl Tryd.underlying22 hi69 hz69 hs69 hb69 rfl (by omega) (by first | exact P0 | exact P1 | exact P2 | exact P3 | exact P4 | exact P5) (by first | exact Src.nil | exact Src.blk P0 rfl | exact Src.blk P1 rfl | exact Src.blk P2 rfl | exact Src.blk P3 rfl | exact Src.blk P4 rfl | exact Src.blk P5 rfl | exact Src.row P0 | exact Src.row P1 | exact Src.row P2 | exact Src.row P3 | exact Src.row P4 | exact Src.row P5) (fun h => by cases h) rfl (by omega) (by omega) rfl ?_
     clear hi69 hz69 hs69 hb69 ti69
     intro A69 c69 hn69
     refine TL.val (OpV.assign rfl) rfl ?_
     refine TL.nil ?_
     refine TE.out ?_
     exact TE.meet (k + 1, A69, c69) ⟨⟨⟨by omega, by omega⟩, hn69⟩, by (try simp only); omega⟩ (.cons (t := 1) (by first | rfl | (simp [lk]; done)) <| .cons (t := 8) (by first | rfl | (simp [lk]; done)) <| .cons (t := 9) (by first | rfl | (simp [lk]; done)) <| .cons (t := 11) (by first | rfl | (simp [lk]; done)) <| .nil) ((by simp only [show k + 1 - n5 = k - n5 + 1 by omega, List.replicate_succ', ← List.append_assoc, fll_snoc]; exact Perm.kle (.cons (by first | exact P0 | exact P1 | exact P2 | exact P3 | exact P4 | exact P5 | exact P6 | exact P7) (.cons (by first | exact P0 | exact P1 | exact P2 | exact P3 | exact P4 | exact P5 | exact P6 | exact P7) (.cons (by first | exact P0 | exact P1 | exact P2 | exact P3 | exact P4 | exact P5 | exact P6 | exact P7) (.cons (by first | exact P0 | exact P1 | exact P2 | exact P3 | exact P4 | exact P5 | exact P6 | exact P7) .nil))))))
    ·
     intro ht65
     have hk : r = k := by have h9 := of_decide_eq_false ht65; omega
     subst hk
     refine T.exit ?_
     refine TE.pass_exit ?_
     refine TE.pass_exit ?_
     refine TE.here ?_
     refine TE.next ?_
     refine T.seq ?_
     refine T.region ?_
     refine TL.val (OpV.move rfl) rfl ?_
     refine TL.val (OpV.move rfl) rfl ?_
     refine TL.val (OpV.assign rfl) rfl ?_
     refine TL.val (OpV.assign rfl) rfl ?_
     refine TL.nil ?_
     refine TE.sub (.cons (t := 6) rfl <| .cons (t := 7) rfl <| .nil) ?_
     refine TE.next ?_
     refine T.ret ?_
     refine TE.retN rfl (.cons (ResV.tmp rfl) <| .cons (ResV.tmp rfl) <| .nil) ?_
     intro wz kz
     obtain ⟨ρ1, ⟨r2, r3⟩, k2⟩ := KOk.rowInto (e := 58) (z := 16) (A := A7) (m := m) (c := c7) (xs := (fl (List.replicate m (blank Pen.zero)))) (τ := fun _ => none) (KOk.ownNil kz) (by first | exact P0 | exact P1 | exact P2 | exact P3 | exact P4 | exact P5 | exact P6 | exact P7) (by first | exact P0 | exact P1 | exact P2 | exact P3 | exact P4 | exact P5 | exact P6 | exact P7)
     obtain ⟨ρ2, ⟨r4, r5⟩, k3⟩ := KOk.rowInto (e := 65) (z := 2) (A := As) (m := r) (c := cs) (xs := fll (ks ++ List.replicate (r - n5) (LnA.mk A7 m c7 (List.replicate m (blank Pen.zero)) false))) (τ := ρ1) k2 (by first | exact P0 | exact P1 | exact P2 | exact P3 | exact P4 | exact P5 | exact P6 | exact P7) (by first | exact P0 | exact P1 | exact P2 | exact P3 | exact P4 | exact P5 | exact P6 | exact P7)
     have k4 : KOk w [.own ρ2, .fr σ] wz := Perm.kle (.cons (by first | exact P0 | exact P1 | exact P2 | exact P3 | exact P4 | exact P5 | exact P6 | exact P7) (.cons (by first | exact P0 | exact P1 | exact P2 | exact P3 | exact P4 | exact P5 | exact P6 | exact P7) .nil)) wz k3
     have hd : ∀ x, ρ2 x ≠ none → ¬ σ x ≠ none := k4.all.2.1 (.fr σ) (by simp) rfl
     refine ⟨⟨As, r, cs, ρ2⟩, by rw [htp]; rfl, ⟨ks ++ List.replicate (r - n5) (LnA.mk A7 m c7 (List.replicate m (blank Pen.zero)) false), ⟨SlR.of_row LnA.l_length (r4.mono fun b o hb => σ2_l b o hb) (show _ = r by rw [List.length_append, List.length_replicate]; omega), fun l hl => ?_⟩, ?_⟩, Perm.kle (.cons .here .nil) wz k4⟩
     · rcases List.mem_append.1 hl with hl | hl
       · rw [hks] at hl
         exact (h.2 l (List.mem_of_mem_take (List.mem_of_mem_drop hl))).mono fun b o hb => σ2_r hd b o hb
       · obtain rfl := List.eq_of_mem_replicate hl
         exact CsR.of_row (r2.mono fun b o hb => σ2_l b o (r5 b o hb)) (List.length_replicate ..)
     · rw [screenV, hXl, htp, Int.toNat_natCast, Int.toNat_natCast, ← hhi, ← hm, ← hn5, List.map_append, List.map_replicate, hks, List.map_drop, List.map_take]
       rfl
end Go.Proofs.YtdmpodpdpncobaaDoor
