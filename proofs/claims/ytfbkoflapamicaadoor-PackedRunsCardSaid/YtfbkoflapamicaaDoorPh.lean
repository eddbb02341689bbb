/-
  The walks of two laws. Condition: the package-level tables hold what they were laid with.
-/
import Derived.Test.YtfbkoflapamicaaDoorPe
import Derived.Test.YtfbkoflapamicaaDoorPg
namespace Go.Proofs.YtfbkoflapamicaaDoor
open Go.RowKit
set_option linter.unusedSimpArgs false
set_option linter.unusedVariables false
set_option maxRecDepth 100000 in
set_option maxHeartbeats 1000000 in
theorem packedPacks_law {σ : Nat → Option Obj} {A : Option Addr} {n c : Nat} {xs : List Cl} (w : World) (L : LaidW w) (h : CsR σ A n c xs) (hi : ∀ c ∈ xs, InP c.pen) (hs : ∀ b o, σ b = some o → w.heap[b]? = some o) : Calls Tryd.prog 5 #[.slice A n c] w (Ret (.bool true) w) := by
  have hn63 := h.2.1
  have hc63 := h.2.2.1
  have hl1 := h.1
  refine calls_T (vs := [.slice A n c]) (L0 := [(0, .slice A n c)]) Tryd.func5 rfl rfl rfl rfl (KOk.fr1 hs) ?_
  refine T.seq ?_
  refine T.region ?_
  refine TL.val (OpV.assign rfl) rfl ?_
  refine TL.nil ?_
  refine TE.next ?_
  refine T.seq ?_
  refine T.seq ?_
  refine T.region ?_
  refine TL.val (OpV.move rfl) rfl ?_
  refine TL.val (OpV.len Tryd.underlying42 rfl) rfl ?_
  refine TL.val (OpV.gtr rfl rfl) rfl ?_
  refine TL.nil ?_
  refine TE.next ?_
  refine T.cond rfl ?_ ?_
  · intro ht8
    refine T.seq ?_
    refine T.region ?_
    refine TL.call (g := 11) rfl go_11 rfl (fun w1 k1 => known05_law w1 (L.below k1.bel)) rfl ?_
    refine TL.val (OpV.assign rfl) rfl ?_
    refine TL.nil ?_
    refine TE.next ?_
    refine T.ret ?_
    refine TE.pass_ret ?_
    refine TE.ret1 rfl (ResV.tmp rfl) ?_
    exact fun w1 k1 => ⟨rfl, k1.bel⟩
  · intro ht8
    have hn60 : n ≤ 60 := by have h9 := of_decide_eq_false ht8; omega
    refine T.skip ?_
    refine TE.next ?_
    refine T.seq ?_
    refine T.region ?_
    refine TL.val (OpV.move rfl) rfl ?_
    refine TL.kle (Kle.nilRow 30 16) ?_
    obtain ⟨ti11, hi11, hz11, hs11, hb11⟩ := info_parts inf_30
    refine TL.append rfl rfl Tryd.underlying42 hi11 hz11 hs11 hb11 rfl (by omega) (by first | exact P0 | exact P1 | exact P2 | exact P3 | exact P4) (Src.cs (by first | exact P0 | exact P1 | exact P2 | exact P3 | exact P4 | exact P5) h) (fun h9 => h.2.2.2.1 h9) (one_fl _) (by omega) (by omega) rfl ?_
    clear hi11 hz11 hs11 hb11 ti11
    intro A11 c11 hn11
    rw [List.nil_append]
    refine TL.said (t := 11) rfl (show _ = Value.slice A11 n c11 by rw [Nat.zero_add]) ?_
    rw [Nat.zero_add]
    refine TL.val (OpV.assign rfl) rfl ?_
    refine TL.nil ?_
    refine TE.next ?_
    refine T.seq ?_
    refine T.region ?_
    refine TL.val (OpV.move rfl) rfl ?_
    refine TL.callx (g := 15) rfl go_15 rfl (fun wz k1 => own_x k1 (rpack_c wz h hi (k1.get (e := .fr σ) (by first | exact P0 | exact P1 | exact P2 | exact P3 | exact P4 | exact P5 | exact P6 | exact P7)))) rfl ?_
    rintro ⟨A4, n4, c4, ρ⟩ h4
    replace h4 : RsR ρ A4 n4 c4 (packV xs) := h4
    refine TL.said (t := 14) rfl (show _ = Value.tuple #[.slice A4 n4 c4, .int .i64 (packE xs)] from rfl) ?_
    refine TL.val (OpV.move rfl) rfl ?_
    refine TL.val (OpV.extract rfl rfl) rfl ?_
    refine TL.val (OpV.extract rfl rfl) rfl ?_
    refine TL.val (OpV.assign rfl) rfl ?_
    refine TL.val (OpV.assign rfl) rfl ?_
    refine TL.nil ?_
    refine TE.sub (.cons (t := 0) rfl <| .cons (t := 3) rfl <| .cons (t := 4) rfl <| .cons (t := 5) rfl <| .nil) ?_
    refine TE.next ?_
    refine T.seq ?_
    refine T.region ?_
    refine TL.val (OpV.move rfl) rfl ?_
    refine TL.val (OpV.move rfl) rfl ?_
    refine TL.val (OpV.move rfl) rfl ?_
    refine TL.call (g := 16) rfl go_16 rfl (fun w1 k1 => packsl_c (σ := fun b => w1.heap[b]?) w1 (packE xs) (L.below k1.bel) (CsR.of_row (k1.atRow (xs := fl xs) (by first | exact P0 | exact P1 | exact P2 | exact P3 | exact P4 | exact P5)) hl1) hi h4 (fun b o hb => hb) (fun b o hb => (k1.get (e := .own ρ) (by first | exact P0 | exact P1 | exact P2 | exact P3 | exact P4 | exact P5) b o hb).2)) rfl ?_
    refine TL.said (t := 20) rfl (show _ = Value.bool true from congrArg Value.bool (packs_ok xs)) ?_
    refine TL.val (OpV.move rfl) rfl ?_
    refine TL.open rfl rfl ?_
    refine TL.val (OpV.move rfl) rfl ?_
    refine TL.open rfl rfl ?_
    refine TL.val (OpV.move rfl) rfl ?_
    refine TL.open rfl rfl ?_
    refine TL.call (g := 17) rfl go_17 rfl (fun w1 k1 => csame_c (σ := fun b => w1.heap[b]?) w1 (CsR.of_row (k1.atRow (xs := fl xs) (by first | exact P0 | exact P1 | exact P2 | exact P3 | exact P4 | exact P5)) hl1) h (fun b o hb => hb) (k1.get (e := .fr σ) (by first | exact P0 | exact P1 | exact P2 | exact P3 | exact P4 | exact P5 | exact P6 | exact P7))) rfl ?_
    refine TL.said (t := 24) rfl (show _ = Value.bool true from congrArg Value.bool ((by simp))) ?_
    refine TL.val ((by first | exact OpV.pick_t rfl rfl | exact OpV.pick_f rfl rfl)) rfl ?_
    refine TL.val (OpV.move rfl) rfl ?_
    refine TL.open rfl rfl ?_
    refine TL.call (g := 11) rfl go_11 rfl (fun w1 k1 => known05_law w1 (L.below k1.bel)) rfl ?_
    refine TL.val ((by first | exact OpV.pick_t rfl rfl | exact OpV.pick_f rfl rfl)) rfl ?_
    refine TL.val (OpV.assign rfl) rfl ?_
    refine TL.nil ?_
    refine TE.sub (.cons (t := 2) rfl <| .nil) ?_
    refine TE.next ?_
    refine T.ret ?_
    refine TE.ret1 rfl (ResV.tmp rfl) ?_
    exact fun w1 k1 => ⟨rfl, k1.bel⟩
set_option maxRecDepth 100000 in
set_option maxHeartbeats 1000000 in
theorem packedRuns_law {σ τ : Nat → Option Obj} {A A2 : Option Addr} {n c n2 c2 : Nat} {ra rb : List Rn} (w : World) (L : LaidW w) (h : RsR σ A n c ra) (hw : InR ra) (h2 : RsR τ A2 n2 c2 rb) (hw2 : InR rb) (hs : ∀ b o, σ b = some o → w.heap[b]? = some o) (ht : ∀ b o, τ b = some o → w.heap[b]? = some o) : Calls Tryd.prog 6 #[.slice A n c, .slice A2 n2 c2] w (Ret (.bool true) w) := by
  have hn63 := h.2.1
  have hc63 := h.2.2.1
  have hl1 := h.1
  have hn64 := h2.2.1
  have hc64 := h2.2.2.1
  have hl2 := h2.1
  refine calls_T (vs := [.slice A n c, .slice A2 n2 c2]) (L0 := [(0, .slice A n c), (1, .slice A2 n2 c2)]) Tryd.func6 rfl rfl rfl rfl (KOk.frs hs ht) ?_
  refine T.seq ?_
  refine T.region ?_
  refine TL.val (OpV.assign rfl) rfl ?_
  refine TL.nil ?_
  refine TE.next ?_
  refine T.seq ?_
  refine T.seq ?_
  refine T.region ?_
  refine TL.val (OpV.move rfl) rfl ?_
  refine TL.call (g := 18) rfl go_18 rfl (fun w1 k1 => few5_c w1 h hw (k1.get (e := .fr σ) (by first | exact P0 | exact P1 | exact P2 | exact P3 | exact P4 | exact P5 | exact P6 | exact P7))) rfl ?_
  refine TL.val (OpV.not rfl) rfl ?_
  refine TL.val (OpV.move rfl) rfl ?_
  refine TL.part (t := 15) rfl ?_ ?_
  · intro hg15
    refine TL.shut rfl rfl ?_
    refine TL.shut rfl rfl ?_
    refine TL.shut rfl rfl ?_
    refine TL.val ((by first | exact OpV.pick_t rfl rfl | exact OpV.pick_f rfl rfl)) rfl ?_
    refine TL.nil ?_
    refine TE.sub (.cons (t := 0) rfl <| .cons (t := 1) rfl <| .cons (t := 19) rfl <| .nil) ?_
    refine TE.next ?_
    refine T.yes rfl ?_
    refine T.seq ?_
    refine T.region ?_
    refine TL.call (g := 11) rfl go_11 rfl (fun w1 k1 => known05_law w1 (L.below k1.bel)) rfl ?_
    refine TL.val (OpV.assign rfl) rfl ?_
    refine TL.nil ?_
    refine TE.next ?_
    refine T.ret ?_
    refine TE.pass_ret ?_
    refine TE.ret1 rfl (ResV.tmp rfl) ?_
    exact fun w1 k1 => ⟨rfl, k1.bel⟩
  · intro hg15
    refine TL.open rfl rfl ?_
    refine TL.val (OpV.move rfl) rfl ?_
    refine TL.open rfl rfl ?_
    refine TL.call (g := 18) rfl go_18 rfl (fun w1 k1 => few5_c w1 h2 hw2 (k1.get (e := .fr τ) (by first | exact P0 | exact P1 | exact P2 | exact P3 | exact P4 | exact P5 | exact P6 | exact P7))) rfl ?_
    refine TL.open rfl rfl ?_
    refine TL.val (OpV.not rfl) rfl ?_
    refine TL.val ((by first | exact OpV.pick_t rfl rfl | exact OpV.pick_f rfl rfl)) rfl ?_
    refine TL.nil ?_
    refine TE.sub (.cons (t := 0) rfl <| .cons (t := 1) rfl <| .cons (t := 19) rfl <| .nil) ?_
    refine TE.next ?_
    refine T.cond rfl ?_ ?_
    · intro ht19
      refine T.seq ?_
      refine T.region ?_
      refine TL.call (g := 11) rfl go_11 rfl (fun w1 k1 => known05_law w1 (L.below k1.bel)) rfl ?_
      refine TL.val (OpV.assign rfl) rfl ?_
      refine TL.nil ?_
      refine TE.next ?_
      refine T.ret ?_
      refine TE.pass_ret ?_
      refine TE.ret1 rfl (ResV.tmp rfl) ?_
      exact fun w1 k1 => ⟨rfl, k1.bel⟩
    · intro ht19
      refine T.skip ?_
      refine TE.next ?_
      refine T.seq ?_
      refine T.region ?_
      refine TL.val (OpV.move rfl) rfl ?_
      refine TL.callx (g := 19) rfl go_19 rfl (fun wz k1 => own_x k1 (rcells_c wz h hw (k1.get (e := .fr σ) (by first | exact P0 | exact P1 | exact P2 | exact P3 | exact P4 | exact P5 | exact P6 | exact P7)))) rfl ?_
      rintro ⟨A5, n5, c5, ρ5⟩ h5
      replace h5 : CsR ρ5 A5 n5 c5 (unpackV ra) := h5
      refine TL.said (t := 23) rfl (show _ = Value.tuple #[.slice A5 n5 c5, .bool (vR ra)] from rfl) ?_
      have hn5 := h5.2.1
      have hc5 := h5.2.2.1
      refine TL.val (OpV.move rfl) rfl ?_
      refine TL.val (OpV.extract rfl rfl) rfl ?_
      refine TL.val (OpV.extract rfl rfl) rfl ?_
      refine TL.val (OpV.assign rfl) rfl ?_
      refine TL.val (OpV.assign rfl) rfl ?_
      refine TL.nil ?_
      refine TE.next ?_
      refine T.seq ?_
      refine T.region ?_
      refine TL.val (OpV.move rfl) rfl ?_
      refine TL.callx (g := 19) rfl go_19 rfl (fun wz k1 => own_x k1 (rcells_c wz h2 hw2 (k1.get (e := .fr τ) (by first | exact P0 | exact P1 | exact P2 | exact P3 | exact P4 | exact P5 | exact P6 | exact P7)))) rfl ?_
      rintro ⟨A7, n7, c7, ρ7⟩ h7
      replace h7 : CsR ρ7 A7 n7 c7 (unpackV rb) := h7
      refine TL.said (t := 28) rfl (show _ = Value.tuple #[.slice A7 n7 c7, .bool (vR rb)] from rfl) ?_
      have hn7 := h7.2.1
      have hc7 := h7.2.2.1
      refine TL.val (OpV.move rfl) rfl ?_
      refine TL.val (OpV.extract rfl rfl) rfl ?_
      refine TL.val (OpV.extract rfl rfl) rfl ?_
      refine TL.val (OpV.assign rfl) rfl ?_
      refine TL.val (OpV.assign rfl) rfl ?_
      refine TL.nil ?_
      refine TE.sub (.cons (t := 0) rfl <| .cons (t := 1) rfl <| .cons (t := 5) rfl <| .cons (t := 6) rfl <| .cons (t := 7) rfl <| .cons (t := 8) rfl <| .nil) ?_
      refine TE.next ?_
      refine T.seq ?_
      refine T.seq ?_
      refine T.region ?_
      refine TL.val (OpV.move rfl) rfl ?_
      refine TL.call (g := 20) rfl go_20 rfl (fun w1 k1 => valid5_c w1 (L.below k1.bel) h hw (k1.get (e := .fr σ) (by first | exact P0 | exact P1 | exact P2 | exact P3 | exact P4 | exact P5 | exact P6 | exact P7))) rfl ?_
      refine TL.val (OpV.move rfl) rfl ?_
      refine TL.val (OpV.bneq Tryd.underlying4 rfl rfl) rfl ?_
      refine TL.said (t := 34) rfl (show _ = Value.bool false from congrArg Value.bool ((by simp))) ?_
      refine TL.val (OpV.move rfl) rfl ?_
      refine TL.open rfl rfl ?_
      refine TL.val (OpV.move rfl) rfl ?_
      refine TL.open rfl rfl ?_
      refine TL.call (g := 21) rfl go_21 rfl (fun w1 k1 => count_c w1 (L.below k1.bel) h hw (k1.get (e := .fr σ) (by first | exact P0 | exact P1 | exact P2 | exact P3 | exact P4 | exact P5 | exact P6 | exact P7))) rfl ?_
      refine TL.open rfl rfl ?_
      refine TL.val (OpV.move rfl) rfl ?_
      refine TL.open rfl rfl ?_
      refine TL.val (OpV.len Tryd.underlying42 rfl) rfl ?_
      refine TL.open rfl rfl ?_
      refine TL.val (OpV.neq rfl rfl) rfl ?_
      refine TL.said (t := 40) rfl (show _ = Value.bool false from congrArg Value.bool ((by rw [count_un, h5.1]; simp))) ?_
      refine TL.val ((by first | exact OpV.pick_t rfl rfl | exact OpV.pick_f rfl rfl)) rfl ?_
      refine TL.val (OpV.move rfl) rfl ?_
      refine TL.open rfl rfl ?_
      refine TL.val (OpV.move rfl) rfl ?_
      refine TL.open rfl rfl ?_
      refine TL.call (g := 20) rfl go_20 rfl (fun w1 k1 => valid5_c w1 (L.below k1.bel) h2 hw2 (k1.get (e := .fr τ) (by first | exact P0 | exact P1 | exact P2 | exact P3 | exact P4 | exact P5 | exact P6 | exact P7))) rfl ?_
      refine TL.open rfl rfl ?_
      refine TL.val (OpV.move rfl) rfl ?_
      refine TL.open rfl rfl ?_
      refine TL.val (OpV.bneq Tryd.underlying4 rfl rfl) rfl ?_
      refine TL.said (t := 46) rfl (show _ = Value.bool false from congrArg Value.bool ((by simp))) ?_
      refine TL.val ((by first | exact OpV.pick_t rfl rfl | exact OpV.pick_f rfl rfl)) rfl ?_
      refine TL.nil ?_
      refine TE.sub (.cons (t := 0) rfl <| .cons (t := 1) rfl <| .cons (t := 5) rfl <| .cons (t := 6) rfl <| .cons (t := 7) rfl <| .cons (t := 8) rfl <| .cons (t := 47) rfl <| .nil) ?_
      refine TE.next ?_
      refine T.no rfl ?_
      refine T.skip ?_
      refine TE.next ?_
      refine T.seq ?_
      refine T.seq ?_
      refine T.region ?_
      refine TL.val (OpV.move rfl) rfl ?_
      refine TL.val (OpV.not rfl) rfl ?_
      refine TL.nil ?_
      refine TE.next ?_
      refine T.cond rfl ?_ ?_
      · intro ht49
        have hva : vR ra = false := by simpa using ht49
        refine T.seq ?_
        refine T.region ?_
        refine TL.val (OpV.move rfl) rfl ?_
        refine TL.call (g := 22) rfl go_22 rfl (fun w1 k1 => unpacksl_c (τ := σ) w1 12 (L.below k1.bel) h hw (CsR_nil _) (k1.get (e := .fr σ) (by first | exact P0 | exact P1 | exact P2 | exact P3 | exact P4 | exact P5 | exact P6 | exact P7)) (k1.get (e := .fr σ) (by first | exact P0 | exact P1 | exact P2 | exact P3 | exact P4 | exact P5 | exact P6 | exact P7))) rfl ?_
        refine TL.said (t := 51) rfl (show _ = Value.bool true from congrArg Value.bool (unpacks_bad hva)) ?_
        refine TL.val (OpV.move rfl) rfl ?_
        refine TL.open rfl rfl ?_
        refine TL.val (OpV.move rfl) rfl ?_
        refine TL.open rfl rfl ?_
        refine TL.val (OpV.move rfl) rfl ?_
        refine TL.open rfl rfl ?_
        refine TL.call (g := 23) rfl go_23 rfl (fun w1 k1 => joinsl_c (υ := σ) w1 12 (L.below k1.bel) h hw h2 hw2 (RsR_nil _) (k1.get (e := .fr σ) (by first | exact P0 | exact P1 | exact P2 | exact P3 | exact P4 | exact P5 | exact P6 | exact P7)) (k1.get (e := .fr τ) (by first | exact P0 | exact P1 | exact P2 | exact P3 | exact P4 | exact P5 | exact P6 | exact P7)) (k1.get (e := .fr σ) (by first | exact P0 | exact P1 | exact P2 | exact P3 | exact P4 | exact P5 | exact P6 | exact P7))) rfl ?_
        refine TL.said (t := 55) rfl (show _ = Value.bool true from congrArg Value.bool (joins_bad (.inl hva))) ?_
        refine TL.val ((by first | exact OpV.pick_t rfl rfl | exact OpV.pick_f rfl rfl)) rfl ?_
        refine TL.val (OpV.move rfl) rfl ?_
        refine TL.open rfl rfl ?_
        refine TL.val (OpV.move rfl) rfl ?_
        refine TL.open rfl rfl ?_
        refine TL.val (OpV.move rfl) rfl ?_
        refine TL.open rfl rfl ?_
        refine TL.call (g := 23) rfl go_23 rfl (fun w1 k1 => joinsl_c (υ := σ) w1 12 (L.below k1.bel) h2 hw2 h hw (RsR_nil _) (k1.get (e := .fr τ) (by first | exact P0 | exact P1 | exact P2 | exact P3 | exact P4 | exact P5 | exact P6 | exact P7)) (k1.get (e := .fr σ) (by first | exact P0 | exact P1 | exact P2 | exact P3 | exact P4 | exact P5 | exact P6 | exact P7)) (k1.get (e := .fr σ) (by first | exact P0 | exact P1 | exact P2 | exact P3 | exact P4 | exact P5 | exact P6 | exact P7))) rfl ?_
        refine TL.said (t := 60) rfl (show _ = Value.bool true from congrArg Value.bool (joins_bad (.inr hva))) ?_
        refine TL.val ((by first | exact OpV.pick_t rfl rfl | exact OpV.pick_f rfl rfl)) rfl ?_
        refine TL.val (OpV.move rfl) rfl ?_
        refine TL.open rfl rfl ?_
        refine TL.call (g := 11) rfl go_11 rfl (fun w1 k1 => known05_law w1 (L.below k1.bel)) rfl ?_
        refine TL.val ((by first | exact OpV.pick_t rfl rfl | exact OpV.pick_f rfl rfl)) rfl ?_
        refine TL.val (OpV.assign rfl) rfl ?_
        refine TL.nil ?_
        refine TE.sub (.cons (t := 4) rfl <| .nil) ?_
        refine TE.next ?_
        refine T.ret ?_
        refine TE.pass_ret ?_
        refine TE.ret1 rfl (ResV.tmp rfl) ?_
        exact fun w1 k1 => ⟨rfl, k1.bel⟩
      · intro ht49
        have hva : vR ra = true := by simpa using ht49
        have ua : unpackV ra = flatR ra := by rw [unpackV, if_pos hva]
        rw [ua] at h5
        obtain ⟨ca1, ca2, ca3⟩ := flatR_ok hva
        obtain ⟨_, da2, da3⟩ := vR_parts hva
        rw [h5.1] at ca3
        refine T.skip ?_
        refine TE.next ?_
        refine T.seq ?_
        refine T.seq ?_
        refine T.region ?_
        refine TL.val (OpV.move rfl) rfl ?_
        refine TL.val (OpV.move rfl) rfl ?_
        refine TL.call (g := 22) rfl go_22 rfl (fun w1 k1 => unpacksl_c w1 0 (L.below k1.bel) h hw h5 (k1.get (e := .fr σ) (by first | exact P0 | exact P1 | exact P2 | exact P3 | exact P4 | exact P5 | exact P6 | exact P7)) (fun b o hb => (k1.get (e := .own ρ5) (by first | exact P0 | exact P1 | exact P2 | exact P3 | exact P4 | exact P5) b o hb).2)) rfl ?_
        refine TL.said (t := 67) rfl (show _ = Value.bool true from congrArg Value.bool (unpacks_ok hva)) ?_
        refine TL.val (OpV.not rfl) rfl ?_
        refine TL.nil ?_
        refine TE.sub (.cons (t := 0) rfl <| .cons (t := 1) rfl <| .cons (t := 5) rfl <| .cons (t := 7) rfl <| .cons (t := 8) rfl <| .cons (t := 68) rfl <| .nil) ?_
        refine TE.next ?_
        refine T.no rfl ?_
        refine T.skip ?_
        refine TE.next ?_
        refine T.seq ?_
        refine T.seq ?_
        refine T.region ?_
        refine TL.val (OpV.move rfl) rfl ?_
        refine TL.val (OpV.not rfl) rfl ?_
        refine TL.nil ?_
        refine TE.next ?_
        refine T.cond rfl ?_ ?_
        · intro ht70
          have hvb : vR rb = false := by simpa using ht70
          refine T.seq ?_
          refine T.region ?_
          refine TL.val (OpV.move rfl) rfl ?_
          refine TL.val (OpV.move rfl) rfl ?_
          refine TL.call (g := 23) rfl go_23 rfl (fun w1 k1 => joinsl_c (υ := σ) w1 12 (L.below k1.bel) h hw h2 hw2 (RsR_nil _) (k1.get (e := .fr σ) (by first | exact P0 | exact P1 | exact P2 | exact P3 | exact P4 | exact P5 | exact P6 | exact P7)) (k1.get (e := .fr τ) (by first | exact P0 | exact P1 | exact P2 | exact P3 | exact P4 | exact P5 | exact P6 | exact P7)) (k1.get (e := .fr σ) (by first | exact P0 | exact P1 | exact P2 | exact P3 | exact P4 | exact P5 | exact P6 | exact P7))) rfl ?_
          refine TL.said (t := 73) rfl (show _ = Value.bool true from congrArg Value.bool (joins_bad (.inr hvb))) ?_
          refine TL.val (OpV.move rfl) rfl ?_
          refine TL.open rfl rfl ?_
          refine TL.call (g := 11) rfl go_11 rfl (fun w1 k1 => known05_law w1 (L.below k1.bel)) rfl ?_
          refine TL.val ((by first | exact OpV.pick_t rfl rfl | exact OpV.pick_f rfl rfl)) rfl ?_
          refine TL.val (OpV.assign rfl) rfl ?_
          refine TL.nil ?_
          refine TE.sub (.cons (t := 4) rfl <| .nil) ?_
          refine TE.next ?_
          refine T.ret ?_
          refine TE.pass_ret ?_
          refine TE.ret1 rfl (ResV.tmp rfl) ?_
          exact fun w1 k1 => ⟨rfl, k1.bel⟩
        · intro ht70
          have hvb : vR rb = true := by simpa using ht70
          have ub : unpackV rb = flatR rb := by rw [unpackV, if_pos hvb]
          rw [ub] at h7
          obtain ⟨cb1, cb2, cb3⟩ := flatR_ok hvb
          obtain ⟨_, db2, db3⟩ := vR_parts hvb
          rw [h7.1] at cb3
          refine T.skip ?_
          refine TE.next ?_
          refine T.seq ?_
          refine T.seq ?_
          refine T.region ?_
          refine TL.val (OpV.move rfl) rfl ?_
          refine TL.val (OpV.len Tryd.underlying42 rfl) rfl ?_
          refine TL.val (OpV.move rfl) rfl ?_
          refine TL.val (OpV.len Tryd.underlying42 rfl) rfl ?_
          refine TL.val (OpV.add rfl rfl (by first | exact IntWalk.i64_in _ ⟨by omega, by omega⟩ | rfl)) rfl ?_
          refine TL.val (OpV.gtr rfl rfl) rfl ?_
          refine TL.nil ?_
          refine TE.sub (.cons (t := 0) rfl <| .cons (t := 1) rfl <| .cons (t := 5) rfl <| .cons (t := 7) rfl <| .cons (t := 82) rfl <| .nil) ?_
          refine TE.next ?_
          refine T.cond rfl ?_ ?_
          · intro ht82
            have hsum : 100000 < sumR ra + sumR rb := by have h9 := of_decide_eq_true ht82; omega
            refine T.seq ?_
            refine T.region ?_
            refine TL.val (OpV.move rfl) rfl ?_
            refine TL.val (OpV.move rfl) rfl ?_
            refine TL.call (g := 23) rfl go_23 rfl (fun w1 k1 => joinsl_c (υ := σ) w1 5 (L.below k1.bel) h hw h2 hw2 (RsR_nil _) (k1.get (e := .fr σ) (by first | exact P0 | exact P1 | exact P2 | exact P3 | exact P4 | exact P5 | exact P6 | exact P7)) (k1.get (e := .fr τ) (by first | exact P0 | exact P1 | exact P2 | exact P3 | exact P4 | exact P5 | exact P6 | exact P7)) (k1.get (e := .fr σ) (by first | exact P0 | exact P1 | exact P2 | exact P3 | exact P4 | exact P5 | exact P6 | exact P7))) rfl ?_
            refine TL.said (t := 85) rfl (show _ = Value.bool true from congrArg Value.bool (joins_long hva hvb hsum)) ?_
            refine TL.val (OpV.move rfl) rfl ?_
            refine TL.open rfl rfl ?_
            refine TL.call (g := 11) rfl go_11 rfl (fun w1 k1 => known05_law w1 (L.below k1.bel)) rfl ?_
            refine TL.val ((by first | exact OpV.pick_t rfl rfl | exact OpV.pick_f rfl rfl)) rfl ?_
            refine TL.val (OpV.assign rfl) rfl ?_
            refine TL.nil ?_
            refine TE.sub (.cons (t := 4) rfl <| .nil) ?_
            refine TE.next ?_
            refine T.ret ?_
            refine TE.pass_ret ?_
            refine TE.ret1 rfl (ResV.tmp rfl) ?_
            exact fun w1 k1 => ⟨rfl, k1.bel⟩
          · intro ht82
            have hsum : sumR ra + sumR rb ≤ 100000 := by have h9 := of_decide_eq_false ht82; omega
            refine T.skip ?_
            refine TE.next ?_
            refine T.seq ?_
            refine T.kle (K' := [.fr ρ5, .fr ρ7, .fr σ, .fr τ]) (Kle.trans (Perm.kle (.cons (by first | exact P0 | exact P1 | exact P2 | exact P3 | exact P4 | exact P5) (.cons (by first | exact P0 | exact P1 | exact P2 | exact P3 | exact P4 | exact P5) (.cons (by first | exact P0 | exact P1 | exact P2 | exact P3 | exact P4 | exact P5) (.cons (by first | exact P0 | exact P1 | exact P2 | exact P3 | exact P4 | exact P5) .nil))))) (Kle.trans (K' := .fr ρ5 :: .own ρ7 :: .fr σ :: .fr τ :: []) Kle.ownFr (Kle.trans (Kle.trans (Kle.pick (.there .here)) Kle.ownFr) (Kle.pick (.there .here))))) ?_
            refine T.region ?_
            refine TL.val (OpV.move rfl) rfl ?_
            refine TL.kle (Kle.nilRow 67 4) ?_
            obtain ⟨ti90, hi90, hz90, hs90, hb90⟩ := info_parts inf_67
            refine TL.append rfl rfl Tryd.underlying43 hi90 hz90 hs90 hb90 rfl (by omega) (by first | exact P0 | exact P1 | exact P2 | exact P3 | exact P4 | exact P5) (Src.rs (by first | exact P0 | exact P1 | exact P2 | exact P3 | exact P4 | exact P5) h) (fun h9 => h.2.2.2.1 h9) (one_rl _) (by omega) (by omega) rfl ?_
            clear hi90 hz90 hs90 hb90 ti90
            intro A90 c90 hn90
            rw [List.nil_append]
            refine TL.said (t := 90) rfl (show _ = Value.slice A90 n c90 by rw [Nat.zero_add]) ?_
            rw [Nat.zero_add]
            refine TL.val (OpV.assign rfl) rfl ?_
            refine TL.nil ?_
            refine TE.next ?_
            refine T.seq ?_
            refine T.region ?_
            refine TL.val (OpV.move rfl) rfl ?_
            refine TL.kle (Kle.nilRow 30 16) ?_
            obtain ⟨ti93, hi93, hz93, hs93, hb93⟩ := info_parts inf_30
            refine TL.append rfl rfl Tryd.underlying42 hi93 hz93 hs93 hb93 rfl (by omega) (by first | exact P0 | exact P1 | exact P2 | exact P3 | exact P4 | exact P5) (Src.cs (by first | exact P0 | exact P1 | exact P2 | exact P3 | exact P4 | exact P5) h5) (fun h9 => h5.2.2.2.1 h9) (one_fl _) (by omega) (by omega) rfl ?_
            clear hi93 hz93 hs93 hb93 ti93
            intro A93 c93 hn93
            rw [List.nil_append]
            refine TL.said (t := 93) rfl (show _ = Value.slice A93 n5 c93 by rw [Nat.zero_add]) ?_
            rw [Nat.zero_add]
            refine TL.val (OpV.move rfl) rfl ?_
            obtain ⟨ti95, hi95, hz95, hs95, hb95⟩ := info_parts inf_30
            refine TL.append rfl rfl Tryd.underlying42 hi95 hz95 hs95 hb95 rfl (by omega) (by first | exact P0 | exact P1 | exact P2 | exact P3 | exact P4 | exact P5) (Src.cs (by first | exact P0 | exact P1 | exact P2 | exact P3 | exact P4 | exact P5) h7) (fun h9 => h7.2.2.2.1 h9) (one_fl _) (by omega) (by omega) rfl ?_
            clear hi95 hz95 hs95 hb95 ti95
            intro A95 c95 hn95
            refine TL.callx (g := 15) rfl go_15 rfl (fun wz k1 => own_x k1 (rpack_c (σ := fun b => wz.heap[b]?) (xs := flatR ra ++ flatR rb) wz (CsR.of_row (by have h9 := k1.atRow (xs := fl (flatR ra) ++ fl (flatR rb)) (by first | exact P0 | exact P1 | exact P2 | exact P3 | exact P4 | exact P5); rw [← fl_append] at h9; exact h9) (by rw [List.length_append, h5.1, h7.1])) (fun c hc => by rcases List.mem_append.1 hc with hc | hc; exact ca2 c hc; exact cb2 c hc) (fun b o hb => hb))) rfl ?_
            rintro ⟨A10, n10, c10, ρ10⟩ h10
            replace h10 : RsR ρ10 A10 n10 c10 (packV (flatR ra ++ flatR rb)) := h10
            refine TL.said (t := 96) rfl (show _ = Value.tuple #[.slice A10 n10 c10, .int .i64 (packE (flatR ra ++ flatR rb))] from rfl) ?_
            refine TL.val (OpV.move rfl) rfl ?_
            refine TL.val (OpV.extract rfl rfl) rfl ?_
            refine TL.val (OpV.extract rfl rfl) rfl ?_
            refine TL.val (OpV.assign rfl) rfl ?_
            refine TL.val (OpV.assign rfl) rfl ?_
            refine TL.nil ?_
            refine TE.sub (.cons (t := 0) rfl <| .cons (t := 1) rfl <| .cons (t := 9) rfl <| .cons (t := 10) rfl <| .nil) ?_
            refine TE.next ?_
            refine T.seq ?_
            refine T.region ?_
            refine TL.val (OpV.move rfl) rfl ?_
            refine TL.val (OpV.move rfl) rfl ?_
            refine TL.val (OpV.move rfl) rfl ?_
            refine TL.call (g := 23) rfl go_23 rfl (fun w1 k1 => joinsl_c (σ := fun b => w1.heap[b]?) w1 0 (L.below k1.bel) (SlR.of_row Rn.l_length (k1.atRow (xs := rl ra) (by first | exact P0 | exact P1 | exact P2 | exact P3 | exact P4 | exact P5)) hl1 : RsR _ A90 n c90 ra) hw h2 hw2 h10 (fun b o hb => hb) (k1.get (e := .fr τ) (by first | exact P0 | exact P1 | exact P2 | exact P3 | exact P4 | exact P5 | exact P6 | exact P7)) (fun b o hb => (k1.get (e := .own ρ10) (by first | exact P0 | exact P1 | exact P2 | exact P3 | exact P4 | exact P5) b o hb).2)) rfl ?_
            refine TL.said (t := 102) rfl (show _ = Value.bool true from congrArg Value.bool (joins_ok hva hvb hw hw2 hsum)) ?_
            refine TL.val (OpV.move rfl) rfl ?_
            refine TL.open rfl rfl ?_
            refine TL.val (OpV.move rfl) rfl ?_
            refine TL.open rfl rfl ?_
            refine TL.val (OpV.move rfl) rfl ?_
            refine TL.open rfl rfl ?_
            refine TL.call (g := 24) rfl go_24 rfl (fun w1 k1 => rsame_c (σ := fun b => w1.heap[b]?) w1 (SlR.of_row Rn.l_length (k1.atRow (xs := rl ra) (by first | exact P0 | exact P1 | exact P2 | exact P3 | exact P4 | exact P5)) hl1 : RsR _ A90 n c90 ra) h (fun b o hb => hb) (k1.get (e := .fr σ) (by first | exact P0 | exact P1 | exact P2 | exact P3 | exact P4 | exact P5 | exact P6 | exact P7))) rfl ?_
            refine TL.said (t := 106) rfl (show _ = Value.bool true from congrArg Value.bool ((by simp))) ?_
            refine TL.val ((by first | exact OpV.pick_t rfl rfl | exact OpV.pick_f rfl rfl)) rfl ?_
            refine TL.val (OpV.move rfl) rfl ?_
            refine TL.open rfl rfl ?_
            refine TL.call (g := 11) rfl go_11 rfl (fun w1 k1 => known05_law w1 (L.below k1.bel)) rfl ?_
            refine TL.val ((by first | exact OpV.pick_t rfl rfl | exact OpV.pick_f rfl rfl)) rfl ?_
            refine TL.val (OpV.assign rfl) rfl ?_
            refine TL.nil ?_
            refine TE.sub (.cons (t := 4) rfl <| .nil) ?_
            refine TE.next ?_
            refine T.ret ?_
            refine TE.ret1 rfl (ResV.tmp rfl) ?_
            exact fun w1 k1 => ⟨rfl, k1.bel⟩
end Go.Proofs.YtfbkoflapamicaaDoor
