/-
  The walk of the law PackedHolds. Condition: the package-level tables hold what they were laid with.
-/
import Derived.Test.YtfbkoflapamicaaDoorPe
import Derived.Test.YtfbkoflapamicaaDoorPg
namespace Go.Proofs.YtfbkoflapamicaaDoor
open Go.RowKit
set_option linter.unusedSimpArgs false
set_option linter.unusedVariables false
set_option maxRecDepth 100000 in
set_option maxHeartbeats 1000000 in
theorem packedHolds_law {σ τ : Nat → Option Obj} {A A2 : Option Addr} {n c n2 c2 : Nat} {xs ys : List Cl} (w : World) (L : LaidW w) (h : CsR σ A n c xs) (hi : ∀ c ∈ xs, InP c.pen) (h2 : CsR τ A2 n2 c2 ys) (hi2 : ∀ c ∈ ys, InP c.pen) (hs : ∀ b o, σ b = some o → w.heap[b]? = some o) (ht : ∀ b o, τ b = some o → w.heap[b]? = some o) : Calls Tryd.prog 8 #[.slice A n c, .slice A2 n2 c2] w (Ret (.bool true) w) := by
  have hn63 := h.2.1
  have hc63 := h.2.2.1
  have hl1 := h.1
  have hn64 := h2.2.1
  have hc64 := h2.2.2.1
  have hl2 := h2.1
  refine calls_T (vs := [.slice A n c, .slice A2 n2 c2]) (L0 := [(0, .slice A n c), (1, .slice A2 n2 c2)]) Tryd.func8 rfl rfl rfl rfl (KOk.frs hs ht) ?_
  refine T.seq ?_
  refine T.region ?_
  refine TL.val (OpV.assign rfl) rfl ?_
  refine TL.nil ?_
  refine TE.next ?_
  refine T.seq ?_
  refine T.seq ?_
  refine T.region ?_
  refine TL.val (OpV.move rfl) rfl ?_
  refine TL.val (OpV.len Tryd.underlying42 rfl) rfl ?_
  refine TL.val (OpV.gtr rfl rfl) rfl ?_
  refine TL.val (OpV.move rfl) rfl ?_
  refine TL.part (t := 20) rfl ?_ ?_
  · intro hg20
    refine TL.shut rfl rfl ?_
    refine TL.shut rfl rfl ?_
    refine TL.shut rfl rfl ?_
    refine TL.val ((by first | exact OpV.pick_t rfl rfl | exact OpV.pick_f rfl rfl)) rfl ?_
    refine TL.nil ?_
    refine TE.sub (.cons (t := 0) rfl <| .cons (t := 1) rfl <| .cons (t := 24) rfl <| .nil) ?_
    refine TE.next ?_
    refine T.yes rfl ?_
    refine T.seq ?_
    refine T.region ?_
    refine TL.call (g := 11) rfl go_11 rfl (fun w1 k1 => known05_law w1 (L.below k1.bel)) rfl ?_
    refine TL.val (OpV.assign rfl) rfl ?_
    refine TL.nil ?_
    refine TE.next ?_
    refine T.ret ?_
    refine TE.pass_ret ?_
    refine TE.ret1 rfl (ResV.tmp rfl) ?_
    exact fun w1 k1 => ⟨rfl, k1.bel⟩
  · intro hg20
    have e1 := of_decide_eq_false hg20
    refine TL.open rfl rfl ?_
    refine TL.val (OpV.move rfl) rfl ?_
    refine TL.open rfl rfl ?_
    refine TL.val (OpV.len Tryd.underlying42 rfl) rfl ?_
    refine TL.open rfl rfl ?_
    refine TL.val (OpV.gtr rfl rfl) rfl ?_
    refine TL.val ((by first | exact OpV.pick_t rfl rfl | exact OpV.pick_f rfl rfl)) rfl ?_
    refine TL.nil ?_
    refine TE.sub (.cons (t := 0) rfl <| .cons (t := 1) rfl <| .cons (t := 24) rfl <| .nil) ?_
    refine TE.next ?_
    refine T.cond rfl ?_ ?_
    · intro ht24
      refine T.seq ?_
      refine T.region ?_
      refine TL.call (g := 11) rfl go_11 rfl (fun w1 k1 => known05_law w1 (L.below k1.bel)) rfl ?_
      refine TL.val (OpV.assign rfl) rfl ?_
      refine TL.nil ?_
      refine TE.next ?_
      refine T.ret ?_
      refine TE.pass_ret ?_
      refine TE.ret1 rfl (ResV.tmp rfl) ?_
      exact fun w1 k1 => ⟨rfl, k1.bel⟩
    · intro ht24
      have e2 := of_decide_eq_false ht24
      refine T.skip ?_
      refine TE.next ?_
      refine T.seq ?_
      refine T.region ?_
      refine TL.val (OpV.move rfl) rfl ?_
      refine TL.callx (g := 25) rfl go_25 rfl (fun wz k1 => own_x k1 (pack5_c wz (L.below k1.bel) h hi (k1.get (e := .fr σ) (by first | exact P0 | exact P1 | exact P2 | exact P3 | exact P4 | exact P5 | exact P6 | exact P7)))) rfl ?_
      rintro ⟨A5, n5, c5, ρ5⟩ h5
      replace h5 : RsR ρ5 A5 n5 c5 (packV xs) := h5
      refine TL.said (t := 28) rfl (show _ = Value.tuple #[.slice A5 n5 c5, .int .i64 (packE xs)] from rfl) ?_
      refine TL.val (OpV.move rfl) rfl ?_
      refine TL.val (OpV.extract rfl rfl) rfl ?_
      refine TL.val (OpV.extract rfl rfl) rfl ?_
      refine TL.val (OpV.assign rfl) rfl ?_
      refine TL.val (OpV.assign rfl) rfl ?_
      refine TL.nil ?_
      refine TE.next ?_
      refine T.seq ?_
      refine T.region ?_
      refine TL.val (OpV.move rfl) rfl ?_
      refine TL.callx (g := 25) rfl go_25 rfl (fun wz k1 => own_x k1 (pack5_c wz (L.below k1.bel) h2 hi2 (k1.get (e := .fr τ) (by first | exact P0 | exact P1 | exact P2 | exact P3 | exact P4 | exact P5 | exact P6 | exact P7)))) rfl ?_
      rintro ⟨A7, n7, c7, ρ7⟩ h7
      replace h7 : RsR ρ7 A7 n7 c7 (packV ys) := h7
      refine TL.said (t := 33) rfl (show _ = Value.tuple #[.slice A7 n7 c7, .int .i64 (packE ys)] from rfl) ?_
      refine TL.val (OpV.move rfl) rfl ?_
      refine TL.val (OpV.extract rfl rfl) rfl ?_
      refine TL.val (OpV.extract rfl rfl) rfl ?_
      refine TL.val (OpV.assign rfl) rfl ?_
      refine TL.val (OpV.assign rfl) rfl ?_
      refine TL.nil ?_
      refine TE.sub (.cons (t := 0) rfl <| .cons (t := 1) rfl <| .cons (t := 5) rfl <| .cons (t := 6) rfl <| .cons (t := 7) rfl <| .cons (t := 8) rfl <| .nil) ?_
      refine TE.next ?_
      refine T.seq ?_
      refine T.region ?_
      refine TL.val (OpV.move rfl) rfl ?_
      refine TL.kle (Kle.nilRow 30 16) ?_
      obtain ⟨ti38, hi38, hz38, hs38, hb38⟩ := info_parts inf_30
      refine TL.append rfl rfl Tryd.underlying42 hi38 hz38 hs38 hb38 rfl (by omega) (by first | exact P0 | exact P1 | exact P2 | exact P3 | exact P4 | exact P5) (Src.cs (by first | exact P0 | exact P1 | exact P2 | exact P3 | exact P4 | exact P5) h) (fun h9 => h.2.2.2.1 h9) (one_fl _) (by omega) (by omega) rfl ?_
      clear hi38 hz38 hs38 hb38 ti38
      intro A38 c38 hn38
      rw [List.nil_append]
      refine TL.said (t := 38) rfl (show _ = Value.slice A38 n c38 by rw [Nat.zero_add]) ?_
      rw [Nat.zero_add]
      refine TL.val (OpV.move rfl) rfl ?_
      obtain ⟨ti40, hi40, hz40, hs40, hb40⟩ := info_parts inf_30
      refine TL.append rfl rfl Tryd.underlying42 hi40 hz40 hs40 hb40 rfl (by omega) (by first | exact P0 | exact P1 | exact P2 | exact P3 | exact P4 | exact P5) (Src.cs (by first | exact P0 | exact P1 | exact P2 | exact P3 | exact P4 | exact P5) h2) (fun h9 => h2.2.2.2.1 h9) (one_fl _) (by omega) (by omega) rfl ?_
      clear hi40 hz40 hs40 hb40 ti40
      intro A40 c40 hn40
      refine TL.callx (g := 25) rfl go_25 rfl (fun wz k1 => own_x k1 (pack5_c (σ := fun b => wz.heap[b]?) (xs := (xs ++ ys)) wz (L.below k1.bel) (CsR.of_row (by have h9 := k1.atRow (xs := fl xs ++ fl ys) (by first | exact P0 | exact P1 | exact P2 | exact P3 | exact P4 | exact P5); rw [← fl_append] at h9; exact h9) (by rw [List.length_append, hl1, hl2])) (fun c hc => by rcases List.mem_append.1 hc with hc | hc; exact hi c hc; exact hi2 c hc) (fun b o hb => hb))) rfl ?_
      rintro ⟨A9, n9, c9, ρ9⟩ h9
      replace h9 : RsR ρ9 A9 n9 c9 (packV (xs ++ ys)) := h9
      refine TL.said (t := 41) rfl (show _ = Value.tuple #[.slice A9 n9 c9, .int .i64 (packE (xs ++ ys))] from rfl) ?_
      refine TL.val (OpV.move rfl) rfl ?_
      refine TL.val (OpV.extract rfl rfl) rfl ?_
      refine TL.val (OpV.extract rfl rfl) rfl ?_
      refine TL.val (OpV.assign rfl) rfl ?_
      refine TL.val (OpV.assign rfl) rfl ?_
      refine TL.nil ?_
      refine TE.sub (.cons (t := 0) rfl <| .cons (t := 1) rfl <| .cons (t := 5) rfl <| .cons (t := 6) rfl <| .cons (t := 7) rfl <| .cons (t := 8) rfl <| .cons (t := 9) rfl <| .cons (t := 10) rfl <| .nil) ?_
      refine TE.next ?_
      refine T.seq ?_
      refine T.cut [(0, .slice A n c), (1, .slice A2 n2 c2), (5, .slice A5 n5 c5), (6, .int .i64 (packE xs)), (7, .slice A7 n7 c7), (9, .slice A9 n9 c9), (10, .int .i64 (packE (xs ++ ys)))] ([.own ρ9, .own ρ7, .own ρ5, .fr σ, .fr τ]) ?_ ?_
      · skip
        refine T.seq ?_
        refine T.region ?_
        refine TL.val (OpV.move rfl) rfl ?_
        refine TL.val (OpV.eql rfl rfl) rfl ?_
        refine TL.val (OpV.move rfl) rfl ?_
        refine TL.part (t := 46) rfl ?_ ?_
        · intro hg46
          have hea : packE xs = 0 := by simpa using hg46
          refine TL.open rfl rfl ?_
          refine TL.val (OpV.move rfl) rfl ?_
          refine TL.open rfl rfl ?_
          refine TL.val (OpV.eql rfl rfl) rfl ?_
          refine TL.val ((by first | exact OpV.pick_t rfl rfl | exact OpV.pick_f rfl rfl)) rfl ?_
          refine TL.val (OpV.move rfl) rfl ?_
          refine TL.val (OpV.eql rfl rfl) rfl ?_
          refine TL.val (OpV.bneq Tryd.underlying4 rfl rfl) rfl ?_
          refine TL.said (t := 52) rfl (show _ = Value.bool false from congrArg Value.bool ((bne_of (packE_both (a := xs) (b := ys) (by omega)) (by simp [hea])))) ?_
          refine TL.nil ?_
          refine TE.sub (.cons (t := 0) rfl <| .cons (t := 1) rfl <| .cons (t := 5) rfl <| .cons (t := 6) rfl <| .cons (t := 7) rfl <| .cons (t := 9) rfl <| .cons (t := 10) rfl <| .cons (t := 52) rfl <| .nil) ?_
          refine TE.next ?_
          refine T.no rfl ?_
          refine T.skip ?_
          exact TE.met (.cons (t := 0) rfl <| .cons (t := 1) rfl <| .cons (t := 5) rfl <| .cons (t := 6) rfl <| .cons (t := 7) rfl <| .cons (t := 9) rfl <| .cons (t := 10) rfl <| .nil) (Perm.kle (.cons (by first | exact P0 | exact P1 | exact P2 | exact P3 | exact P4 | exact P5) (.cons (by first | exact P0 | exact P1 | exact P2 | exact P3 | exact P4 | exact P5) (.cons (by first | exact P0 | exact P1 | exact P2 | exact P3 | exact P4 | exact P5) (.cons (by first | exact P0 | exact P1 | exact P2 | exact P3 | exact P4 | exact P5) (.cons (by first | exact P0 | exact P1 | exact P2 | exact P3 | exact P4 | exact P5) .nil))))))
        · intro hg46
          have hea : packE xs ≠ 0 := by simpa using hg46
          refine TL.shut rfl rfl ?_
          refine TL.shut rfl rfl ?_
          refine TL.val ((by first | exact OpV.pick_t rfl rfl | exact OpV.pick_f rfl rfl)) rfl ?_
          refine TL.val (OpV.move rfl) rfl ?_
          refine TL.val (OpV.eql rfl rfl) rfl ?_
          refine TL.val (OpV.bneq Tryd.underlying4 rfl rfl) rfl ?_
          refine TL.said (t := 52) rfl (show _ = Value.bool false from congrArg Value.bool ((bne_of (packE_both (a := xs) (b := ys) (by omega)) (by simp [hea])))) ?_
          refine TL.nil ?_
          refine TE.sub (.cons (t := 0) rfl <| .cons (t := 1) rfl <| .cons (t := 5) rfl <| .cons (t := 6) rfl <| .cons (t := 7) rfl <| .cons (t := 9) rfl <| .cons (t := 10) rfl <| .cons (t := 52) rfl <| .nil) ?_
          refine TE.next ?_
          refine T.no rfl ?_
          refine T.skip ?_
          exact TE.met (.cons (t := 0) rfl <| .cons (t := 1) rfl <| .cons (t := 5) rfl <| .cons (t := 6) rfl <| .cons (t := 7) rfl <| .cons (t := 9) rfl <| .cons (t := 10) rfl <| .nil) (Perm.kle (.cons (by first | exact P0 | exact P1 | exact P2 | exact P3 | exact P4 | exact P5) (.cons (by first | exact P0 | exact P1 | exact P2 | exact P3 | exact P4 | exact P5) (.cons (by first | exact P0 | exact P1 | exact P2 | exact P3 | exact P4 | exact P5) (.cons (by first | exact P0 | exact P1 | exact P2 | exact P3 | exact P4 | exact P5) (.cons (by first | exact P0 | exact P1 | exact P2 | exact P3 | exact P4 | exact P5) .nil))))))
      refine TE.next ?_
      refine T.seq ?_
      refine T.cut [(0, .slice A n c), (1, .slice A2 n2 c2)] ([.fr σ, .fr τ]) ?_ ?_
      · skip
        refine T.seq ?_
        refine T.region ?_
        refine TL.val (OpV.move rfl) rfl ?_
        refine TL.val (OpV.eql rfl rfl) rfl ?_
        refine TL.val (OpV.move rfl) rfl ?_
        refine TL.part (t := 55) rfl ?_ ?_
        · intro hg55
          have hea : packE xs = 0 := by simpa using hg55
          obtain ⟨pa1, pa2, pa3, pa4⟩ := pack_back hea hi
          refine TL.open rfl rfl ?_
          refine TL.val (OpV.move rfl) rfl ?_
          refine TL.open rfl rfl ?_
          refine TL.call (g := 20) rfl go_20 rfl (fun w1 k1 => valid5_c w1 (L.below k1.bel) h5 pa3 (fun b o hb => (k1.get (e := .own ρ5) (by first | exact P0 | exact P1 | exact P2 | exact P3 | exact P4 | exact P5 | exact P6 | exact P7) b o hb).2)) rfl ?_
          refine TL.said (t := 57) rfl (show _ = Value.bool true from congrArg Value.bool (pa2)) ?_
          refine TL.open rfl rfl ?_
          refine TL.val (OpV.not rfl) rfl ?_
          refine TL.open rfl rfl ?_
          refine TL.val (OpV.move rfl) rfl ?_
          refine TL.open rfl rfl ?_
          refine TL.val (OpV.move rfl) rfl ?_
          refine TL.open rfl rfl ?_
          refine TL.call (g := 21) rfl go_21 rfl (fun w1 k1 => count_c w1 (L.below k1.bel) h5 pa3 (fun b o hb => (k1.get (e := .own ρ5) (by first | exact P0 | exact P1 | exact P2 | exact P3 | exact P4 | exact P5 | exact P6 | exact P7) b o hb).2)) rfl ?_
          refine TL.open rfl rfl ?_
          refine TL.val (OpV.move rfl) rfl ?_
          refine TL.open rfl rfl ?_
          refine TL.val (OpV.len Tryd.underlying42 rfl) rfl ?_
          refine TL.open rfl rfl ?_
          refine TL.val (OpV.neq rfl rfl) rfl ?_
          refine TL.said (t := 64) rfl (show _ = Value.bool false from congrArg Value.bool ((by rw [count_len pa2, pa1, hl1]; simp))) ?_
          refine TL.open rfl rfl ?_
          refine TL.val ((by first | exact OpV.pick_t rfl rfl | exact OpV.pick_f rfl rfl)) rfl ?_
          refine TL.open rfl rfl ?_
          refine TL.val (OpV.move rfl) rfl ?_
          refine TL.open rfl rfl ?_
          refine TL.val (OpV.move rfl) rfl ?_
          refine TL.open rfl rfl ?_
          refine TL.val (OpV.len Tryd.underlying43 rfl) rfl ?_
          refine TL.open rfl rfl ?_
          refine TL.val (OpV.move rfl) rfl ?_
          refine TL.open rfl rfl ?_
          refine TL.val (OpV.len Tryd.underlying42 rfl) rfl ?_
          refine TL.open rfl rfl ?_
          refine TL.val (OpV.gtr rfl rfl) rfl ?_
          refine TL.said (t := 71) rfl (show _ = Value.bool false from congrArg Value.bool ((decide_eq_false (by have h9 := h5.1; omega)))) ?_
          refine TL.open rfl rfl ?_
          refine TL.val ((by first | exact OpV.pick_t rfl rfl | exact OpV.pick_f rfl rfl)) rfl ?_
          refine TL.open rfl rfl ?_
          refine TL.val (OpV.move rfl) rfl ?_
          refine TL.open rfl rfl ?_
          refine TL.val (OpV.move rfl) rfl ?_
          refine TL.open rfl rfl ?_
          refine TL.val (OpV.move rfl) rfl ?_
          refine TL.open rfl rfl ?_
          refine TL.call (g := 22) rfl go_22 rfl (fun w1 k1 => unpacksl_c w1 0 (L.below k1.bel) h5 pa3 h (fun b o hb => (k1.get (e := .own ρ5) (by first | exact P0 | exact P1 | exact P2 | exact P3 | exact P4 | exact P5 | exact P6 | exact P7) b o hb).2) (k1.get (e := .fr σ) (by first | exact P0 | exact P1 | exact P2 | exact P3 | exact P4 | exact P5 | exact P6 | exact P7))) rfl ?_
          refine TL.said (t := 76) rfl (show _ = Value.bool true from congrArg Value.bool (unpack_pack hea hi)) ?_
          refine TL.open rfl rfl ?_
          refine TL.val (OpV.not rfl) rfl ?_
          refine TL.open rfl rfl ?_
          refine TL.val ((by first | exact OpV.pick_t rfl rfl | exact OpV.pick_f rfl rfl)) rfl ?_
          refine TL.val ((by first | exact OpV.pick_t rfl rfl | exact OpV.pick_f rfl rfl)) rfl ?_
          refine TL.val (OpV.move rfl) rfl ?_
          refine TL.open rfl rfl ?_
          refine TL.val (OpV.move rfl) rfl ?_
          refine TL.open rfl rfl ?_
          refine TL.val (OpV.eql rfl rfl) rfl ?_
          refine TL.open rfl rfl ?_
          refine TL.val (OpV.move rfl) rfl ?_
          refine TL.part (t := 83) rfl ?_ ?_
          · intro hg83
            have heb : packE ys = 0 := ((packE_both (a := xs) (b := ys) (by omega)).1 (by simpa using hg83)).2
            obtain ⟨pb1, pb2, pb3, pb4⟩ := pack_back heb hi2
            refine TL.open rfl rfl ?_
            refine TL.val (OpV.move rfl) rfl ?_
            refine TL.open rfl rfl ?_
            refine TL.val (OpV.move rfl) rfl ?_
            refine TL.open rfl rfl ?_
            refine TL.val (OpV.move rfl) rfl ?_
            refine TL.open rfl rfl ?_
            refine TL.call (g := 23) rfl go_23 rfl (fun w1 k1 => joinsl_c w1 0 (L.below k1.bel) h5 pa3 h7 pb3 h9 (fun b o hb => (k1.get (e := .own ρ5) (by first | exact P0 | exact P1 | exact P2 | exact P3 | exact P4 | exact P5 | exact P6 | exact P7) b o hb).2) (fun b o hb => (k1.get (e := .own ρ7) (by first | exact P0 | exact P1 | exact P2 | exact P3 | exact P4 | exact P5 | exact P6 | exact P7) b o hb).2) (fun b o hb => (k1.get (e := .own ρ9) (by first | exact P0 | exact P1 | exact P2 | exact P3 | exact P4 | exact P5 | exact P6 | exact P7) b o hb).2)) rfl ?_
            refine TL.said (t := 87) rfl (show _ = Value.bool true from congrArg Value.bool (join_packs hea heb hi hi2 (by omega))) ?_
            refine TL.open rfl rfl ?_
            refine TL.val (OpV.not rfl) rfl ?_
            refine TL.open rfl rfl ?_
            refine TL.val ((by first | exact OpV.pick_t rfl rfl | exact OpV.pick_f rfl rfl)) rfl ?_
            refine TL.val ((by first | exact OpV.pick_t rfl rfl | exact OpV.pick_f rfl rfl)) rfl ?_
            refine TL.nil ?_
            refine TE.sub (.cons (t := 0) rfl <| .cons (t := 1) rfl <| .cons (t := 90) rfl <| .nil) ?_
            refine TE.next ?_
            refine T.no rfl ?_
            refine T.skip ?_
            exact TE.met (.cons (t := 0) rfl <| .cons (t := 1) rfl <| .nil) (Perm.kle (by first | exact (.cons (by first | exact P0 | exact P1 | exact P2 | exact P3 | exact P4 | exact P5) (.cons (by first | exact P0 | exact P1 | exact P2 | exact P3 | exact P4 | exact P5) .nil))))
          · intro hg83
            refine TL.shut rfl rfl ?_
            refine TL.shut rfl rfl ?_
            refine TL.shut rfl rfl ?_
            refine TL.shut rfl rfl ?_
            refine TL.shut rfl rfl ?_
            refine TL.open rfl rfl ?_
            refine TL.val ((by first | exact OpV.pick_t rfl rfl | exact OpV.pick_f rfl rfl)) rfl ?_
            refine TL.val ((by first | exact OpV.pick_t rfl rfl | exact OpV.pick_f rfl rfl)) rfl ?_
            refine TL.nil ?_
            refine TE.sub (.cons (t := 0) rfl <| .cons (t := 1) rfl <| .cons (t := 90) rfl <| .nil) ?_
            refine TE.next ?_
            refine T.no rfl ?_
            refine T.skip ?_
            exact TE.met (.cons (t := 0) rfl <| .cons (t := 1) rfl <| .nil) (Perm.kle (by first | exact (.cons (by first | exact P0 | exact P1 | exact P2 | exact P3 | exact P4 | exact P5) (.cons (by first | exact P0 | exact P1 | exact P2 | exact P3 | exact P4 | exact P5) .nil))))
        · intro hg55
          have hea : packE xs ≠ 0 := by simpa using hg55
          refine TL.shut rfl rfl ?_
          refine TL.shut rfl rfl ?_
          refine TL.shut rfl rfl ?_
          refine TL.shut rfl rfl ?_
          refine TL.shutU rfl rfl ?_
          refine TL.shutU rfl rfl ?_
          refine TL.shutU rfl rfl ?_
          refine TL.shutU rfl rfl ?_
          refine TL.shutU rfl rfl ?_
          refine TL.shut rfl rfl ?_
          refine TL.shut rfl rfl ?_
          refine TL.shutU rfl rfl ?_
          refine TL.shutU rfl rfl ?_
          refine TL.shutU rfl rfl ?_
          refine TL.shutU rfl rfl ?_
          refine TL.shutU rfl rfl ?_
          refine TL.shut rfl rfl ?_
          refine TL.shut rfl rfl ?_
          refine TL.shutU rfl rfl ?_
          refine TL.shutU rfl rfl ?_
          refine TL.shutU rfl rfl ?_
          refine TL.shutU rfl rfl ?_
          refine TL.shut rfl rfl ?_
          refine TL.val ((by first | exact OpV.pick_t rfl rfl | exact OpV.pick_f rfl rfl)) rfl ?_
          refine TL.val (OpV.move rfl) rfl ?_
          refine TL.open rfl rfl ?_
          refine TL.val (OpV.move rfl) rfl ?_
          refine TL.open rfl rfl ?_
          refine TL.val (OpV.eql rfl rfl) rfl ?_
          refine TL.said (t := 82) rfl (show _ = Value.bool false from congrArg Value.bool ((by have h8 := packE_both (a := xs) (b := ys) (by omega); simp only [beq_eq_false_iff_ne, ne_eq, h8]; exact fun h7 => hea h7.1))) ?_
          refine TL.open rfl rfl ?_
          refine TL.val (OpV.move rfl) rfl ?_
          refine TL.shut rfl rfl ?_
          refine TL.shut rfl rfl ?_
          refine TL.shut rfl rfl ?_
          refine TL.shut rfl rfl ?_
          refine TL.shut rfl rfl ?_
          refine TL.open rfl rfl ?_
          refine TL.val ((by first | exact OpV.pick_t rfl rfl | exact OpV.pick_f rfl rfl)) rfl ?_
          refine TL.val ((by first | exact OpV.pick_t rfl rfl | exact OpV.pick_f rfl rfl)) rfl ?_
          refine TL.nil ?_
          refine TE.sub (.cons (t := 0) rfl <| .cons (t := 1) rfl <| .cons (t := 90) rfl <| .nil) ?_
          refine TE.next ?_
          refine T.no rfl ?_
          refine T.skip ?_
          exact TE.met (.cons (t := 0) rfl <| .cons (t := 1) rfl <| .nil) (Perm.kle (by first | exact (.cons (by first | exact P0 | exact P1 | exact P2 | exact P3 | exact P4 | exact P5) (.cons (by first | exact P0 | exact P1 | exact P2 | exact P3 | exact P4 | exact P5) .nil))))
      refine TE.next ?_
      refine T.seq ?_
      refine T.seq ?_
      refine T.region ?_
      refine TL.val (OpV.move rfl) rfl ?_
      refine TL.val (OpV.len Tryd.underlying42 rfl) rfl ?_
      refine TL.val (OpV.move rfl) rfl ?_
      refine TL.nil ?_
      refine TE.next ?_
      refine T.block ?_
      refine T.loop (ι := Nat) (fun i => i ≤ n) (fun i => (n - i)) (fun i => [(0, .slice A n c), (1, .slice A2 n2 c2), (92, .int .i64 (n : Int)), (93, .int .i64 (i : Int))]) (fun i => [.fr σ, .fr τ]) 0 (Nat.zero_le _) (.cons (t := 0) rfl <| .cons (t := 1) rfl <| .cons (t := 92) rfl <| .cons (t := 93) rfl <| .nil) (Perm.kle (.cons (by first | exact P0 | exact P1 | exact P2 | exact P3 | exact P4 | exact P5) (.cons (by first | exact P0 | exact P1 | exact P2 | exact P3 | exact P4 | exact P5) .nil))) ?_
      rintro i hR
      refine T.seq ?_
      refine T.region ?_
      refine TL.val (OpV.lss rfl rfl) rfl ?_
      refine TL.nil ?_
      refine TE.next ?_
      refine T.seq ?_
      refine T.cond rfl ?_ ?_
      · intro ht94
        have hin : i < n := by have h9 := of_decide_eq_true ht94; omega
        obtain ⟨x, hx⟩ := get_of_lt h.1 hin
        obtain ⟨b, o, hA, hat⟩ := h.pos (by omega)
        have hatx := hat i x hx
        have hxi := hi x (List.mem_of_getElem? hx)
        refine T.skip ?_
        refine TE.next ?_
        refine T.seq ?_
        refine T.block ?_
        refine T.seq ?_
        refine T.region ?_
        refine TL.val (OpV.move rfl) rfl ?_
        refine TL.val (OpV.assign rfl) rfl ?_
        refine TL.nil ?_
        refine TE.next ?_
        refine T.seq ?_
        refine T.region ?_
        refine TL.val (OpV.move rfl) rfl ?_
        refine TL.val (OpV.len Tryd.underlying42 rfl) rfl ?_
        refine TL.val (OpV.move rfl) rfl ?_
        refine TL.nil ?_
        refine TE.next ?_
        refine T.block ?_
        refine T.loop (ι := Nat) (fun k => k ≤ n2) (fun k => (n2 - k)) (fun k => [(0, .slice A n c), (1, .slice A2 n2 c2), (11, .int .i64 (i : Int)), (92, .int .i64 (n : Int)), (93, .int .i64 (i : Int)), (97, .int .i64 (n2 : Int)), (98, .int .i64 (k : Int))]) (fun k => [.fr σ, .fr τ]) 0 (Nat.zero_le _) (.cons (t := 0) rfl <| .cons (t := 1) rfl <| .cons (t := 11) rfl <| .cons (t := 92) rfl <| .cons (t := 93) rfl <| .cons (t := 97) rfl <| .cons (t := 98) rfl <| .nil) (Perm.kle (.cons (by first | exact P0 | exact P1 | exact P2 | exact P3 | exact P4 | exact P5) (.cons (by first | exact P0 | exact P1 | exact P2 | exact P3 | exact P4 | exact P5) .nil))) ?_
        rintro k hR1
        refine T.seq ?_
        refine T.region ?_
        refine TL.val (OpV.lss rfl rfl) rfl ?_
        refine TL.nil ?_
        refine TE.next ?_
        refine T.seq ?_
        refine T.cond rfl ?_ ?_
        · intro ht99
          have hkn : k < n2 := by have h9 := of_decide_eq_true ht99; omega
          obtain ⟨y, hy⟩ := get_of_lt h2.1 hkn
          obtain ⟨b2, o2, hA2, hat2⟩ := h2.pos (by omega)
          have haty := hat2 k y hy
          have hyi := hi2 y (List.mem_of_getElem? hy)
          refine T.skip ?_
          refine TE.next ?_
          refine T.seq ?_
          refine T.block ?_
          refine T.seq ?_
          refine T.region ?_
          refine TL.val (OpV.move rfl) rfl ?_
          refine TL.val (OpV.assign rfl) rfl ?_
          refine TL.nil ?_
          refine TE.next ?_
          refine T.seq ?_
          refine T.region ?_
          refine TL.val (OpV.move rfl) rfl ?_
          refine TL.val (OpV.move rfl) rfl ?_
          refine TL.val (OpV.indexAddr se_42 rfl hA rfl (by rfl) (by first | omega | simp)) rfl ?_
          refine TL.val (OpV.loadA ag_30 rfl (by first | exact Cels.blk P0 rfl | exact Cels.blk P1 rfl | exact Cels.blk P2 rfl | exact Cels.blk P3 rfl | exact Cels.blk P4 rfl | exact Cels.blk P5 rfl | exact Cels.frA hatx rfl | exact Cels.frA haty rfl)) rfl ?_
          refine TL.call (g := 26) rfl go_26 rfl (fun w1 k1 => words_c x w1 (L.below k1.bel) hxi) rfl ?_
          refine TL.val (OpV.move rfl) rfl ?_
          refine TL.val (OpV.extract rfl rfl) rfl ?_
          refine TL.val (OpV.extract rfl rfl) rfl ?_
          refine TL.alloc zo_34 rfl ?_
          intro b13
          first
            | refine TL.storeAll rfl rfl szz_34 rfl rfl rfl (by first | exact P0 | exact P1 | exact P2 | exact P3 | exact P4 | exact P5) (by rfl) ?_
            | refine TL.store rfl rfl szz_34 rfl rfl rfl (by first | exact P0 | exact P1 | exact P2 | exact P3 | exact P4 | exact P5) (by first | exact Nat.le_of_ble_eq_true rfl | (simp; done) | (simp; omega)) (by simp only [putL, List.take_succ_cons, List.take_zero, List.drop_succ_cons, List.drop_zero, List.cons_append, List.nil_append, List.length_cons, List.length_nil, Nat.reduceAdd]; rfl) ?_
          refine TL.val (OpV.assign rfl) rfl ?_
          refine TL.nil ?_
          refine TE.sub (.cons (t := 0) rfl <| .cons (t := 1) rfl <| .cons (t := 11) rfl <| .cons (t := 12) rfl <| .cons (t := 13) rfl <| .cons (t := 14) rfl <| .cons (t := 92) rfl <| .cons (t := 93) rfl <| .cons (t := 97) rfl <| .cons (t := 98) rfl <| .nil) ?_
          refine TE.next ?_
          refine T.seq ?_
          refine T.region ?_
          refine TL.val (OpV.move rfl) rfl ?_
          refine TL.val (OpV.move rfl) rfl ?_
          refine TL.val (OpV.indexAddr se_42 rfl hA2 rfl (by rfl) (by first | omega | simp)) rfl ?_
          refine TL.val (OpV.loadA ag_30 rfl (by first | exact Cels.blk P0 rfl | exact Cels.blk P1 rfl | exact Cels.blk P2 rfl | exact Cels.blk P3 rfl | exact Cels.blk P4 rfl | exact Cels.blk P5 rfl | exact Cels.frA hatx rfl | exact Cels.frA haty rfl)) rfl ?_
          refine TL.call (g := 26) rfl go_26 rfl (fun w1 k1 => words_c y w1 (L.below k1.bel) hyi) rfl ?_
          refine TL.val (OpV.move rfl) rfl ?_
          refine TL.val (OpV.extract rfl rfl) rfl ?_
          refine TL.val (OpV.extract rfl rfl) rfl ?_
          refine TL.alloc zo_34 rfl ?_
          intro b15
          first
            | refine TL.storeAll rfl rfl szz_34 rfl rfl rfl (by first | exact P0 | exact P1 | exact P2 | exact P3 | exact P4 | exact P5) (by rfl) ?_
            | refine TL.store rfl rfl szz_34 rfl rfl rfl (by first | exact P0 | exact P1 | exact P2 | exact P3 | exact P4 | exact P5) (by first | exact Nat.le_of_ble_eq_true rfl | (simp; done) | (simp; omega)) (by simp only [putL, List.take_succ_cons, List.take_zero, List.drop_succ_cons, List.drop_zero, List.cons_append, List.nil_append, List.length_cons, List.length_nil, Nat.reduceAdd]; rfl) ?_
          refine TL.val (OpV.assign rfl) rfl ?_
          refine TL.nil ?_
          refine TE.sub (.cons (t := 0) rfl <| .cons (t := 1) rfl <| .cons (t := 11) rfl <| .cons (t := 12) rfl <| .cons (t := 13) rfl <| .cons (t := 14) rfl <| .cons (t := 15) rfl <| .cons (t := 16) rfl <| .cons (t := 92) rfl <| .cons (t := 93) rfl <| .cons (t := 97) rfl <| .cons (t := 98) rfl <| .nil) ?_
          refine TE.next ?_
          refine T.seq ?_
          refine T.quiet mix (by kernel_rfl) ?_
          refine TQ.val (OpV.move rfl) rfl ?_
          refine TQ.val (OpV.eql rfl rfl) rfl ?_
          refine TQ.val (OpV.move rfl) rfl ?_
          refine TQ.part (t := 119) rfl ?_ ?_
          · intro hg119
            refine TQ.open rfl rfl ?_
            refine TQ.val (OpV.move rfl) rfl ?_
            refine TQ.open rfl rfl ?_
            refine TQ.val (OpV.eql rfl rfl) rfl ?_
            refine TQ.val ((by first | exact OpV.pick_t rfl rfl | exact OpV.pick_f rfl rfl)) rfl ?_
            refine TQ.val (OpV.move rfl) rfl ?_
            refine TQ.part (t := 123) rfl ?_ ?_
            · intro hg123
              refine TQ.open rfl rfl ?_
              refine TQ.val (OpV.loadA ag_34 rfl (Cels.blkAt (wordsV x).l (by first | exact P0 | exact P1 | exact P2 | exact P3 | exact P4) rfl rfl)) rfl ?_
              refine TQ.open rfl rfl ?_
              refine TQ.val (OpV.loadA ag_34 rfl (Cels.blkAt (wordsV y).l (by first | exact P0 | exact P1 | exact P2 | exact P3 | exact P4) rfl rfl)) rfl ?_
              refine TQ.open rfl rfl ?_
              refine TQ.val (OpV.aeql rfl rfl eg_34 (eq_34 (wordsV x) (wordsV y))) rfl ?_
              refine TQ.open rfl rfl ?_
              refine TQ.val (OpV.move rfl) rfl ?_
              refine TQ.open rfl rfl ?_
              refine TQ.val (OpV.move rfl) rfl ?_
              refine TQ.open rfl rfl ?_
              refine TQ.val (OpV.indexAddr se_42 rfl hA rfl (by rfl) (by first | omega | simp)) rfl ?_
              refine TQ.open rfl rfl ?_
              refine TQ.val (OpV.loadA ag_30 rfl (by first | exact Cels.blk P0 rfl | exact Cels.blk P1 rfl | exact Cels.blk P2 rfl | exact Cels.blk P3 rfl | exact Cels.blk P4 rfl | exact Cels.blk P5 rfl | exact Cels.frA hatx rfl | exact Cels.frA haty rfl)) rfl ?_
              refine TQ.open rfl rfl ?_
              refine TQ.val (OpV.move rfl) rfl ?_
              refine TQ.open rfl rfl ?_
              refine TQ.val (OpV.move rfl) rfl ?_
              refine TQ.open rfl rfl ?_
              refine TQ.val (OpV.indexAddr se_42 rfl hA2 rfl (by rfl) (by first | omega | simp)) rfl ?_
              refine TQ.open rfl rfl ?_
              refine TQ.val (OpV.loadA ag_30 rfl (by first | exact Cels.blk P0 rfl | exact Cels.blk P1 rfl | exact Cels.blk P2 rfl | exact Cels.blk P3 rfl | exact Cels.blk P4 rfl | exact Cels.blk P5 rfl | exact Cels.frA hatx rfl | exact Cels.frA haty rfl)) rfl ?_
              refine TQ.open rfl rfl ?_
              refine TQ.val (OpV.aeql rfl rfl eg_30 (eq_30 x y)) rfl ?_
              refine TQ.open rfl rfl ?_
              refine TQ.val (OpV.bneq Tryd.underlying4 rfl rfl) rfl ?_
              refine TQ.said (t := 136) rfl (show _ = Value.bool false from congrArg Value.bool ((words_eq (by simpa using hg119) (by simpa using hg123) hxi hyi))) ?_
              refine TQ.val ((by first | exact OpV.pick_t rfl rfl | exact OpV.pick_f rfl rfl)) rfl ?_
              refine TQ.nil ?_
              refine TE.sub (.cons (t := 0) rfl <| .cons (t := 1) rfl <| .cons (t := 11) rfl <| .cons (t := 92) rfl <| .cons (t := 93) rfl <| .cons (t := 97) rfl <| .cons (t := 98) rfl <| .cons (t := 137) rfl <| .nil) ?_
              refine TE.next ?_
              refine T.no rfl ?_
              refine T.skip ?_
              refine TE.out ?_
              refine TE.next ?_
              refine T.region ?_
              refine TL.val (OpV.add rfl rfl (by first | exact IntWalk.i64_in _ ⟨by omega, by omega⟩ | rfl)) rfl ?_
              refine TL.val (OpV.move rfl) rfl ?_
              refine TL.nil ?_
              exact TE.meet (k + 1) ⟨by omega, by omega⟩ (.cons (t := 0) (by first | rfl | (simp [lk]; done)) <| .cons (t := 1) (by first | rfl | (simp [lk]; done)) <| .cons (t := 11) (by first | rfl | (simp [lk]; done)) <| .cons (t := 92) (by first | rfl | (simp [lk]; done)) <| .cons (t := 93) (by first | rfl | (simp [lk]; done)) <| .cons (t := 97) (by first | rfl | (simp [lk]; done)) <| .cons (t := 98) (by first | rfl | (simp [lk]; done)) <| .nil) (Perm.kle (.cons (by first | exact P0 | exact P1 | exact P2 | exact P3 | exact P4 | exact P5) (.cons (by first | exact P0 | exact P1 | exact P2 | exact P3 | exact P4 | exact P5) .nil)))
            · intro hg123
              refine TQ.shut rfl rfl ?_
              refine TQ.shut rfl rfl ?_
              refine TQ.shut rfl rfl ?_
              refine TQ.shut rfl rfl ?_
              refine TQ.shut rfl rfl ?_
              refine TQ.shut rfl rfl ?_
              refine TQ.shut rfl rfl ?_
              refine TQ.shut rfl rfl ?_
              refine TQ.shut rfl rfl ?_
              refine TQ.shut rfl rfl ?_
              refine TQ.shut rfl rfl ?_
              refine TQ.shut rfl rfl ?_
              refine TQ.shut rfl rfl ?_
              refine TQ.val ((by first | exact OpV.pick_t rfl rfl | exact OpV.pick_f rfl rfl)) rfl ?_
              refine TQ.nil ?_
              refine TE.sub (.cons (t := 0) rfl <| .cons (t := 1) rfl <| .cons (t := 11) rfl <| .cons (t := 92) rfl <| .cons (t := 93) rfl <| .cons (t := 97) rfl <| .cons (t := 98) rfl <| .cons (t := 137) rfl <| .nil) ?_
              refine TE.next ?_
              refine T.no rfl ?_
              refine T.skip ?_
              refine TE.out ?_
              refine TE.next ?_
              refine T.region ?_
              refine TL.val (OpV.add rfl rfl (by first | exact IntWalk.i64_in _ ⟨by omega, by omega⟩ | rfl)) rfl ?_
              refine TL.val (OpV.move rfl) rfl ?_
              refine TL.nil ?_
              exact TE.meet (k + 1) ⟨by omega, by omega⟩ (.cons (t := 0) (by first | rfl | (simp [lk]; done)) <| .cons (t := 1) (by first | rfl | (simp [lk]; done)) <| .cons (t := 11) (by first | rfl | (simp [lk]; done)) <| .cons (t := 92) (by first | rfl | (simp [lk]; done)) <| .cons (t := 93) (by first | rfl | (simp [lk]; done)) <| .cons (t := 97) (by first | rfl | (simp [lk]; done)) <| .cons (t := 98) (by first | rfl | (simp [lk]; done)) <| .nil) (Perm.kle (.cons (by first | exact P0 | exact P1 | exact P2 | exact P3 | exact P4 | exact P5) (.cons (by first | exact P0 | exact P1 | exact P2 | exact P3 | exact P4 | exact P5) .nil)))
          · intro hg119
            refine TQ.shut rfl rfl ?_
            refine TQ.shut rfl rfl ?_
            refine TQ.val ((by first | exact OpV.pick_t rfl rfl | exact OpV.pick_f rfl rfl)) rfl ?_
            refine TQ.val (OpV.move rfl) rfl ?_
            refine TQ.shut rfl rfl ?_
            refine TQ.shut rfl rfl ?_
            refine TQ.shut rfl rfl ?_
            refine TQ.shut rfl rfl ?_
            refine TQ.shut rfl rfl ?_
            refine TQ.shut rfl rfl ?_
            refine TQ.shut rfl rfl ?_
            refine TQ.shut rfl rfl ?_
            refine TQ.shut rfl rfl ?_
            refine TQ.shut rfl rfl ?_
            refine TQ.shut rfl rfl ?_
            refine TQ.shut rfl rfl ?_
            refine TQ.shut rfl rfl ?_
            refine TQ.val ((by first | exact OpV.pick_t rfl rfl | exact OpV.pick_f rfl rfl)) rfl ?_
            refine TQ.nil ?_
            refine TE.sub (.cons (t := 0) rfl <| .cons (t := 1) rfl <| .cons (t := 11) rfl <| .cons (t := 92) rfl <| .cons (t := 93) rfl <| .cons (t := 97) rfl <| .cons (t := 98) rfl <| .cons (t := 137) rfl <| .nil) ?_
            refine TE.next ?_
            refine T.no rfl ?_
            refine T.skip ?_
            refine TE.out ?_
            refine TE.next ?_
            refine T.region ?_
            refine TL.val (OpV.add rfl rfl (by first | exact IntWalk.i64_in _ ⟨by omega, by omega⟩ | rfl)) rfl ?_
            refine TL.val (OpV.move rfl) rfl ?_
            refine TL.nil ?_
            exact TE.meet (k + 1) ⟨by omega, by omega⟩ (.cons (t := 0) (by first | rfl | (simp [lk]; done)) <| .cons (t := 1) (by first | rfl | (simp [lk]; done)) <| .cons (t := 11) (by first | rfl | (simp [lk]; done)) <| .cons (t := 92) (by first | rfl | (simp [lk]; done)) <| .cons (t := 93) (by first | rfl | (simp [lk]; done)) <| .cons (t := 97) (by first | rfl | (simp [lk]; done)) <| .cons (t := 98) (by first | rfl | (simp [lk]; done)) <| .nil) (Perm.kle (.cons (by first | exact P0 | exact P1 | exact P2 | exact P3 | exact P4 | exact P5) (.cons (by first | exact P0 | exact P1 | exact P2 | exact P3 | exact P4 | exact P5) .nil)))
        · intro ht99
          refine T.exit ?_
          refine TE.pass_exit ?_
          refine TE.pass_exit ?_
          refine TE.here ?_
          refine TE.out ?_
          refine TE.next ?_
          refine T.region ?_
          refine TL.val (OpV.add rfl rfl (by first | exact IntWalk.i64_in _ ⟨by omega, by omega⟩ | rfl)) rfl ?_
          refine TL.val (OpV.move rfl) rfl ?_
          refine TL.nil ?_
          exact TE.meet (i + 1) ⟨by omega, by omega⟩ (.cons (t := 0) (by first | rfl | (simp [lk]; done)) <| .cons (t := 1) (by first | rfl | (simp [lk]; done)) <| .cons (t := 92) (by first | rfl | (simp [lk]; done)) <| .cons (t := 93) (by first | rfl | (simp [lk]; done)) <| .nil) (Perm.kle (.cons (by first | exact P0 | exact P1 | exact P2 | exact P3 | exact P4 | exact P5) (.cons (by first | exact P0 | exact P1 | exact P2 | exact P3 | exact P4 | exact P5) .nil)))
      · intro ht94
        refine T.exit ?_
        refine TE.pass_exit ?_
        refine TE.pass_exit ?_
        refine TE.here ?_
        refine TE.next ?_
        refine T.seq ?_
        refine T.region ?_
        refine TL.call (g := 11) rfl go_11 rfl (fun w1 k1 => known05_law w1 (L.below k1.bel)) rfl ?_
        refine TL.val (OpV.assign rfl) rfl ?_
        refine TL.nil ?_
        refine TE.next ?_
        refine T.ret ?_
        refine TE.ret1 rfl (ResV.tmp rfl) ?_
        exact fun w1 k1 => ⟨rfl, k1.bel⟩
end Go.Proofs.YtfbkoflapamicaaDoor
