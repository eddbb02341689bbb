/-
  The walk of the law WrapHolds. Condition: the package-level tables hold what they were laid with.
-/
import Derived.Test.YtblpfelhgcggfaaDoorWr
import Derived.Test.YtblpfelhgcggfaaDoorHld
namespace Go.Proofs.YtblpfelhgcggfaaDoor
open Go.RowKit
set_option linter.unusedSimpArgs false
set_option linter.unusedVariables false

set_option maxRecDepth 100000 in
set_option maxHeartbeats 1000000 in
theorem wrapHolds_law {σ : Nat → Option Obj} {A : Option Addr} {n c : Nat} {xs : List Cl} (w : World) (u : Int) (L : LaidW w) (h : CsR σ A n c xs) (hs : ∀ b o, σ b = some o → w.heap[b]? = some o) : Calls Tryd.prog 7 #[.slice A n c, .int .u8 u] w (Ret (.bool true) w) := by
  have hn63 := h.2.1
  have hc63 := h.2.2.1
  have hl1 := h.1
  refine calls_T (vs := [.slice A n c, .int .u8 u]) (L0 := [(0, .slice A n c), (1, .int .u8 u)]) Tryd.func7 rfl rfl rfl rfl (KOk.fr1 hs) ?_
  refine T.seq ?_
  refine T.region ?_
  refine TL.val (OpV.assign rfl) rfl ?_
  refine TL.nil ?_
  refine TE.next ?_
  refine T.seq ?_
  refine T.seq ?_
  refine T.region ?_
  refine TL.val (OpV.move rfl) rfl ?_
  refine TL.val (OpV.len Tryd.underlying22 rfl) rfl ?_
  refine TL.val (OpV.gtr rfl rfl) rfl ?_
  refine TL.val (OpV.move rfl) rfl ?_
  refine TL.part (t := 19) rfl ?_ ?_
  · intro hg19
    refine TL.shut rfl rfl ?_
    refine TL.shut rfl rfl ?_
    refine TL.shut rfl rfl ?_
    refine TL.val ((by first | exact OpV.pick_t rfl rfl | exact OpV.pick_f rfl rfl)) rfl ?_
    refine TL.val (OpV.move rfl) rfl ?_
    refine TL.shut rfl rfl ?_
    refine TL.shut rfl rfl ?_
    refine TL.val ((by first | exact OpV.pick_t rfl rfl | exact OpV.pick_f rfl rfl)) rfl ?_
    refine TL.val (OpV.move rfl) rfl ?_
    refine TL.shut rfl rfl ?_
    refine TL.shut rfl rfl ?_
    refine TL.val ((by first | exact OpV.pick_t rfl rfl | exact OpV.pick_f rfl rfl)) rfl ?_
    refine TL.nil ?_
    refine TE.sub (.cons (t := 0) rfl <| .cons (t := 1) rfl <| .cons (t := 31) rfl <| .nil) ?_
    refine TE.next ?_
    refine T.yes rfl ?_
    refine T.seq ?_
    refine T.region ?_
    refine TL.call (g := 12) rfl go_12 rfl (fun w1 k1 => known_law w1 (L.below k1.bel)) rfl ?_
    refine TL.val (OpV.assign rfl) rfl ?_
    refine TL.nil ?_
    refine TE.next ?_
    refine T.ret ?_
    refine TE.pass_ret ?_
    refine TE.ret1 rfl (ResV.tmp rfl) ?_
    exact fun w1 k1 => ⟨rfl, k1.bel⟩
  · intro hg19
    refine TL.open rfl rfl ?_
    refine TL.val (OpV.move rfl) rfl ?_
    refine TL.open rfl rfl ?_
    refine TL.call (g := 26) rfl go_26 rfl (fun w1 k1 => rrow_c w1 h (k1.get (e := .fr σ) (by first | exact .here | exact (.there .here) | exact (.there (.there .here)) | exact (.there (.there (.there .here))) | exact (.there (.there (.there (.there .here)))) | exact (.there (.there (.there (.there (.there .here)))))))) rfl ?_
    refine TL.open rfl rfl ?_
    refine TL.val (OpV.not rfl) rfl ?_
    refine TL.val ((by first | exact OpV.pick_t rfl rfl | exact OpV.pick_f rfl rfl)) rfl ?_
    refine TL.val (OpV.move rfl) rfl ?_
    refine TL.part (t := 24) rfl ?_ ?_
    · intro hg24
      refine TL.shut rfl rfl ?_
      refine TL.shut rfl rfl ?_
      refine TL.val ((by first | exact OpV.pick_t rfl rfl | exact OpV.pick_f rfl rfl)) rfl ?_
      refine TL.val (OpV.move rfl) rfl ?_
      refine TL.shut rfl rfl ?_
      refine TL.shut rfl rfl ?_
      refine TL.val ((by first | exact OpV.pick_t rfl rfl | exact OpV.pick_f rfl rfl)) rfl ?_
      refine TL.nil ?_
      refine TE.sub (.cons (t := 0) rfl <| .cons (t := 1) rfl <| .cons (t := 31) rfl <| .nil) ?_
      refine TE.next ?_
      refine T.yes rfl ?_
      refine T.seq ?_
      refine T.region ?_
      refine TL.call (g := 12) rfl go_12 rfl (fun w1 k1 => known_law w1 (L.below k1.bel)) rfl ?_
      refine TL.val (OpV.assign rfl) rfl ?_
      refine TL.nil ?_
      refine TE.next ?_
      refine T.ret ?_
      refine TE.pass_ret ?_
      refine TE.ret1 rfl (ResV.tmp rfl) ?_
      exact fun w1 k1 => ⟨rfl, k1.bel⟩
    · intro hg24
      refine TL.open rfl rfl ?_
      refine TL.val (OpV.move rfl) rfl ?_
      refine TL.open rfl rfl ?_
      refine TL.val (OpV.lss rfl rfl) rfl ?_
      refine TL.val ((by first | exact OpV.pick_t rfl rfl | exact OpV.pick_f rfl rfl)) rfl ?_
      refine TL.val (OpV.move rfl) rfl ?_
      refine TL.part (t := 28) rfl ?_ ?_
      · intro hg28
        refine TL.shut rfl rfl ?_
        refine TL.shut rfl rfl ?_
        refine TL.val ((by first | exact OpV.pick_t rfl rfl | exact OpV.pick_f rfl rfl)) rfl ?_
        refine TL.nil ?_
        refine TE.sub (.cons (t := 0) rfl <| .cons (t := 1) rfl <| .cons (t := 31) rfl <| .nil) ?_
        refine TE.next ?_
        refine T.yes rfl ?_
        refine T.seq ?_
        refine T.region ?_
        refine TL.call (g := 12) rfl go_12 rfl (fun w1 k1 => known_law w1 (L.below k1.bel)) rfl ?_
        refine TL.val (OpV.assign rfl) rfl ?_
        refine TL.nil ?_
        refine TE.next ?_
        refine T.ret ?_
        refine TE.pass_ret ?_
        refine TE.ret1 rfl (ResV.tmp rfl) ?_
        exact fun w1 k1 => ⟨rfl, k1.bel⟩
      · intro hg28
        refine TL.open rfl rfl ?_
        refine TL.val (OpV.move rfl) rfl ?_
        refine TL.open rfl rfl ?_
        refine TL.val (OpV.gtr rfl rfl) rfl ?_
        refine TL.val ((by first | exact OpV.pick_t rfl rfl | exact OpV.pick_f rfl rfl)) rfl ?_
        refine TL.nil ?_
        refine TE.sub (.cons (t := 0) rfl <| .cons (t := 1) rfl <| .cons (t := 31) rfl <| .nil) ?_
        refine TE.next ?_
        refine T.cond rfl ?_ ?_
        · intro ht31
          refine T.seq ?_
          refine T.region ?_
          refine TL.call (g := 12) rfl go_12 rfl (fun w1 k1 => known_law w1 (L.below k1.bel)) rfl ?_
          refine TL.val (OpV.assign rfl) rfl ?_
          refine TL.nil ?_
          refine TE.next ?_
          refine T.ret ?_
          refine TE.pass_ret ?_
          refine TE.ret1 rfl (ResV.tmp rfl) ?_
          exact fun w1 k1 => ⟨rfl, k1.bel⟩
        · intro ht31
          have e1 := of_decide_eq_false hg19
          have e2 := of_decide_eq_false ht31
          have e3 := of_decide_eq_false hg28
          obtain ⟨m, rfl⟩ : ∃ m : Nat, u = (m : Int) := ⟨u.toNat, by omega⟩
          have hm2 : 2 ≤ m := by omega
          have hn60 : n ≤ 60 := by omega
          have hrr : rowR xs = true := by simpa using hg24
          have hv : vW xs (m : Int) = true := by simp [vW, hrr]; omega
          have hch := wrapV_ch hv hm2
          have hcl0 := hch.len
          have hne := hch.ne
          have hlenX : ((wrapV xs (m : Int)).length : Int) ≤ 61 := by have h9 := wrapV_ref hv; rw [h9, refW_length]; have h8 := (plR_bd (m : Int) xs).2.1; rw [rowsN]; omega
          refine T.skip ?_
          refine TE.next ?_
          refine T.seq ?_
          refine T.region ?_
          refine TL.val (OpV.move rfl) rfl ?_
          refine TL.val (OpV.conv Tryd.underlying5 Tryd.underlying3 rfl (by first | exact IntWalk.i64_in _ ⟨by omega, by omega⟩ | rfl)) rfl ?_
          refine TL.val (OpV.assign rfl) rfl ?_
          refine TL.nil ?_
          refine TE.next ?_
          refine T.seq ?_
          refine T.region ?_
          refine TL.val (OpV.move rfl) rfl ?_
          refine TL.val (OpV.move rfl) rfl ?_
          refine TL.callx (g := 17) rfl go_17 rfl (fun wz k1 => own_x k1 (wrap_c wz (m : Int) (L.below k1.bel) h (k1.get (e := .fr σ) (by first | exact .here | exact (.there .here) | exact (.there (.there .here)) | exact (.there (.there (.there .here))) | exact (.there (.there (.there (.there .here)))) | exact (.there (.there (.there (.there (.there .here))))))))) rfl ?_
          rintro ⟨A6, n6, c6, ρ⟩ ⟨ls, hls, hme⟩
          replace hls : LsA ρ A6 n6 c6 ls := hls
          refine TL.kle Kle.ownFr ?_
          have hnX : (wrapV xs (m : Int)).length = n6 := by rw [← hme, List.length_map]; exact hls.1.1
          have hE : rowsE xs (m : Int) = 0 := by rw [rowsE, hv]; rfl
          have hn6c := hls.1.2.1
          have hn6d := hls.1.2.2.1
          rw [hnX] at hcl0 hlenX hne
          have hmul : (n : Int) ≤ (n6 : Int) * (m : Int) ∧ (n6 : Int) * (m : Int) ≤ 1220 := by have h9 : n6 * m ≤ 61 * 20 := Nat.mul_le_mul (by omega) (by omega); rw [← Int.natCast_mul]; omega
          refine TL.said (t := 38) rfl (show _ = Value.tuple #[.slice A6 n6 c6, .int .i64 0] by rw [hE]; rfl) ?_
          refine TL.val (OpV.move rfl) rfl ?_
          refine TL.val (OpV.extract rfl rfl) rfl ?_
          refine TL.val (OpV.extract rfl rfl) rfl ?_
          refine TL.val (OpV.assign rfl) rfl ?_
          refine TL.val (OpV.assign rfl) rfl ?_
          refine TL.nil ?_
          refine TE.sub (.cons (t := 0) rfl <| .cons (t := 5) rfl <| .cons (t := 6) rfl <| .cons (t := 7) rfl <| .nil) ?_
          refine TE.next ?_
          refine T.seq ?_
          refine T.seq ?_
          refine T.region ?_
          refine TL.val (OpV.move rfl) rfl ?_
          refine TL.val (OpV.neq rfl rfl) rfl ?_
          refine TL.said (t := 42) rfl (show _ = Value.bool false from congrArg Value.bool (rfl)) ?_
          refine TL.val (OpV.move rfl) rfl ?_
          refine TL.open rfl rfl ?_
          refine TL.val (OpV.move rfl) rfl ?_
          refine TL.open rfl rfl ?_
          refine TL.val (OpV.len Tryd.underlying28 rfl) rfl ?_
          refine TL.open rfl rfl ?_
          refine TL.val (OpV.eql rfl rfl) rfl ?_
          refine TL.said (t := 46) rfl (show _ = Value.bool false from congrArg Value.bool (beq_eq_false_iff_ne.2 (by omega))) ?_
          refine TL.val ((by first | exact OpV.pick_t rfl rfl | exact OpV.pick_f rfl rfl)) rfl ?_
          refine TL.val (OpV.move rfl) rfl ?_
          refine TL.open rfl rfl ?_
          refine TL.val (OpV.move rfl) rfl ?_
          refine TL.open rfl rfl ?_
          refine TL.val (OpV.len Tryd.underlying28 rfl) rfl ?_
          refine TL.open rfl rfl ?_
          refine TL.val (OpV.move rfl) rfl ?_
          refine TL.open rfl rfl ?_
          refine TL.val (OpV.mul rfl rfl (by first | exact IntWalk.i64_in _ ⟨by omega, by omega⟩ | rfl)) rfl ?_
          refine TL.open rfl rfl ?_
          refine TL.val (OpV.move rfl) rfl ?_
          refine TL.open rfl rfl ?_
          refine TL.val (OpV.len Tryd.underlying22 rfl) rfl ?_
          refine TL.open rfl rfl ?_
          refine TL.val (OpV.lss rfl rfl) rfl ?_
          refine TL.said (t := 55) rfl (show _ = Value.bool false from congrArg Value.bool (decide_eq_false (by omega))) ?_
          refine TL.val ((by first | exact OpV.pick_t rfl rfl | exact OpV.pick_f rfl rfl)) rfl ?_
          refine TL.nil ?_
          refine TE.sub (.cons (t := 0) rfl <| .cons (t := 5) rfl <| .cons (t := 6) rfl <| .cons (t := 56) rfl <| .nil) ?_
          refine TE.next ?_
          refine T.no rfl ?_
          refine T.skip ?_
          refine TE.next ?_
          refine T.seq ?_
          refine T.region ?_
          refine TL.val (OpV.assign rfl) rfl ?_
          refine TL.nil ?_
          refine TE.next ?_
          refine T.seq ?_
          refine T.seq ?_
          refine T.region ?_
          refine TL.val (OpV.assign rfl) rfl ?_
          refine TL.nil ?_
          refine TE.next ?_
          refine T.block ?_
          refine T.loop (ι := Nat × List Cl × Option Addr × Nat) (fun ⟨i, all, A8, c8⟩ => i ≤ n6 ∧ CInv m xs (wrapV xs (m : Int)) i all ∧ (A8 = none → c8 = 0) ∧ all.length ≤ i * 20) (fun ⟨i, all, A8, c8⟩ => (n6 - i)) (fun ⟨i, all, A8, c8⟩ => [(0, .slice A n c), (5, .int .i64 (m : Int)), (6, .slice A6 n6 c6), (8, .slice A8 all.length c8), (9, .int .i64 (i : Int))]) (fun ⟨i, all, A8, c8⟩ => [.row 59 16 A8 all.length c8 (fl all), .fr ρ, .fr σ]) (0, [], none, 0) ⟨Nat.zero_le _, ch_start hch, fun _ => rfl, Nat.zero_le _⟩ (.cons (t := 0) rfl <| .cons (t := 5) rfl <| .cons (t := 6) rfl <| .cons (t := 8) rfl <| .cons (t := 9) rfl <| .nil) ((fun wz kz => Perm.kle (.cons (by first | exact .here | exact (.there .here) | exact (.there (.there .here)) | exact (.there (.there (.there .here))) | exact (.there (.there (.there (.there .here)))) | exact (.there (.there (.there (.there (.there .here))))) | exact (.there (.there (.there (.there (.there (.there .here))))))) (.cons (by first | exact .here | exact (.there .here) | exact (.there (.there .here)) | exact (.there (.there (.there .here))) | exact (.there (.there (.there (.there .here)))) | exact (.there (.there (.there (.there (.there .here))))) | exact (.there (.there (.there (.there (.there (.there .here))))))) (.cons (by first | exact .here | exact (.there .here) | exact (.there (.there .here)) | exact (.there (.there (.there .here))) | exact (.there (.there (.there (.there .here)))) | exact (.there (.there (.there (.there (.there .here))))) | exact (.there (.there (.there (.there (.there (.there .here))))))) .nil))) wz (Kle.nilRow 59 16 wz kz))) ?_
          rintro ⟨i, all, A8, c8⟩ hR
          refine T.seq ?_
          refine T.seq ?_
          refine T.region ?_
          refine TL.val (OpV.move rfl) rfl ?_
          refine TL.val (OpV.move rfl) rfl ?_
          refine TL.val (OpV.len Tryd.underlying28 rfl) rfl ?_
          refine TL.val (OpV.lss rfl rfl) rfl ?_
          refine TL.nil ?_
          refine TE.next ?_
          refine T.cond rfl ?_ ?_
          · intro ht60
            obtain ⟨q1, q2, q3, q4⟩ := hR
            have hi : i < n6 := by have h9 := of_decide_eq_true ht60; omega
            obtain ⟨l, hl⟩ := get_of_lt hls.1.1 (show i < n6 by omega)
            obtain ⟨b6, o6, hA6, hat6⟩ := hls.1.2.2.2.2 (by omega)
            obtain ⟨_, rfl, _, hatl⟩ := hat6 _ l hl
            have hcl := hls.2 l (List.mem_of_getElem? hl)
            have hX : (wrapV xs (m : Int))[i]? = some l.ln := by rw [← hme, List.getElem?_map, hl]; rfl
            have hrw := hch.rows _ _ hX
            have hln : l.n = m := by rw [← hcl.1]; exact hrw.1
            have hall := ch_bd q2 (by omega)
            obtain ⟨kk, kk1, kk2, kk3, kk4, kk5, kk6, kk7⟩ := ch_step hm2 q2 hX
            replace kk2 : CInv m xs (wrapV xs (m : Int)) (i + 1) (all ++ l.cells.take kk) := kk2
            have hsf : l.soft = decide ((i : Int) < (n6 : Int) - 1) := by have h9 := hrw.2.2; rw [hnX] at h9; show l.ln.soft = _; rw [h9, decide_eq_decide]; omega
            have hrl : rowR l.cells = true := hrw.2.1
            refine T.skip ?_
            refine TE.next ?_
            refine T.seq ?_
            refine T.block ?_
            refine T.seq ?_
            refine T.seq ?_
            refine T.region ?_
            refine TL.val (OpV.move rfl) rfl ?_
            refine TL.val (OpV.move rfl) rfl ?_
            refine TL.val (OpV.indexAddr se_28 rfl hA6 rfl (by rfl) (by first | omega | simp)) rfl ?_
            refine TL.val (OpV.fieldAddr rfl fo_34_0) rfl ?_
            refine TL.val (OpV.load pl_22 rfl (by first | exact Cel.blk .here rfl | exact Cel.blk (.there .here) rfl | exact Cel.blk (.there (.there .here)) rfl | exact Cel.blk (.there (.there (.there .here))) rfl | exact Cel.blk (.there (.there (.there (.there .here)))) rfl | exact Cel.fr .here (hatl _ _ rfl) | exact Cel.fr (.there .here) (hatl _ _ rfl) | exact Cel.fr (.there (.there .here)) (hatl _ _ rfl) | exact Cel.fr (.there (.there (.there .here))) (hatl _ _ rfl) | exact Cel.fr (.there (.there (.there (.there .here)))) (hatl _ _ rfl) | exact Cel.fr .here (hatl2 _ _ rfl) | exact Cel.fr (.there .here) (hatl2 _ _ rfl) | exact Cel.fr (.there (.there .here)) (hatl2 _ _ rfl) | exact Cel.fr (.there (.there (.there .here))) (hatl2 _ _ rfl) | exact Cel.fr (.there (.there (.there (.there .here)))) (hatl2 _ _ rfl) | exact Cel.fr .here (hatz0 _ _ rfl) | exact Cel.fr (.there .here) (hatz0 _ _ rfl) | exact Cel.fr (.there (.there .here)) (hatz0 _ _ rfl) | exact Cel.fr (.there (.there (.there .here))) (hatz0 _ _ rfl) | exact Cel.fr (.there (.there (.there (.there .here)))) (hatz0 _ _ rfl) | exact Cel.fr .here (hatq _ _ rfl) | exact Cel.fr (.there .here) (hatq _ _ rfl) | exact Cel.fr (.there (.there .here)) (hatq _ _ rfl) | exact Cel.fr (.there (.there (.there .here))) (hatq _ _ rfl) | exact Cel.fr (.there (.there (.there (.there .here)))) (hatq _ _ rfl) | exact Cel.fr .here (hatx8 _ _ rfl) | exact Cel.fr (.there .here) (hatx8 _ _ rfl) | exact Cel.fr (.there (.there .here)) (hatx8 _ _ rfl) | exact Cel.fr (.there (.there (.there .here))) (hatx8 _ _ rfl) | exact Cel.fr (.there (.there (.there (.there .here)))) (hatx8 _ _ rfl) | exact Cel.fr .here (hatv _ _ rfl) | exact Cel.fr (.there .here) (hatv _ _ rfl) | exact Cel.fr (.there (.there .here)) (hatv _ _ rfl) | exact Cel.fr (.there (.there (.there .here))) (hatv _ _ rfl) | exact Cel.fr (.there (.there (.there (.there .here)))) (hatv _ _ rfl) | exact Cel.fr .here (hatx _ _ rfl) | exact Cel.fr (.there .here) (hatx _ _ rfl) | exact Cel.fr (.there (.there .here)) (hatx _ _ rfl) | exact Cel.fr (.there (.there (.there .here))) (hatx _ _ rfl) | exact Cel.fr (.there (.there (.there (.there .here)))) (hatx _ _ rfl))) rfl ?_
            refine TL.val (OpV.len Tryd.underlying22 rfl) rfl ?_
            refine TL.val (OpV.move rfl) rfl ?_
            refine TL.val (OpV.neq rfl rfl) rfl ?_
            refine TL.said (t := 70) rfl (show _ = Value.bool false from congrArg Value.bool (by rw [hln]; simp)) ?_
            refine TL.val (OpV.move rfl) rfl ?_
            refine TL.open rfl rfl ?_
            refine TL.val (OpV.move rfl) rfl ?_
            refine TL.open rfl rfl ?_
            refine TL.val (OpV.move rfl) rfl ?_
            refine TL.open rfl rfl ?_
            refine TL.val (OpV.indexAddr se_28 rfl hA6 rfl (by rfl) (by first | omega | simp)) rfl ?_
            refine TL.open rfl rfl ?_
            refine TL.val (OpV.fieldAddr rfl fo_34_0) rfl ?_
            refine TL.open rfl rfl ?_
            refine TL.val (OpV.load pl_22 rfl (by first | exact Cel.blk .here rfl | exact Cel.blk (.there .here) rfl | exact Cel.blk (.there (.there .here)) rfl | exact Cel.blk (.there (.there (.there .here))) rfl | exact Cel.blk (.there (.there (.there (.there .here)))) rfl | exact Cel.fr .here (hatl _ _ rfl) | exact Cel.fr (.there .here) (hatl _ _ rfl) | exact Cel.fr (.there (.there .here)) (hatl _ _ rfl) | exact Cel.fr (.there (.there (.there .here))) (hatl _ _ rfl) | exact Cel.fr (.there (.there (.there (.there .here)))) (hatl _ _ rfl) | exact Cel.fr .here (hatl2 _ _ rfl) | exact Cel.fr (.there .here) (hatl2 _ _ rfl) | exact Cel.fr (.there (.there .here)) (hatl2 _ _ rfl) | exact Cel.fr (.there (.there (.there .here))) (hatl2 _ _ rfl) | exact Cel.fr (.there (.there (.there (.there .here)))) (hatl2 _ _ rfl) | exact Cel.fr .here (hatz0 _ _ rfl) | exact Cel.fr (.there .here) (hatz0 _ _ rfl) | exact Cel.fr (.there (.there .here)) (hatz0 _ _ rfl) | exact Cel.fr (.there (.there (.there .here))) (hatz0 _ _ rfl) | exact Cel.fr (.there (.there (.there (.there .here)))) (hatz0 _ _ rfl) | exact Cel.fr .here (hatq _ _ rfl) | exact Cel.fr (.there .here) (hatq _ _ rfl) | exact Cel.fr (.there (.there .here)) (hatq _ _ rfl) | exact Cel.fr (.there (.there (.there .here))) (hatq _ _ rfl) | exact Cel.fr (.there (.there (.there (.there .here)))) (hatq _ _ rfl) | exact Cel.fr .here (hatx8 _ _ rfl) | exact Cel.fr (.there .here) (hatx8 _ _ rfl) | exact Cel.fr (.there (.there .here)) (hatx8 _ _ rfl) | exact Cel.fr (.there (.there (.there .here))) (hatx8 _ _ rfl) | exact Cel.fr (.there (.there (.there (.there .here)))) (hatx8 _ _ rfl) | exact Cel.fr .here (hatv _ _ rfl) | exact Cel.fr (.there .here) (hatv _ _ rfl) | exact Cel.fr (.there (.there .here)) (hatv _ _ rfl) | exact Cel.fr (.there (.there (.there .here))) (hatv _ _ rfl) | exact Cel.fr (.there (.there (.there (.there .here)))) (hatv _ _ rfl) | exact Cel.fr .here (hatx _ _ rfl) | exact Cel.fr (.there .here) (hatx _ _ rfl) | exact Cel.fr (.there (.there .here)) (hatx _ _ rfl) | exact Cel.fr (.there (.there (.there .here))) (hatx _ _ rfl) | exact Cel.fr (.there (.there (.there (.there .here)))) (hatx _ _ rfl))) rfl ?_
            refine TL.open rfl rfl ?_
            refine TL.call (g := 26) rfl go_26 rfl (fun w1 k1 => rrow_c w1 hcl (k1.get (e := .fr ρ) (by first | exact .here | exact (.there .here) | exact (.there (.there .here)) | exact (.there (.there (.there .here))) | exact (.there (.there (.there (.there .here)))) | exact (.there (.there (.there (.there (.there .here)))))))) rfl ?_
            refine TL.open rfl rfl ?_
            refine TL.val (OpV.not rfl) rfl ?_
            refine TL.said (t := 78) rfl (show _ = Value.bool false from congrArg Value.bool (by rw [hrl]; rfl)) ?_
            refine TL.val ((by first | exact OpV.pick_t rfl rfl | exact OpV.pick_f rfl rfl)) rfl ?_
            refine TL.val (OpV.move rfl) rfl ?_
            refine TL.open rfl rfl ?_
            refine TL.val (OpV.move rfl) rfl ?_
            refine TL.open rfl rfl ?_
            refine TL.val (OpV.move rfl) rfl ?_
            refine TL.open rfl rfl ?_
            refine TL.val (OpV.indexAddr se_28 rfl hA6 rfl (by rfl) (by first | omega | simp)) rfl ?_
            refine TL.open rfl rfl ?_
            refine TL.val (OpV.fieldAddr rfl fo_34_1) rfl ?_
            refine TL.open rfl rfl ?_
            refine TL.val (OpV.load pl_4 rfl (by first | exact Cel.blk .here rfl | exact Cel.blk (.there .here) rfl | exact Cel.blk (.there (.there .here)) rfl | exact Cel.blk (.there (.there (.there .here))) rfl | exact Cel.blk (.there (.there (.there (.there .here)))) rfl | exact Cel.fr .here (hatl _ _ rfl) | exact Cel.fr (.there .here) (hatl _ _ rfl) | exact Cel.fr (.there (.there .here)) (hatl _ _ rfl) | exact Cel.fr (.there (.there (.there .here))) (hatl _ _ rfl) | exact Cel.fr (.there (.there (.there (.there .here)))) (hatl _ _ rfl) | exact Cel.fr .here (hatl2 _ _ rfl) | exact Cel.fr (.there .here) (hatl2 _ _ rfl) | exact Cel.fr (.there (.there .here)) (hatl2 _ _ rfl) | exact Cel.fr (.there (.there (.there .here))) (hatl2 _ _ rfl) | exact Cel.fr (.there (.there (.there (.there .here)))) (hatl2 _ _ rfl) | exact Cel.fr .here (hatz0 _ _ rfl) | exact Cel.fr (.there .here) (hatz0 _ _ rfl) | exact Cel.fr (.there (.there .here)) (hatz0 _ _ rfl) | exact Cel.fr (.there (.there (.there .here))) (hatz0 _ _ rfl) | exact Cel.fr (.there (.there (.there (.there .here)))) (hatz0 _ _ rfl) | exact Cel.fr .here (hatq _ _ rfl) | exact Cel.fr (.there .here) (hatq _ _ rfl) | exact Cel.fr (.there (.there .here)) (hatq _ _ rfl) | exact Cel.fr (.there (.there (.there .here))) (hatq _ _ rfl) | exact Cel.fr (.there (.there (.there (.there .here)))) (hatq _ _ rfl) | exact Cel.fr .here (hatx8 _ _ rfl) | exact Cel.fr (.there .here) (hatx8 _ _ rfl) | exact Cel.fr (.there (.there .here)) (hatx8 _ _ rfl) | exact Cel.fr (.there (.there (.there .here))) (hatx8 _ _ rfl) | exact Cel.fr (.there (.there (.there (.there .here)))) (hatx8 _ _ rfl) | exact Cel.fr .here (hatv _ _ rfl) | exact Cel.fr (.there .here) (hatv _ _ rfl) | exact Cel.fr (.there (.there .here)) (hatv _ _ rfl) | exact Cel.fr (.there (.there (.there .here))) (hatv _ _ rfl) | exact Cel.fr (.there (.there (.there (.there .here)))) (hatv _ _ rfl) | exact Cel.fr .here (hatx _ _ rfl) | exact Cel.fr (.there .here) (hatx _ _ rfl) | exact Cel.fr (.there (.there .here)) (hatx _ _ rfl) | exact Cel.fr (.there (.there (.there .here))) (hatx _ _ rfl) | exact Cel.fr (.there (.there (.there (.there .here)))) (hatx _ _ rfl))) rfl ?_
            refine TL.open rfl rfl ?_
            refine TL.val (OpV.move rfl) rfl ?_
            refine TL.open rfl rfl ?_
            refine TL.val (OpV.move rfl) rfl ?_
            refine TL.open rfl rfl ?_
            refine TL.val (OpV.len Tryd.underlying28 rfl) rfl ?_
            refine TL.open rfl rfl ?_
            refine TL.val (OpV.sub rfl rfl (by first | exact IntWalk.i64_in _ ⟨by omega, by omega⟩ | rfl)) rfl ?_
            refine TL.open rfl rfl ?_
            refine TL.val (OpV.lss rfl rfl) rfl ?_
            refine TL.open rfl rfl ?_
            refine TL.val (OpV.bneq Tryd.underlying4 rfl rfl) rfl ?_
            refine TL.said (t := 91) rfl (show _ = Value.bool false from congrArg Value.bool (by rw [hsf]; simp)) ?_
            refine TL.val ((by first | exact OpV.pick_t rfl rfl | exact OpV.pick_f rfl rfl)) rfl ?_
            refine TL.nil ?_
            refine TE.sub (.cons (t := 0) rfl <| .cons (t := 5) rfl <| .cons (t := 6) rfl <| .cons (t := 8) rfl <| .cons (t := 9) rfl <| .cons (t := 92) rfl <| .nil) ?_
            refine TE.next ?_
            refine T.no rfl ?_
            refine T.skip ?_
            refine TE.next ?_
            refine T.seq ?_
            refine T.region ?_
            refine TL.val (OpV.move rfl) rfl ?_
            refine TL.val (OpV.assign rfl) rfl ?_
            refine TL.nil ?_
            refine TE.next ?_
            refine T.seq ?_
            refine T.cut [(0, .slice A n c), (5, .int .i64 (m : Int)), (6, .slice A6 n6 c6), (8, .slice A8 all.length c8), (9, .int .i64 (i : Int)), (10, .int .i64 (kk : Int))] ([.row 59 16 A8 all.length c8 (fl all), .fr ρ, .fr σ]) ?_ ?_
            · skip
              refine T.seq ?_
              refine T.region ?_
              refine TL.val (OpV.move rfl) rfl ?_
              refine TL.val (OpV.move rfl) rfl ?_
              refine TL.val (OpV.len Tryd.underlying28 rfl) rfl ?_
              refine TL.val (OpV.sub rfl rfl (by first | exact IntWalk.i64_in _ ⟨by omega, by omega⟩ | rfl)) rfl ?_
              refine TL.val (OpV.lss rfl rfl) rfl ?_
              refine TL.val (OpV.move rfl) rfl ?_
              refine TL.part (t := 99) rfl ?_ ?_
              · intro hg99
                have hi2 : i + 1 < n6 := by have h9 := of_decide_eq_true hg99; omega
                obtain ⟨l2, hl2⟩ := get_of_lt hls.1.1 (show (i + 1) < n6 by omega)
                obtain ⟨b62, o62, hA62, hat62⟩ := hls.1.2.2.2.2 (by omega)
                obtain ⟨_, rfl, _, hatl2⟩ := hat62 _ l2 hl2
                have hcl2 := hls.2 l2 (List.mem_of_getElem? hl2)
                have hX2 : (wrapV xs (m : Int))[(i + 1)]? = some l2.ln := by rw [← hme, List.getElem?_map, hl2]; rfl
                have hrw2 := hch.rows _ _ hX2
                have hln2 : l2.n = m := by rw [← hcl2.1]; exact hrw2.1
                obtain ⟨z, hz⟩ := get_of_lt hcl2.1 (show 0 < l2.n by omega)
                obtain ⟨bz, oz, hAz, hatz⟩ := hcl2.pos (by omega)
                have hatz0 := hatz 0 z hz
                refine TL.open rfl rfl ?_
                refine TL.val (OpV.move rfl) rfl ?_
                refine TL.open rfl rfl ?_
                refine TL.val (OpV.move rfl) rfl ?_
                refine TL.open rfl rfl ?_
                refine TL.val (OpV.add rfl rfl (by first | exact IntWalk.i64_in _ ⟨by omega, by omega⟩ | rfl)) rfl ?_
                refine TL.open rfl rfl ?_
                refine TL.val (OpV.indexAddr (j := (i + 1)) se_28 rfl hA62 rfl (by omega) (by omega)) rfl ?_
                refine TL.open rfl rfl ?_
                refine TL.val (OpV.fieldAddr rfl fo_34_0) rfl ?_
                refine TL.open rfl rfl ?_
                refine TL.val (OpV.load pl_22 rfl (by first | exact Cel.blk .here rfl | exact Cel.blk (.there .here) rfl | exact Cel.blk (.there (.there .here)) rfl | exact Cel.blk (.there (.there (.there .here))) rfl | exact Cel.blk (.there (.there (.there (.there .here)))) rfl | exact Cel.fr .here (hatl _ _ rfl) | exact Cel.fr (.there .here) (hatl _ _ rfl) | exact Cel.fr (.there (.there .here)) (hatl _ _ rfl) | exact Cel.fr (.there (.there (.there .here))) (hatl _ _ rfl) | exact Cel.fr (.there (.there (.there (.there .here)))) (hatl _ _ rfl) | exact Cel.fr .here (hatl2 _ _ rfl) | exact Cel.fr (.there .here) (hatl2 _ _ rfl) | exact Cel.fr (.there (.there .here)) (hatl2 _ _ rfl) | exact Cel.fr (.there (.there (.there .here))) (hatl2 _ _ rfl) | exact Cel.fr (.there (.there (.there (.there .here)))) (hatl2 _ _ rfl) | exact Cel.fr .here (hatz0 _ _ rfl) | exact Cel.fr (.there .here) (hatz0 _ _ rfl) | exact Cel.fr (.there (.there .here)) (hatz0 _ _ rfl) | exact Cel.fr (.there (.there (.there .here))) (hatz0 _ _ rfl) | exact Cel.fr (.there (.there (.there (.there .here)))) (hatz0 _ _ rfl) | exact Cel.fr .here (hatq _ _ rfl) | exact Cel.fr (.there .here) (hatq _ _ rfl) | exact Cel.fr (.there (.there .here)) (hatq _ _ rfl) | exact Cel.fr (.there (.there (.there .here))) (hatq _ _ rfl) | exact Cel.fr (.there (.there (.there (.there .here)))) (hatq _ _ rfl) | exact Cel.fr .here (hatx8 _ _ rfl) | exact Cel.fr (.there .here) (hatx8 _ _ rfl) | exact Cel.fr (.there (.there .here)) (hatx8 _ _ rfl) | exact Cel.fr (.there (.there (.there .here))) (hatx8 _ _ rfl) | exact Cel.fr (.there (.there (.there (.there .here)))) (hatx8 _ _ rfl) | exact Cel.fr .here (hatv _ _ rfl) | exact Cel.fr (.there .here) (hatv _ _ rfl) | exact Cel.fr (.there (.there .here)) (hatv _ _ rfl) | exact Cel.fr (.there (.there (.there .here))) (hatv _ _ rfl) | exact Cel.fr (.there (.there (.there (.there .here)))) (hatv _ _ rfl) | exact Cel.fr .here (hatx _ _ rfl) | exact Cel.fr (.there .here) (hatx _ _ rfl) | exact Cel.fr (.there (.there .here)) (hatx _ _ rfl) | exact Cel.fr (.there (.there (.there .here))) (hatx _ _ rfl) | exact Cel.fr (.there (.there (.there (.there .here)))) (hatx _ _ rfl))) rfl ?_
                refine TL.open rfl rfl ?_
                refine TL.val (OpV.len Tryd.underlying22 rfl) rfl ?_
                refine TL.open rfl rfl ?_
                refine TL.val (OpV.gtr rfl rfl) rfl ?_
                refine TL.said (t := 107) rfl (show _ = Value.bool true from congrArg Value.bool (decide_eq_true (by omega))) ?_
                refine TL.val ((by first | exact OpV.pick_t rfl rfl | exact OpV.pick_f rfl rfl)) rfl ?_
                refine TL.val (OpV.move rfl) rfl ?_
                refine TL.open rfl rfl ?_
                refine TL.val (OpV.move rfl) rfl ?_
                refine TL.open rfl rfl ?_
                refine TL.val (OpV.move rfl) rfl ?_
                refine TL.open rfl rfl ?_
                refine TL.val (OpV.add rfl rfl (by first | exact IntWalk.i64_in _ ⟨by omega, by omega⟩ | rfl)) rfl ?_
                refine TL.open rfl rfl ?_
                refine TL.val (OpV.indexAddr (j := (i + 1)) se_28 rfl hA62 rfl (by omega) (by omega)) rfl ?_
                refine TL.open rfl rfl ?_
                refine TL.val (OpV.fieldAddr rfl fo_34_0) rfl ?_
                refine TL.open rfl rfl ?_
                refine TL.val (OpV.load pl_22 rfl (by first | exact Cel.blk .here rfl | exact Cel.blk (.there .here) rfl | exact Cel.blk (.there (.there .here)) rfl | exact Cel.blk (.there (.there (.there .here))) rfl | exact Cel.blk (.there (.there (.there (.there .here)))) rfl | exact Cel.fr .here (hatl _ _ rfl) | exact Cel.fr (.there .here) (hatl _ _ rfl) | exact Cel.fr (.there (.there .here)) (hatl _ _ rfl) | exact Cel.fr (.there (.there (.there .here))) (hatl _ _ rfl) | exact Cel.fr (.there (.there (.there (.there .here)))) (hatl _ _ rfl) | exact Cel.fr .here (hatl2 _ _ rfl) | exact Cel.fr (.there .here) (hatl2 _ _ rfl) | exact Cel.fr (.there (.there .here)) (hatl2 _ _ rfl) | exact Cel.fr (.there (.there (.there .here))) (hatl2 _ _ rfl) | exact Cel.fr (.there (.there (.there (.there .here)))) (hatl2 _ _ rfl) | exact Cel.fr .here (hatz0 _ _ rfl) | exact Cel.fr (.there .here) (hatz0 _ _ rfl) | exact Cel.fr (.there (.there .here)) (hatz0 _ _ rfl) | exact Cel.fr (.there (.there (.there .here))) (hatz0 _ _ rfl) | exact Cel.fr (.there (.there (.there (.there .here)))) (hatz0 _ _ rfl) | exact Cel.fr .here (hatq _ _ rfl) | exact Cel.fr (.there .here) (hatq _ _ rfl) | exact Cel.fr (.there (.there .here)) (hatq _ _ rfl) | exact Cel.fr (.there (.there (.there .here))) (hatq _ _ rfl) | exact Cel.fr (.there (.there (.there (.there .here)))) (hatq _ _ rfl) | exact Cel.fr .here (hatx8 _ _ rfl) | exact Cel.fr (.there .here) (hatx8 _ _ rfl) | exact Cel.fr (.there (.there .here)) (hatx8 _ _ rfl) | exact Cel.fr (.there (.there (.there .here))) (hatx8 _ _ rfl) | exact Cel.fr (.there (.there (.there (.there .here)))) (hatx8 _ _ rfl) | exact Cel.fr .here (hatv _ _ rfl) | exact Cel.fr (.there .here) (hatv _ _ rfl) | exact Cel.fr (.there (.there .here)) (hatv _ _ rfl) | exact Cel.fr (.there (.there (.there .here))) (hatv _ _ rfl) | exact Cel.fr (.there (.there (.there (.there .here)))) (hatv _ _ rfl) | exact Cel.fr .here (hatx _ _ rfl) | exact Cel.fr (.there .here) (hatx _ _ rfl) | exact Cel.fr (.there (.there .here)) (hatx _ _ rfl) | exact Cel.fr (.there (.there (.there .here))) (hatx _ _ rfl) | exact Cel.fr (.there (.there (.there (.there .here)))) (hatx _ _ rfl))) rfl ?_
                refine TL.open rfl rfl ?_
                refine TL.val (OpV.indexAddr (j := 0) se_22 rfl hAz rfl rfl (by omega)) rfl ?_
                refine TL.open rfl rfl ?_
                refine TL.val (OpV.fieldAddr rfl fo_59_2) rfl ?_
                refine TL.open rfl rfl ?_
                refine TL.val (OpV.load pl_3 rfl (by first | exact Cel.blk .here rfl | exact Cel.blk (.there .here) rfl | exact Cel.blk (.there (.there .here)) rfl | exact Cel.blk (.there (.there (.there .here))) rfl | exact Cel.blk (.there (.there (.there (.there .here)))) rfl | exact Cel.fr .here (hatl _ _ rfl) | exact Cel.fr (.there .here) (hatl _ _ rfl) | exact Cel.fr (.there (.there .here)) (hatl _ _ rfl) | exact Cel.fr (.there (.there (.there .here))) (hatl _ _ rfl) | exact Cel.fr (.there (.there (.there (.there .here)))) (hatl _ _ rfl) | exact Cel.fr .here (hatl2 _ _ rfl) | exact Cel.fr (.there .here) (hatl2 _ _ rfl) | exact Cel.fr (.there (.there .here)) (hatl2 _ _ rfl) | exact Cel.fr (.there (.there (.there .here))) (hatl2 _ _ rfl) | exact Cel.fr (.there (.there (.there (.there .here)))) (hatl2 _ _ rfl) | exact Cel.fr .here (hatz0 _ _ rfl) | exact Cel.fr (.there .here) (hatz0 _ _ rfl) | exact Cel.fr (.there (.there .here)) (hatz0 _ _ rfl) | exact Cel.fr (.there (.there (.there .here))) (hatz0 _ _ rfl) | exact Cel.fr (.there (.there (.there (.there .here)))) (hatz0 _ _ rfl) | exact Cel.fr .here (hatq _ _ rfl) | exact Cel.fr (.there .here) (hatq _ _ rfl) | exact Cel.fr (.there (.there .here)) (hatq _ _ rfl) | exact Cel.fr (.there (.there (.there .here))) (hatq _ _ rfl) | exact Cel.fr (.there (.there (.there (.there .here)))) (hatq _ _ rfl) | exact Cel.fr .here (hatx8 _ _ rfl) | exact Cel.fr (.there .here) (hatx8 _ _ rfl) | exact Cel.fr (.there (.there .here)) (hatx8 _ _ rfl) | exact Cel.fr (.there (.there (.there .here))) (hatx8 _ _ rfl) | exact Cel.fr (.there (.there (.there (.there .here)))) (hatx8 _ _ rfl) | exact Cel.fr .here (hatv _ _ rfl) | exact Cel.fr (.there .here) (hatv _ _ rfl) | exact Cel.fr (.there (.there .here)) (hatv _ _ rfl) | exact Cel.fr (.there (.there (.there .here))) (hatv _ _ rfl) | exact Cel.fr (.there (.there (.there (.there .here)))) (hatv _ _ rfl) | exact Cel.fr .here (hatx _ _ rfl) | exact Cel.fr (.there .here) (hatx _ _ rfl) | exact Cel.fr (.there (.there .here)) (hatx _ _ rfl) | exact Cel.fr (.there (.there (.there .here))) (hatx _ _ rfl) | exact Cel.fr (.there (.there (.there (.there .here)))) (hatx _ _ rfl))) rfl ?_
                refine TL.open rfl rfl ?_
                refine TL.val (OpV.eql rfl rfl) rfl ?_
                refine TL.val ((by first | exact OpV.pick_t rfl rfl | exact OpV.pick_f rfl rfl)) rfl ?_
                refine TL.val (OpV.move rfl) rfl ?_
                refine TL.part (t := 121) rfl ?_ ?_
                · intro hg121
                  refine TL.open rfl rfl ?_
                  refine TL.val (OpV.move rfl) rfl ?_
                  refine TL.open rfl rfl ?_
                  refine TL.val (OpV.len Tryd.underlying22 rfl) rfl ?_
                  refine TL.open rfl rfl ?_
                  refine TL.val (OpV.move rfl) rfl ?_
                  refine TL.open rfl rfl ?_
                  refine TL.val (OpV.add rfl rfl (by first | exact IntWalk.i64_in _ ⟨by omega, by omega⟩ | rfl)) rfl ?_
                  refine TL.open rfl rfl ?_
                  refine TL.val (OpV.move rfl) rfl ?_
                  refine TL.open rfl rfl ?_
                  refine TL.val (OpV.len Tryd.underlying22 rfl) rfl ?_
                  refine TL.open rfl rfl ?_
                  refine TL.val (OpV.gtr rfl rfl) rfl ?_
                  refine TL.open rfl rfl ?_
                  refine TL.val (OpV.move rfl) rfl ?_
                  refine TL.part (t := 129) rfl ?_ ?_
                  · intro hg129
                    refine TL.shut rfl rfl ?_
                    refine TL.shut rfl rfl ?_
                    refine TL.shut rfl rfl ?_
                    refine TL.shut rfl rfl ?_
                    refine TL.shut rfl rfl ?_
                    refine TL.shut rfl rfl ?_
                    refine TL.shut rfl rfl ?_
                    refine TL.shut rfl rfl ?_
                    refine TL.shut rfl rfl ?_
                    refine TL.shut rfl rfl ?_
                    refine TL.open rfl rfl ?_
                    refine TL.val ((by first | exact OpV.pick_t rfl rfl | exact OpV.pick_f rfl rfl)) rfl ?_
                    refine TL.val ((by first | exact OpV.pick_t rfl rfl | exact OpV.pick_f rfl rfl)) rfl ?_
                    refine TL.nil ?_
                    refine TE.sub (.cons (t := 0) rfl <| .cons (t := 5) rfl <| .cons (t := 6) rfl <| .cons (t := 8) rfl <| .cons (t := 9) rfl <| .cons (t := 10) rfl <| .cons (t := 141) rfl <| .nil) ?_
                    refine TE.next ?_
                    refine T.yes rfl ?_
                    refine T.region ?_
                    refine TL.val (OpV.move rfl) rfl ?_
                    refine TL.val (OpV.sub rfl rfl (by first | exact IntWalk.i64_in _ ⟨by omega, by omega⟩ | rfl)) rfl ?_
                    refine TL.val (OpV.assign rfl) rfl ?_
                    refine TL.nil ?_
                    have hkk : kk + 1 = m := (by first | exact kk6 _ _ hX2 hz (eq_of_beq hg121) (by have h9 := of_decide_eq_true hg129; omega) | exact kk7 _ _ _ hX2 hz (eq_of_beq hg121) hqx (eq_of_beq ht141))
                    exact TE.met (.cons (t := 0) rfl <| .cons (t := 5) rfl <| .cons (t := 6) rfl <| .cons (t := 8) rfl <| .cons (t := 9) rfl <| .cons (t := 10) (by first | rfl | exact congrArg (fun z => some (Value.int .i64 z)) (by omega)) <| .nil) (Kle.refl)
                  · intro hg129
                    have hq : all.length + m - 1 < n := by have h9 := of_decide_eq_false hg129; omega
                    obtain ⟨q, hqx⟩ := get_of_lt h.1 hq
                    obtain ⟨b, o, hA, hat⟩ := h.pos (by omega)
                    have hatq := hat _ q hqx
                    refine TL.open rfl rfl ?_
                    refine TL.val (OpV.move rfl) rfl ?_
                    refine TL.open rfl rfl ?_
                    refine TL.val (OpV.move rfl) rfl ?_
                    refine TL.open rfl rfl ?_
                    refine TL.val (OpV.len Tryd.underlying22 rfl) rfl ?_
                    refine TL.open rfl rfl ?_
                    refine TL.val (OpV.move rfl) rfl ?_
                    refine TL.open rfl rfl ?_
                    refine TL.val (OpV.add rfl rfl (by first | exact IntWalk.i64_in _ ⟨by omega, by omega⟩ | rfl)) rfl ?_
                    refine TL.open rfl rfl ?_
                    refine TL.val (OpV.sub rfl rfl (by first | exact IntWalk.i64_in _ ⟨by omega, by omega⟩ | rfl)) rfl ?_
                    refine TL.open rfl rfl ?_
                    refine TL.val (OpV.indexAddr (j := (all.length + m - 1)) se_22 rfl hA rfl (by omega) (by omega)) rfl ?_
                    refine TL.open rfl rfl ?_
                    refine TL.val (OpV.fieldAddr rfl fo_59_2) rfl ?_
                    refine TL.open rfl rfl ?_
                    refine TL.val (OpV.load pl_3 rfl (by first | exact Cel.blk .here rfl | exact Cel.blk (.there .here) rfl | exact Cel.blk (.there (.there .here)) rfl | exact Cel.blk (.there (.there (.there .here))) rfl | exact Cel.blk (.there (.there (.there (.there .here)))) rfl | exact Cel.fr .here (hatl _ _ rfl) | exact Cel.fr (.there .here) (hatl _ _ rfl) | exact Cel.fr (.there (.there .here)) (hatl _ _ rfl) | exact Cel.fr (.there (.there (.there .here))) (hatl _ _ rfl) | exact Cel.fr (.there (.there (.there (.there .here)))) (hatl _ _ rfl) | exact Cel.fr .here (hatl2 _ _ rfl) | exact Cel.fr (.there .here) (hatl2 _ _ rfl) | exact Cel.fr (.there (.there .here)) (hatl2 _ _ rfl) | exact Cel.fr (.there (.there (.there .here))) (hatl2 _ _ rfl) | exact Cel.fr (.there (.there (.there (.there .here)))) (hatl2 _ _ rfl) | exact Cel.fr .here (hatz0 _ _ rfl) | exact Cel.fr (.there .here) (hatz0 _ _ rfl) | exact Cel.fr (.there (.there .here)) (hatz0 _ _ rfl) | exact Cel.fr (.there (.there (.there .here))) (hatz0 _ _ rfl) | exact Cel.fr (.there (.there (.there (.there .here)))) (hatz0 _ _ rfl) | exact Cel.fr .here (hatq _ _ rfl) | exact Cel.fr (.there .here) (hatq _ _ rfl) | exact Cel.fr (.there (.there .here)) (hatq _ _ rfl) | exact Cel.fr (.there (.there (.there .here))) (hatq _ _ rfl) | exact Cel.fr (.there (.there (.there (.there .here)))) (hatq _ _ rfl) | exact Cel.fr .here (hatx8 _ _ rfl) | exact Cel.fr (.there .here) (hatx8 _ _ rfl) | exact Cel.fr (.there (.there .here)) (hatx8 _ _ rfl) | exact Cel.fr (.there (.there (.there .here))) (hatx8 _ _ rfl) | exact Cel.fr (.there (.there (.there (.there .here)))) (hatx8 _ _ rfl) | exact Cel.fr .here (hatv _ _ rfl) | exact Cel.fr (.there .here) (hatv _ _ rfl) | exact Cel.fr (.there (.there .here)) (hatv _ _ rfl) | exact Cel.fr (.there (.there (.there .here))) (hatv _ _ rfl) | exact Cel.fr (.there (.there (.there (.there .here)))) (hatv _ _ rfl) | exact Cel.fr .here (hatx _ _ rfl) | exact Cel.fr (.there .here) (hatx _ _ rfl) | exact Cel.fr (.there (.there .here)) (hatx _ _ rfl) | exact Cel.fr (.there (.there (.there .here))) (hatx _ _ rfl) | exact Cel.fr (.there (.there (.there (.there .here)))) (hatx _ _ rfl))) rfl ?_
                    refine TL.open rfl rfl ?_
                    refine TL.val (OpV.eql rfl rfl) rfl ?_
                    refine TL.open rfl rfl ?_
                    refine TL.val ((by first | exact OpV.pick_t rfl rfl | exact OpV.pick_f rfl rfl)) rfl ?_
                    refine TL.val ((by first | exact OpV.pick_t rfl rfl | exact OpV.pick_f rfl rfl)) rfl ?_
                    refine TL.nil ?_
                    refine TE.sub (.cons (t := 0) rfl <| .cons (t := 5) rfl <| .cons (t := 6) rfl <| .cons (t := 8) rfl <| .cons (t := 9) rfl <| .cons (t := 10) rfl <| .cons (t := 141) rfl <| .nil) ?_
                    refine TE.next ?_
                    refine T.cond rfl ?_ ?_
                    · intro ht141
                      refine T.region ?_
                      refine TL.val (OpV.move rfl) rfl ?_
                      refine TL.val (OpV.sub rfl rfl (by first | exact IntWalk.i64_in _ ⟨by omega, by omega⟩ | rfl)) rfl ?_
                      refine TL.val (OpV.assign rfl) rfl ?_
                      refine TL.nil ?_
                      have hkk : kk + 1 = m := (by first | exact kk6 _ _ hX2 hz (eq_of_beq hg121) (by have h9 := of_decide_eq_true hg129; omega) | exact kk7 _ _ _ hX2 hz (eq_of_beq hg121) hqx (eq_of_beq ht141))
                      exact TE.met (.cons (t := 0) rfl <| .cons (t := 5) rfl <| .cons (t := 6) rfl <| .cons (t := 8) rfl <| .cons (t := 9) rfl <| .cons (t := 10) (by first | rfl | exact congrArg (fun z => some (Value.int .i64 z)) (by omega)) <| .nil) (Kle.refl)
                    · intro ht141
                      refine T.skip ?_
                      have hkk : kk = m := (by first | exact kk3 (by have h9 := of_decide_eq_false hg99; omega) | exact kk4 _ _ hX2 hz (beq_eq_false_iff_ne.1 hg121) | exact kk5 _ (by have h9 := of_decide_eq_false hg129; omega) hqx (beq_eq_false_iff_ne.1 ht141))
                      exact TE.met (.cons (t := 0) rfl <| .cons (t := 5) rfl <| .cons (t := 6) rfl <| .cons (t := 8) rfl <| .cons (t := 9) rfl <| .cons (t := 10) (by first | rfl | exact congrArg (fun z => some (Value.int .i64 z)) (by omega)) <| .nil) (Kle.refl)
                · intro hg121
                  refine TL.shut rfl rfl ?_
                  refine TL.shut rfl rfl ?_
                  refine TL.shut rfl rfl ?_
                  refine TL.shut rfl rfl ?_
                  refine TL.shut rfl rfl ?_
                  refine TL.shut rfl rfl ?_
                  refine TL.shut rfl rfl ?_
                  refine TL.shut rfl rfl ?_
                  refine TL.shutU rfl rfl ?_
                  refine TL.shutU rfl rfl ?_
                  refine TL.shutU rfl rfl ?_
                  refine TL.shutU rfl rfl ?_
                  refine TL.shutU rfl rfl ?_
                  refine TL.shutU rfl rfl ?_
                  refine TL.shutU rfl rfl ?_
                  refine TL.shutU rfl rfl ?_
                  refine TL.shutU rfl rfl ?_
                  refine TL.shutU rfl rfl ?_
                  refine TL.shut rfl rfl ?_
                  refine TL.val ((by first | exact OpV.pick_t rfl rfl | exact OpV.pick_f rfl rfl)) rfl ?_
                  refine TL.nil ?_
                  refine TE.sub (.cons (t := 0) rfl <| .cons (t := 5) rfl <| .cons (t := 6) rfl <| .cons (t := 8) rfl <| .cons (t := 9) rfl <| .cons (t := 10) rfl <| .cons (t := 141) rfl <| .nil) ?_
                  refine TE.next ?_
                  refine T.no rfl ?_
                  refine T.skip ?_
                  have hkk : kk = m := (by first | exact kk3 (by have h9 := of_decide_eq_false hg99; omega) | exact kk4 _ _ hX2 hz (beq_eq_false_iff_ne.1 hg121) | exact kk5 _ (by have h9 := of_decide_eq_false hg129; omega) hqx (beq_eq_false_iff_ne.1 ht141))
                  exact TE.met (.cons (t := 0) rfl <| .cons (t := 5) rfl <| .cons (t := 6) rfl <| .cons (t := 8) rfl <| .cons (t := 9) rfl <| .cons (t := 10) (by first | rfl | exact congrArg (fun z => some (Value.int .i64 z)) (by omega)) <| .nil) (Kle.refl)
              · intro hg99
                refine TL.shut rfl rfl ?_
                refine TL.shut rfl rfl ?_
                refine TL.shut rfl rfl ?_
                refine TL.shut rfl rfl ?_
                refine TL.shut rfl rfl ?_
                refine TL.shut rfl rfl ?_
                refine TL.shut rfl rfl ?_
                refine TL.shut rfl rfl ?_
                refine TL.val ((by first | exact OpV.pick_t rfl rfl | exact OpV.pick_f rfl rfl)) rfl ?_
                refine TL.val (OpV.move rfl) rfl ?_
                refine TL.shut rfl rfl ?_
                refine TL.shut rfl rfl ?_
                refine TL.shut rfl rfl ?_
                refine TL.shut rfl rfl ?_
                refine TL.shut rfl rfl ?_
                refine TL.shut rfl rfl ?_
                refine TL.shut rfl rfl ?_
                refine TL.shut rfl rfl ?_
                refine TL.shut rfl rfl ?_
                refine TL.shut rfl rfl ?_
                refine TL.val ((by first | exact OpV.pick_t rfl rfl | exact OpV.pick_f rfl rfl)) rfl ?_
                refine TL.val (OpV.move rfl) rfl ?_
                refine TL.shut rfl rfl ?_
                refine TL.shut rfl rfl ?_
                refine TL.shut rfl rfl ?_
                refine TL.shut rfl rfl ?_
                refine TL.shut rfl rfl ?_
                refine TL.shut rfl rfl ?_
                refine TL.shut rfl rfl ?_
                refine TL.shut rfl rfl ?_
                refine TL.shutU rfl rfl ?_
                refine TL.shutU rfl rfl ?_
                refine TL.shutU rfl rfl ?_
                refine TL.shutU rfl rfl ?_
                refine TL.shutU rfl rfl ?_
                refine TL.shutU rfl rfl ?_
                refine TL.shutU rfl rfl ?_
                refine TL.shutU rfl rfl ?_
                refine TL.shutU rfl rfl ?_
                refine TL.shutU rfl rfl ?_
                refine TL.shut rfl rfl ?_
                refine TL.val ((by first | exact OpV.pick_t rfl rfl | exact OpV.pick_f rfl rfl)) rfl ?_
                refine TL.nil ?_
                refine TE.sub (.cons (t := 0) rfl <| .cons (t := 5) rfl <| .cons (t := 6) rfl <| .cons (t := 8) rfl <| .cons (t := 9) rfl <| .cons (t := 10) rfl <| .cons (t := 141) rfl <| .nil) ?_
                refine TE.next ?_
                refine T.no rfl ?_
                refine T.skip ?_
                have hkk : kk = m := (by first | exact kk3 (by have h9 := of_decide_eq_false hg99; omega) | exact kk4 _ _ hX2 hz (beq_eq_false_iff_ne.1 hg121) | exact kk5 _ (by have h9 := of_decide_eq_false hg129; omega) hqx (beq_eq_false_iff_ne.1 ht141))
                exact TE.met (.cons (t := 0) rfl <| .cons (t := 5) rfl <| .cons (t := 6) rfl <| .cons (t := 8) rfl <| .cons (t := 9) rfl <| .cons (t := 10) (by first | rfl | exact congrArg (fun z => some (Value.int .i64 z)) (by omega)) <| .nil) (Kle.refl)
            refine TE.next ?_
            refine T.region ?_
            refine TL.val (OpV.move rfl) rfl ?_
            refine TL.val (OpV.move rfl) rfl ?_
            refine TL.val (OpV.move rfl) rfl ?_
            refine TL.val (OpV.indexAddr se_28 rfl hA6 rfl (by rfl) (by first | omega | simp)) rfl ?_
            refine TL.val (OpV.fieldAddr rfl fo_34_0) rfl ?_
            refine TL.val (OpV.load pl_22 rfl (by first | exact Cel.blk .here rfl | exact Cel.blk (.there .here) rfl | exact Cel.blk (.there (.there .here)) rfl | exact Cel.blk (.there (.there (.there .here))) rfl | exact Cel.blk (.there (.there (.there (.there .here)))) rfl | exact Cel.fr .here (hatl _ _ rfl) | exact Cel.fr (.there .here) (hatl _ _ rfl) | exact Cel.fr (.there (.there .here)) (hatl _ _ rfl) | exact Cel.fr (.there (.there (.there .here))) (hatl _ _ rfl) | exact Cel.fr (.there (.there (.there (.there .here)))) (hatl _ _ rfl) | exact Cel.fr .here (hatl2 _ _ rfl) | exact Cel.fr (.there .here) (hatl2 _ _ rfl) | exact Cel.fr (.there (.there .here)) (hatl2 _ _ rfl) | exact Cel.fr (.there (.there (.there .here))) (hatl2 _ _ rfl) | exact Cel.fr (.there (.there (.there (.there .here)))) (hatl2 _ _ rfl) | exact Cel.fr .here (hatz0 _ _ rfl) | exact Cel.fr (.there .here) (hatz0 _ _ rfl) | exact Cel.fr (.there (.there .here)) (hatz0 _ _ rfl) | exact Cel.fr (.there (.there (.there .here))) (hatz0 _ _ rfl) | exact Cel.fr (.there (.there (.there (.there .here)))) (hatz0 _ _ rfl) | exact Cel.fr .here (hatq _ _ rfl) | exact Cel.fr (.there .here) (hatq _ _ rfl) | exact Cel.fr (.there (.there .here)) (hatq _ _ rfl) | exact Cel.fr (.there (.there (.there .here))) (hatq _ _ rfl) | exact Cel.fr (.there (.there (.there (.there .here)))) (hatq _ _ rfl) | exact Cel.fr .here (hatx8 _ _ rfl) | exact Cel.fr (.there .here) (hatx8 _ _ rfl) | exact Cel.fr (.there (.there .here)) (hatx8 _ _ rfl) | exact Cel.fr (.there (.there (.there .here))) (hatx8 _ _ rfl) | exact Cel.fr (.there (.there (.there (.there .here)))) (hatx8 _ _ rfl) | exact Cel.fr .here (hatv _ _ rfl) | exact Cel.fr (.there .here) (hatv _ _ rfl) | exact Cel.fr (.there (.there .here)) (hatv _ _ rfl) | exact Cel.fr (.there (.there (.there .here))) (hatv _ _ rfl) | exact Cel.fr (.there (.there (.there (.there .here)))) (hatv _ _ rfl) | exact Cel.fr .here (hatx _ _ rfl) | exact Cel.fr (.there .here) (hatx _ _ rfl) | exact Cel.fr (.there (.there .here)) (hatx _ _ rfl) | exact Cel.fr (.there (.there (.there .here))) (hatx _ _ rfl) | exact Cel.fr (.there (.there (.there (.there .here)))) (hatx _ _ rfl))) rfl ?_
            refine TL.val (OpV.move rfl) rfl ?_
            refine TL.val (OpV.sliceHi (hi := kk) se_22 rfl rfl rfl (by have h9 := hcl.2.1; omega)) rfl ?_
            have hsl : CsR ρ (subA l.A l.c 0 16) kk l.c (l.cells.take kk) := by simpa using hcl.slice (lo := 0) (Nat.zero_le kk) (by omega)
            have hsc := hcl.2.2.1
            obtain ⟨ti152, hi152, hz152, hs152, hb152⟩ := info_parts inf_59
            refine TL.append rfl rfl Tryd.underlying22 hi152 hz152 hs152 hb152 rfl (by omega) (by first | exact .here | exact (.there .here) | exact (.there (.there .here)) | exact (.there (.there (.there .here))) | exact (.there (.there (.there (.there .here))))) (Src.cs (by first | exact .here | exact (.there .here) | exact (.there (.there .here)) | exact (.there (.there (.there .here))) | exact (.there (.there (.there (.there .here)))) | exact (.there (.there (.there (.there (.there .here))))) | exact (.there (.there (.there (.there (.there (.there .here))))))) hsl) (fun h9 => hsl.2.2.2.1 h9) (one_fl _) (by omega) (by omega) rfl ?_
            clear hi152 hz152 hs152 hb152 ti152
            intro A152 c152 hn152
            refine TL.val (OpV.assign rfl) rfl ?_
            refine TL.nil ?_
            refine TE.out ?_
            refine TE.sub (.cons (t := 0) rfl <| .cons (t := 5) rfl <| .cons (t := 6) rfl <| .cons (t := 8) rfl <| .cons (t := 9) rfl <| .nil) ?_
            refine TE.next ?_
            refine T.region ?_
            refine TL.val (OpV.move rfl) rfl ?_
            refine TL.val (OpV.add rfl rfl (by first | exact IntWalk.i64_in _ ⟨by omega, by omega⟩ | rfl)) rfl ?_
            refine TL.val (OpV.assign rfl) rfl ?_
            refine TL.nil ?_
            have hlk : (all ++ l.cells.take kk).length = all.length + kk := by rw [List.length_append, hsl.1]
            exact TE.meet (i + 1, all ++ l.cells.take kk, A152, c152) ⟨⟨by omega, kk2, hn152, by rw [hlk]; omega⟩, by simp only; omega⟩ (.cons (t := 0) (by first | rfl | (simp [lk]; done)) <| .cons (t := 5) (by first | rfl | (simp [lk]; done)) <| .cons (t := 6) (by first | rfl | (simp [lk]; done)) <| .cons (t := 8) (by simp only [hlk]; rfl) <| .cons (t := 9) (by first | rfl | (simp [lk]; done)) <| .nil) ((by simp only [hlk, fl_append]; exact Perm.kle (.cons (by first | exact .here | exact (.there .here) | exact (.there (.there .here)) | exact (.there (.there (.there .here))) | exact (.there (.there (.there (.there .here)))) | exact (.there (.there (.there (.there (.there .here))))) | exact (.there (.there (.there (.there (.there (.there .here))))))) (.cons (by first | exact .here | exact (.there .here) | exact (.there (.there .here)) | exact (.there (.there (.there .here))) | exact (.there (.there (.there (.there .here)))) | exact (.there (.there (.there (.there (.there .here))))) | exact (.there (.there (.there (.there (.there (.there .here))))))) (.cons (by first | exact .here | exact (.there .here) | exact (.there (.there .here)) | exact (.there (.there (.there .here))) | exact (.there (.there (.there (.there .here)))) | exact (.there (.there (.there (.there (.there .here))))) | exact (.there (.there (.there (.there (.there (.there .here))))))) .nil)))))
          · intro ht60
            obtain ⟨q1, q2, q3, q4⟩ := hR
            have hin : i = n6 := by have h9 := of_decide_eq_false ht60; omega
            obtain ⟨kb, hkb⟩ := ch_end q2 (by omega)
            have hle : n ≤ all.length := by rw [hkb, List.length_append]; omega
            refine T.ex (ι := Nat → Option Obj) (R := fun s => RowOk s A8 all.length c8 16 (fl all)) (K2 := fun s => [.fr s, .fr ρ, .fr σ]) (fun wz kz => ?_) ?_
            · skip
              obtain ⟨s8, h8, k2⟩ := KOk.rowOwn (kz.pick (e := .row 59 16 A8 all.length c8 (fl all)) (by first | exact .here | exact (.there .here) | exact (.there (.there .here)) | exact (.there (.there (.there .here))) | exact (.there (.there (.there (.there .here)))) | exact (.there (.there (.there (.there (.there .here))))) | exact (.there (.there (.there (.there (.there (.there .here))))))))
              exact ⟨s8, h8, Perm.kle (.cons (by first | exact .here | exact (.there .here) | exact (.there (.there .here)) | exact (.there (.there (.there .here))) | exact (.there (.there (.there (.there .here)))) | exact (.there (.there (.there (.there (.there .here))))) | exact (.there (.there (.there (.there (.there (.there .here))))))) (.cons (by first | exact .here | exact (.there .here) | exact (.there (.there .here)) | exact (.there (.there (.there .here))) | exact (.there (.there (.there (.there .here)))) | exact (.there (.there (.there (.there (.there .here))))) | exact (.there (.there (.there (.there (.there (.there .here))))))) (.cons (by first | exact .here | exact (.there .here) | exact (.there (.there .here)) | exact (.there (.there (.there .here))) | exact (.there (.there (.there (.there .here)))) | exact (.there (.there (.there (.there (.there .here))))) | exact (.there (.there (.there (.there (.there (.there .here))))))) .nil))) wz (Kle.ownFr wz k2)⟩
            rintro σ8 h8'
            replace h8' : RowOk σ8 A8 all.length c8 16 (fl all) := h8'
            have h8 : CsR σ8 A8 all.length c8 all := CsR.of_row h8' rfl
            have hsl8 : CsR σ8 (subA A8 c8 0 16) n c8 xs := by have h9 := h8.slice (lo := 0) (hi := n) (Nat.zero_le _) hle; rw [hkb, List.take_left' hl1] at h9; simpa using h9
            have hc8 := h8.2.2.1
            refine T.exit ?_
            refine TE.pass_exit ?_
            refine TE.pass_exit ?_
            refine TE.here ?_
            refine TE.next ?_
            refine T.seq ?_
            refine T.seq ?_
            refine T.region ?_
            refine TL.val (OpV.move rfl) rfl ?_
            refine TL.val (OpV.len Tryd.underlying22 rfl) rfl ?_
            refine TL.val (OpV.move rfl) rfl ?_
            refine TL.val (OpV.len Tryd.underlying22 rfl) rfl ?_
            refine TL.val (OpV.lss rfl rfl) rfl ?_
            refine TL.said (t := 157) rfl (show _ = Value.bool false from congrArg Value.bool (decide_eq_false (by omega))) ?_
            refine TL.val (OpV.move rfl) rfl ?_
            refine TL.open rfl rfl ?_
            refine TL.val (OpV.move rfl) rfl ?_
            refine TL.open rfl rfl ?_
            refine TL.val (OpV.move rfl) rfl ?_
            refine TL.open rfl rfl ?_
            refine TL.val (OpV.len Tryd.underlying22 rfl) rfl ?_
            refine TL.open rfl rfl ?_
            refine TL.val (OpV.sliceHi (hi := n) se_22 rfl rfl rfl (by have h9 := h8.2.1; omega)) rfl ?_
            refine TL.open rfl rfl ?_
            refine TL.val (OpV.move rfl) rfl ?_
            refine TL.open rfl rfl ?_
            refine TL.call (g := 19) rfl go_19 rfl (fun w1 k1 => cells_c w1 hsl8 h (k1.get (e := .fr σ8) (by first | exact .here | exact (.there .here) | exact (.there (.there .here)) | exact (.there (.there (.there .here))) | exact (.there (.there (.there (.there .here)))) | exact (.there (.there (.there (.there (.there .here))))))) (k1.get (e := .fr σ) (by first | exact .here | exact (.there .here) | exact (.there (.there .here)) | exact (.there (.there (.there .here))) | exact (.there (.there (.there (.there .here)))) | exact (.there (.there (.there (.there (.there .here)))))))) rfl ?_
            refine TL.said (t := 164) rfl (show _ = Value.bool true by simp) ?_
            refine TL.open rfl rfl ?_
            refine TL.val (OpV.not rfl) rfl ?_
            refine TL.said (t := 165) rfl (show _ = Value.bool false from congrArg Value.bool (rfl)) ?_
            refine TL.val ((by first | exact OpV.pick_t rfl rfl | exact OpV.pick_f rfl rfl)) rfl ?_
            refine TL.nil ?_
            refine TE.sub (.cons (t := 0) rfl <| .cons (t := 5) rfl <| .cons (t := 6) rfl <| .cons (t := 8) rfl <| .cons (t := 166) rfl <| .nil) ?_
            refine TE.next ?_
            refine T.no rfl ?_
            refine T.skip ?_
            refine TE.next ?_
            refine T.seq ?_
            refine T.seq ?_
            refine T.region ?_
            refine TL.val (OpV.move rfl) rfl ?_
            refine TL.val (OpV.len Tryd.underlying22 rfl) rfl ?_
            refine TL.val (OpV.assign rfl) rfl ?_
            refine TL.nil ?_
            refine TE.next ?_
            refine T.block ?_
            refine T.loop (ι := Nat) (fun j => n ≤ j ∧ j ≤ all.length) (fun j => (all.length - j)) (fun j => [(0, .slice A n c), (5, .int .i64 (m : Int)), (6, .slice A6 n6 c6), (8, .slice A8 all.length c8), (11, .int .i64 (j : Int))]) (fun j => [.fr σ8, .fr ρ, .fr σ]) n ⟨Nat.le_refl _, hle⟩ (.cons (t := 0) rfl <| .cons (t := 5) rfl <| .cons (t := 6) rfl <| .cons (t := 8) rfl <| .cons (t := 11) rfl <| .nil) (Kle.refl) ?_
            rintro j hR
            refine T.seq ?_
            refine T.seq ?_
            refine T.region ?_
            refine TL.val (OpV.move rfl) rfl ?_
            refine TL.val (OpV.move rfl) rfl ?_
            refine TL.val (OpV.len Tryd.underlying22 rfl) rfl ?_
            refine TL.val (OpV.lss rfl rfl) rfl ?_
            refine TL.nil ?_
            refine TE.next ?_
            refine T.cond rfl ?_ ?_
            · intro ht172
              have hj : j < all.length := by have h9 := of_decide_eq_true ht172; omega
              obtain ⟨x, hx⟩ := get_of_lt h8.1 hj
              have hxb : x = blank Pen.zero := by rw [hkb, List.getElem?_append_right (by omega)] at hx; exact List.eq_of_mem_replicate (List.mem_of_getElem? hx)
              obtain ⟨b8, o8, hA8, hat8⟩ := h8.pos (by omega)
              have hatx8 := hat8 j x hx
              refine T.skip ?_
              refine TE.next ?_
              refine T.seq ?_
              refine T.block ?_
              refine T.seq ?_
              refine T.region ?_
              refine TL.val (OpV.move rfl) rfl ?_
              refine TL.val (OpV.move rfl) rfl ?_
              refine TL.val (OpV.indexAddr se_22 rfl hA8 rfl (by rfl) (by first | omega | simp)) rfl ?_
              refine TL.val (OpV.loadA ag_59 rfl (by first | exact Cels.blk .here rfl | exact Cels.blk (.there .here) rfl | exact Cels.blk (.there (.there .here)) rfl | exact Cels.blk (.there (.there (.there .here))) rfl | exact Cels.blk (.there (.there (.there (.there .here)))) rfl | exact Cels.fr .here (hatl) rfl | exact Cels.fr (.there .here) (hatl) rfl | exact Cels.fr (.there (.there .here)) (hatl) rfl | exact Cels.fr (.there (.there (.there .here))) (hatl) rfl | exact Cels.fr (.there (.there (.there (.there .here)))) (hatl) rfl | exact Cels.fr .here (hatl2) rfl | exact Cels.fr (.there .here) (hatl2) rfl | exact Cels.fr (.there (.there .here)) (hatl2) rfl | exact Cels.fr (.there (.there (.there .here))) (hatl2) rfl | exact Cels.fr (.there (.there (.there (.there .here)))) (hatl2) rfl | exact Cels.fr .here (hatz0) rfl | exact Cels.fr (.there .here) (hatz0) rfl | exact Cels.fr (.there (.there .here)) (hatz0) rfl | exact Cels.fr (.there (.there (.there .here))) (hatz0) rfl | exact Cels.fr (.there (.there (.there (.there .here)))) (hatz0) rfl | exact Cels.fr .here (hatq) rfl | exact Cels.fr (.there .here) (hatq) rfl | exact Cels.fr (.there (.there .here)) (hatq) rfl | exact Cels.fr (.there (.there (.there .here))) (hatq) rfl | exact Cels.fr (.there (.there (.there (.there .here)))) (hatq) rfl | exact Cels.fr .here (hatx8) rfl | exact Cels.fr (.there .here) (hatx8) rfl | exact Cels.fr (.there (.there .here)) (hatx8) rfl | exact Cels.fr (.there (.there (.there .here))) (hatx8) rfl | exact Cels.fr (.there (.there (.there (.there .here)))) (hatx8) rfl | exact Cels.fr .here (hatv) rfl | exact Cels.fr (.there .here) (hatv) rfl | exact Cels.fr (.there (.there .here)) (hatv) rfl | exact Cels.fr (.there (.there (.there .here))) (hatv) rfl | exact Cels.fr (.there (.there (.there (.there .here)))) (hatv) rfl | exact Cels.fr .here (hatx) rfl | exact Cels.fr (.there .here) (hatx) rfl | exact Cels.fr (.there (.there .here)) (hatx) rfl | exact Cels.fr (.there (.there (.there .here))) (hatx) rfl | exact Cels.fr (.there (.there (.there (.there .here)))) (hatx) rfl)) rfl ?_
              refine TL.val (OpV.build (qs := #[(2, _)]) (fun _ f => by simp only [List.map_toArray, List.map_cons, List.map_nil]; rw [f.ev (x := .const (.int .i64 1)) rfl]) (bld_59_2 1 )) rfl ?_
              refine TL.val (OpV.aneq rfl rfl eg_59 (eq_59 x (blank Pen.zero))) rfl ?_
              refine TL.said (t := 180) rfl (show _ = Value.bool false from congrArg Value.bool (by rw [hxb]; simp)) ?_
              refine TL.nil ?_
              refine TE.sub (.cons (t := 0) rfl <| .cons (t := 5) rfl <| .cons (t := 6) rfl <| .cons (t := 8) rfl <| .cons (t := 11) rfl <| .cons (t := 180) rfl <| .nil) ?_
              refine TE.next ?_
              refine T.no rfl ?_
              refine T.skip ?_
              refine TE.out ?_
              refine TE.next ?_
              refine T.region ?_
              refine TL.val (OpV.move rfl) rfl ?_
              refine TL.val (OpV.add rfl rfl (by first | exact IntWalk.i64_in _ ⟨by omega, by omega⟩ | rfl)) rfl ?_
              refine TL.val (OpV.assign rfl) rfl ?_
              refine TL.nil ?_
              exact TE.meet (j + 1) ⟨⟨by omega, by omega⟩, by omega⟩ (.cons (t := 0) (by first | rfl | (simp [lk]; done)) <| .cons (t := 5) (by first | rfl | (simp [lk]; done)) <| .cons (t := 6) (by first | rfl | (simp [lk]; done)) <| .cons (t := 8) (by first | rfl | (simp [lk]; done)) <| .cons (t := 11) (by first | rfl | (simp [lk]; done)) <| .nil) (Kle.refl)
            · intro ht172
              refine T.exit ?_
              refine TE.pass_exit ?_
              refine TE.pass_exit ?_
              refine TE.here ?_
              refine TE.next ?_
              refine T.seq ?_
              refine T.seq ?_
              refine T.region ?_
              refine TL.val (OpV.assign rfl) rfl ?_
              refine TL.nil ?_
              refine TE.next ?_
              refine T.block ?_
              refine T.loop (ι := Nat) (fun q => q ≤ n + 1) (fun q => (n + 1 - q)) (fun q => [(0, .slice A n c), (5, .int .i64 (m : Int)), (6, .slice A6 n6 c6), (12, .int .i64 (q : Int))]) (fun q => [.fr ρ, .fr σ]) 0 (Nat.zero_le _) (.cons (t := 0) rfl <| .cons (t := 5) rfl <| .cons (t := 6) rfl <| .cons (t := 12) rfl <| .nil) (Perm.kle (.cons (by first | exact .here | exact (.there .here) | exact (.there (.there .here)) | exact (.there (.there (.there .here))) | exact (.there (.there (.there (.there .here)))) | exact (.there (.there (.there (.there (.there .here))))) | exact (.there (.there (.there (.there (.there (.there .here))))))) (.cons (by first | exact .here | exact (.there .here) | exact (.there (.there .here)) | exact (.there (.there (.there .here))) | exact (.there (.there (.there (.there .here)))) | exact (.there (.there (.there (.there (.there .here))))) | exact (.there (.there (.there (.there (.there (.there .here))))))) .nil))) ?_
              rintro q hR
              refine T.seq ?_
              refine T.seq ?_
              refine T.region ?_
              refine TL.val (OpV.move rfl) rfl ?_
              refine TL.val (OpV.move rfl) rfl ?_
              refine TL.val (OpV.len Tryd.underlying22 rfl) rfl ?_
              refine TL.val (OpV.leq rfl rfl) rfl ?_
              refine TL.nil ?_
              refine TE.next ?_
              refine T.cond rfl ?_ ?_
              · intro ht184
                have hq : q ≤ n := by have h9 := of_decide_eq_true ht184; omega
                have hh := hold_place hv (by omega) (show q ≤ xs.length by omega)
                have hpv : placeV xs (m : Int) (q : Int) = rplV (m : Int) xs q := by have h9 : inI xs (q : Int) = true := (by simp [inI]; omega); rw [placeV, hv, h9, Bool.and_self, if_pos rfl, Int.toNat_natCast, plV_eq hv (by omega)]
                have hpe : placeE xs (m : Int) (q : Int) = 0 := by have h9 : inI xs (q : Int) = true := (by simp [inI]; omega); rw [placeE, hv, if_pos rfl, h9, if_pos rfl]
                obtain ⟨a1, a2, ha⟩ : ∃ a1 a2, rplV (m : Int) xs q = (a1, a2) := ⟨_, _, rfl⟩
                rw [ha] at hh hpv
                obtain ⟨hh1, hh2, hh3, hh4, hh5⟩ := hh
                simp only at hh1 hh2
                rw [hnX] at hh1
                have hie : indexE xs (m : Int) (a1, a2) = 0 := by rw [indexE, hv, if_pos rfl, hh3, if_pos rfl]
                obtain ⟨iv, hiv⟩ : ∃ z, z = indexV xs (m : Int) (a1, a2) := ⟨_, rfl⟩
                rw [← hiv] at hh4 hh5
                refine T.skip ?_
                refine TE.next ?_
                refine T.seq ?_
                refine T.block ?_
                refine T.seq ?_
                refine T.region ?_
                refine TL.val (OpV.move rfl) rfl ?_
                refine TL.val (OpV.move rfl) rfl ?_
                refine TL.val (OpV.move rfl) rfl ?_
                refine TL.call (g := 27) rfl go_27 rfl (fun w1 k1 => place_c w1 (m : Int) (q : Int) (L.below k1.bel) h (k1.get (e := .fr σ) (by first | exact .here | exact (.there .here) | exact (.there (.there .here)) | exact (.there (.there (.there .here))) | exact (.there (.there (.there (.there .here)))) | exact (.there (.there (.there (.there (.there .here)))))))) rfl ?_
                refine TL.said (t := 191) rfl (show _ = Value.tuple #[.agg (anL a1 a2).toArray, .int .i64 0] by rw [hpv, hpe]) ?_
                refine TL.val (OpV.move rfl) rfl ?_
                refine TL.val (OpV.extract rfl rfl) rfl ?_
                refine TL.val (OpV.extract rfl rfl) rfl ?_
                refine TL.alloc zo_37 rfl ?_
                intro b13
                first
                  | refine TL.storeAll rfl rfl szz_37 rfl rfl rfl (by first | exact .here | exact (.there .here) | exact (.there (.there .here)) | exact (.there (.there (.there .here))) | exact (.there (.there (.there (.there .here))))) (by rfl) ?_
                  | refine TL.store rfl rfl szz_37 rfl rfl rfl (by first | exact .here | exact (.there .here) | exact (.there (.there .here)) | exact (.there (.there (.there .here))) | exact (.there (.there (.there (.there .here))))) (by first | exact Nat.le_of_ble_eq_true rfl | (simp; done) | (simp; omega)) (by simp only [anL, putL, List.take_succ_cons, List.take_zero, List.drop_succ_cons, List.drop_zero, List.cons_append, List.nil_append, List.length_cons, List.length_nil, Nat.reduceAdd]; rfl) ?_
                refine TL.val (OpV.assign rfl) rfl ?_
                refine TL.nil ?_
                refine TE.sub (.cons (t := 0) rfl <| .cons (t := 5) rfl <| .cons (t := 6) rfl <| .cons (t := 12) rfl <| .cons (t := 13) rfl <| .cons (t := 14) rfl <| .nil) ?_
                refine TE.next ?_
                refine T.seq ?_
                refine T.seq ?_
                refine T.quiet mix (by kernel_rfl) ?_
                refine TQ.val (OpV.move rfl) rfl ?_
                refine TQ.val (OpV.neq rfl rfl) rfl ?_
                refine TQ.said (t := 195) rfl (show _ = Value.bool false from congrArg Value.bool (rfl)) ?_
                refine TQ.val (OpV.move rfl) rfl ?_
                refine TQ.open rfl rfl ?_
                refine TQ.val (OpV.fieldAddr rfl fo_37_0) rfl ?_
                refine TQ.open rfl rfl ?_
                refine TQ.val (OpV.load pl_3 rfl (by first | exact Cel.blk .here rfl | exact Cel.blk (.there .here) rfl | exact Cel.blk (.there (.there .here)) rfl | exact Cel.blk (.there (.there (.there .here))) rfl | exact Cel.blk (.there (.there (.there (.there .here)))) rfl | exact Cel.fr .here (hatl _ _ rfl) | exact Cel.fr (.there .here) (hatl _ _ rfl) | exact Cel.fr (.there (.there .here)) (hatl _ _ rfl) | exact Cel.fr (.there (.there (.there .here))) (hatl _ _ rfl) | exact Cel.fr (.there (.there (.there (.there .here)))) (hatl _ _ rfl) | exact Cel.fr .here (hatl2 _ _ rfl) | exact Cel.fr (.there .here) (hatl2 _ _ rfl) | exact Cel.fr (.there (.there .here)) (hatl2 _ _ rfl) | exact Cel.fr (.there (.there (.there .here))) (hatl2 _ _ rfl) | exact Cel.fr (.there (.there (.there (.there .here)))) (hatl2 _ _ rfl) | exact Cel.fr .here (hatz0 _ _ rfl) | exact Cel.fr (.there .here) (hatz0 _ _ rfl) | exact Cel.fr (.there (.there .here)) (hatz0 _ _ rfl) | exact Cel.fr (.there (.there (.there .here))) (hatz0 _ _ rfl) | exact Cel.fr (.there (.there (.there (.there .here)))) (hatz0 _ _ rfl) | exact Cel.fr .here (hatq _ _ rfl) | exact Cel.fr (.there .here) (hatq _ _ rfl) | exact Cel.fr (.there (.there .here)) (hatq _ _ rfl) | exact Cel.fr (.there (.there (.there .here))) (hatq _ _ rfl) | exact Cel.fr (.there (.there (.there (.there .here)))) (hatq _ _ rfl) | exact Cel.fr .here (hatx8 _ _ rfl) | exact Cel.fr (.there .here) (hatx8 _ _ rfl) | exact Cel.fr (.there (.there .here)) (hatx8 _ _ rfl) | exact Cel.fr (.there (.there (.there .here))) (hatx8 _ _ rfl) | exact Cel.fr (.there (.there (.there (.there .here)))) (hatx8 _ _ rfl) | exact Cel.fr .here (hatv _ _ rfl) | exact Cel.fr (.there .here) (hatv _ _ rfl) | exact Cel.fr (.there (.there .here)) (hatv _ _ rfl) | exact Cel.fr (.there (.there (.there .here))) (hatv _ _ rfl) | exact Cel.fr (.there (.there (.there (.there .here)))) (hatv _ _ rfl) | exact Cel.fr .here (hatx _ _ rfl) | exact Cel.fr (.there .here) (hatx _ _ rfl) | exact Cel.fr (.there (.there .here)) (hatx _ _ rfl) | exact Cel.fr (.there (.there (.there .here))) (hatx _ _ rfl) | exact Cel.fr (.there (.there (.there (.there .here)))) (hatx _ _ rfl))) rfl ?_
                refine TQ.open rfl rfl ?_
                refine TQ.val (OpV.lss rfl rfl) rfl ?_
                refine TQ.said (t := 199) rfl (show _ = Value.bool false from congrArg Value.bool (decide_eq_false (by omega))) ?_
                refine TQ.val ((by first | exact OpV.pick_t rfl rfl | exact OpV.pick_f rfl rfl)) rfl ?_
                refine TQ.val (OpV.move rfl) rfl ?_
                refine TQ.open rfl rfl ?_
                refine TQ.val (OpV.fieldAddr rfl fo_37_0) rfl ?_
                refine TQ.open rfl rfl ?_
                refine TQ.val (OpV.load pl_3 rfl (by first | exact Cel.blk .here rfl | exact Cel.blk (.there .here) rfl | exact Cel.blk (.there (.there .here)) rfl | exact Cel.blk (.there (.there (.there .here))) rfl | exact Cel.blk (.there (.there (.there (.there .here)))) rfl | exact Cel.fr .here (hatl _ _ rfl) | exact Cel.fr (.there .here) (hatl _ _ rfl) | exact Cel.fr (.there (.there .here)) (hatl _ _ rfl) | exact Cel.fr (.there (.there (.there .here))) (hatl _ _ rfl) | exact Cel.fr (.there (.there (.there (.there .here)))) (hatl _ _ rfl) | exact Cel.fr .here (hatl2 _ _ rfl) | exact Cel.fr (.there .here) (hatl2 _ _ rfl) | exact Cel.fr (.there (.there .here)) (hatl2 _ _ rfl) | exact Cel.fr (.there (.there (.there .here))) (hatl2 _ _ rfl) | exact Cel.fr (.there (.there (.there (.there .here)))) (hatl2 _ _ rfl) | exact Cel.fr .here (hatz0 _ _ rfl) | exact Cel.fr (.there .here) (hatz0 _ _ rfl) | exact Cel.fr (.there (.there .here)) (hatz0 _ _ rfl) | exact Cel.fr (.there (.there (.there .here))) (hatz0 _ _ rfl) | exact Cel.fr (.there (.there (.there (.there .here)))) (hatz0 _ _ rfl) | exact Cel.fr .here (hatq _ _ rfl) | exact Cel.fr (.there .here) (hatq _ _ rfl) | exact Cel.fr (.there (.there .here)) (hatq _ _ rfl) | exact Cel.fr (.there (.there (.there .here))) (hatq _ _ rfl) | exact Cel.fr (.there (.there (.there (.there .here)))) (hatq _ _ rfl) | exact Cel.fr .here (hatx8 _ _ rfl) | exact Cel.fr (.there .here) (hatx8 _ _ rfl) | exact Cel.fr (.there (.there .here)) (hatx8 _ _ rfl) | exact Cel.fr (.there (.there (.there .here))) (hatx8 _ _ rfl) | exact Cel.fr (.there (.there (.there (.there .here)))) (hatx8 _ _ rfl) | exact Cel.fr .here (hatv _ _ rfl) | exact Cel.fr (.there .here) (hatv _ _ rfl) | exact Cel.fr (.there (.there .here)) (hatv _ _ rfl) | exact Cel.fr (.there (.there (.there .here))) (hatv _ _ rfl) | exact Cel.fr (.there (.there (.there (.there .here)))) (hatv _ _ rfl) | exact Cel.fr .here (hatx _ _ rfl) | exact Cel.fr (.there .here) (hatx _ _ rfl) | exact Cel.fr (.there (.there .here)) (hatx _ _ rfl) | exact Cel.fr (.there (.there (.there .here))) (hatx _ _ rfl) | exact Cel.fr (.there (.there (.there (.there .here)))) (hatx _ _ rfl))) rfl ?_
                refine TQ.open rfl rfl ?_
                refine TQ.val (OpV.move rfl) rfl ?_
                refine TQ.open rfl rfl ?_
                refine TQ.val (OpV.len Tryd.underlying28 rfl) rfl ?_
                refine TQ.open rfl rfl ?_
                refine TQ.val (OpV.geq rfl rfl) rfl ?_
                refine TQ.said (t := 206) rfl (show _ = Value.bool false from congrArg Value.bool (decide_eq_false (by omega))) ?_
                refine TQ.val ((by first | exact OpV.pick_t rfl rfl | exact OpV.pick_f rfl rfl)) rfl ?_
                refine TQ.val (OpV.move rfl) rfl ?_
                refine TQ.open rfl rfl ?_
                refine TQ.val (OpV.fieldAddr rfl fo_37_1) rfl ?_
                refine TQ.open rfl rfl ?_
                refine TQ.val (OpV.load pl_3 rfl (by first | exact Cel.blk .here rfl | exact Cel.blk (.there .here) rfl | exact Cel.blk (.there (.there .here)) rfl | exact Cel.blk (.there (.there (.there .here))) rfl | exact Cel.blk (.there (.there (.there (.there .here)))) rfl | exact Cel.fr .here (hatl _ _ rfl) | exact Cel.fr (.there .here) (hatl _ _ rfl) | exact Cel.fr (.there (.there .here)) (hatl _ _ rfl) | exact Cel.fr (.there (.there (.there .here))) (hatl _ _ rfl) | exact Cel.fr (.there (.there (.there (.there .here)))) (hatl _ _ rfl) | exact Cel.fr .here (hatl2 _ _ rfl) | exact Cel.fr (.there .here) (hatl2 _ _ rfl) | exact Cel.fr (.there (.there .here)) (hatl2 _ _ rfl) | exact Cel.fr (.there (.there (.there .here))) (hatl2 _ _ rfl) | exact Cel.fr (.there (.there (.there (.there .here)))) (hatl2 _ _ rfl) | exact Cel.fr .here (hatz0 _ _ rfl) | exact Cel.fr (.there .here) (hatz0 _ _ rfl) | exact Cel.fr (.there (.there .here)) (hatz0 _ _ rfl) | exact Cel.fr (.there (.there (.there .here))) (hatz0 _ _ rfl) | exact Cel.fr (.there (.there (.there (.there .here)))) (hatz0 _ _ rfl) | exact Cel.fr .here (hatq _ _ rfl) | exact Cel.fr (.there .here) (hatq _ _ rfl) | exact Cel.fr (.there (.there .here)) (hatq _ _ rfl) | exact Cel.fr (.there (.there (.there .here))) (hatq _ _ rfl) | exact Cel.fr (.there (.there (.there (.there .here)))) (hatq _ _ rfl) | exact Cel.fr .here (hatx8 _ _ rfl) | exact Cel.fr (.there .here) (hatx8 _ _ rfl) | exact Cel.fr (.there (.there .here)) (hatx8 _ _ rfl) | exact Cel.fr (.there (.there (.there .here))) (hatx8 _ _ rfl) | exact Cel.fr (.there (.there (.there (.there .here)))) (hatx8 _ _ rfl) | exact Cel.fr .here (hatv _ _ rfl) | exact Cel.fr (.there .here) (hatv _ _ rfl) | exact Cel.fr (.there (.there .here)) (hatv _ _ rfl) | exact Cel.fr (.there (.there (.there .here))) (hatv _ _ rfl) | exact Cel.fr (.there (.there (.there (.there .here)))) (hatv _ _ rfl) | exact Cel.fr .here (hatx _ _ rfl) | exact Cel.fr (.there .here) (hatx _ _ rfl) | exact Cel.fr (.there (.there .here)) (hatx _ _ rfl) | exact Cel.fr (.there (.there (.there .here))) (hatx _ _ rfl) | exact Cel.fr (.there (.there (.there (.there .here)))) (hatx _ _ rfl))) rfl ?_
                refine TQ.open rfl rfl ?_
                refine TQ.val (OpV.lss rfl rfl) rfl ?_
                refine TQ.said (t := 211) rfl (show _ = Value.bool false from congrArg Value.bool (decide_eq_false (by omega))) ?_
                refine TQ.val ((by first | exact OpV.pick_t rfl rfl | exact OpV.pick_f rfl rfl)) rfl ?_
                refine TQ.val (OpV.move rfl) rfl ?_
                refine TQ.open rfl rfl ?_
                refine TQ.val (OpV.fieldAddr rfl fo_37_1) rfl ?_
                refine TQ.open rfl rfl ?_
                refine TQ.val (OpV.load pl_3 rfl (by first | exact Cel.blk .here rfl | exact Cel.blk (.there .here) rfl | exact Cel.blk (.there (.there .here)) rfl | exact Cel.blk (.there (.there (.there .here))) rfl | exact Cel.blk (.there (.there (.there (.there .here)))) rfl | exact Cel.fr .here (hatl _ _ rfl) | exact Cel.fr (.there .here) (hatl _ _ rfl) | exact Cel.fr (.there (.there .here)) (hatl _ _ rfl) | exact Cel.fr (.there (.there (.there .here))) (hatl _ _ rfl) | exact Cel.fr (.there (.there (.there (.there .here)))) (hatl _ _ rfl) | exact Cel.fr .here (hatl2 _ _ rfl) | exact Cel.fr (.there .here) (hatl2 _ _ rfl) | exact Cel.fr (.there (.there .here)) (hatl2 _ _ rfl) | exact Cel.fr (.there (.there (.there .here))) (hatl2 _ _ rfl) | exact Cel.fr (.there (.there (.there (.there .here)))) (hatl2 _ _ rfl) | exact Cel.fr .here (hatz0 _ _ rfl) | exact Cel.fr (.there .here) (hatz0 _ _ rfl) | exact Cel.fr (.there (.there .here)) (hatz0 _ _ rfl) | exact Cel.fr (.there (.there (.there .here))) (hatz0 _ _ rfl) | exact Cel.fr (.there (.there (.there (.there .here)))) (hatz0 _ _ rfl) | exact Cel.fr .here (hatq _ _ rfl) | exact Cel.fr (.there .here) (hatq _ _ rfl) | exact Cel.fr (.there (.there .here)) (hatq _ _ rfl) | exact Cel.fr (.there (.there (.there .here))) (hatq _ _ rfl) | exact Cel.fr (.there (.there (.there (.there .here)))) (hatq _ _ rfl) | exact Cel.fr .here (hatx8 _ _ rfl) | exact Cel.fr (.there .here) (hatx8 _ _ rfl) | exact Cel.fr (.there (.there .here)) (hatx8 _ _ rfl) | exact Cel.fr (.there (.there (.there .here))) (hatx8 _ _ rfl) | exact Cel.fr (.there (.there (.there (.there .here)))) (hatx8 _ _ rfl) | exact Cel.fr .here (hatv _ _ rfl) | exact Cel.fr (.there .here) (hatv _ _ rfl) | exact Cel.fr (.there (.there .here)) (hatv _ _ rfl) | exact Cel.fr (.there (.there (.there .here))) (hatv _ _ rfl) | exact Cel.fr (.there (.there (.there (.there .here)))) (hatv _ _ rfl) | exact Cel.fr .here (hatx _ _ rfl) | exact Cel.fr (.there .here) (hatx _ _ rfl) | exact Cel.fr (.there (.there .here)) (hatx _ _ rfl) | exact Cel.fr (.there (.there (.there .here))) (hatx _ _ rfl) | exact Cel.fr (.there (.there (.there (.there .here)))) (hatx _ _ rfl))) rfl ?_
                refine TQ.open rfl rfl ?_
                refine TQ.val (OpV.move rfl) rfl ?_
                refine TQ.open rfl rfl ?_
                refine TQ.val (OpV.geq rfl rfl) rfl ?_
                refine TQ.said (t := 217) rfl (show _ = Value.bool false from congrArg Value.bool (decide_eq_false (by omega))) ?_
                refine TQ.val ((by first | exact OpV.pick_t rfl rfl | exact OpV.pick_f rfl rfl)) rfl ?_
                refine TQ.val (OpV.move rfl) rfl ?_
                refine TQ.open rfl rfl ?_
                refine TQ.val (OpV.move rfl) rfl ?_
                refine TQ.open rfl rfl ?_
                refine TQ.val (OpV.move rfl) rfl ?_
                refine TQ.open rfl rfl ?_
                refine TQ.val (OpV.len Tryd.underlying22 rfl) rfl ?_
                refine TQ.open rfl rfl ?_
                refine TQ.val (OpV.lss rfl rfl) rfl ?_
                refine TQ.open rfl rfl ?_
                refine TQ.val (OpV.move rfl) rfl ?_
                refine TQ.part (t := 224) rfl ?_ ?_
                · intro hg224
                  have hq2 : q < n := by have h9 := of_decide_eq_true hg224; omega
                  obtain ⟨x, hx⟩ := get_of_lt h.1 hq2
                  obtain ⟨b, o, hA, hat⟩ := h.pos (by omega)
                  have hatx := hat q x hx
                  obtain ⟨l, hl⟩ := get_of_lt hls.1.1 (show a1.toNat < n6 by omega)
                  obtain ⟨b6, o6, hA6, hat6⟩ := hls.1.2.2.2.2 (by omega)
                  obtain ⟨_, rfl, _, hatl⟩ := hat6 _ l hl
                  have hcl := hls.2 l (List.mem_of_getElem? hl)
                  have hX : (wrapV xs (m : Int))[a1.toNat]? = some l.ln := by rw [← hme, List.getElem?_map, hl]; rfl
                  have hrw := hch.rows _ _ hX
                  have hln : l.n = m := by rw [← hcl.1]; exact hrw.1
                  obtain ⟨r, hr1, hr2⟩ := hh2 x hx
                  rw [hX] at hr1
                  cases hr1
                  obtain ⟨bc, oc, hAc, hatc⟩ := hcl.pos (by omega)
                  have hatv := hatc a2.toNat x hr2
                  refine TQ.open rfl rfl ?_
                  refine TQ.val (OpV.move rfl) rfl ?_
                  refine TQ.open rfl rfl ?_
                  refine TQ.val (OpV.fieldAddr rfl fo_37_0) rfl ?_
                  refine TQ.open rfl rfl ?_
                  refine TQ.val (OpV.load pl_3 rfl (by first | exact Cel.blk .here rfl | exact Cel.blk (.there .here) rfl | exact Cel.blk (.there (.there .here)) rfl | exact Cel.blk (.there (.there (.there .here))) rfl | exact Cel.blk (.there (.there (.there (.there .here)))) rfl | exact Cel.fr .here (hatl _ _ rfl) | exact Cel.fr (.there .here) (hatl _ _ rfl) | exact Cel.fr (.there (.there .here)) (hatl _ _ rfl) | exact Cel.fr (.there (.there (.there .here))) (hatl _ _ rfl) | exact Cel.fr (.there (.there (.there (.there .here)))) (hatl _ _ rfl) | exact Cel.fr .here (hatl2 _ _ rfl) | exact Cel.fr (.there .here) (hatl2 _ _ rfl) | exact Cel.fr (.there (.there .here)) (hatl2 _ _ rfl) | exact Cel.fr (.there (.there (.there .here))) (hatl2 _ _ rfl) | exact Cel.fr (.there (.there (.there (.there .here)))) (hatl2 _ _ rfl) | exact Cel.fr .here (hatz0 _ _ rfl) | exact Cel.fr (.there .here) (hatz0 _ _ rfl) | exact Cel.fr (.there (.there .here)) (hatz0 _ _ rfl) | exact Cel.fr (.there (.there (.there .here))) (hatz0 _ _ rfl) | exact Cel.fr (.there (.there (.there (.there .here)))) (hatz0 _ _ rfl) | exact Cel.fr .here (hatq _ _ rfl) | exact Cel.fr (.there .here) (hatq _ _ rfl) | exact Cel.fr (.there (.there .here)) (hatq _ _ rfl) | exact Cel.fr (.there (.there (.there .here))) (hatq _ _ rfl) | exact Cel.fr (.there (.there (.there (.there .here)))) (hatq _ _ rfl) | exact Cel.fr .here (hatx8 _ _ rfl) | exact Cel.fr (.there .here) (hatx8 _ _ rfl) | exact Cel.fr (.there (.there .here)) (hatx8 _ _ rfl) | exact Cel.fr (.there (.there (.there .here))) (hatx8 _ _ rfl) | exact Cel.fr (.there (.there (.there (.there .here)))) (hatx8 _ _ rfl) | exact Cel.fr .here (hatv _ _ rfl) | exact Cel.fr (.there .here) (hatv _ _ rfl) | exact Cel.fr (.there (.there .here)) (hatv _ _ rfl) | exact Cel.fr (.there (.there (.there .here))) (hatv _ _ rfl) | exact Cel.fr (.there (.there (.there (.there .here)))) (hatv _ _ rfl) | exact Cel.fr .here (hatx _ _ rfl) | exact Cel.fr (.there .here) (hatx _ _ rfl) | exact Cel.fr (.there (.there .here)) (hatx _ _ rfl) | exact Cel.fr (.there (.there (.there .here))) (hatx _ _ rfl) | exact Cel.fr (.there (.there (.there (.there .here)))) (hatx _ _ rfl))) rfl ?_
                  refine TQ.open rfl rfl ?_
                  refine TQ.val (OpV.indexAddr (j := a1.toNat) se_28 rfl hA6 rfl (by omega) (by omega)) rfl ?_
                  refine TQ.open rfl rfl ?_
                  refine TQ.val (OpV.fieldAddr rfl fo_34_0) rfl ?_
                  refine TQ.open rfl rfl ?_
                  refine TQ.val (OpV.load pl_22 rfl (by first | exact Cel.blk .here rfl | exact Cel.blk (.there .here) rfl | exact Cel.blk (.there (.there .here)) rfl | exact Cel.blk (.there (.there (.there .here))) rfl | exact Cel.blk (.there (.there (.there (.there .here)))) rfl | exact Cel.fr .here (hatl _ _ rfl) | exact Cel.fr (.there .here) (hatl _ _ rfl) | exact Cel.fr (.there (.there .here)) (hatl _ _ rfl) | exact Cel.fr (.there (.there (.there .here))) (hatl _ _ rfl) | exact Cel.fr (.there (.there (.there (.there .here)))) (hatl _ _ rfl) | exact Cel.fr .here (hatl2 _ _ rfl) | exact Cel.fr (.there .here) (hatl2 _ _ rfl) | exact Cel.fr (.there (.there .here)) (hatl2 _ _ rfl) | exact Cel.fr (.there (.there (.there .here))) (hatl2 _ _ rfl) | exact Cel.fr (.there (.there (.there (.there .here)))) (hatl2 _ _ rfl) | exact Cel.fr .here (hatz0 _ _ rfl) | exact Cel.fr (.there .here) (hatz0 _ _ rfl) | exact Cel.fr (.there (.there .here)) (hatz0 _ _ rfl) | exact Cel.fr (.there (.there (.there .here))) (hatz0 _ _ rfl) | exact Cel.fr (.there (.there (.there (.there .here)))) (hatz0 _ _ rfl) | exact Cel.fr .here (hatq _ _ rfl) | exact Cel.fr (.there .here) (hatq _ _ rfl) | exact Cel.fr (.there (.there .here)) (hatq _ _ rfl) | exact Cel.fr (.there (.there (.there .here))) (hatq _ _ rfl) | exact Cel.fr (.there (.there (.there (.there .here)))) (hatq _ _ rfl) | exact Cel.fr .here (hatx8 _ _ rfl) | exact Cel.fr (.there .here) (hatx8 _ _ rfl) | exact Cel.fr (.there (.there .here)) (hatx8 _ _ rfl) | exact Cel.fr (.there (.there (.there .here))) (hatx8 _ _ rfl) | exact Cel.fr (.there (.there (.there (.there .here)))) (hatx8 _ _ rfl) | exact Cel.fr .here (hatv _ _ rfl) | exact Cel.fr (.there .here) (hatv _ _ rfl) | exact Cel.fr (.there (.there .here)) (hatv _ _ rfl) | exact Cel.fr (.there (.there (.there .here))) (hatv _ _ rfl) | exact Cel.fr (.there (.there (.there (.there .here)))) (hatv _ _ rfl) | exact Cel.fr .here (hatx _ _ rfl) | exact Cel.fr (.there .here) (hatx _ _ rfl) | exact Cel.fr (.there (.there .here)) (hatx _ _ rfl) | exact Cel.fr (.there (.there (.there .here))) (hatx _ _ rfl) | exact Cel.fr (.there (.there (.there (.there .here)))) (hatx _ _ rfl))) rfl ?_
                  refine TQ.open rfl rfl ?_
                  refine TQ.val (OpV.fieldAddr rfl fo_37_1) rfl ?_
                  refine TQ.open rfl rfl ?_
                  refine TQ.val (OpV.load pl_3 rfl (by first | exact Cel.blk .here rfl | exact Cel.blk (.there .here) rfl | exact Cel.blk (.there (.there .here)) rfl | exact Cel.blk (.there (.there (.there .here))) rfl | exact Cel.blk (.there (.there (.there (.there .here)))) rfl | exact Cel.fr .here (hatl _ _ rfl) | exact Cel.fr (.there .here) (hatl _ _ rfl) | exact Cel.fr (.there (.there .here)) (hatl _ _ rfl) | exact Cel.fr (.there (.there (.there .here))) (hatl _ _ rfl) | exact Cel.fr (.there (.there (.there (.there .here)))) (hatl _ _ rfl) | exact Cel.fr .here (hatl2 _ _ rfl) | exact Cel.fr (.there .here) (hatl2 _ _ rfl) | exact Cel.fr (.there (.there .here)) (hatl2 _ _ rfl) | exact Cel.fr (.there (.there (.there .here))) (hatl2 _ _ rfl) | exact Cel.fr (.there (.there (.there (.there .here)))) (hatl2 _ _ rfl) | exact Cel.fr .here (hatz0 _ _ rfl) | exact Cel.fr (.there .here) (hatz0 _ _ rfl) | exact Cel.fr (.there (.there .here)) (hatz0 _ _ rfl) | exact Cel.fr (.there (.there (.there .here))) (hatz0 _ _ rfl) | exact Cel.fr (.there (.there (.there (.there .here)))) (hatz0 _ _ rfl) | exact Cel.fr .here (hatq _ _ rfl) | exact Cel.fr (.there .here) (hatq _ _ rfl) | exact Cel.fr (.there (.there .here)) (hatq _ _ rfl) | exact Cel.fr (.there (.there (.there .here))) (hatq _ _ rfl) | exact Cel.fr (.there (.there (.there (.there .here)))) (hatq _ _ rfl) | exact Cel.fr .here (hatx8 _ _ rfl) | exact Cel.fr (.there .here) (hatx8 _ _ rfl) | exact Cel.fr (.there (.there .here)) (hatx8 _ _ rfl) | exact Cel.fr (.there (.there (.there .here))) (hatx8 _ _ rfl) | exact Cel.fr (.there (.there (.there (.there .here)))) (hatx8 _ _ rfl) | exact Cel.fr .here (hatv _ _ rfl) | exact Cel.fr (.there .here) (hatv _ _ rfl) | exact Cel.fr (.there (.there .here)) (hatv _ _ rfl) | exact Cel.fr (.there (.there (.there .here))) (hatv _ _ rfl) | exact Cel.fr (.there (.there (.there (.there .here)))) (hatv _ _ rfl) | exact Cel.fr .here (hatx _ _ rfl) | exact Cel.fr (.there .here) (hatx _ _ rfl) | exact Cel.fr (.there (.there .here)) (hatx _ _ rfl) | exact Cel.fr (.there (.there (.there .here))) (hatx _ _ rfl) | exact Cel.fr (.there (.there (.there (.there .here)))) (hatx _ _ rfl))) rfl ?_
                  refine TQ.open rfl rfl ?_
                  refine TQ.val (OpV.indexAddr (j := a2.toNat) se_22 rfl hAc rfl (by omega) (by omega)) rfl ?_
                  refine TQ.open rfl rfl ?_
                  refine TQ.val (OpV.loadA ag_59 rfl (by first | exact Cels.blk .here rfl | exact Cels.blk (.there .here) rfl | exact Cels.blk (.there (.there .here)) rfl | exact Cels.blk (.there (.there (.there .here))) rfl | exact Cels.blk (.there (.there (.there (.there .here)))) rfl | exact Cels.fr .here (hatl) rfl | exact Cels.fr (.there .here) (hatl) rfl | exact Cels.fr (.there (.there .here)) (hatl) rfl | exact Cels.fr (.there (.there (.there .here))) (hatl) rfl | exact Cels.fr (.there (.there (.there (.there .here)))) (hatl) rfl | exact Cels.fr .here (hatl2) rfl | exact Cels.fr (.there .here) (hatl2) rfl | exact Cels.fr (.there (.there .here)) (hatl2) rfl | exact Cels.fr (.there (.there (.there .here))) (hatl2) rfl | exact Cels.fr (.there (.there (.there (.there .here)))) (hatl2) rfl | exact Cels.fr .here (hatz0) rfl | exact Cels.fr (.there .here) (hatz0) rfl | exact Cels.fr (.there (.there .here)) (hatz0) rfl | exact Cels.fr (.there (.there (.there .here))) (hatz0) rfl | exact Cels.fr (.there (.there (.there (.there .here)))) (hatz0) rfl | exact Cels.fr .here (hatq) rfl | exact Cels.fr (.there .here) (hatq) rfl | exact Cels.fr (.there (.there .here)) (hatq) rfl | exact Cels.fr (.there (.there (.there .here))) (hatq) rfl | exact Cels.fr (.there (.there (.there (.there .here)))) (hatq) rfl | exact Cels.fr .here (hatx8) rfl | exact Cels.fr (.there .here) (hatx8) rfl | exact Cels.fr (.there (.there .here)) (hatx8) rfl | exact Cels.fr (.there (.there (.there .here))) (hatx8) rfl | exact Cels.fr (.there (.there (.there (.there .here)))) (hatx8) rfl | exact Cels.fr .here (hatv) rfl | exact Cels.fr (.there .here) (hatv) rfl | exact Cels.fr (.there (.there .here)) (hatv) rfl | exact Cels.fr (.there (.there (.there .here))) (hatv) rfl | exact Cels.fr (.there (.there (.there (.there .here)))) (hatv) rfl | exact Cels.fr .here (hatx) rfl | exact Cels.fr (.there .here) (hatx) rfl | exact Cels.fr (.there (.there .here)) (hatx) rfl | exact Cels.fr (.there (.there (.there .here))) (hatx) rfl | exact Cels.fr (.there (.there (.there (.there .here)))) (hatx) rfl)) rfl ?_
                  refine TQ.open rfl rfl ?_
                  refine TQ.val (OpV.move rfl) rfl ?_
                  refine TQ.open rfl rfl ?_
                  refine TQ.val (OpV.move rfl) rfl ?_
                  refine TQ.open rfl rfl ?_
                  refine TQ.val (OpV.indexAddr (j := q) se_22 rfl hA rfl rfl (by omega)) rfl ?_
                  refine TQ.open rfl rfl ?_
                  refine TQ.val (OpV.loadA ag_59 rfl (by first | exact Cels.blk .here rfl | exact Cels.blk (.there .here) rfl | exact Cels.blk (.there (.there .here)) rfl | exact Cels.blk (.there (.there (.there .here))) rfl | exact Cels.blk (.there (.there (.there (.there .here)))) rfl | exact Cels.fr .here (hatl) rfl | exact Cels.fr (.there .here) (hatl) rfl | exact Cels.fr (.there (.there .here)) (hatl) rfl | exact Cels.fr (.there (.there (.there .here))) (hatl) rfl | exact Cels.fr (.there (.there (.there (.there .here)))) (hatl) rfl | exact Cels.fr .here (hatl2) rfl | exact Cels.fr (.there .here) (hatl2) rfl | exact Cels.fr (.there (.there .here)) (hatl2) rfl | exact Cels.fr (.there (.there (.there .here))) (hatl2) rfl | exact Cels.fr (.there (.there (.there (.there .here)))) (hatl2) rfl | exact Cels.fr .here (hatz0) rfl | exact Cels.fr (.there .here) (hatz0) rfl | exact Cels.fr (.there (.there .here)) (hatz0) rfl | exact Cels.fr (.there (.there (.there .here))) (hatz0) rfl | exact Cels.fr (.there (.there (.there (.there .here)))) (hatz0) rfl | exact Cels.fr .here (hatq) rfl | exact Cels.fr (.there .here) (hatq) rfl | exact Cels.fr (.there (.there .here)) (hatq) rfl | exact Cels.fr (.there (.there (.there .here))) (hatq) rfl | exact Cels.fr (.there (.there (.there (.there .here)))) (hatq) rfl | exact Cels.fr .here (hatx8) rfl | exact Cels.fr (.there .here) (hatx8) rfl | exact Cels.fr (.there (.there .here)) (hatx8) rfl | exact Cels.fr (.there (.there (.there .here))) (hatx8) rfl | exact Cels.fr (.there (.there (.there (.there .here)))) (hatx8) rfl | exact Cels.fr .here (hatv) rfl | exact Cels.fr (.there .here) (hatv) rfl | exact Cels.fr (.there (.there .here)) (hatv) rfl | exact Cels.fr (.there (.there (.there .here))) (hatv) rfl | exact Cels.fr (.there (.there (.there (.there .here)))) (hatv) rfl | exact Cels.fr .here (hatx) rfl | exact Cels.fr (.there .here) (hatx) rfl | exact Cels.fr (.there (.there .here)) (hatx) rfl | exact Cels.fr (.there (.there (.there .here))) (hatx) rfl | exact Cels.fr (.there (.there (.there (.there .here)))) (hatx) rfl)) rfl ?_
                  refine TQ.open rfl rfl ?_
                  refine TQ.val (OpV.aneq rfl rfl eg_59 (eq_59 x x)) rfl ?_
                  refine TQ.said (t := 239) rfl (show _ = Value.bool false from congrArg Value.bool (by simp)) ?_
                  refine TQ.open rfl rfl ?_
                  refine TQ.val ((by first | exact OpV.pick_t rfl rfl | exact OpV.pick_f rfl rfl)) rfl ?_
                  refine TQ.val ((by first | exact OpV.pick_t rfl rfl | exact OpV.pick_f rfl rfl)) rfl ?_
                  refine TQ.nil ?_
                  refine TE.sub (.cons (t := 0) rfl <| .cons (t := 5) rfl <| .cons (t := 6) rfl <| .cons (t := 12) rfl <| .cons (t := 13) rfl <| .cons (t := 241) rfl <| .nil) ?_
                  refine TE.next ?_
                  refine T.no rfl ?_
                  refine T.skip ?_
                  refine TE.next ?_
                  refine T.seq ?_
                  refine T.region ?_
                  refine TL.val (OpV.move rfl) rfl ?_
                  refine TL.val (OpV.move rfl) rfl ?_
                  refine TL.val (OpV.loadA ag_37 rfl (by first | exact Cels.blk .here rfl | exact Cels.blk (.there .here) rfl | exact Cels.blk (.there (.there .here)) rfl | exact Cels.blk (.there (.there (.there .here))) rfl | exact Cels.blk (.there (.there (.there (.there .here)))) rfl | exact Cels.fr .here (hatl) rfl | exact Cels.fr (.there .here) (hatl) rfl | exact Cels.fr (.there (.there .here)) (hatl) rfl | exact Cels.fr (.there (.there (.there .here))) (hatl) rfl | exact Cels.fr (.there (.there (.there (.there .here)))) (hatl) rfl | exact Cels.fr .here (hatl2) rfl | exact Cels.fr (.there .here) (hatl2) rfl | exact Cels.fr (.there (.there .here)) (hatl2) rfl | exact Cels.fr (.there (.there (.there .here))) (hatl2) rfl | exact Cels.fr (.there (.there (.there (.there .here)))) (hatl2) rfl | exact Cels.fr .here (hatz0) rfl | exact Cels.fr (.there .here) (hatz0) rfl | exact Cels.fr (.there (.there .here)) (hatz0) rfl | exact Cels.fr (.there (.there (.there .here))) (hatz0) rfl | exact Cels.fr (.there (.there (.there (.there .here)))) (hatz0) rfl | exact Cels.fr .here (hatq) rfl | exact Cels.fr (.there .here) (hatq) rfl | exact Cels.fr (.there (.there .here)) (hatq) rfl | exact Cels.fr (.there (.there (.there .here))) (hatq) rfl | exact Cels.fr (.there (.there (.there (.there .here)))) (hatq) rfl | exact Cels.fr .here (hatx8) rfl | exact Cels.fr (.there .here) (hatx8) rfl | exact Cels.fr (.there (.there .here)) (hatx8) rfl | exact Cels.fr (.there (.there (.there .here))) (hatx8) rfl | exact Cels.fr (.there (.there (.there (.there .here)))) (hatx8) rfl | exact Cels.fr .here (hatv) rfl | exact Cels.fr (.there .here) (hatv) rfl | exact Cels.fr (.there (.there .here)) (hatv) rfl | exact Cels.fr (.there (.there (.there .here))) (hatv) rfl | exact Cels.fr (.there (.there (.there (.there .here)))) (hatv) rfl | exact Cels.fr .here (hatx) rfl | exact Cels.fr (.there .here) (hatx) rfl | exact Cels.fr (.there (.there .here)) (hatx) rfl | exact Cels.fr (.there (.there (.there .here))) (hatx) rfl | exact Cels.fr (.there (.there (.there (.there .here)))) (hatx) rfl)) rfl ?_
                  refine TL.call (g := 28) rfl go_28 rfl (fun w1 k1 => index_c w1 (m : Int) a1 a2 (L.below k1.bel) h (k1.get (e := .fr σ) (by first | exact .here | exact (.there .here) | exact (.there (.there .here)) | exact (.there (.there (.there .here))) | exact (.there (.there (.there (.there .here)))) | exact (.there (.there (.there (.there (.there .here)))))))) rfl ?_
                  refine TL.said (t := 246) rfl (show _ = Value.tuple #[.int .i64 iv, .int .i64 0] by rw [hiv, hie]) ?_
                  refine TL.val (OpV.move rfl) rfl ?_
                  refine TL.val (OpV.extract rfl rfl) rfl ?_
                  refine TL.val (OpV.extract rfl rfl) rfl ?_
                  refine TL.val (OpV.assign rfl) rfl ?_
                  refine TL.val (OpV.assign rfl) rfl ?_
                  refine TL.nil ?_
                  refine TE.sub (.cons (t := 0) rfl <| .cons (t := 5) rfl <| .cons (t := 6) rfl <| .cons (t := 12) rfl <| .cons (t := 14) rfl <| .cons (t := 15) rfl <| .nil) ?_
                  refine TE.next ?_
                  refine T.seq ?_
                  refine T.region ?_
                  refine TL.val (OpV.move rfl) rfl ?_
                  refine TL.val (OpV.neq rfl rfl) rfl ?_
                  refine TL.said (t := 250) rfl (show _ = Value.bool false from congrArg Value.bool (rfl)) ?_
                  refine TL.val (OpV.move rfl) rfl ?_
                  refine TL.open rfl rfl ?_
                  refine TL.val (OpV.move rfl) rfl ?_
                  refine TL.open rfl rfl ?_
                  refine TL.val (OpV.move rfl) rfl ?_
                  refine TL.open rfl rfl ?_
                  refine TL.val (OpV.len Tryd.underlying22 rfl) rfl ?_
                  refine TL.open rfl rfl ?_
                  refine TL.val (OpV.lss rfl rfl) rfl ?_
                  refine TL.said (t := 255) rfl (show _ = Value.bool true from congrArg Value.bool (hg224)) ?_
                  refine TL.open rfl rfl ?_
                  refine TL.val (OpV.move rfl) rfl ?_
                  refine TL.open rfl rfl ?_
                  refine TL.val (OpV.move rfl) rfl ?_
                  refine TL.open rfl rfl ?_
                  refine TL.val (OpV.move rfl) rfl ?_
                  refine TL.open rfl rfl ?_
                  refine TL.val (OpV.neq rfl rfl) rfl ?_
                  refine TL.said (t := 259) rfl (show _ = Value.bool false from congrArg Value.bool (by rw [hh4 (by have h9 := of_decide_eq_true hg224; omega)]; simp)) ?_
                  refine TL.open rfl rfl ?_
                  refine TL.val ((by first | exact OpV.pick_t rfl rfl | exact OpV.pick_f rfl rfl)) rfl ?_
                  refine TL.val ((by first | exact OpV.pick_t rfl rfl | exact OpV.pick_f rfl rfl)) rfl ?_
                  refine TL.val (OpV.move rfl) rfl ?_
                  refine TL.open rfl rfl ?_
                  refine TL.val (OpV.move rfl) rfl ?_
                  refine TL.open rfl rfl ?_
                  refine TL.val (OpV.move rfl) rfl ?_
                  refine TL.open rfl rfl ?_
                  refine TL.val (OpV.gtr rfl rfl) rfl ?_
                  refine TL.said (t := 265) rfl (show _ = Value.bool false from congrArg Value.bool (decide_eq_false (by omega))) ?_
                  refine TL.val ((by first | exact OpV.pick_t rfl rfl | exact OpV.pick_f rfl rfl)) rfl ?_
                  refine TL.nil ?_
                  refine TE.sub (.cons (t := 0) rfl <| .cons (t := 5) rfl <| .cons (t := 6) rfl <| .cons (t := 12) rfl <| .cons (t := 266) rfl <| .nil) ?_
                  refine TE.next ?_
                  refine T.no rfl ?_
                  refine T.skip ?_
                  refine TE.out ?_
                  refine TE.next ?_
                  refine T.region ?_
                  refine TL.val (OpV.move rfl) rfl ?_
                  refine TL.val (OpV.add rfl rfl (by first | exact IntWalk.i64_in _ ⟨by omega, by omega⟩ | rfl)) rfl ?_
                  refine TL.val (OpV.assign rfl) rfl ?_
                  refine TL.nil ?_
                  exact TE.meet (q + 1) ⟨by omega, by omega⟩ (.cons (t := 0) (by first | rfl | (simp [lk]; done)) <| .cons (t := 5) (by first | rfl | (simp [lk]; done)) <| .cons (t := 6) (by first | rfl | (simp [lk]; done)) <| .cons (t := 12) (by first | rfl | (simp [lk]; done)) <| .nil) (Perm.kle (.cons (by first | exact .here | exact (.there .here) | exact (.there (.there .here)) | exact (.there (.there (.there .here))) | exact (.there (.there (.there (.there .here)))) | exact (.there (.there (.there (.there (.there .here))))) | exact (.there (.there (.there (.there (.there (.there .here))))))) (.cons (by first | exact .here | exact (.there .here) | exact (.there (.there .here)) | exact (.there (.there (.there .here))) | exact (.there (.there (.there (.there .here)))) | exact (.there (.there (.there (.there (.there .here))))) | exact (.there (.there (.there (.there (.there (.there .here))))))) .nil)))
                · intro hg224
                  refine TQ.shut rfl rfl ?_
                  refine TQ.shut rfl rfl ?_
                  refine TQ.shut rfl rfl ?_
                  refine TQ.shut rfl rfl ?_
                  refine TQ.shut rfl rfl ?_
                  refine TQ.shut rfl rfl ?_
                  refine TQ.shut rfl rfl ?_
                  refine TQ.shut rfl rfl ?_
                  refine TQ.shut rfl rfl ?_
                  refine TQ.shut rfl rfl ?_
                  refine TQ.shut rfl rfl ?_
                  refine TQ.shut rfl rfl ?_
                  refine TQ.shut rfl rfl ?_
                  refine TQ.shut rfl rfl ?_
                  refine TQ.shut rfl rfl ?_
                  refine TQ.open rfl rfl ?_
                  refine TQ.val ((by first | exact OpV.pick_t rfl rfl | exact OpV.pick_f rfl rfl)) rfl ?_
                  refine TQ.val ((by first | exact OpV.pick_t rfl rfl | exact OpV.pick_f rfl rfl)) rfl ?_
                  refine TQ.nil ?_
                  refine TE.sub (.cons (t := 0) rfl <| .cons (t := 5) rfl <| .cons (t := 6) rfl <| .cons (t := 12) rfl <| .cons (t := 13) rfl <| .cons (t := 241) rfl <| .nil) ?_
                  refine TE.next ?_
                  refine T.no rfl ?_
                  refine T.skip ?_
                  refine TE.next ?_
                  refine T.seq ?_
                  refine T.region ?_
                  refine TL.val (OpV.move rfl) rfl ?_
                  refine TL.val (OpV.move rfl) rfl ?_
                  refine TL.val (OpV.loadA ag_37 rfl (by first | exact Cels.blk .here rfl | exact Cels.blk (.there .here) rfl | exact Cels.blk (.there (.there .here)) rfl | exact Cels.blk (.there (.there (.there .here))) rfl | exact Cels.blk (.there (.there (.there (.there .here)))) rfl | exact Cels.fr .here (hatl) rfl | exact Cels.fr (.there .here) (hatl) rfl | exact Cels.fr (.there (.there .here)) (hatl) rfl | exact Cels.fr (.there (.there (.there .here))) (hatl) rfl | exact Cels.fr (.there (.there (.there (.there .here)))) (hatl) rfl | exact Cels.fr .here (hatl2) rfl | exact Cels.fr (.there .here) (hatl2) rfl | exact Cels.fr (.there (.there .here)) (hatl2) rfl | exact Cels.fr (.there (.there (.there .here))) (hatl2) rfl | exact Cels.fr (.there (.there (.there (.there .here)))) (hatl2) rfl | exact Cels.fr .here (hatz0) rfl | exact Cels.fr (.there .here) (hatz0) rfl | exact Cels.fr (.there (.there .here)) (hatz0) rfl | exact Cels.fr (.there (.there (.there .here))) (hatz0) rfl | exact Cels.fr (.there (.there (.there (.there .here)))) (hatz0) rfl | exact Cels.fr .here (hatq) rfl | exact Cels.fr (.there .here) (hatq) rfl | exact Cels.fr (.there (.there .here)) (hatq) rfl | exact Cels.fr (.there (.there (.there .here))) (hatq) rfl | exact Cels.fr (.there (.there (.there (.there .here)))) (hatq) rfl | exact Cels.fr .here (hatx8) rfl | exact Cels.fr (.there .here) (hatx8) rfl | exact Cels.fr (.there (.there .here)) (hatx8) rfl | exact Cels.fr (.there (.there (.there .here))) (hatx8) rfl | exact Cels.fr (.there (.there (.there (.there .here)))) (hatx8) rfl | exact Cels.fr .here (hatv) rfl | exact Cels.fr (.there .here) (hatv) rfl | exact Cels.fr (.there (.there .here)) (hatv) rfl | exact Cels.fr (.there (.there (.there .here))) (hatv) rfl | exact Cels.fr (.there (.there (.there (.there .here)))) (hatv) rfl | exact Cels.fr .here (hatx) rfl | exact Cels.fr (.there .here) (hatx) rfl | exact Cels.fr (.there (.there .here)) (hatx) rfl | exact Cels.fr (.there (.there (.there .here))) (hatx) rfl | exact Cels.fr (.there (.there (.there (.there .here)))) (hatx) rfl)) rfl ?_
                  refine TL.call (g := 28) rfl go_28 rfl (fun w1 k1 => index_c w1 (m : Int) a1 a2 (L.below k1.bel) h (k1.get (e := .fr σ) (by first | exact .here | exact (.there .here) | exact (.there (.there .here)) | exact (.there (.there (.there .here))) | exact (.there (.there (.there (.there .here)))) | exact (.there (.there (.there (.there (.there .here)))))))) rfl ?_
                  refine TL.said (t := 246) rfl (show _ = Value.tuple #[.int .i64 iv, .int .i64 0] by rw [hiv, hie]) ?_
                  refine TL.val (OpV.move rfl) rfl ?_
                  refine TL.val (OpV.extract rfl rfl) rfl ?_
                  refine TL.val (OpV.extract rfl rfl) rfl ?_
                  refine TL.val (OpV.assign rfl) rfl ?_
                  refine TL.val (OpV.assign rfl) rfl ?_
                  refine TL.nil ?_
                  refine TE.sub (.cons (t := 0) rfl <| .cons (t := 5) rfl <| .cons (t := 6) rfl <| .cons (t := 12) rfl <| .cons (t := 14) rfl <| .cons (t := 15) rfl <| .nil) ?_
                  refine TE.next ?_
                  refine T.seq ?_
                  refine T.region ?_
                  refine TL.val (OpV.move rfl) rfl ?_
                  refine TL.val (OpV.neq rfl rfl) rfl ?_
                  refine TL.said (t := 250) rfl (show _ = Value.bool false from congrArg Value.bool (rfl)) ?_
                  refine TL.val (OpV.move rfl) rfl ?_
                  refine TL.open rfl rfl ?_
                  refine TL.val (OpV.move rfl) rfl ?_
                  refine TL.open rfl rfl ?_
                  refine TL.val (OpV.move rfl) rfl ?_
                  refine TL.open rfl rfl ?_
                  refine TL.val (OpV.len Tryd.underlying22 rfl) rfl ?_
                  refine TL.open rfl rfl ?_
                  refine TL.val (OpV.lss rfl rfl) rfl ?_
                  refine TL.said (t := 255) rfl (show _ = Value.bool false from congrArg Value.bool (hg224)) ?_
                  refine TL.open rfl rfl ?_
                  refine TL.val (OpV.move rfl) rfl ?_
                  refine TL.shut rfl rfl ?_
                  refine TL.shut rfl rfl ?_
                  refine TL.shut rfl rfl ?_
                  refine TL.open rfl rfl ?_
                  refine TL.val ((by first | exact OpV.pick_t rfl rfl | exact OpV.pick_f rfl rfl)) rfl ?_
                  refine TL.val ((by first | exact OpV.pick_t rfl rfl | exact OpV.pick_f rfl rfl)) rfl ?_
                  refine TL.val (OpV.move rfl) rfl ?_
                  refine TL.open rfl rfl ?_
                  refine TL.val (OpV.move rfl) rfl ?_
                  refine TL.open rfl rfl ?_
                  refine TL.val (OpV.move rfl) rfl ?_
                  refine TL.open rfl rfl ?_
                  refine TL.val (OpV.gtr rfl rfl) rfl ?_
                  refine TL.said (t := 265) rfl (show _ = Value.bool false from congrArg Value.bool (decide_eq_false (by omega))) ?_
                  refine TL.val ((by first | exact OpV.pick_t rfl rfl | exact OpV.pick_f rfl rfl)) rfl ?_
                  refine TL.nil ?_
                  refine TE.sub (.cons (t := 0) rfl <| .cons (t := 5) rfl <| .cons (t := 6) rfl <| .cons (t := 12) rfl <| .cons (t := 266) rfl <| .nil) ?_
                  refine TE.next ?_
                  refine T.no rfl ?_
                  refine T.skip ?_
                  refine TE.out ?_
                  refine TE.next ?_
                  refine T.region ?_
                  refine TL.val (OpV.move rfl) rfl ?_
                  refine TL.val (OpV.add rfl rfl (by first | exact IntWalk.i64_in _ ⟨by omega, by omega⟩ | rfl)) rfl ?_
                  refine TL.val (OpV.assign rfl) rfl ?_
                  refine TL.nil ?_
                  exact TE.meet (q + 1) ⟨by omega, by omega⟩ (.cons (t := 0) (by first | rfl | (simp [lk]; done)) <| .cons (t := 5) (by first | rfl | (simp [lk]; done)) <| .cons (t := 6) (by first | rfl | (simp [lk]; done)) <| .cons (t := 12) (by first | rfl | (simp [lk]; done)) <| .nil) (Perm.kle (.cons (by first | exact .here | exact (.there .here) | exact (.there (.there .here)) | exact (.there (.there (.there .here))) | exact (.there (.there (.there (.there .here)))) | exact (.there (.there (.there (.there (.there .here))))) | exact (.there (.there (.there (.there (.there (.there .here))))))) (.cons (by first | exact .here | exact (.there .here) | exact (.there (.there .here)) | exact (.there (.there (.there .here))) | exact (.there (.there (.there (.there .here)))) | exact (.there (.there (.there (.there (.there .here))))) | exact (.there (.there (.there (.there (.there (.there .here))))))) .nil)))
              · intro ht184
                refine T.exit ?_
                refine TE.pass_exit ?_
                refine TE.pass_exit ?_
                refine TE.here ?_
                refine TE.next ?_
                refine T.seq ?_
                refine T.region ?_
                refine TL.call (g := 12) rfl go_12 rfl (fun w1 k1 => known_law w1 (L.below k1.bel)) rfl ?_
                refine TL.val (OpV.assign rfl) rfl ?_
                refine TL.nil ?_
                refine TE.sub (.cons (t := 4) rfl <| .nil) ?_
                refine TE.next ?_
                refine T.ret ?_
                refine TE.ret1 rfl (ResV.tmp rfl) ?_
                exact fun w1 k1 => ⟨rfl, k1.bel⟩
end Go.Proofs.YtblpfelhgcggfaaDoor
