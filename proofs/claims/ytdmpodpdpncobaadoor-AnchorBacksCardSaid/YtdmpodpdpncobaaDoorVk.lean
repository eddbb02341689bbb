/-
  The walk of the law AnchorBacks. Condition: the package-level tables hold what they were laid with.
-/
import Derived.Test.YtdmpodpdpncobaaDoorVg
import Derived.Test.YtdmpodpdpncobaaDoorAnd
import Derived.Test.YtdmpodpdpncobaaDoorWo
namespace Go.Proofs.YtdmpodpdpncobaaDoor
open Go.RowKit
set_option linter.unusedSimpArgs false
set_option linter.unusedVariables false
theorem go_30 : isGo Tryd.prog 30 = true := by kernel_rfl
set_option maxRecDepth 100000 in
set_option maxHeartbeats 1000000 in
theorem anchorBacks_law {σ : Nat → Option Obj} {A : Option Addr} {n c : Nat} {xs : List Cl} (u u2 iv : Int) (w : World) (L : LaidW w) (h : CsR σ A n c xs) (hs : ∀ b o, σ b = some o → w.heap[b]? = some o) (hiv : 0 ≤ iv ∧ iv ≤ 255) : Calls Tryd.prog 6 #[.slice A n c, .int .u8 u, .int .u8 u2, .int .u8 iv] w (Ret (.bool true) w) := by
  have hn63 := h.2.1
  have hc63 := h.2.2.1
  have hl1 := h.1
  refine calls_T (vs := [.slice A n c, .int .u8 u, .int .u8 u2, .int .u8 iv]) (L0 := [(0, .slice A n c), (1, .int .u8 u), (2, .int .u8 u2), (3, .int .u8 iv)]) Tryd.func6 rfl rfl rfl rfl (KOk.fr1 hs) ?_
  refine T.seq ?_
  refine T.region ?_
  refine TL.val (OpV.assign rfl) rfl ?_
  refine TL.nil ?_
  refine TE.next ?_
  refine T.seq ?_
  refine T.seq ?_
  refine T.region ?_
  refine TL.val (OpV.move rfl) rfl ?_
  refine TL.val (OpV.len Tryd.underlying35 rfl) rfl ?_
  refine TL.val (OpV.gtr rfl rfl) rfl ?_
  refine TL.val (OpV.move rfl) rfl ?_
  refine TL.part (t := 17) rfl ?_ ?_
  · intro hg17
    refine TL.shut rfl rfl ?_
    refine TL.shut rfl rfl ?_
    refine TL.shut rfl rfl ?_
    refine TL.val ((by first | exact OpV.pick_t rfl rfl | exact OpV.pick_f rfl rfl)) rfl ?_
    refine TL.val (OpV.move rfl) rfl ?_
    refine TL.shut rfl rfl ?_
    refine TL.shut rfl rfl ?_
    refine TL.val ((by first | exact OpV.pick_t rfl rfl | exact OpV.pick_f rfl rfl)) rfl ?_
    refine TL.val (OpV.move rfl) rfl ?_
    refine TL.shut rfl rfl ?_
    refine TL.shut rfl rfl ?_
    refine TL.val ((by first | exact OpV.pick_t rfl rfl | exact OpV.pick_f rfl rfl)) rfl ?_
    refine TL.val (OpV.move rfl) rfl ?_
    refine TL.shut rfl rfl ?_
    refine TL.shut rfl rfl ?_
    refine TL.val ((by first | exact OpV.pick_t rfl rfl | exact OpV.pick_f rfl rfl)) rfl ?_
    refine TL.val (OpV.move rfl) rfl ?_
    refine TL.shut rfl rfl ?_
    refine TL.shut rfl rfl ?_
    refine TL.val ((by first | exact OpV.pick_t rfl rfl | exact OpV.pick_f rfl rfl)) rfl ?_
    refine TL.val (OpV.move rfl) rfl ?_
    refine TL.shut rfl rfl ?_
    refine TL.shut rfl rfl ?_
    refine TL.shut rfl rfl ?_
    refine TL.val ((by first | exact OpV.pick_t rfl rfl | exact OpV.pick_f rfl rfl)) rfl ?_
    refine TL.val (OpV.move rfl) rfl ?_
    refine TL.shut rfl rfl ?_
    refine TL.shut rfl rfl ?_
    refine TL.shut rfl rfl ?_
    refine TL.shut rfl rfl ?_
    refine TL.shut rfl rfl ?_
    refine TL.shut rfl rfl ?_
    refine TL.val ((by first | exact OpV.pick_t rfl rfl | exact OpV.pick_f rfl rfl)) rfl ?_
    refine TL.nil ?_
    refine TE.sub (.cons (t := 0) rfl <| .cons (t := 1) rfl <| .cons (t := 2) rfl <| .cons (t := 3) rfl <| .cons (t := 50) rfl <| .nil) ?_
    refine TE.next ?_
    refine T.yes rfl ?_
    refine T.seq ?_
    refine T.region ?_
    refine TL.call (g := 14) rfl go_14 rfl (fun w1 k1 => known29_law w1 (L.below k1.bel)) rfl ?_
    refine TL.val (OpV.assign rfl) rfl ?_
    refine TL.nil ?_
    refine TE.next ?_
    refine T.ret ?_
    refine TE.pass_ret ?_
    refine TE.ret1 rfl (ResV.tmp rfl) ?_
    exact fun w1 k1 => ⟨rfl, k1.bel⟩
  · intro hg17
    refine TL.open rfl rfl ?_
    refine TL.val (OpV.move rfl) rfl ?_
    refine TL.open rfl rfl ?_
    refine TL.call (g := 28) rfl go_28 rfl (fun w1 k1 => rwvalid_c w1 2 h (k1.get (e := .fr σ) (by first | exact P0 | exact P1 | exact P2 | exact P3 | exact P4 | exact P5 | exact P6 | exact P7 | exact P8))) rfl ?_
    refine TL.open rfl rfl ?_
    refine TL.val (OpV.not rfl) rfl ?_
    refine TL.val ((by first | exact OpV.pick_t rfl rfl | exact OpV.pick_f rfl rfl)) rfl ?_
    refine TL.val (OpV.move rfl) rfl ?_
    refine TL.part (t := 22) rfl ?_ ?_
    · intro hg22
      refine TL.shut rfl rfl ?_
      refine TL.shut rfl rfl ?_
      refine TL.val ((by first | exact OpV.pick_t rfl rfl | exact OpV.pick_f rfl rfl)) rfl ?_
      refine TL.val (OpV.move rfl) rfl ?_
      refine TL.shut rfl rfl ?_
      refine TL.shut rfl rfl ?_
      refine TL.val ((by first | exact OpV.pick_t rfl rfl | exact OpV.pick_f rfl rfl)) rfl ?_
      refine TL.val (OpV.move rfl) rfl ?_
      refine TL.shut rfl rfl ?_
      refine TL.shut rfl rfl ?_
      refine TL.val ((by first | exact OpV.pick_t rfl rfl | exact OpV.pick_f rfl rfl)) rfl ?_
      refine TL.val (OpV.move rfl) rfl ?_
      refine TL.shut rfl rfl ?_
      refine TL.shut rfl rfl ?_
      refine TL.val ((by first | exact OpV.pick_t rfl rfl | exact OpV.pick_f rfl rfl)) rfl ?_
      refine TL.val (OpV.move rfl) rfl ?_
      refine TL.shut rfl rfl ?_
      refine TL.shut rfl rfl ?_
      refine TL.shut rfl rfl ?_
      refine TL.val ((by first | exact OpV.pick_t rfl rfl | exact OpV.pick_f rfl rfl)) rfl ?_
      refine TL.val (OpV.move rfl) rfl ?_
      refine TL.shut rfl rfl ?_
      refine TL.shut rfl rfl ?_
      refine TL.shut rfl rfl ?_
      refine TL.shut rfl rfl ?_
      refine TL.shut rfl rfl ?_
      refine TL.shut rfl rfl ?_
      refine TL.val ((by first | exact OpV.pick_t rfl rfl | exact OpV.pick_f rfl rfl)) rfl ?_
      refine TL.nil ?_
      refine TE.sub (.cons (t := 0) rfl <| .cons (t := 1) rfl <| .cons (t := 2) rfl <| .cons (t := 3) rfl <| .cons (t := 50) rfl <| .nil) ?_
      refine TE.next ?_
      refine T.yes rfl ?_
      refine T.seq ?_
      refine T.region ?_
      refine TL.call (g := 14) rfl go_14 rfl (fun w1 k1 => known29_law w1 (L.below k1.bel)) rfl ?_
      refine TL.val (OpV.assign rfl) rfl ?_
      refine TL.nil ?_
      refine TE.next ?_
      refine T.ret ?_
      refine TE.pass_ret ?_
      refine TE.ret1 rfl (ResV.tmp rfl) ?_
      exact fun w1 k1 => ⟨rfl, k1.bel⟩
    · intro hg22
      refine TL.open rfl rfl ?_
      refine TL.val (OpV.move rfl) rfl ?_
      refine TL.open rfl rfl ?_
      refine TL.val (OpV.lss rfl rfl) rfl ?_
      refine TL.val ((by first | exact OpV.pick_t rfl rfl | exact OpV.pick_f rfl rfl)) rfl ?_
      refine TL.val (OpV.move rfl) rfl ?_
      refine TL.part (t := 26) rfl ?_ ?_
      · intro hg26
        refine TL.shut rfl rfl ?_
        refine TL.shut rfl rfl ?_
        refine TL.val ((by first | exact OpV.pick_t rfl rfl | exact OpV.pick_f rfl rfl)) rfl ?_
        refine TL.val (OpV.move rfl) rfl ?_
        refine TL.shut rfl rfl ?_
        refine TL.shut rfl rfl ?_
        refine TL.val ((by first | exact OpV.pick_t rfl rfl | exact OpV.pick_f rfl rfl)) rfl ?_
        refine TL.val (OpV.move rfl) rfl ?_
        refine TL.shut rfl rfl ?_
        refine TL.shut rfl rfl ?_
        refine TL.val ((by first | exact OpV.pick_t rfl rfl | exact OpV.pick_f rfl rfl)) rfl ?_
        refine TL.val (OpV.move rfl) rfl ?_
        refine TL.shut rfl rfl ?_
        refine TL.shut rfl rfl ?_
        refine TL.shut rfl rfl ?_
        refine TL.val ((by first | exact OpV.pick_t rfl rfl | exact OpV.pick_f rfl rfl)) rfl ?_
        refine TL.val (OpV.move rfl) rfl ?_
        refine TL.shut rfl rfl ?_
        refine TL.shut rfl rfl ?_
        refine TL.shut rfl rfl ?_
        refine TL.shut rfl rfl ?_
        refine TL.shut rfl rfl ?_
        refine TL.shut rfl rfl ?_
        refine TL.val ((by first | exact OpV.pick_t rfl rfl | exact OpV.pick_f rfl rfl)) rfl ?_
        refine TL.nil ?_
        refine TE.sub (.cons (t := 0) rfl <| .cons (t := 1) rfl <| .cons (t := 2) rfl <| .cons (t := 3) rfl <| .cons (t := 50) rfl <| .nil) ?_
        refine TE.next ?_
        refine T.yes rfl ?_
        refine T.seq ?_
        refine T.region ?_
        refine TL.call (g := 14) rfl go_14 rfl (fun w1 k1 => known29_law w1 (L.below k1.bel)) rfl ?_
        refine TL.val (OpV.assign rfl) rfl ?_
        refine TL.nil ?_
        refine TE.next ?_
        refine T.ret ?_
        refine TE.pass_ret ?_
        refine TE.ret1 rfl (ResV.tmp rfl) ?_
        exact fun w1 k1 => ⟨rfl, k1.bel⟩
      · intro hg26
        refine TL.open rfl rfl ?_
        refine TL.val (OpV.move rfl) rfl ?_
        refine TL.open rfl rfl ?_
        refine TL.val (OpV.gtr rfl rfl) rfl ?_
        refine TL.val ((by first | exact OpV.pick_t rfl rfl | exact OpV.pick_f rfl rfl)) rfl ?_
        refine TL.val (OpV.move rfl) rfl ?_
        refine TL.part (t := 30) rfl ?_ ?_
        · intro hg30
          refine TL.shut rfl rfl ?_
          refine TL.shut rfl rfl ?_
          refine TL.val ((by first | exact OpV.pick_t rfl rfl | exact OpV.pick_f rfl rfl)) rfl ?_
          refine TL.val (OpV.move rfl) rfl ?_
          refine TL.shut rfl rfl ?_
          refine TL.shut rfl rfl ?_
          refine TL.val ((by first | exact OpV.pick_t rfl rfl | exact OpV.pick_f rfl rfl)) rfl ?_
          refine TL.val (OpV.move rfl) rfl ?_
          refine TL.shut rfl rfl ?_
          refine TL.shut rfl rfl ?_
          refine TL.shut rfl rfl ?_
          refine TL.val ((by first | exact OpV.pick_t rfl rfl | exact OpV.pick_f rfl rfl)) rfl ?_
          refine TL.val (OpV.move rfl) rfl ?_
          refine TL.shut rfl rfl ?_
          refine TL.shut rfl rfl ?_
          refine TL.shut rfl rfl ?_
          refine TL.shut rfl rfl ?_
          refine TL.shut rfl rfl ?_
          refine TL.shut rfl rfl ?_
          refine TL.val ((by first | exact OpV.pick_t rfl rfl | exact OpV.pick_f rfl rfl)) rfl ?_
          refine TL.nil ?_
          refine TE.sub (.cons (t := 0) rfl <| .cons (t := 1) rfl <| .cons (t := 2) rfl <| .cons (t := 3) rfl <| .cons (t := 50) rfl <| .nil) ?_
          refine TE.next ?_
          refine T.yes rfl ?_
          refine T.seq ?_
          refine T.region ?_
          refine TL.call (g := 14) rfl go_14 rfl (fun w1 k1 => known29_law w1 (L.below k1.bel)) rfl ?_
          refine TL.val (OpV.assign rfl) rfl ?_
          refine TL.nil ?_
          refine TE.next ?_
          refine T.ret ?_
          refine TE.pass_ret ?_
          refine TE.ret1 rfl (ResV.tmp rfl) ?_
          exact fun w1 k1 => ⟨rfl, k1.bel⟩
        · intro hg30
          refine TL.open rfl rfl ?_
          refine TL.val (OpV.move rfl) rfl ?_
          refine TL.open rfl rfl ?_
          refine TL.val (OpV.lss rfl rfl) rfl ?_
          refine TL.val ((by first | exact OpV.pick_t rfl rfl | exact OpV.pick_f rfl rfl)) rfl ?_
          refine TL.val (OpV.move rfl) rfl ?_
          refine TL.part (t := 34) rfl ?_ ?_
          · intro hg34
            refine TL.shut rfl rfl ?_
            refine TL.shut rfl rfl ?_
            refine TL.val ((by first | exact OpV.pick_t rfl rfl | exact OpV.pick_f rfl rfl)) rfl ?_
            refine TL.val (OpV.move rfl) rfl ?_
            refine TL.shut rfl rfl ?_
            refine TL.shut rfl rfl ?_
            refine TL.shut rfl rfl ?_
            refine TL.val ((by first | exact OpV.pick_t rfl rfl | exact OpV.pick_f rfl rfl)) rfl ?_
            refine TL.val (OpV.move rfl) rfl ?_
            refine TL.shut rfl rfl ?_
            refine TL.shut rfl rfl ?_
            refine TL.shut rfl rfl ?_
            refine TL.shut rfl rfl ?_
            refine TL.shut rfl rfl ?_
            refine TL.shut rfl rfl ?_
            refine TL.val ((by first | exact OpV.pick_t rfl rfl | exact OpV.pick_f rfl rfl)) rfl ?_
            refine TL.nil ?_
            refine TE.sub (.cons (t := 0) rfl <| .cons (t := 1) rfl <| .cons (t := 2) rfl <| .cons (t := 3) rfl <| .cons (t := 50) rfl <| .nil) ?_
            refine TE.next ?_
            refine T.yes rfl ?_
            refine T.seq ?_
            refine T.region ?_
            refine TL.call (g := 14) rfl go_14 rfl (fun w1 k1 => known29_law w1 (L.below k1.bel)) rfl ?_
            refine TL.val (OpV.assign rfl) rfl ?_
            refine TL.nil ?_
            refine TE.next ?_
            refine T.ret ?_
            refine TE.pass_ret ?_
            refine TE.ret1 rfl (ResV.tmp rfl) ?_
            exact fun w1 k1 => ⟨rfl, k1.bel⟩
          · intro hg34
            refine TL.open rfl rfl ?_
            refine TL.val (OpV.move rfl) rfl ?_
            refine TL.open rfl rfl ?_
            refine TL.val (OpV.gtr rfl rfl) rfl ?_
            refine TL.val ((by first | exact OpV.pick_t rfl rfl | exact OpV.pick_f rfl rfl)) rfl ?_
            refine TL.val (OpV.move rfl) rfl ?_
            refine TL.part (t := 38) rfl ?_ ?_
            · intro hg38
              refine TL.shut rfl rfl ?_
              refine TL.shut rfl rfl ?_
              refine TL.shut rfl rfl ?_
              refine TL.val ((by first | exact OpV.pick_t rfl rfl | exact OpV.pick_f rfl rfl)) rfl ?_
              refine TL.val (OpV.move rfl) rfl ?_
              refine TL.shut rfl rfl ?_
              refine TL.shut rfl rfl ?_
              refine TL.shut rfl rfl ?_
              refine TL.shut rfl rfl ?_
              refine TL.shut rfl rfl ?_
              refine TL.shut rfl rfl ?_
              refine TL.val ((by first | exact OpV.pick_t rfl rfl | exact OpV.pick_f rfl rfl)) rfl ?_
              refine TL.nil ?_
              refine TE.sub (.cons (t := 0) rfl <| .cons (t := 1) rfl <| .cons (t := 2) rfl <| .cons (t := 3) rfl <| .cons (t := 50) rfl <| .nil) ?_
              refine TE.next ?_
              refine T.yes rfl ?_
              refine T.seq ?_
              refine T.region ?_
              refine TL.call (g := 14) rfl go_14 rfl (fun w1 k1 => known29_law w1 (L.below k1.bel)) rfl ?_
              refine TL.val (OpV.assign rfl) rfl ?_
              refine TL.nil ?_
              refine TE.next ?_
              refine T.ret ?_
              refine TE.pass_ret ?_
              refine TE.ret1 rfl (ResV.tmp rfl) ?_
              exact fun w1 k1 => ⟨rfl, k1.bel⟩
            · intro hg38
              refine TL.open rfl rfl ?_
              refine TL.val (OpV.move rfl) rfl ?_
              refine TL.open rfl rfl ?_
              refine TL.val (OpV.len Tryd.underlying35 rfl) rfl ?_
              refine TL.open rfl rfl ?_
              refine TL.val (OpV.eql rfl rfl) rfl ?_
              refine TL.val ((by first | exact OpV.pick_t rfl rfl | exact OpV.pick_f rfl rfl)) rfl ?_
              refine TL.val (OpV.move rfl) rfl ?_
              refine TL.part (t := 43) rfl ?_ ?_
              · intro hg43
                refine TL.shut rfl rfl ?_
                refine TL.shut rfl rfl ?_
                refine TL.shut rfl rfl ?_
                refine TL.shut rfl rfl ?_
                refine TL.shut rfl rfl ?_
                refine TL.shut rfl rfl ?_
                refine TL.val ((by first | exact OpV.pick_t rfl rfl | exact OpV.pick_f rfl rfl)) rfl ?_
                refine TL.nil ?_
                refine TE.sub (.cons (t := 0) rfl <| .cons (t := 1) rfl <| .cons (t := 2) rfl <| .cons (t := 3) rfl <| .cons (t := 50) rfl <| .nil) ?_
                refine TE.next ?_
                refine T.yes rfl ?_
                refine T.seq ?_
                refine T.region ?_
                refine TL.call (g := 14) rfl go_14 rfl (fun w1 k1 => known29_law w1 (L.below k1.bel)) rfl ?_
                refine TL.val (OpV.assign rfl) rfl ?_
                refine TL.nil ?_
                refine TE.next ?_
                refine T.ret ?_
                refine TE.pass_ret ?_
                refine TE.ret1 rfl (ResV.tmp rfl) ?_
                exact fun w1 k1 => ⟨rfl, k1.bel⟩
              · intro hg43
                refine TL.open rfl rfl ?_
                refine TL.val (OpV.move rfl) rfl ?_
                refine TL.open rfl rfl ?_
                refine TL.callx (g := 29) rfl go_29 rfl (fun wz k1 => own_x k1 (rtrim_c wz h (k1.get (e := .fr σ) (by first | exact P0 | exact P1 | exact P2 | exact P3 | exact P4 | exact P5 | exact P6 | exact P7 | exact P8)) (by have h9 := of_decide_eq_false hg17; omega))) rfl ?_
                rintro ⟨A8, n8, c8, ρ8⟩ h8
                replace h8 : CsR ρ8 A8 n8 c8 (trimV xs) := h8
                refine TL.said (t := 45) rfl (show SV.v ⟨A8, n8, c8, ρ8⟩ = Value.slice A8 n8 c8 from rfl) ?_
                refine TL.open rfl rfl ?_
                refine TL.val (OpV.len Tryd.underlying35 rfl) rfl ?_
                refine TL.open rfl rfl ?_
                refine TL.val (OpV.move rfl) rfl ?_
                refine TL.open rfl rfl ?_
                refine TL.val (OpV.len Tryd.underlying35 rfl) rfl ?_
                refine TL.open rfl rfl ?_
                refine TL.val (OpV.neq rfl rfl) rfl ?_
                refine TL.val ((by first | exact OpV.pick_t rfl rfl | exact OpV.pick_f rfl rfl)) rfl ?_
                refine TL.nil ?_
                refine TE.sub (.cons (t := 0) rfl <| .cons (t := 1) rfl <| .cons (t := 2) rfl <| .cons (t := 3) rfl <| .cons (t := 50) rfl <| .nil) ?_
                refine TE.next ?_
                refine T.cond rfl ?_ ?_
                · intro ht50
                  refine T.seq ?_
                  refine T.region ?_
                  refine TL.call (g := 14) rfl go_14 rfl (fun w1 k1 => known29_law w1 (L.below k1.bel)) rfl ?_
                  refine TL.val (OpV.assign rfl) rfl ?_
                  refine TL.nil ?_
                  refine TE.next ?_
                  refine T.ret ?_
                  refine TE.pass_ret ?_
                  refine TE.ret1 rfl (ResV.tmp rfl) ?_
                  exact fun w1 k1 => ⟨rfl, k1.bel⟩
                · intro ht50
                  have e1 := of_decide_eq_false hg17
                  have e2 := of_decide_eq_false hg26
                  have e3 := of_decide_eq_false hg30
                  have e4 := of_decide_eq_false hg34
                  have e5 := of_decide_eq_false hg38
                  have e6 : ¬ n = 0 := by have h9 : ((n : Int) == 0) = false := hg43; simp at h9; omega
                  have e7 : n8 = n := by have h9 : ((n8 : Int) != (n : Int)) = false := ht50; simp at h9; omega
                  obtain ⟨m, rfl⟩ : ∃ m : Nat, u = (m : Int) := ⟨u.toNat, by omega⟩
                  obtain ⟨m2, rfl⟩ : ∃ m2 : Nat, u2 = (m2 : Int) := ⟨u2.toNat, by omega⟩
                  obtain ⟨i0, rfl⟩ : ∃ i0 : Nat, iv = (i0 : Int) := ⟨iv.toNat, by omega⟩
                  have hm2 : 2 ≤ m := by omega
                  have hm3 : 2 ≤ m2 := by omega
                  have hv2 : vW xs 2 = true := by simpa using hg22
                  have hrr := (vW_parts hv2).2.2
                  have hv : vW xs (m : Int) = true := by simp [vW, hrr]; omega
                  have hw : vW xs (m2 : Int) = true := by simp [vW, hrr]; omega
                  have htr : trimV xs = xs := trim_same (by rw [h8.1, hl1]; exact e7)
                  obtain ⟨q0, hq0⟩ : ∃ q : Nat, q = i0 % n := ⟨_, rfl⟩
                  have hqn : q0 < n := by rw [hq0]; exact Nat.mod_lt _ (by omega)
                  have hrem : Int.tmod (i0 : Int) (n : Int) = (q0 : Int) := by rw [hq0]; exact (Int.ofNat_tmod i0 n).symm
                  refine T.skip ?_
                  refine TE.next ?_
                  refine T.seq ?_
                  refine T.seq ?_
                  refine T.region ?_
                  refine TL.val (OpV.assign rfl) rfl ?_
                  refine TL.nil ?_
                  refine TE.next ?_
                  refine T.block ?_
                  refine T.loop (ι := Nat) (fun i => i ≤ n ∧ ∀ (j : Nat) x y, j < i → xs[j]? = some x → xs[j + 1]? = some y → isB x = true → y.w ≠ 2) (fun i => (n - i)) (fun i => [(0, .slice A n c), (1, .int .u8 (m : Int)), (2, .int .u8 (m2 : Int)), (3, .int .u8 (i0 : Int)), (9, .int .i64 (i : Int))]) (fun i => [.fr σ]) 0 ⟨Nat.zero_le _, fun j x y hj => absurd hj (Nat.not_lt_zero _)⟩ (.cons (t := 0) rfl <| .cons (t := 1) rfl <| .cons (t := 2) rfl <| .cons (t := 3) rfl <| .cons (t := 9) rfl <| .nil) (Perm.kle (.cons (by first | exact P0 | exact P1 | exact P2 | exact P3 | exact P4 | exact P5 | exact P6 | exact P7 | exact P8) .nil)) ?_
                  rintro i hR
                  refine T.seq ?_
                  refine T.seq ?_
                  refine T.region ?_
                  refine TL.val (OpV.move rfl) rfl ?_
                  refine TL.val (OpV.add rfl rfl (by first | exact IntWalk.i64_in _ ⟨by omega, by omega⟩ | rfl)) rfl ?_
                  refine TL.val (OpV.move rfl) rfl ?_
                  refine TL.val (OpV.len Tryd.underlying35 rfl) rfl ?_
                  refine TL.val (OpV.lss rfl rfl) rfl ?_
                  refine TL.nil ?_
                  refine TE.next ?_
                  refine T.cond rfl ?_ ?_
                  · intro ht56
                    obtain ⟨q1, q2⟩ := hR
                    have hi : i + 1 < n := by have h9 := of_decide_eq_true ht56; omega
                    obtain ⟨x, hx⟩ := get_of_lt h.1 (show i < n by omega)
                    obtain ⟨y, hy⟩ := get_of_lt h.1 hi
                    obtain ⟨b, o, hA, hat⟩ := h.pos (by omega)
                    have hatx := hat i x hx
                    have haty := hat (i + 1) y hy
                    refine T.skip ?_
                    refine TE.next ?_
                    refine T.seq ?_
                    refine T.block ?_
                    refine T.seq ?_
                    refine T.region ?_
                    refine TL.val (OpV.move rfl) rfl ?_
                    refine TL.val (OpV.move rfl) rfl ?_
                    refine TL.val (OpV.indexAddr se_35 rfl hA rfl (by rfl) (by first | omega | simp)) rfl ?_
                    refine TL.val (OpV.loadA ag_58 rfl (by first | exact Cels.blk P0 rfl | exact Cels.blk P1 rfl | exact Cels.blk P2 rfl | exact Cels.blk P3 rfl | exact Cels.blk P4 rfl | exact Cels.blk P5 rfl | exact Cels.blk P6 rfl | exact Cels.blk P7 rfl | exact Cels.frA hatx rfl | exact Cels.frA haty rfl)) rfl ?_
                    refine TL.val (OpV.build (qs := #[(2, _)]) (fun _ f => by simp only [List.map_toArray, List.map_cons, List.map_nil]; rw [f.ev (x := .const (.int .i64 1)) rfl]) (bld_58_2 1 )) rfl ?_
                    refine TL.val (OpV.aeql rfl rfl eg_58 (eq_58 x (blank Pen.zero))) rfl ?_
                    refine TL.val (OpV.move rfl) rfl ?_
                    refine TL.part (t := 65) rfl ?_ ?_
                    · intro hg65
                      refine TL.open rfl rfl ?_
                      refine TL.val (OpV.move rfl) rfl ?_
                      refine TL.open rfl rfl ?_
                      refine TL.val (OpV.move rfl) rfl ?_
                      refine TL.open rfl rfl ?_
                      refine TL.val (OpV.add rfl rfl (by first | exact IntWalk.i64_in _ ⟨by omega, by omega⟩ | rfl)) rfl ?_
                      refine TL.open rfl rfl ?_
                      refine TL.val (OpV.indexAddr (j := (i + 1)) se_35 rfl hA rfl (by omega) (by omega)) rfl ?_
                      refine TL.open rfl rfl ?_
                      refine TL.val (OpV.fieldAddr rfl fo_58_2) rfl ?_
                      refine TL.open rfl rfl ?_
                      refine TL.val (OpV.load pl_3 rfl (by first | exact Cel.blk P0 rfl | exact Cel.blk P1 rfl | exact Cel.blk P2 rfl | exact Cel.blk P3 rfl | exact Cel.blk P4 rfl | exact Cel.blk P5 rfl | exact Cel.blk P6 rfl | exact Cel.blk P7 rfl | exact Cel.frA (hatx _ _ rfl) | exact Cel.frA (haty _ _ rfl))) rfl ?_
                      refine TL.open rfl rfl ?_
                      refine TL.val (OpV.eql rfl rfl) rfl ?_
                      refine TL.val ((by first | exact OpV.pick_t rfl rfl | exact OpV.pick_f rfl rfl)) rfl ?_
                      refine TL.nil ?_
                      refine TE.sub (.cons (t := 0) rfl <| .cons (t := 1) rfl <| .cons (t := 2) rfl <| .cons (t := 3) rfl <| .cons (t := 9) rfl <| .cons (t := 73) rfl <| .nil) ?_
                      refine TE.next ?_
                      refine T.cond rfl ?_ ?_
                      · intro ht73
                        refine T.seq ?_
                        refine T.region ?_
                        refine TL.call (g := 14) rfl go_14 rfl (fun w1 k1 => known29_law w1 (L.below k1.bel)) rfl ?_
                        refine TL.val (OpV.assign rfl) rfl ?_
                        refine TL.nil ?_
                        refine TE.sub (.cons (t := 8) rfl <| .nil) ?_
                        refine TE.next ?_
                        refine T.ret ?_
                        refine TE.out_ret ?_
                        refine TE.pass_ret ?_
                        refine TE.pass_ret ?_
                        refine TE.out_ret ?_
                        refine TE.pass_ret ?_
                        refine TE.ret1 rfl (ResV.tmp rfl) ?_
                        exact fun w1 k1 => ⟨rfl, k1.bel⟩
                      · intro ht73
                        have hst : ∀ x' y', xs[i]? = some x' → xs[i + 1]? = some y' → isB x' = true → y'.w ≠ 2 := fun x' y' hx' hy' hb => by rw [hx] at hx'; rw [hy] at hy'; cases hx'; cases hy'; exact beq_eq_false_iff_ne.1 ht73
                        refine T.skip ?_
                        refine TE.out ?_
                        refine TE.next ?_
                        refine T.region ?_
                        refine TL.val (OpV.move rfl) rfl ?_
                        refine TL.val (OpV.add rfl rfl (by first | exact IntWalk.i64_in _ ⟨by omega, by omega⟩ | rfl)) rfl ?_
                        refine TL.val (OpV.assign rfl) rfl ?_
                        refine TL.nil ?_
                        exact TE.meet (i + 1) ⟨⟨by omega, fun j x' y' hj hx' hy' hb => by rcases Nat.lt_succ_iff_lt_or_eq.1 hj with hj | rfl; exact q2 j x' y' hj hx' hy' hb; exact hst x' y' hx' hy' hb⟩, by omega⟩ (.cons (t := 0) (by first | rfl | (simp [lk]; done)) <| .cons (t := 1) (by first | rfl | (simp [lk]; done)) <| .cons (t := 2) (by first | rfl | (simp [lk]; done)) <| .cons (t := 3) (by first | rfl | (simp [lk]; done)) <| .cons (t := 9) (by first | rfl | (simp [lk]; done)) <| .nil) (Kle.refl)
                    · intro hg65
                      have hst : ∀ x' y', xs[i]? = some x' → xs[i + 1]? = some y' → isB x' = true → y'.w ≠ 2 := fun x' y' hx' hy' hb => by rw [hx] at hx'; rw [hy] at hy'; cases hx'; cases hy'; have h9 : decide (x = blank Pen.zero) = false := hg65; rw [isB, h9] at hb; cases hb
                      refine TL.shut rfl rfl ?_
                      refine TL.shut rfl rfl ?_
                      refine TL.shut rfl rfl ?_
                      refine TL.shut rfl rfl ?_
                      refine TL.shut rfl rfl ?_
                      refine TL.shut rfl rfl ?_
                      refine TL.shut rfl rfl ?_
                      refine TL.val ((by first | exact OpV.pick_t rfl rfl | exact OpV.pick_f rfl rfl)) rfl ?_
                      refine TL.nil ?_
                      refine TE.sub (.cons (t := 0) rfl <| .cons (t := 1) rfl <| .cons (t := 2) rfl <| .cons (t := 3) rfl <| .cons (t := 9) rfl <| .cons (t := 73) rfl <| .nil) ?_
                      refine TE.next ?_
                      refine T.no rfl ?_
                      refine T.skip ?_
                      refine TE.out ?_
                      refine TE.next ?_
                      refine T.region ?_
                      refine TL.val (OpV.move rfl) rfl ?_
                      refine TL.val (OpV.add rfl rfl (by first | exact IntWalk.i64_in _ ⟨by omega, by omega⟩ | rfl)) rfl ?_
                      refine TL.val (OpV.assign rfl) rfl ?_
                      refine TL.nil ?_
                      exact TE.meet (i + 1) ⟨⟨by omega, fun j x' y' hj hx' hy' hb => by rcases Nat.lt_succ_iff_lt_or_eq.1 hj with hj | rfl; exact q2 j x' y' hj hx' hy' hb; exact hst x' y' hx' hy' hb⟩, by omega⟩ (.cons (t := 0) (by first | rfl | (simp [lk]; done)) <| .cons (t := 1) (by first | rfl | (simp [lk]; done)) <| .cons (t := 2) (by first | rfl | (simp [lk]; done)) <| .cons (t := 3) (by first | rfl | (simp [lk]; done)) <| .cons (t := 9) (by first | rfl | (simp [lk]; done)) <| .nil) (Kle.refl)
                  · intro ht56
                    obtain ⟨q1, q2⟩ := hR
                    have hnb : NoB xs := fun j x y hx hy hb => q2 j x y (by have h9 := of_decide_eq_false ht56; have h8 := (List.getElem?_eq_some_iff.1 hy).1; omega) hx hy hb
                    refine T.exit ?_
                    refine TE.pass_exit ?_
                    refine TE.pass_exit ?_
                    refine TE.here ?_
                    refine TE.next ?_
                    refine T.seq ?_
                    refine T.region ?_
                    refine TL.val (OpV.move rfl) rfl ?_
                    refine TL.val (OpV.move rfl) rfl ?_
                    refine TL.val (OpV.conv Tryd.underlying5 Tryd.underlying3 rfl (by first | exact IntWalk.i64_in _ ⟨by omega, by omega⟩ | rfl)) rfl ?_
                    refine TL.callx (g := 30) rfl go_30 rfl (fun wz k1 => own_x k1 (refw_c wz (m : Int) h (k1.get (e := .fr σ) (by first | exact P0 | exact P1 | exact P2 | exact P3 | exact P4 | exact P5 | exact P6 | exact P7 | exact P8)) hv)) rfl ?_
                    rintro ⟨A6, n6, c6, ρ6⟩ ⟨l6, h6, h6e⟩
                    replace h6 : LsA ρ6 A6 n6 c6 l6 := h6
                    have hn6 : n6 ≤ 41 := by have h9 := congrArg List.length h6e; rw [List.length_map, h6.1.1, refW_length, rowsN] at h9; have h8 := (plR_bd (m : Int) xs).2.1; omega
                    refine TL.said (t := 78) rfl (show SV.v ⟨A6, n6, c6, ρ6⟩ = Value.slice A6 n6 c6 from rfl) ?_
                    refine TL.val (OpV.move rfl) rfl ?_
                    refine TL.val (OpV.move rfl) rfl ?_
                    refine TL.val (OpV.conv Tryd.underlying5 Tryd.underlying3 rfl (by first | exact IntWalk.i64_in _ ⟨by omega, by omega⟩ | rfl)) rfl ?_
                    refine TL.callx (g := 30) rfl go_30 rfl (fun wz k1 => own_x k1 (refw_c wz (m2 : Int) h (k1.get (e := .fr σ) (by first | exact P0 | exact P1 | exact P2 | exact P3 | exact P4 | exact P5 | exact P6 | exact P7 | exact P8)) hw)) rfl ?_
                    rintro ⟨A7, n7, c7, ρ7⟩ ⟨l7, h7, h7e⟩
                    replace h7 : LsA ρ7 A7 n7 c7 l7 := h7
                    have hn7 : n7 ≤ 41 := by have h9 := congrArg List.length h7e; rw [List.length_map, h7.1.1, refW_length, rowsN] at h9; have h8 := (plR_bd (m2 : Int) xs).2.1; omega
                    refine TL.said (t := 82) rfl (show SV.v ⟨A7, n7, c7, ρ7⟩ = Value.slice A7 n7 c7 from rfl) ?_
                    refine TL.val (OpV.assign rfl) rfl ?_
                    refine TL.val (OpV.assign rfl) rfl ?_
                    refine TL.nil ?_
                    refine TE.sub (.cons (t := 0) rfl <| .cons (t := 1) rfl <| .cons (t := 2) rfl <| .cons (t := 3) rfl <| .cons (t := 10) rfl <| .cons (t := 11) rfl <| .nil) ?_
                    refine TE.next ?_
                    refine T.seq ?_
                    refine T.region ?_
                    refine TL.val (OpV.move rfl) rfl ?_
                    refine TL.val (OpV.move rfl) rfl ?_
                    refine TL.val (OpV.conv Tryd.underlying5 Tryd.underlying3 rfl (by first | exact IntWalk.i64_in _ ⟨by omega, by omega⟩ | rfl)) rfl ?_
                    refine TL.val (OpV.move rfl) rfl ?_
                    refine TL.val (OpV.conv Tryd.underlying5 Tryd.underlying3 rfl (by first | exact IntWalk.i64_in _ ⟨by omega, by omega⟩ | rfl)) rfl ?_
                    refine TL.val (OpV.move rfl) rfl ?_
                    refine TL.val (OpV.len Tryd.underlying35 rfl) rfl ?_
                    refine TL.val (OpV.rem rfl rfl (by omega) hrem) rfl ?_
                    refine TL.call (g := 31) rfl go_31 rfl (fun w1 k1 => rplace_c w1 (m : Int) q0 h (k1.get (e := .fr σ) (by first | exact P0 | exact P1 | exact P2 | exact P3 | exact P4 | exact P5 | exact P6 | exact P7 | exact P8)) (by omega) (by omega)) rfl ?_
                    refine TL.alloc zo_24 rfl ?_
                    intro b12
                    first
                      | refine TL.storeAll rfl rfl szz_24 rfl rfl rfl (by first | exact P0 | exact P1 | exact P2 | exact P3 | exact P4 | exact P5 | exact P6 | exact P7) (by rfl) ?_
                      | refine TL.store rfl rfl szz_24 rfl rfl rfl (by first | exact P0 | exact P1 | exact P2 | exact P3 | exact P4 | exact P5 | exact P6 | exact P7) (by first | exact Nat.le_of_ble_eq_true rfl | (simp; done) | (simp; omega)) (by simp only [putL, List.take_succ_cons, List.take_zero, List.drop_succ_cons, List.drop_zero, List.cons_append, List.nil_append, List.length_cons, List.length_nil, Nat.reduceAdd]; rfl) ?_
                    refine TL.nil ?_
                    refine TE.sub (.cons (t := 0) rfl <| .cons (t := 1) rfl <| .cons (t := 2) rfl <| .cons (t := 3) rfl <| .cons (t := 10) rfl <| .cons (t := 11) rfl <| .cons (t := 12) rfl <| .nil) ?_
                    refine TE.next ?_
                    refine T.seq ?_
                    refine T.region ?_
                    refine TL.val (OpV.move rfl) rfl ?_
                    refine TL.val (OpV.move rfl) rfl ?_
                    refine TL.val (OpV.conv Tryd.underlying5 Tryd.underlying3 rfl (by first | exact IntWalk.i64_in _ ⟨by omega, by omega⟩ | rfl)) rfl ?_
                    refine TL.val (OpV.move rfl) rfl ?_
                    refine TL.val (OpV.conv Tryd.underlying5 Tryd.underlying3 rfl (by first | exact IntWalk.i64_in _ ⟨by omega, by omega⟩ | rfl)) rfl ?_
                    refine TL.val (OpV.move rfl) rfl ?_
                    refine TL.val (OpV.len Tryd.underlying35 rfl) rfl ?_
                    refine TL.val (OpV.rem rfl rfl (by omega) hrem) rfl ?_
                    refine TL.call (g := 31) rfl go_31 rfl (fun w1 k1 => rplace_c w1 (m2 : Int) q0 h (k1.get (e := .fr σ) (by first | exact P0 | exact P1 | exact P2 | exact P3 | exact P4 | exact P5 | exact P6 | exact P7 | exact P8)) (by omega) (by omega)) rfl ?_
                    refine TL.alloc zo_24 rfl ?_
                    intro b13
                    first
                      | refine TL.storeAll rfl rfl szz_24 rfl rfl rfl (by first | exact P0 | exact P1 | exact P2 | exact P3 | exact P4 | exact P5 | exact P6 | exact P7) (by rfl) ?_
                      | refine TL.store rfl rfl szz_24 rfl rfl rfl (by first | exact P0 | exact P1 | exact P2 | exact P3 | exact P4 | exact P5 | exact P6 | exact P7) (by first | exact Nat.le_of_ble_eq_true rfl | (simp; done) | (simp; omega)) (by simp only [putL, List.take_succ_cons, List.take_zero, List.drop_succ_cons, List.drop_zero, List.cons_append, List.nil_append, List.length_cons, List.length_nil, Nat.reduceAdd]; rfl) ?_
                    refine TL.nil ?_
                    refine TE.sub (.cons (t := 1) rfl <| .cons (t := 2) rfl <| .cons (t := 10) rfl <| .cons (t := 11) rfl <| .cons (t := 12) rfl <| .cons (t := 13) rfl <| .nil) ?_
                    refine TE.next ?_
                    refine T.seq ?_
                    refine T.region ?_
                    refine TL.val (OpV.move rfl) rfl ?_
                    refine TL.val (OpV.move rfl) rfl ?_
                    refine TL.val (OpV.conv Tryd.underlying5 Tryd.underlying3 rfl (by first | exact IntWalk.i64_in _ ⟨by omega, by omega⟩ | rfl)) rfl ?_
                    refine TL.val (OpV.loadA ag_24 rfl (by first | exact Cels.blk P0 rfl | exact Cels.blk P1 rfl | exact Cels.blk P2 rfl | exact Cels.blk P3 rfl | exact Cels.blk P4 rfl | exact Cels.blk P5 rfl | exact Cels.blk P6 rfl | exact Cels.blk P7 rfl | exact Cels.frA hatx rfl | exact Cels.frA haty rfl)) rfl ?_
                    refine TL.said (t := 104) rfl (show _ = Value.agg (aL (rplV (m : Int) xs q0)).toArray from rfl) ?_
                    refine TL.slit (qs := #[(0, _)]) (fun _ f => by simp only [List.map_toArray, List.map_cons, List.map_nil]; rw [f.ev (x := .tmp 104) rfl]) (sl_43_1_0 (rplV (m : Int) xs q0)) rfl ?_
                    intro b105
                    refine TL.val (OpV.loadA ag_24 rfl (by first | exact Cels.blk P0 rfl | exact Cels.blk P1 rfl | exact Cels.blk P2 rfl | exact Cels.blk P3 rfl | exact Cels.blk P4 rfl | exact Cels.blk P5 rfl | exact Cels.blk P6 rfl | exact Cels.blk P7 rfl | exact Cels.frA hatx rfl | exact Cels.frA haty rfl)) rfl ?_
                    refine TL.said (t := 106) rfl (show _ = Value.agg (aL (rplV (m2 : Int) xs q0)).toArray from rfl) ?_
                    refine TL.slit (qs := #[(0, _)]) (fun _ f => by simp only [List.map_toArray, List.map_cons, List.map_nil]; rw [f.ev (x := .tmp 106) rfl]) (sl_43_1_0 (rplV (m2 : Int) xs q0)) rfl ?_
                    intro b107
                    refine TL.call (g := 25) rfl go_25 rfl (fun w1 k1 => carl_r (σ := ρ6) (υ := fun b => w1.heap[b]?) (τ := fun b => w1.heap[b]?) (m2 : Int) 0 w1 (L.below k1.bel) (⟨l6, h6, h6e⟩ : LsR ρ6 A6 n6 c6 (refW (m : Int) xs)) (AsR.of_blk (ls := [(rplV (m : Int) xs q0)]) (k1.has (e := .blk b105 (al [(rplV (m : Int) xs q0)]) 24) (by repeat first | exact List.Mem.head _ | apply List.Mem.tail)).2 rfl) (AsR.of_blk (ls := [(rplV (m2 : Int) xs q0)]) (k1.has (e := .blk b107 (al [(rplV (m2 : Int) xs q0)]) 24) (by repeat first | exact List.Mem.head _ | apply List.Mem.tail)).2 rfl) (by omega) (by decide) (fun b o hb => (k1.get (e := .own ρ6) (by first | exact P0 | exact P1 | exact P2 | exact P3 | exact P4 | exact P5 | exact P6 | exact P7 | exact P8) b o hb).2) (fun b o hb => hb) (fun b o hb => hb)) rfl ?_
                    refine TL.said (t := 108) rfl (show _ = Value.bool true from congrArg Value.bool ((by rw [← wrapV_ref hv]; exact back_ok hv (by omega) hnb (by omega) htr hw (by omega)))) ?_
                    refine TL.val (OpV.move rfl) rfl ?_
                    refine TL.open rfl rfl ?_
                    refine TL.val (OpV.move rfl) rfl ?_
                    refine TL.open rfl rfl ?_
                    refine TL.val (OpV.move rfl) rfl ?_
                    refine TL.open rfl rfl ?_
                    refine TL.val (OpV.conv Tryd.underlying5 Tryd.underlying3 rfl (by first | exact IntWalk.i64_in _ ⟨by omega, by omega⟩ | rfl)) rfl ?_
                    refine TL.open rfl rfl ?_
                    refine TL.val (OpV.loadA ag_24 rfl (by first | exact Cels.blk P0 rfl | exact Cels.blk P1 rfl | exact Cels.blk P2 rfl | exact Cels.blk P3 rfl | exact Cels.blk P4 rfl | exact Cels.blk P5 rfl | exact Cels.blk P6 rfl | exact Cels.blk P7 rfl | exact Cels.frA hatx rfl | exact Cels.frA haty rfl)) rfl ?_
                    refine TL.said (t := 113) rfl (show _ = Value.agg (aL (rplV (m2 : Int) xs q0)).toArray from rfl) ?_
                    refine TL.open rfl rfl ?_
                    refine TL.slit (qs := #[(0, _)]) (fun _ f => by simp only [List.map_toArray, List.map_cons, List.map_nil]; rw [f.ev (x := .tmp 113) rfl]) (sl_43_1_0 (rplV (m2 : Int) xs q0)) rfl ?_
                    intro b114
                    refine TL.open rfl rfl ?_
                    refine TL.val (OpV.loadA ag_24 rfl (by first | exact Cels.blk P0 rfl | exact Cels.blk P1 rfl | exact Cels.blk P2 rfl | exact Cels.blk P3 rfl | exact Cels.blk P4 rfl | exact Cels.blk P5 rfl | exact Cels.blk P6 rfl | exact Cels.blk P7 rfl | exact Cels.frA hatx rfl | exact Cels.frA haty rfl)) rfl ?_
                    refine TL.said (t := 115) rfl (show _ = Value.agg (aL (rplV (m : Int) xs q0)).toArray from rfl) ?_
                    refine TL.open rfl rfl ?_
                    refine TL.slit (qs := #[(0, _)]) (fun _ f => by simp only [List.map_toArray, List.map_cons, List.map_nil]; rw [f.ev (x := .tmp 115) rfl]) (sl_43_1_0 (rplV (m : Int) xs q0)) rfl ?_
                    intro b116
                    refine TL.open rfl rfl ?_
                    refine TL.call (g := 25) rfl go_25 rfl (fun w1 k1 => carl_r (σ := ρ7) (υ := fun b => w1.heap[b]?) (τ := fun b => w1.heap[b]?) (m : Int) 0 w1 (L.below k1.bel) (⟨l7, h7, h7e⟩ : LsR ρ7 A7 n7 c7 (refW (m2 : Int) xs)) (AsR.of_blk (ls := [(rplV (m2 : Int) xs q0)]) (k1.has (e := .blk b114 (al [(rplV (m2 : Int) xs q0)]) 24) (by repeat first | exact List.Mem.head _ | apply List.Mem.tail)).2 rfl) (AsR.of_blk (ls := [(rplV (m : Int) xs q0)]) (k1.has (e := .blk b116 (al [(rplV (m : Int) xs q0)]) 24) (by repeat first | exact List.Mem.head _ | apply List.Mem.tail)).2 rfl) (by omega) (by decide) (fun b o hb => (k1.get (e := .own ρ7) (by first | exact P0 | exact P1 | exact P2 | exact P3 | exact P4 | exact P5 | exact P6 | exact P7 | exact P8) b o hb).2) (fun b o hb => hb) (fun b o hb => hb)) rfl ?_
                    refine TL.said (t := 117) rfl (show _ = Value.bool true from congrArg Value.bool ((by rw [← wrapV_ref hw]; exact back_ok hw (by omega) hnb (by omega) htr hv (by omega)))) ?_
                    refine TL.val ((by first | exact OpV.pick_t rfl rfl | exact OpV.pick_f rfl rfl)) rfl ?_
                    refine TL.val (OpV.move rfl) rfl ?_
                    refine TL.open rfl rfl ?_
                    refine TL.call (g := 14) rfl go_14 rfl (fun w1 k1 => known29_law w1 (L.below k1.bel)) rfl ?_
                    refine TL.val ((by first | exact OpV.pick_t rfl rfl | exact OpV.pick_f rfl rfl)) rfl ?_
                    refine TL.val (OpV.assign rfl) rfl ?_
                    refine TL.nil ?_
                    refine TE.sub (.cons (t := 8) rfl <| .nil) ?_
                    refine TE.next ?_
                    refine T.ret ?_
                    refine TE.ret1 rfl (ResV.tmp rfl) ?_
                    exact fun w1 k1 => ⟨rfl, k1.bel⟩
end Go.Proofs.YtdmpodpdpncobaaDoor
