/-
  The walk of the law AnchorCarries. Condition: the package-level tables hold what they were laid with.
-/
import Derived.Test.YtdmpodpdpncobaaDoorVg
namespace Go.Proofs.YtdmpodpdpncobaaDoor
open Go.RowKit
set_option linter.unusedSimpArgs false
set_option linter.unusedVariables false
set_option maxRecDepth 100000 in
set_option maxHeartbeats 1000000 in
theorem anchorCarries_law {σ υ : Nat → Option Obj} {A A3 : Option Addr} {n c n3 c3 : Nat} {ls : List LnA} {as_ : List (Int × Int)} (cols : Int) (w : World) (L : LaidW w) (h : LsA σ A n c ls) (h3 : AsR υ A3 n3 c3 as_) (hs : ∀ b o, σ b = some o → w.heap[b]? = some o) (hu : ∀ b o, υ b = some o → w.heap[b]? = some o) : Calls Tryd.prog 5 #[.slice A n c, .int .i64 cols, .slice A3 n3 c3] w (Ret (.bool true) w) := by
  have hn63 := h.1.2.1
  have hc63 := h.1.2.2.1
  have hl1 := h.1.1
  have hn65 := h3.2.1
  have hc65 := h3.2.2.1
  refine calls_T (vs := [.slice A n c, .int .i64 cols, .slice A3 n3 c3]) (L0 := [(0, .slice A n c), (1, .int .i64 cols), (2, .slice A3 n3 c3)]) Tryd.func5 rfl rfl rfl rfl (KOk.frs hs hu) ?_
  refine T.seq ?_
  refine T.region ?_
  refine TL.val (OpV.assign rfl) rfl ?_
  refine TL.nil ?_
  refine TE.next ?_
  refine T.seq ?_
  refine T.seq ?_
  refine T.region ?_
  refine TL.val (OpV.move rfl) rfl ?_
  refine TL.call (g := 13) rfl go_13 rfl (fun w1 k1 => few29_c w1 h (k1.get (e := .fr σ) (by first | exact P0 | exact P1 | exact P2 | exact P3 | exact P4 | exact P5 | exact P6 | exact P7))) rfl ?_
  refine TL.val (OpV.not rfl) rfl ?_
  refine TL.val (OpV.move rfl) rfl ?_
  refine TL.part (t := 16) rfl ?_ ?_
  · intro hg16
    refine TL.shut rfl rfl ?_
    refine TL.shut rfl rfl ?_
    refine TL.shut rfl rfl ?_
    refine TL.val ((by first | exact OpV.pick_t rfl rfl | exact OpV.pick_f rfl rfl)) rfl ?_
    refine TL.nil ?_
    refine TE.sub (.cons (t := 0) rfl <| .cons (t := 1) rfl <| .cons (t := 2) rfl <| .cons (t := 20) rfl <| .nil) ?_
    refine TE.next ?_
    refine T.yes rfl ?_
    refine T.seq ?_
    refine T.region ?_
    refine TL.call (g := 14) rfl go_14 rfl (fun w1 k1 => known29_law w1 (L.below k1.bel)) rfl ?_
    refine TL.val (OpV.assign rfl) rfl ?_
    refine TL.nil ?_
    refine TE.next ?_
    refine T.ret ?_
    refine TE.pass_ret ?_
    refine TE.ret1 rfl (ResV.tmp rfl) ?_
    exact fun w1 k1 => ⟨rfl, k1.bel⟩
  · intro hg16
    have hfew : few29V (ls.map LnA.ln) = true := by simpa using hg16
    have hfb := few29_bd hfew
    have hn12 : n ≤ 12 := by rw [List.length_map, hl1] at hfb; exact hfb.1
    have hcn : ∀ l ∈ ls, l.n ≤ 16 := fun l hl => by have h9 := hfb.2 l.ln (List.mem_map_of_mem hl); have h8 : l.ln.cells.length = l.n := (h.2 l hl).1; omega
    have hb16 : ∀ x ∈ ls.map LnA.cells, x.length ≤ 1000 := fun x hx => by obtain ⟨l, hl, rfl⟩ := List.mem_map.1 hx; have h9 := hcn l hl; have h8 := (h.2 l hl).1; omega
    refine TL.open rfl rfl ?_
    refine TL.val (OpV.move rfl) rfl ?_
    refine TL.open rfl rfl ?_
    refine TL.val (OpV.len Tryd.underlying43 rfl) rfl ?_
    refine TL.open rfl rfl ?_
    refine TL.val (OpV.gtr rfl rfl) rfl ?_
    refine TL.val ((by first | exact OpV.pick_t rfl rfl | exact OpV.pick_f rfl rfl)) rfl ?_
    refine TL.nil ?_
    refine TE.sub (.cons (t := 0) rfl <| .cons (t := 1) rfl <| .cons (t := 2) rfl <| .cons (t := 20) rfl <| .nil) ?_
    refine TE.next ?_
    refine T.cond rfl ?_ ?_
    · intro ht20
      refine T.seq ?_
      refine T.region ?_
      refine TL.call (g := 14) rfl go_14 rfl (fun w1 k1 => known29_law w1 (L.below k1.bel)) rfl ?_
      refine TL.val (OpV.assign rfl) rfl ?_
      refine TL.nil ?_
      refine TE.next ?_
      refine T.ret ?_
      refine TE.pass_ret ?_
      refine TE.ret1 rfl (ResV.tmp rfl) ?_
      exact fun w1 k1 => ⟨rfl, k1.bel⟩
    · intro ht20
      have hn312 := of_decide_eq_false ht20
      refine T.skip ?_
      refine TE.next ?_
      refine T.seq ?_
      refine T.seq ?_
      refine T.region ?_
      refine TL.val (OpV.move rfl) rfl ?_
      refine TL.call (g := 16) rfl go_16 rfl (fun w1 k1 => ruvalid_c w1 h (k1.get (e := .fr σ) (by first | exact P0 | exact P1 | exact P2 | exact P3 | exact P4 | exact P5 | exact P6 | exact P7))) rfl ?_
      refine TL.val (OpV.not rfl) rfl ?_
      refine TL.nil ?_
      refine TE.next ?_
      refine T.cond rfl ?_ ?_
      · intro ht24
        have hv : vLs (ls.map LnA.ln) = false := by simpa using ht24
        refine T.seq ?_
        refine T.region ?_
        refine TL.val (OpV.move rfl) rfl ?_
        refine TL.val (OpV.move rfl) rfl ?_
        refine TL.val (OpV.move rfl) rfl ?_
        refine TL.call (g := 25) rfl go_25 rfl (fun w1 k1 => carl_c (τ := σ) cols 2 w1 (L.below k1.bel) h h3 (AsR_nil _) (by omega) (by omega) (k1.get (e := .fr σ) (by first | exact P0 | exact P1 | exact P2 | exact P3 | exact P4 | exact P5 | exact P6 | exact P7)) (k1.get (e := .fr υ) (by first | exact P0 | exact P1 | exact P2 | exact P3 | exact P4 | exact P5 | exact P6 | exact P7)) (k1.get (e := .fr σ) (by first | exact P0 | exact P1 | exact P2 | exact P3 | exact P4 | exact P5 | exact P6 | exact P7))) rfl ?_
        refine TL.said (t := 28) rfl (show _ = Value.bool true from congrArg Value.bool (car_bad (.inl hv))) ?_
        refine TL.val (OpV.move rfl) rfl ?_
        refine TL.open rfl rfl ?_
        refine TL.call (g := 14) rfl go_14 rfl (fun w1 k1 => known29_law w1 (L.below k1.bel)) rfl ?_
        refine TL.val ((by first | exact OpV.pick_t rfl rfl | exact OpV.pick_f rfl rfl)) rfl ?_
        refine TL.val (OpV.assign rfl) rfl ?_
        refine TL.nil ?_
        refine TE.sub (.cons (t := 6) rfl <| .nil) ?_
        refine TE.next ?_
        refine T.ret ?_
        refine TE.pass_ret ?_
        refine TE.ret1 rfl (ResV.tmp rfl) ?_
        exact fun w1 k1 => ⟨rfl, k1.bel⟩
      · intro ht24
        have hv : vLs (ls.map LnA.ln) = true := by simpa using ht24
        refine T.skip ?_
        refine TE.next ?_
        refine T.seq ?_
        refine T.region ?_
        refine TL.val (OpV.move rfl) rfl ?_
        refine TL.callx (g := 26) rfl go_26 rfl (fun wz k1 => own_x k1 (rlines_c wz h (k1.get (e := .fr σ) (by first | exact P0 | exact P1 | exact P2 | exact P3 | exact P4 | exact P5 | exact P6 | exact P7)) (by omega) hb16)) rfl ?_
        rintro ⟨A7, n7, c7, ρ⟩ ⟨gs, hgs, hge⟩
        replace hgs : GsA ρ A7 n7 c7 gs := hgs
        refine TL.said (t := 33) rfl (show _ = Value.slice A7 n7 c7 from rfl) ?_
        have hgs1 := hgs.1.2.1
        have hgs2 := hgs.1.2.2.1
        have hn7 : n7 ≤ 131072 := by have h9 := okG_len _ 0 (ok_lines hv); rw [← hge, List.length_map, hgs.1.1, List.length_map, hl1] at h9; omega
        refine TL.val (OpV.assign rfl) rfl ?_
        refine TL.nil ?_
        refine TE.next ?_
        refine T.seq ?_
        refine T.seq ?_
        refine T.region ?_
        refine TL.val (OpV.move rfl) rfl ?_
        refine TL.val (OpV.move rfl) rfl ?_
        refine TL.call (g := 21) rfl go_21 rfl (fun w1 k1 => rfine_c cols w1 hgs (fun b o hb => (k1.get (e := .own ρ) (by first | exact P0 | exact P1 | exact P2 | exact P3 | exact P4 | exact P5 | exact P6 | exact P7) b o hb).2)) rfl ?_
        refine TL.val (OpV.not rfl) rfl ?_
        refine TL.nil ?_
        refine TE.sub (.cons (t := 0) rfl <| .cons (t := 1) rfl <| .cons (t := 2) rfl <| .cons (t := 7) rfl <| .cons (t := 37) rfl <| .nil) ?_
        refine TE.next ?_
        refine T.cond rfl ?_ ?_
        · intro ht37
          have hf : fineB (gs.map LgA.lg) cols = false := by simpa using ht37
          refine T.seq ?_
          refine T.region ?_
          refine TL.val (OpV.move rfl) rfl ?_
          refine TL.val (OpV.move rfl) rfl ?_
          refine TL.val (OpV.move rfl) rfl ?_
          refine TL.call (g := 25) rfl go_25 rfl (fun w1 k1 => carl_c (τ := σ) cols 2 w1 (L.below k1.bel) h h3 (AsR_nil _) (by omega) (by omega) (k1.get (e := .fr σ) (by first | exact P0 | exact P1 | exact P2 | exact P3 | exact P4 | exact P5 | exact P6 | exact P7)) (k1.get (e := .fr υ) (by first | exact P0 | exact P1 | exact P2 | exact P3 | exact P4 | exact P5 | exact P6 | exact P7)) (k1.get (e := .fr σ) (by first | exact P0 | exact P1 | exact P2 | exact P3 | exact P4 | exact P5 | exact P6 | exact P7))) rfl ?_
          refine TL.said (t := 41) rfl (show _ = Value.bool true from congrArg Value.bool ((car_bad (.inr (by rw [← hge]; exact hf))))) ?_
          refine TL.val (OpV.move rfl) rfl ?_
          refine TL.open rfl rfl ?_
          refine TL.call (g := 14) rfl go_14 rfl (fun w1 k1 => known29_law w1 (L.below k1.bel)) rfl ?_
          refine TL.val ((by first | exact OpV.pick_t rfl rfl | exact OpV.pick_f rfl rfl)) rfl ?_
          refine TL.val (OpV.assign rfl) rfl ?_
          refine TL.nil ?_
          refine TE.sub (.cons (t := 6) rfl <| .nil) ?_
          refine TE.next ?_
          refine T.ret ?_
          refine TE.pass_ret ?_
          refine TE.ret1 rfl (ResV.tmp rfl) ?_
          exact fun w1 k1 => ⟨rfl, k1.bel⟩
        · intro ht37
          have hf : fineB (gs.map LgA.lg) cols = true := by simpa using ht37
          refine T.skip ?_
          refine TE.next ?_
          refine T.seq ?_
          refine T.region ?_
          refine TL.val (OpV.assign rfl) rfl ?_
          refine TL.nil ?_
          refine TE.next ?_
          refine T.seq ?_
          refine T.seq ?_
          refine T.region ?_
          refine TL.val (OpV.assign rfl) rfl ?_
          refine TL.nil ?_
          refine TE.next ?_
          refine T.block ?_
          refine T.loop (ι := Nat × List (Int × Int) × Option Addr × Nat) (fun ⟨i, out, A8, c8⟩ => i ≤ n3 ∧ out = (as_.take i).map (car1 (ls.map LnA.ln) cols) ∧ (as_.take i).all (hasP (ls.map LnA.ln)) = true ∧ (A8 = none → c8 = 0)) (fun ⟨i, out, A8, c8⟩ => (n3 - i)) (fun ⟨i, out, A8, c8⟩ => [(0, .slice A n c), (1, .int .i64 cols), (2, .slice A3 n3 c3), (7, .slice A7 n7 c7), (8, .slice A8 out.length c8), (9, .int .i64 (i : Int))]) (fun ⟨i, out, A8, c8⟩ => [.row 24 2 A8 out.length c8 (al out), .own ρ, .fr σ, .fr υ]) (0, [], none, 0) ⟨Nat.zero_le _, rfl, rfl, fun _ => rfl⟩ (.cons (t := 0) rfl <| .cons (t := 1) rfl <| .cons (t := 2) rfl <| .cons (t := 7) rfl <| .cons (t := 8) rfl <| .cons (t := 9) rfl <| .nil) ((fun wz kz => Perm.kle (.cons (by first | exact P0 | exact P1 | exact P2 | exact P3 | exact P4 | exact P5 | exact P6 | exact P7) (.cons (by first | exact P0 | exact P1 | exact P2 | exact P3 | exact P4 | exact P5 | exact P6 | exact P7) (.cons (by first | exact P0 | exact P1 | exact P2 | exact P3 | exact P4 | exact P5 | exact P6 | exact P7) (.cons (by first | exact P0 | exact P1 | exact P2 | exact P3 | exact P4 | exact P5 | exact P6 | exact P7) .nil)))) wz (Kle.nilRow 24 2 wz kz))) ?_
          rintro ⟨i, out, A8, c8⟩ hR
          have hol : out.length ≤ n3 := by have h9 := congrArg List.length hR.2.1; rw [List.length_map, List.length_take] at h9; omega
          refine T.seq ?_
          refine T.seq ?_
          refine T.region ?_
          refine TL.val (OpV.move rfl) rfl ?_
          refine TL.val (OpV.move rfl) rfl ?_
          refine TL.val (OpV.len Tryd.underlying43 rfl) rfl ?_
          refine TL.val (OpV.lss rfl rfl) rfl ?_
          refine TL.nil ?_
          refine TE.next ?_
          refine T.cond rfl ?_ ?_
          · intro ht48
            obtain ⟨q1, q2, q3, q4⟩ := hR
            have hi : i < n3 := by have h9 := of_decide_eq_true ht48; omega
            obtain ⟨a, ha⟩ := get_of_lt h3.1 hi
            obtain ⟨b5, o5, hA5, hat5⟩ := h3.2.2.2.2 (by omega)
            obtain ⟨_, rfl, _, hata⟩ := hat5 _ a ha
            refine T.skip ?_
            refine TE.next ?_
            refine T.seq ?_
            refine T.block ?_
            refine T.seq ?_
            refine T.seq ?_
            refine T.region ?_
            refine TL.val (OpV.move rfl) rfl ?_
            refine TL.val (OpV.move rfl) rfl ?_
            refine TL.val (OpV.move rfl) rfl ?_
            refine TL.val (OpV.indexAddr (j := i) se_43 rfl hA5 rfl rfl (by omega)) rfl ?_
            refine TL.val (OpV.loadA ag_24 rfl (by first | exact Cels.blk P0 rfl | exact Cels.blk P1 rfl | exact Cels.blk P2 rfl | exact Cels.blk P3 rfl | exact Cels.blk P4 rfl | exact Cels.blk P5 rfl | exact Cels.frA hata rfl)) rfl ?_
            refine TL.call (g := 18) rfl go_18 rfl (fun w1 k1 => rhas_c a.1 a.2 w1 h (k1.get (e := .fr σ) (by first | exact P0 | exact P1 | exact P2 | exact P3 | exact P4 | exact P5 | exact P6 | exact P7))) rfl ?_
            refine TL.val (OpV.not rfl) rfl ?_
            refine TL.nil ?_
            refine TE.sub (.cons (t := 0) rfl <| .cons (t := 1) rfl <| .cons (t := 2) rfl <| .cons (t := 7) rfl <| .cons (t := 8) rfl <| .cons (t := 9) rfl <| .cons (t := 57) rfl <| .nil) ?_
            refine TE.next ?_
            refine T.cond rfl ?_ ?_
            · intro ht57
              have hP : hasP (ls.map LnA.ln) a = false := by simpa using ht57
              refine T.seq ?_
              refine T.region ?_
              refine TL.val (OpV.move rfl) rfl ?_
              refine TL.val (OpV.move rfl) rfl ?_
              refine TL.val (OpV.move rfl) rfl ?_
              refine TL.call (g := 25) rfl go_25 rfl (fun w1 k1 => carl_c (τ := σ) cols 3 w1 (L.below k1.bel) h h3 (AsR_nil _) (by omega) (by omega) (k1.get (e := .fr σ) (by first | exact P0 | exact P1 | exact P2 | exact P3 | exact P4 | exact P5 | exact P6 | exact P7)) (k1.get (e := .fr υ) (by first | exact P0 | exact P1 | exact P2 | exact P3 | exact P4 | exact P5 | exact P6 | exact P7)) (k1.get (e := .fr σ) (by first | exact P0 | exact P1 | exact P2 | exact P3 | exact P4 | exact P5 | exact P6 | exact P7))) rfl ?_
              refine TL.said (t := 61) rfl (show _ = Value.bool true from congrArg Value.bool ((car_out hv (by rw [← hge]; exact hf) (List.mem_of_getElem? ha) hP))) ?_
              refine TL.val (OpV.move rfl) rfl ?_
              refine TL.open rfl rfl ?_
              refine TL.call (g := 14) rfl go_14 rfl (fun w1 k1 => known29_law w1 (L.below k1.bel)) rfl ?_
              refine TL.val ((by first | exact OpV.pick_t rfl rfl | exact OpV.pick_f rfl rfl)) rfl ?_
              refine TL.val (OpV.assign rfl) rfl ?_
              refine TL.nil ?_
              refine TE.sub (.cons (t := 6) rfl <| .nil) ?_
              refine TE.next ?_
              refine T.ret ?_
              refine TE.pass_ret ?_
              refine TE.out_ret ?_
              refine TE.pass_ret ?_
              refine TE.pass_ret ?_
              refine TE.out_ret ?_
              refine TE.pass_ret ?_
              refine TE.ret1 rfl (ResV.tmp rfl) ?_
              exact fun w1 k1 => ⟨rfl, k1.bel⟩
            · intro ht57
              have hP : hasP (ls.map LnA.ln) (a.1, a.2) = true := by simpa using ht57
              obtain ⟨k, xr, ha1, hXk, hkl, ha2, ha3⟩ := hasP_parts hP
              simp only at ha1 ha2 ha3
              obtain ⟨ii, gl, fi, r0, hfi, hgl, hfrm, hrows, hfk, hkr, hfr, hfo⟩ := to_find hv hkl
              have hto : toV (ls.map LnA.ln) (a.1, a.2) = ((ii : Int), a.2 + (sumK (((ls.map LnA.ln).drop fi).map Ln.cells) (k - fi) : Int)) := by have h9 := to_eq (c := a.2) hfi hfo; rwa [← ha1] at h9
              have hii : ii < n7 := by have h9 := (List.getElem?_eq_some_iff.1 hgl).1; rw [← hge, List.length_map, hgs.1.1] at h9; exact h9
              have hsk1 := sumK_le (((ls.map LnA.ln).drop fi).map Ln.cells) (k - fi)
              have hsk2 := sumL_le (l := ((ls.map LnA.ln).drop fi).map Ln.cells) (fun z hz => by obtain ⟨y, hy, rfl⟩ := List.mem_map.1 hz; exact vLs_row hv (List.mem_of_mem_drop hy))
              rw [List.length_map, List.length_drop, List.length_map, hl1] at hsk2
              have hxr := vLs_row hv (List.mem_of_getElem? hXk)
              have hcar : car1 (ls.map LnA.ln) cols a = frV (gs.map LgA.lg) cols (ii : Int) (a.2 + (sumK (((ls.map LnA.ln).drop fi).map Ln.cells) (k - fi) : Int)) := by rw [car1, show toV (ls.map LnA.ln) a = toV (ls.map LnA.ln) (a.1, a.2) from rfl, hto, hge]
              refine T.skip ?_
              refine TE.next ?_
              refine T.seq ?_
              refine T.region ?_
              refine TL.val (OpV.move rfl) rfl ?_
              refine TL.val (OpV.move rfl) rfl ?_
              refine TL.val (OpV.move rfl) rfl ?_
              refine TL.val (OpV.indexAddr (j := i) se_43 rfl hA5 rfl rfl (by omega)) rfl ?_
              refine TL.val (OpV.loadA ag_24 rfl (by first | exact Cels.blk P0 rfl | exact Cels.blk P1 rfl | exact Cels.blk P2 rfl | exact Cels.blk P3 rfl | exact Cels.blk P4 rfl | exact Cels.blk P5 rfl | exact Cels.frA hata rfl)) rfl ?_
              refine TL.call (g := 19) rfl go_19 rfl (fun w1 k1 => rto_c a.1 a.2 w1 h (by omega) hv hP (k1.get (e := .fr σ) (by first | exact P0 | exact P1 | exact P2 | exact P3 | exact P4 | exact P5 | exact P6 | exact P7))) rfl ?_
              refine TL.said (t := 71) rfl (show _ = Value.tuple #[.int .i64 (ii : Int), .int .i64 (a.2 + (sumK (((ls.map LnA.ln).drop fi).map Ln.cells) (k - fi) : Int))] by rw [hto]) ?_
              refine TL.val (OpV.move rfl) rfl ?_
              refine TL.val (OpV.extract rfl rfl) rfl ?_
              refine TL.val (OpV.extract rfl rfl) rfl ?_
              refine TL.val (OpV.assign rfl) rfl ?_
              refine TL.val (OpV.assign rfl) rfl ?_
              refine TL.nil ?_
              refine TE.sub (.cons (t := 0) rfl <| .cons (t := 1) rfl <| .cons (t := 2) rfl <| .cons (t := 7) rfl <| .cons (t := 8) rfl <| .cons (t := 9) rfl <| .cons (t := 10) rfl <| .cons (t := 11) rfl <| .nil) ?_
              refine TE.next ?_
              refine T.region ?_
              refine TL.val (OpV.move rfl) rfl ?_
              refine TL.val (OpV.move rfl) rfl ?_
              refine TL.val (OpV.move rfl) rfl ?_
              refine TL.val (OpV.move rfl) rfl ?_
              refine TL.val (OpV.move rfl) rfl ?_
              refine TL.call (g := 24) rfl go_24 rfl (fun w1 k1 => rfrom_c cols (a.2 + (sumK (((ls.map LnA.ln).drop fi).map Ln.cells) (k - fi) : Int)) ii w1 hgs hf (by omega) (by omega) (by omega) (fun b o hb => (k1.get (e := .own ρ) (by first | exact P0 | exact P1 | exact P2 | exact P3 | exact P4 | exact P5 | exact P6 | exact P7) b o hb).2)) rfl ?_
              refine TL.said (t := 79) rfl (show _ = Value.agg (aL (car1 (ls.map LnA.ln) cols a)).toArray by rw [hcar]; rfl) ?_
              refine TL.slit (qs := #[(0, _)]) (fun _ f => by simp only [List.map_toArray, List.map_cons, List.map_nil]; rw [f.ev (x := .tmp 79) rfl]) (sl_43_1_0 (car1 (ls.map LnA.ln) cols a)) rfl ?_
              intro b80
              obtain ⟨ti81, hi81, hz81, hs81, hb81⟩ := info_parts inf_24
              refine TL.append rfl rfl Tryd.underlying43 hi81 hz81 hs81 hb81 rfl (by omega) (by first | exact P0 | exact P1 | exact P2 | exact P3 | exact P4 | exact P5) (by first | exact Src.nil | exact Src.blk P0 rfl | exact Src.blk P1 rfl | exact Src.blk P2 rfl | exact Src.blk P3 rfl | exact Src.blk P4 rfl | exact Src.blk P5 rfl | exact Src.row P0 | exact Src.row P1 | exact Src.row P2 | exact Src.row P3 | exact Src.row P4 | exact Src.row P5) (fun h => by cases h) rfl (by omega) (by omega) rfl ?_
              clear hi81 hz81 hs81 hb81 ti81
              intro A81 c81 hn81
              refine TL.val (OpV.assign rfl) rfl ?_
              refine TL.nil ?_
              refine TE.out ?_
              refine TE.sub (.cons (t := 0) rfl <| .cons (t := 1) rfl <| .cons (t := 2) rfl <| .cons (t := 7) rfl <| .cons (t := 8) rfl <| .cons (t := 9) rfl <| .nil) ?_
              refine TE.next ?_
              refine T.region ?_
              refine TL.val (OpV.move rfl) rfl ?_
              refine TL.val (OpV.add rfl rfl (by first | exact IntWalk.i64_in _ ⟨by omega, by omega⟩ | rfl)) rfl ?_
              refine TL.val (OpV.assign rfl) rfl ?_
              refine TL.nil ?_
              exact TE.meet (i + 1, out ++ [car1 (ls.map LnA.ln) cols a], A81, c81) ⟨⟨by omega, by rw [take_snoc ha, List.map_append, q2]; rfl, by rw [take_snoc ha, List.all_append, q3]; simp only [List.all_cons, List.all_nil, show hasP (ls.map LnA.ln) a = true from hP]; rfl, hn81⟩, by simp only; omega⟩ (.cons (t := 0) (by first | rfl | (simp [lk]; done)) <| .cons (t := 1) (by first | rfl | (simp [lk]; done)) <| .cons (t := 2) (by first | rfl | (simp [lk]; done)) <| .cons (t := 7) (by first | rfl | (simp [lk]; done)) <| .cons (t := 8) (by simp only [List.length_append, List.length_cons, List.length_nil]; rfl) <| .cons (t := 9) (by first | rfl | (simp [lk]; done)) <| .nil) ((by simp only [al_snoc, List.length_append, List.length_cons, List.length_nil]; exact Perm.kle (.cons (by first | exact P0 | exact P1 | exact P2 | exact P3 | exact P4 | exact P5 | exact P6 | exact P7) (.cons (by first | exact P0 | exact P1 | exact P2 | exact P3 | exact P4 | exact P5 | exact P6 | exact P7) (.cons (by first | exact P0 | exact P1 | exact P2 | exact P3 | exact P4 | exact P5 | exact P6 | exact P7) (.cons (by first | exact P0 | exact P1 | exact P2 | exact P3 | exact P4 | exact P5 | exact P6 | exact P7) .nil))))))
          · intro ht48
            obtain ⟨q1, q2, q3, q4⟩ := hR
            have hin : ¬ i < n3 := by have h9 := of_decide_eq_false ht48; omega
            rw [List.take_of_length_le (by rw [h3.1]; omega)] at q2 q3
            refine T.exit ?_
            refine TE.pass_exit ?_
            refine TE.pass_exit ?_
            refine TE.here ?_
            refine TE.next ?_
            refine T.seq ?_
            refine T.region ?_
            refine TL.val (OpV.move rfl) rfl ?_
            refine TL.kle (Kle.nilRow 24 2) ?_
            obtain ⟨ti83, hi83, hz83, hs83, hb83⟩ := info_parts inf_24
            refine TL.append rfl rfl Tryd.underlying43 hi83 hz83 hs83 hb83 rfl (by omega) (by first | exact P0 | exact P1 | exact P2 | exact P3 | exact P4 | exact P5) (Src.sl aL_len (by decide) (by first | exact P0 | exact P1 | exact P2 | exact P3 | exact P4 | exact P5 | exact P6 | exact P7) h3) (fun h9 => h3.2.2.2.1 h9) (al_one _) (by omega) (by omega) rfl ?_
            clear hi83 hz83 hs83 hb83 ti83
            intro A83 c83 hn83
            rw [List.nil_append, ← al]
            refine TL.said (t := 83) rfl (show _ = Value.slice A83 n3 c83 by rw [Nat.zero_add]) ?_
            rw [Nat.zero_add]
            refine TL.val (OpV.assign rfl) rfl ?_
            refine TL.nil ?_
            refine TE.sub (.cons (t := 0) rfl <| .cons (t := 1) rfl <| .cons (t := 2) rfl <| .cons (t := 8) rfl <| .cons (t := 12) rfl <| .nil) ?_
            refine TE.next ?_
            refine T.seq ?_
            refine T.region ?_
            refine TL.val (OpV.move rfl) rfl ?_
            refine TL.val (OpV.move rfl) rfl ?_
            refine TL.val (OpV.move rfl) rfl ?_
            refine TL.val (OpV.move rfl) rfl ?_
            refine TL.call (g := 25) rfl go_25 rfl (fun w1 k1 => carl_c (υ := fun b => w1.heap[b]?) (τ := fun b => w1.heap[b]?) cols 0 w1 (L.below k1.bel) h (SlR.of_row aL_len (k1.atRow (xs := al as_) (by first | exact P0 | exact P1 | exact P2 | exact P3 | exact P4 | exact P5 | exact P6 | exact P7)) h3.1 : AsR _ A83 n3 c83 as_) (SlR.of_row aL_len (k1.atRow (xs := al out) (by first | exact P0 | exact P1 | exact P2 | exact P3 | exact P4 | exact P5 | exact P6 | exact P7)) rfl : AsR _ A8 out.length c8 out) (by omega) (by omega) (k1.get (e := .fr σ) (by first | exact P0 | exact P1 | exact P2 | exact P3 | exact P4 | exact P5 | exact P6 | exact P7)) (fun b o hb => hb) (fun b o hb => hb)) rfl ?_
            refine TL.said (t := 88) rfl (show _ = Value.bool true from congrArg Value.bool ((by rw [q2]; exact car_ok hv (by rw [← hge]; exact hf) q3))) ?_
            refine TL.val (OpV.move rfl) rfl ?_
            refine TL.open rfl rfl ?_
            refine TL.val (OpV.move rfl) rfl ?_
            refine TL.open rfl rfl ?_
            refine TL.val (OpV.move rfl) rfl ?_
            refine TL.open rfl rfl ?_
            refine TL.call (g := 27) rfl go_27 rfl (fun w1 k1 => asame_c (σ := fun b => w1.heap[b]?) w1 (SlR.of_row aL_len (k1.atRow (xs := al as_) (by first | exact P0 | exact P1 | exact P2 | exact P3 | exact P4 | exact P5 | exact P6 | exact P7)) h3.1 : AsR _ A83 n3 c83 as_) h3 (fun b o hb => hb) (k1.get (e := .fr υ) (by first | exact P0 | exact P1 | exact P2 | exact P3 | exact P4 | exact P5 | exact P6 | exact P7))) rfl ?_
            refine TL.said (t := 92) rfl (show _ = Value.bool true from congrArg Value.bool ((by simp))) ?_
            refine TL.val ((by first | exact OpV.pick_t rfl rfl | exact OpV.pick_f rfl rfl)) rfl ?_
            refine TL.val (OpV.move rfl) rfl ?_
            refine TL.open rfl rfl ?_
            refine TL.call (g := 14) rfl go_14 rfl (fun w1 k1 => known29_law w1 (L.below k1.bel)) rfl ?_
            refine TL.val ((by first | exact OpV.pick_t rfl rfl | exact OpV.pick_f rfl rfl)) rfl ?_
            refine TL.val (OpV.assign rfl) rfl ?_
            refine TL.nil ?_
            refine TE.sub (.cons (t := 6) rfl <| .nil) ?_
            refine TE.next ?_
            refine T.ret ?_
            refine TE.ret1 rfl (ResV.tmp rfl) ?_
            exact fun w1 k1 => ⟨rfl, k1.bel⟩
end Go.Proofs.YtdmpodpdpncobaaDoor
