/-
  The walk of the law ReflowLines. Condition: the package-level tables hold what they were laid with.
-/
import Derived.Test.YtdmpodpdpncobaaDoorXh
import Derived.Test.YtdmpodpdpncobaaDoorXe
namespace Go.Proofs.YtdmpodpdpncobaaDoor
open Go.RowKit
set_option linter.unusedSimpArgs false
set_option linter.unusedVariables false
theorem go_37 : isGo Tryd.prog 37 = true := by kernel_rfl
theorem go_40 : isGo Tryd.prog 40 = true := by kernel_rfl
theorem go_45 : isGo Tryd.prog 45 = true := by kernel_rfl
theorem go_46 : isGo Tryd.prog 46 = true := by kernel_rfl
set_option maxRecDepth 100000 in
set_option maxHeartbeats 1000000 in
theorem reflowLines_law {σ υ : Nat → Option Obj} {A A3 : Option Addr} {n c n3 c3 : Nat} {ls : List LnA} {as_ : List (Int × Int)} (cols : Int) (w : World) (L : LaidW w) (h : LsA σ A n c ls) (h3 : AsR υ A3 n3 c3 as_) (hs : ∀ b o, σ b = some o → w.heap[b]? = some o) (hu : ∀ b o, υ b = some o → w.heap[b]? = some o) : Calls Tryd.prog 10 #[.slice A n c, .int .i64 cols, .slice A3 n3 c3] w (Ret (.bool true) w) := by
 have hn63 := h.1.2.1
 have hc63 := h.1.2.2.1
 have hl1 := h.1.1
 have hXl : (ls.map LnA.ln).length = n := by rw [List.length_map]; exact hl1
 have hn65 := h3.2.1
 have hc65 := h3.2.2.1
 refine calls_T (vs := [.slice A n c, .int .i64 cols, .slice A3 n3 c3]) (L0 := [(0, .slice A n c), (1, .int .i64 cols), (2, .slice A3 n3 c3)]) Tryd.func10 rfl rfl rfl rfl (KOk.frs hs hu) ?_
 refine T.seq ?_
 refine T.region ?_
 refine TL.val (OpV.assign rfl) rfl ?_
 refine TL.nil ?_
 refine TE.next ?_
 refine T.seq ?_
 refine T.seq ?_
 refine T.region ?_
 refine TL.val (OpV.move rfl) rfl ?_
 refine TL.call (g := 40) rfl go_40 rfl (fun w1 k1 => few29_c w1 h (k1.get (e := .fr σ) (by first | exact P0 | exact P1 | exact P2 | exact P3 | exact P4 | exact P5 | exact P6 | exact P7 | exact P8))) rfl ?_
 refine TL.val (OpV.not rfl) rfl ?_
 refine TL.val (OpV.move rfl) rfl ?_
 refine TL.part (t := 19) rfl ?_ ?_
 ·
  intro hg19
  refine TL.shut rfl rfl ?_
  refine TL.shut rfl rfl ?_
  refine TL.shut rfl rfl ?_
  refine TL.val ((by first | exact OpV.pick_t rfl rfl | exact OpV.pick_f rfl rfl)) rfl ?_
  refine TL.nil ?_
  refine TE.sub (.cons (t := 0) rfl <| .cons (t := 1) rfl <| .cons (t := 2) rfl <| .cons (t := 23) rfl <| .nil) ?_
  refine TE.next ?_
  refine T.yes rfl ?_
  refine T.seq ?_
  refine T.region ?_
  refine TL.call (g := 37) rfl go_37 rfl (fun w1 k1 => known30_law w1 (L.below k1.bel)) rfl ?_
  refine TL.val (OpV.assign rfl) rfl ?_
  refine TL.nil ?_
  refine TE.next ?_
  refine T.ret ?_
  refine TE.pass_ret ?_
  refine TE.ret1 rfl (ResV.tmp rfl) ?_
  exact fun w1 k1 => ⟨rfl, k1.bel⟩
 ·
  intro hg19
  have hfew : few29V (ls.map LnA.ln) = true := by simpa using hg19
  have hfb := few29_bd hfew
  have hn12 : n ≤ 12 := by rw [List.length_map, hl1] at hfb; exact hfb.1
  have hcn : ∀ l ∈ ls, l.n ≤ 16 := fun l hl => by have h9 := hfb.2 l.ln (List.mem_map_of_mem hl); have h8 : l.ln.cells.length = l.n := (h.2 l hl).1; omega
  have hb16 : ∀ x ∈ ls.map LnA.cells, x.length ≤ 1000 := fun x hx => by obtain ⟨l, hl, rfl⟩ := List.mem_map.1 hx; have h9 := hcn l hl; have h8 := (h.2 l hl).1; omega
  refine TL.open rfl rfl ?_
  refine TL.val (OpV.move rfl) rfl ?_
  refine TL.open rfl rfl ?_
  refine TL.val (OpV.len Tryd.underlying43 rfl) rfl ?_
  refine TL.open rfl rfl ?_
  refine TL.val (OpV.gtr rfl rfl) rfl ?_
  refine TL.val ((by first | exact OpV.pick_t rfl rfl | exact OpV.pick_f rfl rfl)) rfl ?_
  refine TL.nil ?_
  refine TE.sub (.cons (t := 0) rfl <| .cons (t := 1) rfl <| .cons (t := 2) rfl <| .cons (t := 23) rfl <| .nil) ?_
  refine TE.next ?_
  refine T.cond rfl ?_ ?_
  ·
   intro ht23
   refine T.seq ?_
   refine T.region ?_
   refine TL.call (g := 37) rfl go_37 rfl (fun w1 k1 => known30_law w1 (L.below k1.bel)) rfl ?_
   refine TL.val (OpV.assign rfl) rfl ?_
   refine TL.nil ?_
   refine TE.next ?_
   refine T.ret ?_
   refine TE.pass_ret ?_
   refine TE.ret1 rfl (ResV.tmp rfl) ?_
   exact fun w1 k1 => ⟨rfl, k1.bel⟩
  ·
   intro ht23
   have hn38 := of_decide_eq_false ht23
   refine T.skip ?_
   refine TE.next ?_
   refine T.seq ?_
   refine T.region ?_
   refine TL.val (OpV.move rfl) rfl ?_
   refine TL.callx (g := 15) rfl go_15 rfl (fun wz k1 => own_x k1 (rcopy_c wz h (k1.get (e := .fr σ) (by first | exact P0 | exact P1 | exact P2 | exact P3 | exact P4 | exact P5 | exact P6 | exact P7 | exact P8)) (by omega) (fun l hl => by have h9 := hcn l hl; omega))) rfl ?_
   rintro ⟨A4, n4, c4, ρ4⟩ ⟨l4, h4, h4e⟩
   replace h4 : LsA ρ4 A4 n4 c4 l4 := h4
   replace h4e : l4.map LnA.ln = (ls.map LnA.ln) := h4e
   have hn4 : n4 = n := by have h9 := congrArg List.length h4e; rw [List.length_map, List.length_map, h4.1.1, hl1] at h9; exact h9
   refine TL.said (t := 26) rfl (show SV.v ⟨A4, n4, c4, ρ4⟩ = Value.slice A4 n4 c4 from rfl) ?_
   refine TL.val (OpV.assign rfl) rfl ?_
   refine TL.nil ?_
   refine TE.next ?_
   refine T.seq ?_
   refine T.seq ?_
   refine T.region ?_
   refine TL.val (OpV.move rfl) rfl ?_
   refine TL.call (g := 16) rfl go_16 rfl (fun w1 k1 => ruvalid_c w1 h (k1.get (e := .fr σ) (by first | exact P0 | exact P1 | exact P2 | exact P3 | exact P4 | exact P5 | exact P6 | exact P7 | exact P8))) rfl ?_
   refine TL.val (OpV.not rfl) rfl ?_
   refine TL.val (OpV.move rfl) rfl ?_
   refine TL.part (t := 30) rfl ?_ ?_
   ·
    intro hg30
    have hbad : vLs (ls.map LnA.ln) = false ∨ fineB (lgG [] 0 (ls.map LnA.ln)) cols = false := .inl (by simpa using hg30)
    refine TL.shut rfl rfl ?_
    refine TL.shut rfl rfl ?_
    refine TL.shut rfl rfl ?_
    refine TL.shut rfl rfl ?_
    refine TL.shut rfl rfl ?_
    refine TL.val ((by first | exact OpV.pick_t rfl rfl | exact OpV.pick_f rfl rfl)) rfl ?_
    refine TL.nil ?_
    refine TE.sub (.cons (t := 0) rfl <| .cons (t := 1) rfl <| .cons (t := 2) rfl <| .cons (t := 7) rfl <| .cons (t := 36) rfl <| .nil) ?_
    refine TE.next ?_
    refine T.yes rfl ?_
    refine T.seq ?_
    refine T.region ?_
    refine TL.val (OpV.move rfl) rfl ?_
    refine TL.val (OpV.move rfl) rfl ?_
    refine TL.val (OpV.move rfl) rfl ?_
    refine TL.call (g := 44) rfl go_44 rfl (fun w1 k1 => flows_r (σ := ρ4) (υ := υ) (τ := σ) (ω := σ) cols 2 w1 (L.below k1.bel) (⟨l4, h4, h4e⟩ : LsR ρ4 A4 n4 c4 (ls.map LnA.ln)) h3 (LsR_nil _) (AsR_nil _) (by omega) (by omega) (fun b o hb => (k1.get (e := .own ρ4) (by first | exact P0 | exact P1 | exact P2 | exact P3 | exact P4 | exact P5 | exact P6 | exact P7 | exact P8) b o hb).2) (k1.get (e := .fr υ) (by first | exact P0 | exact P1 | exact P2 | exact P3 | exact P4 | exact P5 | exact P6 | exact P7 | exact P8)) (k1.get (e := .fr σ) (by first | exact P0 | exact P1 | exact P2 | exact P3 | exact P4 | exact P5 | exact P6 | exact P7 | exact P8)) (k1.get (e := .fr σ) (by first | exact P0 | exact P1 | exact P2 | exact P3 | exact P4 | exact P5 | exact P6 | exact P7 | exact P8))) rfl ?_
    refine TL.said (t := 40) rfl (show _ = Value.bool true from congrArg Value.bool (flows_bad hbad)) ?_
    refine TL.val (OpV.move rfl) rfl ?_
    refine TL.open rfl rfl ?_
    refine TL.call (g := 37) rfl go_37 rfl (fun w1 k1 => known30_law w1 (L.below k1.bel)) rfl ?_
    refine TL.val ((by first | exact OpV.pick_t rfl rfl | exact OpV.pick_f rfl rfl)) rfl ?_
    refine TL.val (OpV.assign rfl) rfl ?_
    refine TL.nil ?_
    refine TE.sub (.cons (t := 6) rfl <| .nil) ?_
    refine TE.next ?_
    refine T.ret ?_
    refine TE.pass_ret ?_
    refine TE.ret1 rfl (ResV.tmp rfl) ?_
    exact fun w1 k1 => ⟨rfl, k1.bel⟩
   ·
    intro hg30
    have hv : vLs (ls.map LnA.ln) = true := by simpa using hg30
    refine TL.open rfl rfl ?_
    refine TL.val (OpV.move rfl) rfl ?_
    refine TL.open rfl rfl ?_
    refine TL.callx (g := 26) rfl go_26 rfl (fun wz k1 => own_x k1 (rlines_c wz h (k1.get (e := .fr σ) (by first | exact P0 | exact P1 | exact P2 | exact P3 | exact P4 | exact P5 | exact P6 | exact P7 | exact P8)) (by omega) hb16)) rfl ?_
    rintro ⟨A7, n7, c7, ρ7⟩ ⟨gs7, hgs7, hge7⟩
    replace hgs7 : GsA ρ7 A7 n7 c7 gs7 := hgs7
    refine TL.said (t := 32) rfl (show _ = Value.slice A7 n7 c7 from rfl) ?_
    have hgs71 := hgs7.1.2.1
    have hgs72 := hgs7.1.2.2.1
    have hn7 : n7 ≤ 131072 := by have h9 := okG_len _ 0 (ok_lines hv); rw [← hge7, List.length_map, hgs7.1.1, List.length_map, hl1] at h9; omega
    refine TL.open rfl rfl ?_
    refine TL.val (OpV.move rfl) rfl ?_
    refine TL.open rfl rfl ?_
    refine TL.call (g := 21) rfl go_21 rfl (fun w1 k1 => rfine_c cols w1 hgs7 (fun b o hb => (k1.get (e := .own ρ7) (by first | exact P0 | exact P1 | exact P2 | exact P3 | exact P4 | exact P5 | exact P6 | exact P7 | exact P8) b o hb).2)) rfl ?_
    refine TL.open rfl rfl ?_
    refine TL.val (OpV.not rfl) rfl ?_
    refine TL.val ((by first | exact OpV.pick_t rfl rfl | exact OpV.pick_f rfl rfl)) rfl ?_
    refine TL.nil ?_
    refine TE.sub (.cons (t := 0) rfl <| .cons (t := 1) rfl <| .cons (t := 2) rfl <| .cons (t := 7) rfl <| .cons (t := 36) rfl <| .nil) ?_
    refine TE.next ?_
    refine T.cond rfl ?_ ?_
    ·
     intro ht36
     have hbad : vLs (ls.map LnA.ln) = false ∨ fineB (lgG [] 0 (ls.map LnA.ln)) cols = false := .inr (by rw [← hge7]; simpa using ht36)
     refine T.seq ?_
     refine T.region ?_
     refine TL.val (OpV.move rfl) rfl ?_
     refine TL.val (OpV.move rfl) rfl ?_
     refine TL.val (OpV.move rfl) rfl ?_
     refine TL.call (g := 44) rfl go_44 rfl (fun w1 k1 => flows_r (σ := ρ4) (υ := υ) (τ := σ) (ω := σ) cols 2 w1 (L.below k1.bel) (⟨l4, h4, h4e⟩ : LsR ρ4 A4 n4 c4 (ls.map LnA.ln)) h3 (LsR_nil _) (AsR_nil _) (by omega) (by omega) (fun b o hb => (k1.get (e := .own ρ4) (by first | exact P0 | exact P1 | exact P2 | exact P3 | exact P4 | exact P5 | exact P6 | exact P7 | exact P8) b o hb).2) (k1.get (e := .fr υ) (by first | exact P0 | exact P1 | exact P2 | exact P3 | exact P4 | exact P5 | exact P6 | exact P7 | exact P8)) (k1.get (e := .fr σ) (by first | exact P0 | exact P1 | exact P2 | exact P3 | exact P4 | exact P5 | exact P6 | exact P7 | exact P8)) (k1.get (e := .fr σ) (by first | exact P0 | exact P1 | exact P2 | exact P3 | exact P4 | exact P5 | exact P6 | exact P7 | exact P8))) rfl ?_
     refine TL.said (t := 40) rfl (show _ = Value.bool true from congrArg Value.bool (flows_bad hbad)) ?_
     refine TL.val (OpV.move rfl) rfl ?_
     refine TL.open rfl rfl ?_
     refine TL.call (g := 37) rfl go_37 rfl (fun w1 k1 => known30_law w1 (L.below k1.bel)) rfl ?_
     refine TL.val ((by first | exact OpV.pick_t rfl rfl | exact OpV.pick_f rfl rfl)) rfl ?_
     refine TL.val (OpV.assign rfl) rfl ?_
     refine TL.nil ?_
     refine TE.sub (.cons (t := 6) rfl <| .nil) ?_
     refine TE.next ?_
     refine T.ret ?_
     refine TE.pass_ret ?_
     refine TE.ret1 rfl (ResV.tmp rfl) ?_
     exact fun w1 k1 => ⟨rfl, k1.bel⟩
    ·
     intro ht36
     have hf : fineB (lgG [] 0 (ls.map LnA.ln)) cols = true := by rw [← hge7]; simpa using ht36
     refine T.skip ?_
     refine TE.next ?_
     refine T.seq ?_
     refine T.region ?_
     refine TL.val (OpV.assign rfl) rfl ?_
     refine TL.nil ?_
     refine TE.next ?_
     refine T.seq ?_
     refine T.seq ?_
     refine T.region ?_
     refine TL.val (OpV.assign rfl) rfl ?_
     refine TL.nil ?_
     refine TE.next ?_
     refine T.block ?_
     refine T.loop (ι := Nat × List (Int × Int) × Option Addr × Nat) (fun ⟨i, out, A8, c8⟩ => i ≤ n3 ∧ out = (as_.take i).map (car1 (ls.map LnA.ln) cols) ∧ (as_.take i).all (hasP (ls.map LnA.ln)) = true ∧ (A8 = none → c8 = 0)) (fun ⟨i, out, A8, c8⟩ => (n3 - i)) (fun ⟨i, out, A8, c8⟩ => [(0, .slice A n c), (1, .int .i64 cols), (2, .slice A3 n3 c3), (7, .slice A4 n4 c4), (8, .slice A8 out.length c8), (9, .int .i64 (i : Int))]) (fun ⟨i, out, A8, c8⟩ => [.row 24 2 A8 out.length c8 (al out), .own ρ4, .fr σ, .fr υ]) (0, [], none, 0) ⟨Nat.zero_le _, rfl, rfl, fun _ => rfl⟩ (.cons (t := 0) rfl <| .cons (t := 1) rfl <| .cons (t := 2) rfl <| .cons (t := 7) rfl <| .cons (t := 8) rfl <| .cons (t := 9) rfl <| .nil) ((fun wz kz => Perm.kle (.cons (by first | exact P0 | exact P1 | exact P2 | exact P3 | exact P4 | exact P5 | exact P6 | exact P7 | exact P8) (.cons (by first | exact P0 | exact P1 | exact P2 | exact P3 | exact P4 | exact P5 | exact P6 | exact P7 | exact P8) (.cons (by first | exact P0 | exact P1 | exact P2 | exact P3 | exact P4 | exact P5 | exact P6 | exact P7 | exact P8) (.cons (by first | exact P0 | exact P1 | exact P2 | exact P3 | exact P4 | exact P5 | exact P6 | exact P7 | exact P8) .nil)))) wz (Kle.nilRow 24 2 wz kz))) ?_
     rintro ⟨i, out, A8, c8⟩ hR
     have hol : out.length ≤ n3 := by have h9 := congrArg List.length hR.2.1; rw [List.length_map, List.length_take] at h9; omega
     refine T.seq ?_
     refine T.seq ?_
     refine T.region ?_
     refine TL.val (OpV.move rfl) rfl ?_
     refine TL.val (OpV.move rfl) rfl ?_
     refine TL.val (OpV.len Tryd.underlying43 rfl) rfl ?_
     refine TL.val (OpV.lss rfl rfl) rfl ?_
     refine TL.nil ?_
     refine TE.next ?_
     refine T.cond rfl ?_ ?_
     ·
      intro ht47
      obtain ⟨q1, q2, q3, q4⟩ := hR
      have hi : i < n3 := by have h9 := of_decide_eq_true ht47; omega
      obtain ⟨a, ha⟩ := get_of_lt h3.1 hi
      obtain ⟨b5, o5, hA5, hat5⟩ := h3.2.2.2.2 (by omega)
      obtain ⟨_, rfl, _, hata⟩ := hat5 _ a ha
      refine T.skip ?_
      refine TE.next ?_
      refine T.seq ?_
      refine T.block ?_
      refine T.seq ?_
      refine T.seq ?_
      refine T.region ?_
      refine TL.val (OpV.move rfl) rfl ?_
      refine TL.val (OpV.move rfl) rfl ?_
      refine TL.val (OpV.move rfl) rfl ?_
      refine TL.val (OpV.indexAddr (j := i) se_43 rfl hA5 rfl rfl (by omega)) rfl ?_
      refine TL.val (OpV.loadA ag_24 rfl (by first | exact Cels.blk P0 rfl | exact Cels.blk P1 rfl | exact Cels.blk P2 rfl | exact Cels.blk P3 rfl | exact Cels.blk P4 rfl | exact Cels.blk P5 rfl | exact Cels.frA hata rfl | exact Cels.ownA (hatl) rfl)) rfl ?_
      refine TL.call (g := 18) rfl go_18 rfl (fun w1 k1 => rhas_c a.1 a.2 w1 h (k1.get (e := .fr σ) (by first | exact P0 | exact P1 | exact P2 | exact P3 | exact P4 | exact P5 | exact P6 | exact P7 | exact P8))) rfl ?_
      refine TL.val (OpV.not rfl) rfl ?_
      refine TL.nil ?_
      refine TE.sub (.cons (t := 0) rfl <| .cons (t := 1) rfl <| .cons (t := 2) rfl <| .cons (t := 7) rfl <| .cons (t := 8) rfl <| .cons (t := 9) rfl <| .cons (t := 56) rfl <| .nil) ?_
      refine TE.next ?_
      refine T.cond rfl ?_ ?_
      ·
       intro ht56
       have hP : hasP (ls.map LnA.ln) a = false := by simpa using ht56
       refine T.seq ?_
       refine T.region ?_
       refine TL.val (OpV.move rfl) rfl ?_
       refine TL.val (OpV.move rfl) rfl ?_
       refine TL.val (OpV.move rfl) rfl ?_
       refine TL.call (g := 44) rfl go_44 rfl (fun w1 k1 => flows_r (σ := ρ4) (υ := υ) (τ := σ) (ω := σ) cols 3 w1 (L.below k1.bel) (⟨l4, h4, h4e⟩ : LsR ρ4 A4 n4 c4 (ls.map LnA.ln)) h3 (LsR_nil _) (AsR_nil _) (by omega) (by omega) (fun b o hb => (k1.get (e := .own ρ4) (by first | exact P0 | exact P1 | exact P2 | exact P3 | exact P4 | exact P5 | exact P6 | exact P7 | exact P8) b o hb).2) (k1.get (e := .fr υ) (by first | exact P0 | exact P1 | exact P2 | exact P3 | exact P4 | exact P5 | exact P6 | exact P7 | exact P8)) (k1.get (e := .fr σ) (by first | exact P0 | exact P1 | exact P2 | exact P3 | exact P4 | exact P5 | exact P6 | exact P7 | exact P8)) (k1.get (e := .fr σ) (by first | exact P0 | exact P1 | exact P2 | exact P3 | exact P4 | exact P5 | exact P6 | exact P7 | exact P8))) rfl ?_
       refine TL.said (t := 60) rfl (show _ = Value.bool true from congrArg Value.bool ((flows_out hv hf (List.mem_of_getElem? ha) hP))) ?_
       refine TL.val (OpV.move rfl) rfl ?_
       refine TL.open rfl rfl ?_
       refine TL.call (g := 37) rfl go_37 rfl (fun w1 k1 => known30_law w1 (L.below k1.bel)) rfl ?_
       refine TL.val ((by first | exact OpV.pick_t rfl rfl | exact OpV.pick_f rfl rfl)) rfl ?_
       refine TL.val (OpV.assign rfl) rfl ?_
       refine TL.nil ?_
       refine TE.sub (.cons (t := 6) rfl <| .nil) ?_
       refine TE.next ?_
       refine T.ret ?_
       refine TE.pass_ret ?_
       refine TE.out_ret ?_
       refine TE.pass_ret ?_
       refine TE.pass_ret ?_
       refine TE.out_ret ?_
       refine TE.pass_ret ?_
       refine TE.ret1 rfl (ResV.tmp rfl) ?_
       exact fun w1 k1 => ⟨rfl, k1.bel⟩
      ·
       intro ht56
       have hP : hasP (ls.map LnA.ln) (a.1, a.2) = true := by simpa using ht56
       obtain ⟨k, xr, ha1, hXk, hkl, ha2, ha3⟩ := hasP_parts hP
       simp only at ha1 ha2 ha3
       obtain ⟨ii, gl, fi, r0, hfi, hgl, hfrm, hrows, hfk, hkr, hfr, hfo⟩ := to_find hv hkl
       have hto : toV (ls.map LnA.ln) (a.1, a.2) = ((ii : Int), (a.2 + (sumK (((ls.map LnA.ln).drop fi).map Ln.cells) (k - fi) : Int))) := by have h9 := to_eq (c := a.2) hfi hfo; rwa [← ha1] at h9
       have hsk1 := sumK_le (((ls.map LnA.ln).drop fi).map Ln.cells) (k - fi)
       have hsk2 := sumL_le (l := ((ls.map LnA.ln).drop fi).map Ln.cells) (fun z hz => by obtain ⟨y, hy, rfl⟩ := List.mem_map.1 hz; exact vLs_row hv (List.mem_of_mem_drop hy))
       rw [List.length_map, List.length_drop, List.length_map, hl1] at hsk2
       have hxr := vLs_row hv (List.mem_of_getElem? hXk)
       refine T.skip ?_
       refine TE.next ?_
       refine T.seq ?_
       refine T.region ?_
       refine TL.val (OpV.move rfl) rfl ?_
       refine TL.val (OpV.move rfl) rfl ?_
       refine TL.val (OpV.move rfl) rfl ?_
       refine TL.val (OpV.indexAddr (j := i) se_43 rfl hA5 rfl rfl (by omega)) rfl ?_
       refine TL.val (OpV.loadA ag_24 rfl (by first | exact Cels.blk P0 rfl | exact Cels.blk P1 rfl | exact Cels.blk P2 rfl | exact Cels.blk P3 rfl | exact Cels.blk P4 rfl | exact Cels.blk P5 rfl | exact Cels.frA hata rfl | exact Cels.ownA (hatl) rfl)) rfl ?_
       refine TL.call (g := 19) rfl go_19 rfl (fun w1 k1 => rto_c a.1 a.2 w1 h (by omega) hv hP (k1.get (e := .fr σ) (by first | exact P0 | exact P1 | exact P2 | exact P3 | exact P4 | exact P5 | exact P6 | exact P7 | exact P8))) rfl ?_
       refine TL.said (t := 70) rfl (show _ = Value.tuple #[.int .i64 (ii : Int), .int .i64 (a.2 + (sumK (((ls.map LnA.ln).drop fi).map Ln.cells) (k - fi) : Int))] by rw [hto]) ?_
       refine TL.val (OpV.move rfl) rfl ?_
       refine TL.val (OpV.extract rfl rfl) rfl ?_
       refine TL.val (OpV.extract rfl rfl) rfl ?_
       refine TL.val (OpV.assign rfl) rfl ?_
       refine TL.val (OpV.assign rfl) rfl ?_
       refine TL.nil ?_
       refine TE.sub (.cons (t := 0) rfl <| .cons (t := 1) rfl <| .cons (t := 2) rfl <| .cons (t := 7) rfl <| .cons (t := 8) rfl <| .cons (t := 9) rfl <| .cons (t := 10) rfl <| .cons (t := 11) rfl <| .nil) ?_
       refine TE.next ?_
       refine T.region ?_
       refine TL.val (OpV.move rfl) rfl ?_
       refine TL.val (OpV.move rfl) rfl ?_
       refine TL.callx (g := 26) rfl go_26 rfl (fun wz k1 => own_x k1 (rlines_c wz h (k1.get (e := .fr σ) (by first | exact P0 | exact P1 | exact P2 | exact P3 | exact P4 | exact P5 | exact P6 | exact P7 | exact P8)) (by omega) hb16)) rfl ?_
       rintro ⟨A6, n6, c6, ρ6⟩ ⟨gs6, hgs6, hge6⟩
       replace hgs6 : GsA ρ6 A6 n6 c6 gs6 := hgs6
       refine TL.said (t := 75) rfl (show _ = Value.slice A6 n6 c6 from rfl) ?_
       have hgs61 := hgs6.1.2.1
       have hgs62 := hgs6.1.2.2.1
       have hn6 : n6 ≤ 131072 := by have h9 := okG_len _ 0 (ok_lines hv); rw [← hge6, List.length_map, hgs6.1.1, List.length_map, hl1] at h9; omega
       have hii : ii < n6 := by have h9 := (List.getElem?_eq_some_iff.1 hgl).1; rw [← hge6, List.length_map, hgs6.1.1] at h9; exact h9
       have hcar : car1 (ls.map LnA.ln) cols a = frV (gs6.map LgA.lg) cols (ii : Int) (a.2 + (sumK (((ls.map LnA.ln).drop fi).map Ln.cells) (k - fi) : Int)) := by rw [car1, show toV (ls.map LnA.ln) a = toV (ls.map LnA.ln) (a.1, a.2) from rfl, hto, hge6]
       refine TL.val (OpV.move rfl) rfl ?_
       refine TL.val (OpV.move rfl) rfl ?_
       refine TL.val (OpV.move rfl) rfl ?_
       refine TL.call (g := 24) rfl go_24 rfl (fun w1 k1 => rfrom_c cols (a.2 + (sumK (((ls.map LnA.ln).drop fi).map Ln.cells) (k - fi) : Int)) ii w1 hgs6 (by rw [hge6]; exact hf) (by omega) (by omega) (by omega) (fun b o hb => (k1.get (e := .own ρ6) (by first | exact P0 | exact P1 | exact P2 | exact P3 | exact P4 | exact P5 | exact P6 | exact P7 | exact P8) b o hb).2)) rfl ?_
       refine TL.said (t := 79) rfl (show _ = Value.agg (aL (car1 (ls.map LnA.ln) cols a)).toArray by rw [hcar]; rfl) ?_
       refine TL.slit (qs := #[(0, _)]) (fun _ f => by simp only [List.map_toArray, List.map_cons, List.map_nil]; rw [f.ev (x := .tmp 79) rfl]) (sl_43_1_0 (car1 (ls.map LnA.ln) cols a)) rfl ?_
       intro b80
       obtain ⟨ti81, hi81, hz81, hs81, hb81⟩ := info_parts inf_24
       refine TL.append rfl rfl Tryd.underlying43 hi81 hz81 hs81 hb81 rfl (by omega) (by first | exact P0 | exact P1 | exact P2 | exact P3 | exact P4 | exact P5) (by first | exact Src.nil | exact Src.blk P0 rfl | exact Src.blk P1 rfl | exact Src.blk P2 rfl | exact Src.blk P3 rfl | exact Src.blk P4 rfl | exact Src.blk P5 rfl | exact Src.row P0 | exact Src.row P1 | exact Src.row P2 | exact Src.row P3 | exact Src.row P4 | exact Src.row P5) (fun h => by cases h) rfl (by omega) (by omega) rfl ?_
       clear hi81 hz81 hs81 hb81 ti81
       intro A81 c81 hn81
       refine TL.val (OpV.assign rfl) rfl ?_
       refine TL.nil ?_
       refine TE.out ?_
       refine TE.sub (.cons (t := 0) rfl <| .cons (t := 1) rfl <| .cons (t := 2) rfl <| .cons (t := 7) rfl <| .cons (t := 8) rfl <| .cons (t := 9) rfl <| .nil) ?_
       refine TE.next ?_
       refine T.region ?_
       refine TL.val (OpV.move rfl) rfl ?_
       refine TL.val (OpV.add rfl rfl (by first | exact IntWalk.i64_in _ ⟨by omega, by omega⟩ | rfl)) rfl ?_
       refine TL.val (OpV.assign rfl) rfl ?_
       refine TL.nil ?_
       exact TE.meet (i + 1, out ++ [car1 (ls.map LnA.ln) cols a], A81, c81) ⟨⟨by omega, by rw [take_snoc ha, List.map_append, q2]; rfl, by rw [take_snoc ha, List.all_append, q3]; simp only [List.all_cons, List.all_nil, show hasP (ls.map LnA.ln) a = true from hP]; rfl, hn81⟩, by simp only; omega⟩ (.cons (t := 0) (by first | rfl | (simp [lk]; done)) <| .cons (t := 1) (by first | rfl | (simp [lk]; done)) <| .cons (t := 2) (by first | rfl | (simp [lk]; done)) <| .cons (t := 7) (by first | rfl | (simp [lk]; done)) <| .cons (t := 8) (by simp only [List.length_append, List.length_cons, List.length_nil]; rfl) <| .cons (t := 9) (by first | rfl | (simp [lk]; done)) <| .nil) ((by simp only [al_snoc, List.length_append, List.length_cons, List.length_nil]; exact Perm.kle (.cons (by first | exact P0 | exact P1 | exact P2 | exact P3 | exact P4 | exact P5 | exact P6 | exact P7 | exact P8) (.cons (by first | exact P0 | exact P1 | exact P2 | exact P3 | exact P4 | exact P5 | exact P6 | exact P7 | exact P8) (.cons (by first | exact P0 | exact P1 | exact P2 | exact P3 | exact P4 | exact P5 | exact P6 | exact P7 | exact P8) (.cons (by first | exact P0 | exact P1 | exact P2 | exact P3 | exact P4 | exact P5 | exact P6 | exact P7 | exact P8) .nil))))))
     ·
      intro ht47
      obtain ⟨q1, q2, q3, q4⟩ := hR
      have hin : ¬ i < n3 := by have h9 := of_decide_eq_false ht47; omega
      rw [List.take_of_length_le (by rw [h3.1]; omega)] at q2 q3
      refine T.exit ?_
      refine TE.pass_exit ?_
      refine TE.pass_exit ?_
      refine TE.here ?_
      refine TE.next ?_
      refine T.seq ?_
      refine T.seq ?_
      refine T.region ?_
      refine TL.val (OpV.move rfl) rfl ?_
      refine TL.val (OpV.move rfl) rfl ?_
      refine TL.val (OpV.move rfl) rfl ?_
      refine TL.val (OpV.move rfl) rfl ?_
      refine TL.val (OpV.move rfl) rfl ?_
      refine TL.callx (g := 45) rfl go_45 rfl (fun wz k1 => own_x k1 (rrl_c cols wz h (k1.get (e := .fr σ) (by first | exact P0 | exact P1 | exact P2 | exact P3 | exact P4 | exact P5 | exact P6 | exact P7 | exact P8)) (by omega) hv hf)) rfl ?_
      rintro ⟨A6, n6, c6, ρ6⟩ h6
      replace h6 : LsR ρ6 A6 n6 c6 (flowV (lgG [] 0 (ls.map LnA.ln)) cols) := h6
      refine TL.said (t := 87) rfl (show SV.v ⟨A6, n6, c6, ρ6⟩ = Value.slice A6 n6 c6 from rfl) ?_
      refine TL.val (OpV.move rfl) rfl ?_
      refine TL.call (g := 44) rfl go_44 rfl (fun w1 k1 => flows_r (σ := ρ4) (υ := υ) (τ := ρ6) (ω := fun b => w1.heap[b]?) cols 0 w1 (L.below k1.bel) (⟨l4, h4, h4e⟩ : LsR ρ4 A4 n4 c4 (ls.map LnA.ln)) h3 h6 (SlR.of_row aL_len (k1.atRow (xs := al out) (by first | exact P0 | exact P1 | exact P2 | exact P3 | exact P4 | exact P5 | exact P6 | exact P7 | exact P8)) rfl : AsR _ A8 out.length c8 out) (by omega) (by omega) (fun b o hb => (k1.get (e := .own ρ4) (by first | exact P0 | exact P1 | exact P2 | exact P3 | exact P4 | exact P5 | exact P6 | exact P7 | exact P8) b o hb).2) (k1.get (e := .fr υ) (by first | exact P0 | exact P1 | exact P2 | exact P3 | exact P4 | exact P5 | exact P6 | exact P7 | exact P8)) (fun b o hb => (k1.get (e := .own ρ6) (by first | exact P0 | exact P1 | exact P2 | exact P3 | exact P4 | exact P5 | exact P6 | exact P7 | exact P8) b o hb).2) (fun b o hb => hb)) rfl ?_
      refine TL.said (t := 89) rfl (show _ = Value.bool true from congrArg Value.bool ((by rw [q2]; exact flows_ok hv hf q3))) ?_
      refine TL.val (OpV.not rfl) rfl ?_
      refine TL.nil ?_
      refine TE.sub (.cons (t := 0) rfl <| .cons (t := 1) rfl <| .cons (t := 2) rfl <| .cons (t := 7) rfl <| .cons (t := 90) rfl <| .nil) ?_
      refine TE.next ?_
      refine T.no rfl ?_
      refine T.skip ?_
      refine TE.next ?_
      refine T.seq ?_
      refine T.region ?_
      refine TL.val (OpV.move rfl) rfl ?_
      refine TL.val (OpV.move rfl) rfl ?_
      refine TL.val (OpV.move rfl) rfl ?_
      refine TL.callx (g := 38) rfl go_38 rfl (fun wz k1 => own_x k1 (rfl_c cols wz (L.below k1.bel) h4 h3 (by omega) (by omega) (fun b o hb => (k1.get (e := .own ρ4) (by first | exact P0 | exact P1 | exact P2 | exact P3 | exact P4 | exact P5 | exact P6 | exact P7 | exact P8) b o hb).2) (k1.get (e := .fr υ) (by first | exact P0 | exact P1 | exact P2 | exact P3 | exact P4 | exact P5 | exact P6 | exact P7 | exact P8)))) rfl ?_
      rintro ⟨A5, n5, c5, A9, n9, c9, τ0⟩ ⟨⟨l5, h5, _⟩, _⟩
      replace h5 : LsW 58 τ0 cols.toNat A5 n5 c5 l5 := h5
      have h51 := h5.1.2.1
      have h52 := h5.1.2.2.1
      refine TL.said (t := 95) rfl (show _ = Value.tuple #[.slice A5 n5 c5, .slice A9 n9 c9, .int .i64 (carE (l4.map LnA.ln) cols as_)] from rfl) ?_
      refine TL.val (OpV.move rfl) rfl ?_
      refine TL.val (OpV.extract rfl rfl) rfl ?_
      refine TL.val (OpV.extract rfl rfl) rfl ?_
      refine TL.val (OpV.extract rfl rfl) rfl ?_
      refine TL.val (OpV.assign rfl) rfl ?_
      refine TL.val (OpV.assign rfl) rfl ?_
      refine TL.val (OpV.assign rfl) rfl ?_
      refine TL.nil ?_
      refine TE.sub (.cons (t := 0) rfl <| .cons (t := 7) rfl <| .cons (t := 12) rfl <| .nil) ?_
      refine TE.next ?_
      refine T.seq ?_
      refine T.seq ?_
      refine T.region ?_
      refine TL.val (OpV.assign rfl) rfl ?_
      refine TL.nil ?_
      refine TE.next ?_
      refine T.block ?_
      refine T.loop (ι := Nat × List LnA × (Nat → Option Obj)) (fun ⟨i, ls5, τ⟩ => i ≤ n5 ∧ LsO 58 τ cols.toNat A5 n5 c5 ls5) (fun ⟨i, ls5, τ⟩ => (n5 - i)) (fun ⟨i, ls5, τ⟩ => [(0, .slice A n c), (7, .slice A4 n4 c4), (12, .slice A5 n5 c5), (15, .int .i64 (i : Int))]) (fun ⟨i, ls5, τ⟩ => [.own τ, .own ρ4, .fr σ]) (0, l5, τ0) ⟨Nat.zero_le _, h5.lsO⟩ (.cons (t := 0) rfl <| .cons (t := 7) rfl <| .cons (t := 12) rfl <| .cons (t := 15) rfl <| .nil) (Perm.kle (.cons (by first | exact P0 | exact P1 | exact P2 | exact P3 | exact P4 | exact P5 | exact P6 | exact P7 | exact P8) (.cons (by first | exact P0 | exact P1 | exact P2 | exact P3 | exact P4 | exact P5 | exact P6 | exact P7 | exact P8) (.cons (by first | exact P0 | exact P1 | exact P2 | exact P3 | exact P4 | exact P5 | exact P6 | exact P7 | exact P8) .nil)))) ?_
      rintro ⟨i, ls5, τ⟩ hR1
      refine T.seq ?_
      refine T.seq ?_
      refine T.region ?_
      refine TL.val (OpV.move rfl) rfl ?_
      refine TL.val (OpV.move rfl) rfl ?_
      refine TL.val (OpV.len Tryd.underlying22 rfl) rfl ?_
      refine TL.val (OpV.lss rfl rfl) rfl ?_
      refine TL.nil ?_
      refine TE.next ?_
      refine T.cond rfl ?_ ?_
      ·
       intro ht102
       obtain ⟨p1, p2⟩ := hR1
       have hi : i < n5 := by have h9 := of_decide_eq_true ht102; omega
       obtain ⟨l, hl⟩ := get_of_lt p2.1.1.1 hi
       obtain ⟨b8, o8, hA8, hat8⟩ := p2.1.1.2.2.2.2 (by omega)
       obtain ⟨_, rfl, _, hatl⟩ := hat8 _ l hl
       refine T.skip ?_
       refine TE.next ?_
       refine T.seq ?_
       refine T.block ?_
       refine T.region ?_
       refine TL.val (OpV.move rfl) rfl ?_
       refine TL.val (OpV.move rfl) rfl ?_
       refine TL.val (OpV.indexAddr (j := i) se_22 rfl hA8 rfl rfl (by omega)) rfl ?_
       refine TL.val (OpV.fieldAddr rfl fo_65_0) rfl ?_
       refine TL.val (OpV.load pl_35 rfl (by first | exact Cel.blk P0 rfl | exact Cel.blk P1 rfl | exact Cel.blk P2 rfl | exact Cel.blk P3 rfl | exact Cel.blk P4 rfl | exact Cel.blk P5 rfl | exact Cel.frA (hata _ _ rfl) | exact Cel.ownA (hatl 0 _ rfl))) rfl ?_
       refine TL.callx (g := 46) rfl go_46 rfl (fun wz kz => stainw_c wz kz p2 hl) rfl ?_
       rintro ⟨ls9, τ9⟩ p3
       refine TL.nil ?_
       refine TE.out ?_
       refine TE.sub (.cons (t := 0) rfl <| .cons (t := 7) rfl <| .cons (t := 12) rfl <| .cons (t := 15) rfl <| .nil) ?_
       refine TE.next ?_
       refine T.region ?_
       refine TL.val (OpV.move rfl) rfl ?_
       refine TL.val (OpV.add rfl rfl (by first | exact IntWalk.i64_in _ ⟨by omega, by omega⟩ | rfl)) rfl ?_
       refine TL.val (OpV.assign rfl) rfl ?_
       refine TL.nil ?_
       exact TE.meet (i + 1, ls9, τ9) ⟨⟨by omega, p3⟩, by (try simp only); omega⟩ (.cons (t := 0) (by first | rfl | (simp [lk]; done)) <| .cons (t := 7) (by first | rfl | (simp [lk]; done)) <| .cons (t := 12) (by first | rfl | (simp [lk]; done)) <| .cons (t := 15) (by first | rfl | (simp [lk]; done)) <| .nil) (Perm.kle (.cons (by first | exact P0 | exact P1 | exact P2 | exact P3 | exact P4 | exact P5 | exact P6 | exact P7 | exact P8) (.cons (by first | exact P0 | exact P1 | exact P2 | exact P3 | exact P4 | exact P5 | exact P6 | exact P7 | exact P8) (.cons (by first | exact P0 | exact P1 | exact P2 | exact P3 | exact P4 | exact P5 | exact P6 | exact P7 | exact P8) .nil))))
      ·
       intro ht102
       refine T.exit ?_
       refine TE.pass_exit ?_
       refine TE.pass_exit ?_
       refine TE.here ?_
       refine TE.next ?_
       refine T.seq ?_
       refine T.region ?_
       refine TL.val (OpV.move rfl) rfl ?_
       refine TL.val (OpV.move rfl) rfl ?_
       refine TL.call (g := 20) rfl go_20 rfl (fun w1 k1 => lall_c w1 h4 h (fun b o hb => (k1.get (e := .own ρ4) (by first | exact P0 | exact P1 | exact P2 | exact P3 | exact P4 | exact P5 | exact P6 | exact P7 | exact P8) b o hb).2) (k1.get (e := .fr σ) (by first | exact P0 | exact P1 | exact P2 | exact P3 | exact P4 | exact P5 | exact P6 | exact P7 | exact P8))) rfl ?_
       refine TL.said (t := 113) rfl (show _ = Value.bool true from congrArg Value.bool ((by rw [h4e]; simp))) ?_
       refine TL.val (OpV.move rfl) rfl ?_
       refine TL.open rfl rfl ?_
       refine TL.call (g := 37) rfl go_37 rfl (fun w1 k1 => known30_law w1 (L.below k1.bel)) rfl ?_
       refine TL.val ((by first | exact OpV.pick_t rfl rfl | exact OpV.pick_f rfl rfl)) rfl ?_
       refine TL.val (OpV.assign rfl) rfl ?_
       refine TL.nil ?_
       refine TE.sub (.cons (t := 6) rfl <| .nil) ?_
       refine TE.next ?_
       refine T.ret ?_
       refine TE.ret1 rfl (ResV.tmp rfl) ?_
       exact fun w1 k1 => ⟨rfl, k1.bel⟩
end Go.Proofs.YtdmpodpdpncobaaDoor
