/-
  The walk of the law ReflowHolds. Condition: the package-level tables hold what they were laid with.
-/
import Derived.Test.YtdmpodpdpncobaaDoorXh
import Derived.Test.YtdmpodpdpncobaaDoorXe
import Derived.Test.YtdmpodpdpncobaaDoorWh
namespace Go.Proofs.YtdmpodpdpncobaaDoor
open Go.RowKit
set_option linter.unusedSimpArgs false
set_option linter.unusedVariables false
theorem go_37 : isGo Tryd.prog 37 = true := by kernel_rfl
theorem go_40 : isGo Tryd.prog 40 = true := by kernel_rfl
theorem go_41 : isGo Tryd.prog 41 = true := by kernel_rfl
theorem go_43 : isGo Tryd.prog 43 = true := by kernel_rfl
set_option maxRecDepth 100000 in
set_option maxHeartbeats 2000000 in
theorem reflowHolds_law {σ : Nat → Option Obj} {A : Option Addr} {n c : Nat} {ls : List LnA} (u u2 q mu0 : Int) (w : World) (L : LaidW w) (h : LsA σ A n c ls) (hs : ∀ b o, σ b = some o → w.heap[b]? = some o) (hmu : 0 ≤ mu0 ∧ mu0 ≤ 255) : Calls Tryd.prog 9 #[.slice A n c, .int .u8 u, .int .u8 u2, .int .u8 q, .int .u8 mu0] w (Ret (.bool true) w) := by
 have hn63 := h.1.2.1
 have hc63 := h.1.2.2.1
 have hl1 := h.1.1
 have hXl : (ls.map LnA.ln).length = n := by rw [List.length_map]; exact hl1
 refine calls_T (vs := [.slice A n c, .int .u8 u, .int .u8 u2, .int .u8 q, .int .u8 mu0]) (L0 := [(0, .slice A n c), (1, .int .u8 u), (2, .int .u8 u2), (3, .int .u8 q), (4, .int .u8 mu0)]) Tryd.func9 rfl rfl rfl rfl (KOk.fr1 hs) ?_
 refine T.seq ?_
 refine T.region ?_
 refine TL.val (OpV.assign rfl) rfl ?_
 refine TL.nil ?_
 refine TE.next ?_
 refine T.seq ?_
 refine T.seq ?_
 refine T.region ?_
 refine TL.val (OpV.move rfl) rfl ?_
 refine TL.call (g := 40) rfl go_40 rfl (fun w1 k1 => few29_c w1 h (k1.get (e := .fr σ) (by first | exact P0 | exact P1 | exact P2 | exact P3 | exact P4 | exact P5 | exact P6 | exact P7 | exact P8))) rfl ?_
 refine TL.val (OpV.not rfl) rfl ?_
 refine TL.val (OpV.move rfl) rfl ?_
 refine TL.part (t := 29) rfl ?_ ?_
 ·
  intro hg29
  refine TL.shut rfl rfl ?_
  refine TL.shut rfl rfl ?_
  refine TL.shut rfl rfl ?_
  refine TL.val ((by first | exact OpV.pick_t rfl rfl | exact OpV.pick_f rfl rfl)) rfl ?_
  refine TL.val (OpV.move rfl) rfl ?_
  refine TL.shut rfl rfl ?_
  refine TL.shut rfl rfl ?_
  refine TL.val ((by first | exact OpV.pick_t rfl rfl | exact OpV.pick_f rfl rfl)) rfl ?_
  refine TL.val (OpV.move rfl) rfl ?_
  refine TL.shut rfl rfl ?_
  refine TL.shut rfl rfl ?_
  refine TL.val ((by first | exact OpV.pick_t rfl rfl | exact OpV.pick_f rfl rfl)) rfl ?_
  refine TL.val (OpV.move rfl) rfl ?_
  refine TL.shut rfl rfl ?_
  refine TL.shut rfl rfl ?_
  refine TL.val ((by first | exact OpV.pick_t rfl rfl | exact OpV.pick_f rfl rfl)) rfl ?_
  refine TL.val (OpV.move rfl) rfl ?_
  refine TL.shut rfl rfl ?_
  refine TL.shut rfl rfl ?_
  refine TL.val ((by first | exact OpV.pick_t rfl rfl | exact OpV.pick_f rfl rfl)) rfl ?_
  refine TL.val (OpV.move rfl) rfl ?_
  refine TL.shut rfl rfl ?_
  refine TL.shut rfl rfl ?_
  refine TL.val ((by first | exact OpV.pick_t rfl rfl | exact OpV.pick_f rfl rfl)) rfl ?_
  refine TL.val (OpV.move rfl) rfl ?_
  refine TL.shut rfl rfl ?_
  refine TL.shut rfl rfl ?_
  refine TL.val ((by first | exact OpV.pick_t rfl rfl | exact OpV.pick_f rfl rfl)) rfl ?_
  refine TL.val (OpV.move rfl) rfl ?_
  refine TL.shut rfl rfl ?_
  refine TL.shut rfl rfl ?_
  refine TL.val ((by first | exact OpV.pick_t rfl rfl | exact OpV.pick_f rfl rfl)) rfl ?_
  refine TL.nil ?_
  refine TE.sub (.cons (t := 0) rfl <| .cons (t := 1) rfl <| .cons (t := 2) rfl <| .cons (t := 3) rfl <| .cons (t := 4) rfl <| .cons (t := 61) rfl <| .nil) ?_
  refine TE.next ?_
  refine T.yes rfl ?_
  refine T.seq ?_
  refine T.region ?_
  refine TL.call (g := 37) rfl go_37 rfl (fun w1 k1 => known30_law w1 (L.below k1.bel)) rfl ?_
  refine TL.val (OpV.assign rfl) rfl ?_
  refine TL.nil ?_
  refine TE.sub (.cons (t := 10) rfl <| .nil) ?_
  refine TE.next ?_
  refine T.ret ?_
  refine TE.pass_ret ?_
  refine TE.ret1 rfl (ResV.tmp rfl) ?_
  exact fun w1 k1 => ⟨rfl, k1.bel⟩
 ·
  intro hg29
  have hfew : few29V (ls.map LnA.ln) = true := by simpa using hg29
  have hfb := few29_bd hfew
  have hn12 : n ≤ 12 := by rw [List.length_map, hl1] at hfb; exact hfb.1
  have hcn : ∀ l ∈ ls, l.n ≤ 16 := fun l hl => by have h9 := hfb.2 l.ln (List.mem_map_of_mem hl); have h8 : l.ln.cells.length = l.n := (h.2 l hl).1; omega
  have hb16 : ∀ x ∈ ls.map LnA.cells, x.length ≤ 1000 := fun x hx => by obtain ⟨l, hl, rfl⟩ := List.mem_map.1 hx; have h9 := hcn l hl; have h8 := (h.2 l hl).1; omega
  refine TL.open rfl rfl ?_
  refine TL.val (OpV.move rfl) rfl ?_
  refine TL.open rfl rfl ?_
  refine TL.call (g := 16) rfl go_16 rfl (fun w1 k1 => ruvalid_c w1 h (k1.get (e := .fr σ) (by first | exact P0 | exact P1 | exact P2 | exact P3 | exact P4 | exact P5 | exact P6 | exact P7 | exact P8))) rfl ?_
  refine TL.open rfl rfl ?_
  refine TL.val (OpV.not rfl) rfl ?_
  refine TL.val ((by first | exact OpV.pick_t rfl rfl | exact OpV.pick_f rfl rfl)) rfl ?_
  refine TL.val (OpV.move rfl) rfl ?_
  refine TL.part (t := 34) rfl ?_ ?_
  ·
   intro hg34
   refine TL.shut rfl rfl ?_
   refine TL.shut rfl rfl ?_
   refine TL.val ((by first | exact OpV.pick_t rfl rfl | exact OpV.pick_f rfl rfl)) rfl ?_
   refine TL.val (OpV.move rfl) rfl ?_
   refine TL.shut rfl rfl ?_
   refine TL.shut rfl rfl ?_
   refine TL.val ((by first | exact OpV.pick_t rfl rfl | exact OpV.pick_f rfl rfl)) rfl ?_
   refine TL.val (OpV.move rfl) rfl ?_
   refine TL.shut rfl rfl ?_
   refine TL.shut rfl rfl ?_
   refine TL.val ((by first | exact OpV.pick_t rfl rfl | exact OpV.pick_f rfl rfl)) rfl ?_
   refine TL.val (OpV.move rfl) rfl ?_
   refine TL.shut rfl rfl ?_
   refine TL.shut rfl rfl ?_
   refine TL.val ((by first | exact OpV.pick_t rfl rfl | exact OpV.pick_f rfl rfl)) rfl ?_
   refine TL.val (OpV.move rfl) rfl ?_
   refine TL.shut rfl rfl ?_
   refine TL.shut rfl rfl ?_
   refine TL.val ((by first | exact OpV.pick_t rfl rfl | exact OpV.pick_f rfl rfl)) rfl ?_
   refine TL.val (OpV.move rfl) rfl ?_
   refine TL.shut rfl rfl ?_
   refine TL.shut rfl rfl ?_
   refine TL.val ((by first | exact OpV.pick_t rfl rfl | exact OpV.pick_f rfl rfl)) rfl ?_
   refine TL.val (OpV.move rfl) rfl ?_
   refine TL.shut rfl rfl ?_
   refine TL.shut rfl rfl ?_
   refine TL.val ((by first | exact OpV.pick_t rfl rfl | exact OpV.pick_f rfl rfl)) rfl ?_
   refine TL.nil ?_
   refine TE.sub (.cons (t := 0) rfl <| .cons (t := 1) rfl <| .cons (t := 2) rfl <| .cons (t := 3) rfl <| .cons (t := 4) rfl <| .cons (t := 61) rfl <| .nil) ?_
   refine TE.next ?_
   refine T.yes rfl ?_
   refine T.seq ?_
   refine T.region ?_
   refine TL.call (g := 37) rfl go_37 rfl (fun w1 k1 => known30_law w1 (L.below k1.bel)) rfl ?_
   refine TL.val (OpV.assign rfl) rfl ?_
   refine TL.nil ?_
   refine TE.sub (.cons (t := 10) rfl <| .nil) ?_
   refine TE.next ?_
   refine T.ret ?_
   refine TE.pass_ret ?_
   refine TE.ret1 rfl (ResV.tmp rfl) ?_
   exact fun w1 k1 => ⟨rfl, k1.bel⟩
  ·
   intro hg34
   have hv : vLs (ls.map LnA.ln) = true := by simpa using hg34
   refine TL.open rfl rfl ?_
   refine TL.val (OpV.move rfl) rfl ?_
   refine TL.open rfl rfl ?_
   refine TL.callx (g := 41) rfl go_41 rfl (fun wz k1 => bel_x k1 (spoils_c wz h (k1.get (e := .fr σ) (by first | exact P0 | exact P1 | exact P2 | exact P3 | exact P4 | exact P5 | exact P6 | exact P7 | exact P8)) (by omega) hv)) rfl ?_
   rintro sp hsp0
   replace hsp0 : sp = false → ∀ g ∈ (lgG [] 0 (ls.map LnA.ln)), NoB g.cells := hsp0
   refine TL.val ((by first | exact OpV.pick_t rfl rfl | exact OpV.pick_f rfl rfl)) rfl ?_
   refine TL.val (OpV.move rfl) rfl ?_
   refine TL.part (t := 38) rfl ?_ ?_
   ·
    intro hg38
    refine TL.shut rfl rfl ?_
    refine TL.shut rfl rfl ?_
    refine TL.val ((by first | exact OpV.pick_t rfl rfl | exact OpV.pick_f rfl rfl)) rfl ?_
    refine TL.val (OpV.move rfl) rfl ?_
    refine TL.shut rfl rfl ?_
    refine TL.shut rfl rfl ?_
    refine TL.val ((by first | exact OpV.pick_t rfl rfl | exact OpV.pick_f rfl rfl)) rfl ?_
    refine TL.val (OpV.move rfl) rfl ?_
    refine TL.shut rfl rfl ?_
    refine TL.shut rfl rfl ?_
    refine TL.val ((by first | exact OpV.pick_t rfl rfl | exact OpV.pick_f rfl rfl)) rfl ?_
    refine TL.val (OpV.move rfl) rfl ?_
    refine TL.shut rfl rfl ?_
    refine TL.shut rfl rfl ?_
    refine TL.val ((by first | exact OpV.pick_t rfl rfl | exact OpV.pick_f rfl rfl)) rfl ?_
    refine TL.val (OpV.move rfl) rfl ?_
    refine TL.shut rfl rfl ?_
    refine TL.shut rfl rfl ?_
    refine TL.val ((by first | exact OpV.pick_t rfl rfl | exact OpV.pick_f rfl rfl)) rfl ?_
    refine TL.val (OpV.move rfl) rfl ?_
    refine TL.shut rfl rfl ?_
    refine TL.shut rfl rfl ?_
    refine TL.val ((by first | exact OpV.pick_t rfl rfl | exact OpV.pick_f rfl rfl)) rfl ?_
    refine TL.nil ?_
    refine TE.sub (.cons (t := 0) rfl <| .cons (t := 1) rfl <| .cons (t := 2) rfl <| .cons (t := 3) rfl <| .cons (t := 4) rfl <| .cons (t := 61) rfl <| .nil) ?_
    refine TE.next ?_
    refine T.yes rfl ?_
    refine T.seq ?_
    refine T.region ?_
    refine TL.call (g := 37) rfl go_37 rfl (fun w1 k1 => known30_law w1 (L.below k1.bel)) rfl ?_
    refine TL.val (OpV.assign rfl) rfl ?_
    refine TL.nil ?_
    refine TE.sub (.cons (t := 10) rfl <| .nil) ?_
    refine TE.next ?_
    refine T.ret ?_
    refine TE.pass_ret ?_
    refine TE.ret1 rfl (ResV.tmp rfl) ?_
    exact fun w1 k1 => ⟨rfl, k1.bel⟩
   ·
    intro hg38
    have hsp : ∀ g ∈ (lgG [] 0 (ls.map LnA.ln)), NoB g.cells := hsp0 hg38
    refine TL.open rfl rfl ?_
    refine TL.val (OpV.move rfl) rfl ?_
    refine TL.open rfl rfl ?_
    refine TL.val (OpV.lss rfl rfl) rfl ?_
    refine TL.val ((by first | exact OpV.pick_t rfl rfl | exact OpV.pick_f rfl rfl)) rfl ?_
    refine TL.val (OpV.move rfl) rfl ?_
    refine TL.part (t := 42) rfl ?_ ?_
    ·
     intro hg42
     refine TL.shut rfl rfl ?_
     refine TL.shut rfl rfl ?_
     refine TL.val ((by first | exact OpV.pick_t rfl rfl | exact OpV.pick_f rfl rfl)) rfl ?_
     refine TL.val (OpV.move rfl) rfl ?_
     refine TL.shut rfl rfl ?_
     refine TL.shut rfl rfl ?_
     refine TL.val ((by first | exact OpV.pick_t rfl rfl | exact OpV.pick_f rfl rfl)) rfl ?_
     refine TL.val (OpV.move rfl) rfl ?_
     refine TL.shut rfl rfl ?_
     refine TL.shut rfl rfl ?_
     refine TL.val ((by first | exact OpV.pick_t rfl rfl | exact OpV.pick_f rfl rfl)) rfl ?_
     refine TL.val (OpV.move rfl) rfl ?_
     refine TL.shut rfl rfl ?_
     refine TL.shut rfl rfl ?_
     refine TL.val ((by first | exact OpV.pick_t rfl rfl | exact OpV.pick_f rfl rfl)) rfl ?_
     refine TL.val (OpV.move rfl) rfl ?_
     refine TL.shut rfl rfl ?_
     refine TL.shut rfl rfl ?_
     refine TL.val ((by first | exact OpV.pick_t rfl rfl | exact OpV.pick_f rfl rfl)) rfl ?_
     refine TL.nil ?_
     refine TE.sub (.cons (t := 0) rfl <| .cons (t := 1) rfl <| .cons (t := 2) rfl <| .cons (t := 3) rfl <| .cons (t := 4) rfl <| .cons (t := 61) rfl <| .nil) ?_
     refine TE.next ?_
     refine T.yes rfl ?_
     refine T.seq ?_
     refine T.region ?_
     refine TL.call (g := 37) rfl go_37 rfl (fun w1 k1 => known30_law w1 (L.below k1.bel)) rfl ?_
     refine TL.val (OpV.assign rfl) rfl ?_
     refine TL.nil ?_
     refine TE.sub (.cons (t := 10) rfl <| .nil) ?_
     refine TE.next ?_
     refine T.ret ?_
     refine TE.pass_ret ?_
     refine TE.ret1 rfl (ResV.tmp rfl) ?_
     exact fun w1 k1 => ⟨rfl, k1.bel⟩
    ·
     intro hg42
     refine TL.open rfl rfl ?_
     refine TL.val (OpV.move rfl) rfl ?_
     refine TL.open rfl rfl ?_
     refine TL.val (OpV.gtr rfl rfl) rfl ?_
     refine TL.val ((by first | exact OpV.pick_t rfl rfl | exact OpV.pick_f rfl rfl)) rfl ?_
     refine TL.val (OpV.move rfl) rfl ?_
     refine TL.part (t := 46) rfl ?_ ?_
     ·
      intro hg46
      refine TL.shut rfl rfl ?_
      refine TL.shut rfl rfl ?_
      refine TL.val ((by first | exact OpV.pick_t rfl rfl | exact OpV.pick_f rfl rfl)) rfl ?_
      refine TL.val (OpV.move rfl) rfl ?_
      refine TL.shut rfl rfl ?_
      refine TL.shut rfl rfl ?_
      refine TL.val ((by first | exact OpV.pick_t rfl rfl | exact OpV.pick_f rfl rfl)) rfl ?_
      refine TL.val (OpV.move rfl) rfl ?_
      refine TL.shut rfl rfl ?_
      refine TL.shut rfl rfl ?_
      refine TL.val ((by first | exact OpV.pick_t rfl rfl | exact OpV.pick_f rfl rfl)) rfl ?_
      refine TL.val (OpV.move rfl) rfl ?_
      refine TL.shut rfl rfl ?_
      refine TL.shut rfl rfl ?_
      refine TL.val ((by first | exact OpV.pick_t rfl rfl | exact OpV.pick_f rfl rfl)) rfl ?_
      refine TL.nil ?_
      refine TE.sub (.cons (t := 0) rfl <| .cons (t := 1) rfl <| .cons (t := 2) rfl <| .cons (t := 3) rfl <| .cons (t := 4) rfl <| .cons (t := 61) rfl <| .nil) ?_
      refine TE.next ?_
      refine T.yes rfl ?_
      refine T.seq ?_
      refine T.region ?_
      refine TL.call (g := 37) rfl go_37 rfl (fun w1 k1 => known30_law w1 (L.below k1.bel)) rfl ?_
      refine TL.val (OpV.assign rfl) rfl ?_
      refine TL.nil ?_
      refine TE.sub (.cons (t := 10) rfl <| .nil) ?_
      refine TE.next ?_
      refine T.ret ?_
      refine TE.pass_ret ?_
      refine TE.ret1 rfl (ResV.tmp rfl) ?_
      exact fun w1 k1 => ⟨rfl, k1.bel⟩
     ·
      intro hg46
      refine TL.open rfl rfl ?_
      refine TL.val (OpV.move rfl) rfl ?_
      refine TL.open rfl rfl ?_
      refine TL.val (OpV.lss rfl rfl) rfl ?_
      refine TL.val ((by first | exact OpV.pick_t rfl rfl | exact OpV.pick_f rfl rfl)) rfl ?_
      refine TL.val (OpV.move rfl) rfl ?_
      refine TL.part (t := 50) rfl ?_ ?_
      ·
       intro hg50
       refine TL.shut rfl rfl ?_
       refine TL.shut rfl rfl ?_
       refine TL.val ((by first | exact OpV.pick_t rfl rfl | exact OpV.pick_f rfl rfl)) rfl ?_
       refine TL.val (OpV.move rfl) rfl ?_
       refine TL.shut rfl rfl ?_
       refine TL.shut rfl rfl ?_
       refine TL.val ((by first | exact OpV.pick_t rfl rfl | exact OpV.pick_f rfl rfl)) rfl ?_
       refine TL.val (OpV.move rfl) rfl ?_
       refine TL.shut rfl rfl ?_
       refine TL.shut rfl rfl ?_
       refine TL.val ((by first | exact OpV.pick_t rfl rfl | exact OpV.pick_f rfl rfl)) rfl ?_
       refine TL.nil ?_
       refine TE.sub (.cons (t := 0) rfl <| .cons (t := 1) rfl <| .cons (t := 2) rfl <| .cons (t := 3) rfl <| .cons (t := 4) rfl <| .cons (t := 61) rfl <| .nil) ?_
       refine TE.next ?_
       refine T.yes rfl ?_
       refine T.seq ?_
       refine T.region ?_
       refine TL.call (g := 37) rfl go_37 rfl (fun w1 k1 => known30_law w1 (L.below k1.bel)) rfl ?_
       refine TL.val (OpV.assign rfl) rfl ?_
       refine TL.nil ?_
       refine TE.sub (.cons (t := 10) rfl <| .nil) ?_
       refine TE.next ?_
       refine T.ret ?_
       refine TE.pass_ret ?_
       refine TE.ret1 rfl (ResV.tmp rfl) ?_
       exact fun w1 k1 => ⟨rfl, k1.bel⟩
      ·
       intro hg50
       refine TL.open rfl rfl ?_
       refine TL.val (OpV.move rfl) rfl ?_
       refine TL.open rfl rfl ?_
       refine TL.val (OpV.gtr rfl rfl) rfl ?_
       refine TL.val ((by first | exact OpV.pick_t rfl rfl | exact OpV.pick_f rfl rfl)) rfl ?_
       refine TL.val (OpV.move rfl) rfl ?_
       refine TL.part (t := 54) rfl ?_ ?_
       ·
        intro hg54
        refine TL.shut rfl rfl ?_
        refine TL.shut rfl rfl ?_
        refine TL.val ((by first | exact OpV.pick_t rfl rfl | exact OpV.pick_f rfl rfl)) rfl ?_
        refine TL.val (OpV.move rfl) rfl ?_
        refine TL.shut rfl rfl ?_
        refine TL.shut rfl rfl ?_
        refine TL.val ((by first | exact OpV.pick_t rfl rfl | exact OpV.pick_f rfl rfl)) rfl ?_
        refine TL.nil ?_
        refine TE.sub (.cons (t := 0) rfl <| .cons (t := 1) rfl <| .cons (t := 2) rfl <| .cons (t := 3) rfl <| .cons (t := 4) rfl <| .cons (t := 61) rfl <| .nil) ?_
        refine TE.next ?_
        refine T.yes rfl ?_
        refine T.seq ?_
        refine T.region ?_
        refine TL.call (g := 37) rfl go_37 rfl (fun w1 k1 => known30_law w1 (L.below k1.bel)) rfl ?_
        refine TL.val (OpV.assign rfl) rfl ?_
        refine TL.nil ?_
        refine TE.sub (.cons (t := 10) rfl <| .nil) ?_
        refine TE.next ?_
        refine T.ret ?_
        refine TE.pass_ret ?_
        refine TE.ret1 rfl (ResV.tmp rfl) ?_
        exact fun w1 k1 => ⟨rfl, k1.bel⟩
       ·
        intro hg54
        refine TL.open rfl rfl ?_
        refine TL.val (OpV.move rfl) rfl ?_
        refine TL.open rfl rfl ?_
        refine TL.val (OpV.lss rfl rfl) rfl ?_
        refine TL.val ((by first | exact OpV.pick_t rfl rfl | exact OpV.pick_f rfl rfl)) rfl ?_
        refine TL.val (OpV.move rfl) rfl ?_
        refine TL.part (t := 58) rfl ?_ ?_
        ·
         intro hg58
         refine TL.shut rfl rfl ?_
         refine TL.shut rfl rfl ?_
         refine TL.val ((by first | exact OpV.pick_t rfl rfl | exact OpV.pick_f rfl rfl)) rfl ?_
         refine TL.nil ?_
         refine TE.sub (.cons (t := 0) rfl <| .cons (t := 1) rfl <| .cons (t := 2) rfl <| .cons (t := 3) rfl <| .cons (t := 4) rfl <| .cons (t := 61) rfl <| .nil) ?_
         refine TE.next ?_
         refine T.yes rfl ?_
         refine T.seq ?_
         refine T.region ?_
         refine TL.call (g := 37) rfl go_37 rfl (fun w1 k1 => known30_law w1 (L.below k1.bel)) rfl ?_
         refine TL.val (OpV.assign rfl) rfl ?_
         refine TL.nil ?_
         refine TE.sub (.cons (t := 10) rfl <| .nil) ?_
         refine TE.next ?_
         refine T.ret ?_
         refine TE.pass_ret ?_
         refine TE.ret1 rfl (ResV.tmp rfl) ?_
         exact fun w1 k1 => ⟨rfl, k1.bel⟩
        ·
         intro hg58
         refine TL.open rfl rfl ?_
         refine TL.val (OpV.move rfl) rfl ?_
         refine TL.open rfl rfl ?_
         refine TL.val (OpV.gtr rfl rfl) rfl ?_
         refine TL.val ((by first | exact OpV.pick_t rfl rfl | exact OpV.pick_f rfl rfl)) rfl ?_
         refine TL.nil ?_
         refine TE.sub (.cons (t := 0) rfl <| .cons (t := 1) rfl <| .cons (t := 2) rfl <| .cons (t := 3) rfl <| .cons (t := 4) rfl <| .cons (t := 61) rfl <| .nil) ?_
         refine TE.next ?_
         refine T.cond rfl ?_ ?_
         ·
          intro ht61
          refine T.seq ?_
          refine T.region ?_
          refine TL.call (g := 37) rfl go_37 rfl (fun w1 k1 => known30_law w1 (L.below k1.bel)) rfl ?_
          refine TL.val (OpV.assign rfl) rfl ?_
          refine TL.nil ?_
          refine TE.sub (.cons (t := 10) rfl <| .nil) ?_
          refine TE.next ?_
          refine T.ret ?_
          refine TE.pass_ret ?_
          refine TE.ret1 rfl (ResV.tmp rfl) ?_
          exact fun w1 k1 => ⟨rfl, k1.bel⟩
         ·
          intro ht61
          have e1 := of_decide_eq_false hg42
          have e2 := of_decide_eq_false hg46
          have e3 := of_decide_eq_false hg50
          have e4 := of_decide_eq_false hg54
          have e5 := of_decide_eq_false hg58
          have e6 := of_decide_eq_false ht61
          obtain ⟨m, rfl⟩ : ∃ m : Nat, u = (m : Int) := ⟨u.toNat, by omega⟩
          obtain ⟨m2, rfl⟩ : ∃ m : Nat, u2 = (m : Int) := ⟨u2.toNat, by omega⟩
          obtain ⟨r, rfl⟩ : ∃ m : Nat, q = (m : Int) := ⟨q.toNat, by omega⟩
          obtain ⟨mu, rfl⟩ : ∃ m : Nat, mu0 = (m : Int) := ⟨mu0.toNat, by omega⟩
          have hfm : fineB (lgG [] 0 (ls.map LnA.ln)) (m : Int) = true := fine_of hv (by rw [hXl]; omega) (by omega)
          have hfm2 : fineB (lgG [] 0 (ls.map LnA.ln)) (m2 : Int) = true := fine_of hv (by rw [hXl]; omega) (by omega)
          have hb1 := flow_few hfew hfm
          have hb2 := flow_few hfew hfm2
          have hX1 := flow_holds (n := m) hv (by rw [hXl]; omega) hsp (by omega) (by omega) (by omega)
          have hZ1 := flow_holds (n := m2) hv (by rw [hXl]; omega) hsp (by omega) (by omega) (by omega)
          refine T.skip ?_
          refine TE.next ?_
          refine T.seq ?_
          refine T.region ?_
          refine TL.val (OpV.move rfl) rfl ?_
          refine TL.val (OpV.move rfl) rfl ?_
          refine TL.val (OpV.conv Tryd.underlying5 Tryd.underlying3 rfl (by first | exact IntWalk.i64_in _ ⟨by omega, by omega⟩ | rfl)) rfl ?_
          refine TL.callx (g := 38) rfl go_38 rfl (fun wz k1 => own_x k1 (rfl_c (υ := fun b => wz.heap[b]?) (m : Int) wz (L.below k1.bel) h (AsR_nil _) (by omega) (by decide) (k1.get (e := .fr σ) (by first | exact P0 | exact P1 | exact P2 | exact P3 | exact P4 | exact P5 | exact P6 | exact P7 | exact P8)) (fun b o hb => hb))) rfl ?_
          rintro ⟨A5, n5, c5, B5, d5, e5, ρ5⟩ ⟨⟨l5, h5, h5e⟩, _⟩
          replace h5 : LsW 58 ρ5 (m : Int).toNat A5 n5 c5 l5 := h5
          have hce5 : carE (ls.map LnA.ln) (m : Int) [] = 0 := (refl_ok hv hfm).1
          replace h5e : l5.map LnA.ln = (flowV (lgG [] 0 (ls.map LnA.ln)) (m : Int)) := by rw [h5e]; exact (refl_ok hv hfm).2
          have h5c := h5.1.2.1
          have h5d := h5.1.2.2.1
          have h5n : n5 ≤ 204 := by have h9 := congrArg List.length h5e; rw [List.length_map, h5.1.1] at h9; omega
          have H5 : LsR ρ5 A5 n5 c5 _ := ⟨l5, h5.lsA, h5e⟩
          refine TL.said (t := 67) rfl (show _ = Value.tuple #[.slice A5 n5 c5, .slice B5 d5 e5, .int .i64 0] by rw [hce5]; rfl) ?_
          refine TL.val (OpV.move rfl) rfl ?_
          refine TL.val (OpV.extract rfl rfl) rfl ?_
          refine TL.val (OpV.extract rfl rfl) rfl ?_
          refine TL.val (OpV.extract rfl rfl) rfl ?_
          refine TL.val (OpV.assign rfl) rfl ?_
          refine TL.val (OpV.assign rfl) rfl ?_
          refine TL.val (OpV.assign rfl) rfl ?_
          refine TL.nil ?_
          refine TE.sub (.cons (t := 0) rfl <| .cons (t := 1) rfl <| .cons (t := 2) rfl <| .cons (t := 3) rfl <| .cons (t := 4) rfl <| .cons (t := 11) rfl <| .cons (t := 13) rfl <| .nil) ?_
          refine TE.next ?_
          refine T.seq ?_
          refine T.region ?_
          refine TL.val (OpV.move rfl) rfl ?_
          refine TL.val (OpV.move rfl) rfl ?_
          refine TL.val (OpV.conv Tryd.underlying5 Tryd.underlying3 rfl (by first | exact IntWalk.i64_in _ ⟨by omega, by omega⟩ | rfl)) rfl ?_
          refine TL.callx (g := 38) rfl go_38 rfl (fun wz k1 => own_x k1 (rfl_c (υ := fun b => wz.heap[b]?) (m : Int) wz (L.below k1.bel) h5.lsA (AsR_nil _) (by omega) (by decide) (fun b o hb => (k1.get (e := .own ρ5) (by first | exact P0 | exact P1 | exact P2 | exact P3 | exact P4 | exact P5 | exact P6 | exact P7 | exact P8) b o hb).2) (fun b o hb => hb))) rfl ?_
          rintro ⟨A6, n6, c6, B6, d6, e6, ρ6⟩ ⟨⟨l6, h6, h6e⟩, _⟩
          replace h6 : LsW 58 ρ6 (m : Int).toNat A6 n6 c6 l6 := h6
          have hce6 : carE (l5.map LnA.ln) (m : Int) [] = 0 := by rw [h5e]; exact (refl_ok hX1.1 (hX1.2.2.2.2.1 (m : Int) (by omega))).1
          replace h6e : l6.map LnA.ln = (flowV (lgG [] 0 (ls.map LnA.ln)) (m : Int)) := by rw [h6e, h5e, (refl_ok hX1.1 (hX1.2.2.2.2.1 (m : Int) (by omega))).2]; exact flow_cells hX1.2.1
          have h6c := h6.1.2.1
          have h6d := h6.1.2.2.1
          have h6n : n6 ≤ 204 := by have h9 := congrArg List.length h6e; rw [List.length_map, h6.1.1] at h9; omega
          have H6 : LsR ρ6 A6 n6 c6 _ := ⟨l6, h6.lsA, h6e⟩
          refine TL.said (t := 75) rfl (show _ = Value.tuple #[.slice A6 n6 c6, .slice B6 d6 e6, .int .i64 0] by rw [hce6]; rfl) ?_
          refine TL.val (OpV.move rfl) rfl ?_
          refine TL.val (OpV.extract rfl rfl) rfl ?_
          refine TL.val (OpV.extract rfl rfl) rfl ?_
          refine TL.val (OpV.extract rfl rfl) rfl ?_
          refine TL.val (OpV.assign rfl) rfl ?_
          refine TL.val (OpV.assign rfl) rfl ?_
          refine TL.val (OpV.assign rfl) rfl ?_
          refine TL.nil ?_
          refine TE.sub (.cons (t := 0) rfl <| .cons (t := 1) rfl <| .cons (t := 2) rfl <| .cons (t := 3) rfl <| .cons (t := 4) rfl <| .cons (t := 11) rfl <| .cons (t := 13) rfl <| .cons (t := 14) rfl <| .cons (t := 16) rfl <| .nil) ?_
          refine TE.next ?_
          refine T.seq ?_
          refine T.region ?_
          refine TL.val (OpV.move rfl) rfl ?_
          refine TL.val (OpV.move rfl) rfl ?_
          refine TL.val (OpV.conv Tryd.underlying5 Tryd.underlying3 rfl (by first | exact IntWalk.i64_in _ ⟨by omega, by omega⟩ | rfl)) rfl ?_
          refine TL.callx (g := 38) rfl go_38 rfl (fun wz k1 => own_x k1 (rfl_c (υ := fun b => wz.heap[b]?) (m2 : Int) wz (L.below k1.bel) h (AsR_nil _) (by omega) (by decide) (k1.get (e := .fr σ) (by first | exact P0 | exact P1 | exact P2 | exact P3 | exact P4 | exact P5 | exact P6 | exact P7 | exact P8)) (fun b o hb => hb))) rfl ?_
          rintro ⟨A7, n7, c7, B7, d7, e7, ρ7⟩ ⟨⟨l7, h7, h7e⟩, _⟩
          replace h7 : LsW 58 ρ7 (m2 : Int).toNat A7 n7 c7 l7 := h7
          have hce7 : carE (ls.map LnA.ln) (m2 : Int) [] = 0 := (refl_ok hv hfm2).1
          replace h7e : l7.map LnA.ln = (flowV (lgG [] 0 (ls.map LnA.ln)) (m2 : Int)) := by rw [h7e]; exact (refl_ok hv hfm2).2
          have h7c := h7.1.2.1
          have h7d := h7.1.2.2.1
          have h7n : n7 ≤ 204 := by have h9 := congrArg List.length h7e; rw [List.length_map, h7.1.1] at h9; omega
          have H7 : LsR ρ7 A7 n7 c7 _ := ⟨l7, h7.lsA, h7e⟩
          refine TL.said (t := 83) rfl (show _ = Value.tuple #[.slice A7 n7 c7, .slice B7 d7 e7, .int .i64 0] by rw [hce7]; rfl) ?_
          refine TL.val (OpV.move rfl) rfl ?_
          refine TL.val (OpV.extract rfl rfl) rfl ?_
          refine TL.val (OpV.extract rfl rfl) rfl ?_
          refine TL.val (OpV.extract rfl rfl) rfl ?_
          refine TL.val (OpV.assign rfl) rfl ?_
          refine TL.val (OpV.assign rfl) rfl ?_
          refine TL.val (OpV.assign rfl) rfl ?_
          refine TL.nil ?_
          refine TE.sub (.cons (t := 0) rfl <| .cons (t := 1) rfl <| .cons (t := 3) rfl <| .cons (t := 4) rfl <| .cons (t := 11) rfl <| .cons (t := 13) rfl <| .cons (t := 14) rfl <| .cons (t := 16) rfl <| .cons (t := 17) rfl <| .cons (t := 19) rfl <| .nil) ?_
          refine TE.next ?_
          refine T.seq ?_
          refine T.region ?_
          refine TL.val (OpV.move rfl) rfl ?_
          refine TL.val (OpV.move rfl) rfl ?_
          refine TL.val (OpV.conv Tryd.underlying5 Tryd.underlying3 rfl (by first | exact IntWalk.i64_in _ ⟨by omega, by omega⟩ | rfl)) rfl ?_
          refine TL.callx (g := 38) rfl go_38 rfl (fun wz k1 => own_x k1 (rfl_c (υ := fun b => wz.heap[b]?) (m : Int) wz (L.below k1.bel) h7.lsA (AsR_nil _) (by omega) (by decide) (fun b o hb => (k1.get (e := .own ρ7) (by first | exact P0 | exact P1 | exact P2 | exact P3 | exact P4 | exact P5 | exact P6 | exact P7 | exact P8) b o hb).2) (fun b o hb => hb))) rfl ?_
          rintro ⟨A8, n8, c8, B8, d8, e8, ρ8⟩ ⟨⟨l8, h8, h8e⟩, _⟩
          replace h8 : LsW 58 ρ8 (m : Int).toNat A8 n8 c8 l8 := h8
          have hce8 : carE (l7.map LnA.ln) (m : Int) [] = 0 := by rw [h7e]; exact (refl_ok hZ1.1 (hZ1.2.2.2.2.1 (m : Int) (by omega))).1
          replace h8e : l8.map LnA.ln = (flowV (lgG [] 0 (ls.map LnA.ln)) (m : Int)) := by rw [h8e, h7e, (refl_ok hZ1.1 (hZ1.2.2.2.2.1 (m : Int) (by omega))).2]; exact flow_cells hZ1.2.1
          have h8c := h8.1.2.1
          have h8d := h8.1.2.2.1
          have h8n : n8 ≤ 204 := by have h9 := congrArg List.length h8e; rw [List.length_map, h8.1.1] at h9; omega
          have H8 : LsR ρ8 A8 n8 c8 _ := ⟨l8, h8.lsA, h8e⟩
          refine TL.said (t := 91) rfl (show _ = Value.tuple #[.slice A8 n8 c8, .slice B8 d8 e8, .int .i64 0] by rw [hce8]; rfl) ?_
          refine TL.val (OpV.move rfl) rfl ?_
          refine TL.val (OpV.extract rfl rfl) rfl ?_
          refine TL.val (OpV.extract rfl rfl) rfl ?_
          refine TL.val (OpV.extract rfl rfl) rfl ?_
          refine TL.val (OpV.assign rfl) rfl ?_
          refine TL.val (OpV.assign rfl) rfl ?_
          refine TL.val (OpV.assign rfl) rfl ?_
          refine TL.nil ?_
          refine TE.sub (.cons (t := 0) rfl <| .cons (t := 3) rfl <| .cons (t := 4) rfl <| .cons (t := 11) rfl <| .cons (t := 13) rfl <| .cons (t := 14) rfl <| .cons (t := 16) rfl <| .cons (t := 17) rfl <| .cons (t := 19) rfl <| .cons (t := 20) rfl <| .cons (t := 22) rfl <| .nil) ?_
          refine TE.next ?_
          refine T.seq ?_
          refine T.seq ?_
          refine T.region ?_
          refine TL.val (OpV.move rfl) rfl ?_
          refine TL.val (OpV.neq rfl rfl) rfl ?_
          refine TL.said (t := 96) rfl (show _ = Value.bool false from congrArg Value.bool (rfl)) ?_
          refine TL.val (OpV.move rfl) rfl ?_
          refine TL.open rfl rfl ?_
          refine TL.val (OpV.move rfl) rfl ?_
          refine TL.open rfl rfl ?_
          refine TL.val (OpV.neq rfl rfl) rfl ?_
          refine TL.said (t := 99) rfl (show _ = Value.bool false from congrArg Value.bool (rfl)) ?_
          refine TL.val ((by first | exact OpV.pick_t rfl rfl | exact OpV.pick_f rfl rfl)) rfl ?_
          refine TL.val (OpV.move rfl) rfl ?_
          refine TL.open rfl rfl ?_
          refine TL.val (OpV.move rfl) rfl ?_
          refine TL.open rfl rfl ?_
          refine TL.val (OpV.neq rfl rfl) rfl ?_
          refine TL.said (t := 103) rfl (show _ = Value.bool false from congrArg Value.bool (rfl)) ?_
          refine TL.val ((by first | exact OpV.pick_t rfl rfl | exact OpV.pick_f rfl rfl)) rfl ?_
          refine TL.val (OpV.move rfl) rfl ?_
          refine TL.open rfl rfl ?_
          refine TL.val (OpV.move rfl) rfl ?_
          refine TL.open rfl rfl ?_
          refine TL.val (OpV.neq rfl rfl) rfl ?_
          refine TL.said (t := 107) rfl (show _ = Value.bool false from congrArg Value.bool (rfl)) ?_
          refine TL.val ((by first | exact OpV.pick_t rfl rfl | exact OpV.pick_f rfl rfl)) rfl ?_
          refine TL.val (OpV.move rfl) rfl ?_
          refine TL.open rfl rfl ?_
          refine TL.val (OpV.move rfl) rfl ?_
          refine TL.open rfl rfl ?_
          refine TL.val (OpV.move rfl) rfl ?_
          refine TL.open rfl rfl ?_
          refine TL.call (g := 20) rfl go_20 rfl (fun w1 k1 => lall_c w1 h5.lsA h6.lsA (fun b o hb => (k1.get (e := .own ρ5) (by first | exact P0 | exact P1 | exact P2 | exact P3 | exact P4 | exact P5 | exact P6 | exact P7 | exact P8) b o hb).2) (fun b o hb => (k1.get (e := .own ρ6) (by first | exact P0 | exact P1 | exact P2 | exact P3 | exact P4 | exact P5 | exact P6 | exact P7 | exact P8) b o hb).2)) rfl ?_
          refine TL.said (t := 112) rfl (show _ = Value.bool true from congrArg Value.bool ((by rw [h5e, h6e]; simp))) ?_
          refine TL.open rfl rfl ?_
          refine TL.val (OpV.not rfl) rfl ?_
          refine TL.val ((by first | exact OpV.pick_t rfl rfl | exact OpV.pick_f rfl rfl)) rfl ?_
          refine TL.val (OpV.move rfl) rfl ?_
          refine TL.open rfl rfl ?_
          refine TL.val (OpV.move rfl) rfl ?_
          refine TL.open rfl rfl ?_
          refine TL.val (OpV.move rfl) rfl ?_
          refine TL.open rfl rfl ?_
          refine TL.call (g := 20) rfl go_20 rfl (fun w1 k1 => lall_c w1 h5.lsA h8.lsA (fun b o hb => (k1.get (e := .own ρ5) (by first | exact P0 | exact P1 | exact P2 | exact P3 | exact P4 | exact P5 | exact P6 | exact P7 | exact P8) b o hb).2) (fun b o hb => (k1.get (e := .own ρ8) (by first | exact P0 | exact P1 | exact P2 | exact P3 | exact P4 | exact P5 | exact P6 | exact P7 | exact P8) b o hb).2)) rfl ?_
          refine TL.said (t := 118) rfl (show _ = Value.bool true from congrArg Value.bool ((by rw [h5e, h8e]; simp))) ?_
          refine TL.open rfl rfl ?_
          refine TL.val (OpV.not rfl) rfl ?_
          refine TL.val ((by first | exact OpV.pick_t rfl rfl | exact OpV.pick_f rfl rfl)) rfl ?_
          refine TL.val (OpV.move rfl) rfl ?_
          refine TL.open rfl rfl ?_
          refine TL.val (OpV.move rfl) rfl ?_
          refine TL.open rfl rfl ?_
          refine TL.val (OpV.move rfl) rfl ?_
          refine TL.open rfl rfl ?_
          refine TL.call (g := 42) rfl go_42 rfl (fun w1 k1 => same30_r (σ := σ) (τ := ρ5) w1 (L.below k1.bel) ⟨ls, h, rfl⟩ H5 (by omega) (by omega) (k1.get (e := .fr σ) (by first | exact P0 | exact P1 | exact P2 | exact P3 | exact P4 | exact P5 | exact P6 | exact P7 | exact P8)) (fun b o hb => (k1.get (e := .own ρ5) (by first | exact P0 | exact P1 | exact P2 | exact P3 | exact P4 | exact P5 | exact P6 | exact P7 | exact P8) b o hb).2)) rfl ?_
          refine TL.said (t := 124) rfl (show _ = Value.bool true from congrArg Value.bool (hX1.2.2.1)) ?_
          refine TL.open rfl rfl ?_
          refine TL.val (OpV.not rfl) rfl ?_
          refine TL.val ((by first | exact OpV.pick_t rfl rfl | exact OpV.pick_f rfl rfl)) rfl ?_
          refine TL.val (OpV.move rfl) rfl ?_
          refine TL.open rfl rfl ?_
          refine TL.val (OpV.move rfl) rfl ?_
          refine TL.open rfl rfl ?_
          refine TL.val (OpV.move rfl) rfl ?_
          refine TL.open rfl rfl ?_
          refine TL.call (g := 42) rfl go_42 rfl (fun w1 k1 => same30_r (σ := ρ5) (τ := ρ7) w1 (L.below k1.bel) H5 H7 (by omega) (by omega) (fun b o hb => (k1.get (e := .own ρ5) (by first | exact P0 | exact P1 | exact P2 | exact P3 | exact P4 | exact P5 | exact P6 | exact P7 | exact P8) b o hb).2) (fun b o hb => (k1.get (e := .own ρ7) (by first | exact P0 | exact P1 | exact P2 | exact P3 | exact P4 | exact P5 | exact P6 | exact P7 | exact P8) b o hb).2)) rfl ?_
          refine TL.said (t := 130) rfl (show _ = Value.bool true from congrArg Value.bool ((same_flows hX1.1 hZ1.1 (hX1.2.1.trans hZ1.2.1.symm)))) ?_
          refine TL.open rfl rfl ?_
          refine TL.val (OpV.not rfl) rfl ?_
          refine TL.val ((by first | exact OpV.pick_t rfl rfl | exact OpV.pick_f rfl rfl)) rfl ?_
          refine TL.val (OpV.move rfl) rfl ?_
          refine TL.open rfl rfl ?_
          refine TL.val (OpV.move rfl) rfl ?_
          refine TL.open rfl rfl ?_
          refine TL.val (OpV.len Tryd.underlying22 rfl) rfl ?_
          refine TL.open rfl rfl ?_
          refine TL.val (OpV.gtr rfl rfl) rfl ?_
          refine TL.open rfl rfl ?_
          refine TL.val (OpV.move rfl) rfl ?_
          refine TL.open rfl rfl ?_
          refine TL.val (OpV.len Tryd.underlying22 rfl) rfl ?_
          refine TL.open rfl rfl ?_
          refine TL.val (OpV.gtr rfl rfl) rfl ?_
          refine TL.open rfl rfl ?_
          refine TL.val (OpV.bneq Tryd.underlying4 rfl rfl) rfl ?_
          refine TL.said (t := 140) rfl (show _ = Value.bool false from congrArg Value.bool ((pos_neq (by have h9 := hX1.2.2.2.2.2; have h8 := congrArg List.length h5e; rw [List.length_map, h5.1.1] at h8; rw [← h8, hXl] at h9; exact h9)))) ?_
          refine TL.val ((by first | exact OpV.pick_t rfl rfl | exact OpV.pick_f rfl rfl)) rfl ?_
          refine TL.nil ?_
          refine TE.sub (.cons (t := 3) rfl <| .cons (t := 4) rfl <| .cons (t := 11) rfl <| .cons (t := 141) rfl <| .nil) ?_
          refine TE.next ?_
          refine T.no rfl ?_
          refine T.skip ?_
          refine TE.next ?_
          refine T.seq ?_
          refine T.seq ?_
          refine T.region ?_
          refine TL.val (OpV.move rfl) rfl ?_
          refine TL.val (OpV.len Tryd.underlying22 rfl) rfl ?_
          refine TL.val (OpV.eql rfl rfl) rfl ?_
          refine TL.nil ?_
          refine TE.next ?_
          refine T.cond rfl ?_ ?_
          ·
           intro ht144
           refine T.seq ?_
           refine T.region ?_
           refine TL.call (g := 37) rfl go_37 rfl (fun w1 k1 => known30_law w1 (L.below k1.bel)) rfl ?_
           refine TL.val (OpV.assign rfl) rfl ?_
           refine TL.nil ?_
           refine TE.sub (.cons (t := 10) rfl <| .nil) ?_
           refine TE.next ?_
           refine T.ret ?_
           refine TE.pass_ret ?_
           refine TE.ret1 rfl (ResV.tmp rfl) ?_
           exact fun w1 k1 => ⟨rfl, k1.bel⟩
          ·
           intro ht144
           have hpos : 0 < n5 := by have h9 : ((n5 : Int) == 0) = false := ht144; simp at h9; omega
           obtain ⟨kk, hkk⟩ : ∃ q : Nat, q = mu % n5 := ⟨_, rfl⟩
           have hkn : kk < n5 := by rw [hkk]; exact Nat.mod_lt _ hpos
           have hrem : Int.tmod (mu : Int) (n5 : Int) = (kk : Int) := by rw [hkk]; exact (Int.ofNat_tmod mu n5).symm
           have hlx : (flowV (lgG [] 0 (ls.map LnA.ln)) (m : Int)).length = n5 := by rw [← h5e, List.length_map]; exact h5.1.1
           obtain ⟨tp, htp, htq, hsl, hsk⟩ := screen_at (X := (flowV (lgG [] 0 (ls.map LnA.ln)) (m : Int))) (r := r) (k := kk) (by rw [hlx]; exact hkn) (by omega)
           rw [hlx] at htp
           have hso := scr_ok (X := (flowV (lgG [] 0 (ls.map LnA.ln)) (m : Int))) (rows := (r : Int)) (must := (kk : Int)) hX1.2.2.2.1 (by omega) (by rw [hlx]; omega)
           rw [hlx] at hso
           obtain ⟨x, hx⟩ := get_of_lt h5.1.1 hkn
           obtain ⟨b5_, o5_, hA5_, hat5_⟩ := h5.1.2.2.2.2 (by omega)
           obtain ⟨_, rfl, _, hatx⟩ := hat5_ _ x hx
           have hcx := h5.lsA.2 x (List.mem_of_getElem? hx)
           have hXx : (flowV (lgG [] 0 (ls.map LnA.ln)) (m : Int))[kk]? = some x.ln := by rw [← h5e, List.getElem?_map, hx]; rfl
           refine T.skip ?_
           refine TE.next ?_
           refine T.seq ?_
           refine T.region ?_
           refine TL.val (OpV.move rfl) rfl ?_
           refine TL.val (OpV.conv Tryd.underlying5 Tryd.underlying3 rfl (by first | exact IntWalk.i64_in _ ⟨by omega, by omega⟩ | rfl)) rfl ?_
           refine TL.val (OpV.move rfl) rfl ?_
           refine TL.val (OpV.len Tryd.underlying22 rfl) rfl ?_
           refine TL.val (OpV.rem rfl rfl (by omega) hrem) rfl ?_
           refine TL.val (OpV.assign rfl) rfl ?_
           refine TL.nil ?_
           refine TE.sub (.cons (t := 3) rfl <| .cons (t := 11) rfl <| .cons (t := 23) rfl <| .nil) ?_
           refine TE.next ?_
           refine T.seq ?_
           refine T.region ?_
           refine TL.val (OpV.move rfl) rfl ?_
           refine TL.val (OpV.move rfl) rfl ?_
           refine TL.val (OpV.conv Tryd.underlying5 Tryd.underlying3 rfl (by first | exact IntWalk.i64_in _ ⟨by omega, by omega⟩ | rfl)) rfl ?_
           refine TL.val (OpV.move rfl) rfl ?_
           refine TL.callx (g := 39) rfl go_39 rfl (fun wz k1 => own_x k1 (scr_c (r : Int) (kk : Int) wz (L.below k1.bel) h5.lsA (fun b o hb => (k1.get (e := .own ρ5) (by first | exact P0 | exact P1 | exact P2 | exact P3 | exact P4 | exact P5 | exact P6 | exact P7 | exact P8) b o hb).2) (by omega))) rfl ?_
           rintro ⟨A9, n9, c9, ρ9⟩ ⟨l9, h9, h9e⟩
           replace h9 : LsO 58 ρ9 (hdN (l5.map LnA.ln)) A9 n9 c9 l9 := h9
           replace h9e : l9.map LnA.ln = scrV (l5.map LnA.ln) (r : Int) (kk : Int) := h9e
           rw [h5e, hso.2.2] at h9e
           have hn9 : n9 = r := by have g9 := congrArg List.length h9e; rw [List.length_map, h9.1.1.1, hsl] at g9; exact g9
           refine TL.said (t := 156) rfl (show _ = Value.tuple #[.int .i64 (tp : Int), .slice A9 n9 c9, .int .i64 0] by rw [h5e, hso.1, hso.2.1, htp]; rfl) ?_
           rw [← h9e, hXx] at hsk
           obtain ⟨y, hy, hyx⟩ : ∃ y, l9[kk - tp]? = some y ∧ y.ln = x.ln := by rw [List.getElem?_map, Option.map_eq_some_iff] at hsk; exact hsk
           obtain ⟨b9, o9, hA9, hat9⟩ := h9.1.1.2.2.2.2 (by omega)
           obtain ⟨_, rfl, _, haty⟩ := hat9 _ y hy
           have hcy := h9.1.2 y (List.mem_of_getElem? hy)
           have hyc : y.cells = x.cells := congrArg Ln.cells hyx
           refine TL.val (OpV.move rfl) rfl ?_
           refine TL.val (OpV.extract rfl rfl) rfl ?_
           refine TL.val (OpV.extract rfl rfl) rfl ?_
           refine TL.val (OpV.extract rfl rfl) rfl ?_
           refine TL.val (OpV.assign rfl) rfl ?_
           refine TL.val (OpV.assign rfl) rfl ?_
           refine TL.val (OpV.assign rfl) rfl ?_
           refine TL.nil ?_
           refine TE.sub (.cons (t := 3) rfl <| .cons (t := 11) rfl <| .cons (t := 13) rfl <| .cons (t := 23) rfl <| .cons (t := 24) rfl <| .cons (t := 25) rfl <| .nil) ?_
           refine TE.next ?_
           refine T.seq ?_
           refine T.quiet mix (by kernel_rfl) ?_
           refine TQ.val (OpV.move rfl) rfl ?_
           refine TQ.val (OpV.eql rfl rfl) rfl ?_
           refine TQ.said (t := 161) rfl (show _ = Value.bool true from congrArg Value.bool (rfl)) ?_
           refine TQ.val (OpV.move rfl) rfl ?_
           refine TQ.open rfl rfl ?_
           refine TQ.val (OpV.move rfl) rfl ?_
           refine TQ.open rfl rfl ?_
           refine TQ.val (OpV.move rfl) rfl ?_
           refine TQ.open rfl rfl ?_
           refine TQ.val (OpV.leq rfl rfl) rfl ?_
           refine TQ.said (t := 165) rfl (show _ = Value.bool true from congrArg Value.bool (decide_eq_true (by omega))) ?_
           refine TQ.val ((by first | exact OpV.pick_t rfl rfl | exact OpV.pick_f rfl rfl)) rfl ?_
           refine TQ.val (OpV.move rfl) rfl ?_
           refine TQ.open rfl rfl ?_
           refine TQ.val (OpV.move rfl) rfl ?_
           refine TQ.open rfl rfl ?_
           refine TQ.val (OpV.move rfl) rfl ?_
           refine TQ.open rfl rfl ?_
           refine TQ.val (OpV.move rfl) rfl ?_
           refine TQ.open rfl rfl ?_
           refine TQ.val (OpV.conv Tryd.underlying5 Tryd.underlying3 rfl (by first | exact IntWalk.i64_in _ ⟨by omega, by omega⟩ | rfl)) rfl ?_
           refine TQ.open rfl rfl ?_
           refine TQ.val (OpV.add rfl rfl (by first | exact IntWalk.i64_in _ ⟨by omega, by omega⟩ | rfl)) rfl ?_
           refine TQ.open rfl rfl ?_
           refine TQ.val (OpV.lss rfl rfl) rfl ?_
           refine TQ.said (t := 173) rfl (show _ = Value.bool true from congrArg Value.bool (decide_eq_true (by omega))) ?_
           refine TQ.val ((by first | exact OpV.pick_t rfl rfl | exact OpV.pick_f rfl rfl)) rfl ?_
           refine TQ.val (OpV.move rfl) rfl ?_
           refine TQ.open rfl rfl ?_
           refine TQ.val (OpV.move rfl) rfl ?_
           refine TQ.open rfl rfl ?_
           refine TQ.val (OpV.len Tryd.underlying22 rfl) rfl ?_
           refine TQ.open rfl rfl ?_
           refine TQ.val (OpV.move rfl) rfl ?_
           refine TQ.open rfl rfl ?_
           refine TQ.val (OpV.conv Tryd.underlying5 Tryd.underlying3 rfl (by first | exact IntWalk.i64_in _ ⟨by omega, by omega⟩ | rfl)) rfl ?_
           refine TQ.open rfl rfl ?_
           refine TQ.val (OpV.eql rfl rfl) rfl ?_
           refine TQ.said (t := 180) rfl (show _ = Value.bool true from congrArg Value.bool ((by rw [hn9]; simp))) ?_
           refine TQ.val ((by first | exact OpV.pick_t rfl rfl | exact OpV.pick_f rfl rfl)) rfl ?_
           refine TQ.val (OpV.move rfl) rfl ?_
           refine TQ.open rfl rfl ?_
           refine TQ.val (OpV.move rfl) rfl ?_
           refine TQ.open rfl rfl ?_
           refine TQ.val (OpV.move rfl) rfl ?_
           refine TQ.open rfl rfl ?_
           refine TQ.val (OpV.move rfl) rfl ?_
           refine TQ.open rfl rfl ?_
           refine TQ.val (OpV.sub rfl rfl (by first | exact IntWalk.i64_in _ ⟨by omega, by omega⟩ | rfl)) rfl ?_
           refine TQ.open rfl rfl ?_
           refine TQ.val (OpV.indexAddr (j := (kk - tp)) se_22 rfl hA9 rfl (by omega) (by omega)) rfl ?_
           refine TQ.open rfl rfl ?_
           refine TQ.val (OpV.fieldAddr rfl fo_65_0) rfl ?_
           refine TQ.open rfl rfl ?_
           refine TQ.val (OpV.load pl_35 rfl (by first | exact Cel.blk P0 rfl | exact Cel.blk P1 rfl | exact Cel.blk P2 rfl | exact Cel.blk P3 rfl | exact Cel.blk P4 rfl | exact Cel.blk P5 rfl | exact Cel.ownA (hatx _ _ rfl) | exact Cel.ownA (haty _ _ rfl))) rfl ?_
           refine TQ.open rfl rfl ?_
           refine TQ.val (OpV.move rfl) rfl ?_
           refine TQ.open rfl rfl ?_
           refine TQ.val (OpV.move rfl) rfl ?_
           refine TQ.open rfl rfl ?_
           refine TQ.val (OpV.indexAddr (j := kk) se_22 rfl hA5_ rfl rfl (by omega)) rfl ?_
           refine TQ.open rfl rfl ?_
           refine TQ.val (OpV.fieldAddr rfl fo_65_0) rfl ?_
           refine TQ.open rfl rfl ?_
           refine TQ.val (OpV.load pl_35 rfl (by first | exact Cel.blk P0 rfl | exact Cel.blk P1 rfl | exact Cel.blk P2 rfl | exact Cel.blk P3 rfl | exact Cel.blk P4 rfl | exact Cel.blk P5 rfl | exact Cel.ownA (hatx _ _ rfl) | exact Cel.ownA (haty _ _ rfl))) rfl ?_
           refine TQ.open rfl rfl ?_
           refine TQ.call (g := 43) rfl go_43 rfl (fun w1 k1 => cells_c w1 hcy hcx (fun b o hb => (k1.get (e := .own ρ9) (by first | exact P0 | exact P1 | exact P2 | exact P3 | exact P4 | exact P5 | exact P6 | exact P7 | exact P8) b o hb).2) (fun b o hb => (k1.get (e := .own ρ5) (by first | exact P0 | exact P1 | exact P2 | exact P3 | exact P4 | exact P5 | exact P6 | exact P7 | exact P8) b o hb).2)) rfl ?_
           refine TQ.said (t := 195) rfl (show _ = Value.bool true from congrArg Value.bool (decide_eq_true hyc)) ?_
           refine TQ.val ((by first | exact OpV.pick_t rfl rfl | exact OpV.pick_f rfl rfl)) rfl ?_
           refine TQ.val (OpV.move rfl) rfl ?_
           refine TQ.open rfl rfl ?_
           refine TQ.call (g := 37) rfl go_37 rfl (fun w1 k1 => known30_law w1 (L.below k1.bel)) rfl ?_
           refine TQ.val ((by first | exact OpV.pick_t rfl rfl | exact OpV.pick_f rfl rfl)) rfl ?_
           refine TQ.val (OpV.assign rfl) rfl ?_
           refine TQ.nil ?_
           refine TE.sub (.cons (t := 10) rfl <| .nil) ?_
           refine TE.next ?_
           refine T.ret ?_
           refine TE.ret1 rfl (ResV.tmp rfl) ?_
           exact fun w1 k1 => ⟨rfl, k1.bel⟩
end Go.Proofs.YtdmpodpdpncobaaDoor
