/-
  The walks of the reference of logical lines. No condition.
-/
import Derived.Test.YtdmpodpdpncobaaDoorUc
namespace Go.Proofs.YtdmpodpdpncobaaDoor
open Go.RowKit
set_option linter.unusedSimpArgs false
set_option linter.unusedVariables false

set_option maxRecDepth 100000 in
set_option maxHeartbeats 1000000 in
theorem rlines_c {σ : Nat → Option Obj} {A : Option Addr} {n c : Nat} {ls : List LnA} (w : World) (h : LsA σ A n c ls) (hs : ∀ b o, σ b = some o → w.heap[b]? = some o) (hn : n ≤ 131072) (hb : ∀ x ∈ ls.map LnA.cells, x.length ≤ 1000) : Calls Tryd.prog 26 #[.slice A n c] w (fun e w' => ∃ v : SV, e = .returned v.v ∧ GsR v.σ v.A v.n v.c (lgG [] 0 (ls.map LnA.ln)) ∧ KOk w [.own v.σ] w') := by
 have hn63 := h.1.2.1
 have hc63 := h.1.2.2.1
 have hl1 := h.1.1
 have hXl : (ls.map LnA.ln).length = n := by rw [List.length_map]; exact hl1
 refine calls_T (vs := [.slice A n c]) (L0 := [(0, .slice A n c)]) Tryd.func26 rfl rfl rfl rfl (KOk.fr1 hs) ?_
 refine T.seq ?_
 refine T.region ?_
 refine TL.val (OpV.assign rfl) rfl ?_
 refine TL.nil ?_
 refine TE.next ?_
 refine T.seq ?_
 refine T.region ?_
 refine TL.val (OpV.assign rfl) rfl ?_
 refine TL.nil ?_
 refine TE.next ?_
 refine T.seq ?_
 refine T.region ?_
 refine TL.val (OpV.assign rfl) rfl ?_
 refine TL.nil ?_
 refine TE.next ?_
 refine T.seq ?_
 refine T.seq ?_
 refine T.region ?_
 refine TL.val (OpV.assign rfl) rfl ?_
 refine TL.nil ?_
 refine TE.next ?_
 refine T.block ?_
 refine T.loop (ι := Nat × Nat × List LgA × Option Addr × Nat × (Nat → Option Obj)) (fun ⟨i, f, gs, A4, c4, τ⟩ => i ≤ n ∧ f ≤ i ∧ gs.map LgA.lg ++ lgG (((ls.map LnA.ln).take i).drop f) f ((ls.map LnA.ln).drop i) = lgG [] 0 (ls.map LnA.ln) ∧ (∀ l ∈ gs, CsR τ l.A l.n l.c l.cells) ∧ (A4 = none → c4 = 0) ∧ gs.length ≤ i) (fun ⟨i, f, gs, A4, c4, τ⟩ => (n - i)) (fun ⟨i, f, gs, A4, c4, τ⟩ => [(0, .slice A n c), (3, .slice A4 gs.length c4), (4, .int .i64 (f : Int)), (5, .int .i64 (i : Int))]) (fun ⟨i, f, gs, A4, c4, τ⟩ => [.row 37 3 A4 gs.length c4 (flg gs), .own τ, .fr σ]) (0, 0, [], none, 0, fun _ => none) ⟨Nat.zero_le _, Nat.le_refl _, rfl, (fun l hl => by cases hl), fun _ => rfl, Nat.zero_le _⟩ (.cons (t := 0) rfl <| .cons (t := 3) rfl <| .cons (t := 4) rfl <| .cons (t := 5) rfl <| .nil) ((fun wz kz => Perm.kle (.cons (by first | exact P0 | exact P1 | exact P2 | exact P3 | exact P4 | exact P5 | exact P6) (.cons (by first | exact P0 | exact P1 | exact P2 | exact P3 | exact P4 | exact P5 | exact P6) (.cons (by first | exact P0 | exact P1 | exact P2 | exact P3 | exact P4 | exact P5 | exact P6) .nil))) wz (Kle.nilRow 37 3 wz (KOk.ownNil kz)))) ?_
 rintro ⟨i, f, gs, A4, c4, τ⟩ hR
 refine T.seq ?_
 refine T.seq ?_
 refine T.region ?_
 refine TL.val (OpV.move rfl) rfl ?_
 refine TL.val (OpV.move rfl) rfl ?_
 refine TL.val (OpV.len Tryd.underlying22 rfl) rfl ?_
 refine TL.val (OpV.lss rfl rfl) rfl ?_
 refine TL.nil ?_
 refine TE.next ?_
 refine T.cond rfl ?_ ?_
 ·
  intro ht9
  obtain ⟨q1, q2, q3, q4, q5, q6⟩ := hR
  have hi : i < n := by have h9 := of_decide_eq_true ht9; omega
  obtain ⟨x, hx⟩ := get_of_lt h.1.1 (show i < n by omega)
  obtain ⟨br, or, hA6, hat6⟩ := h.1.2.2.2.2 (by omega)
  obtain ⟨_, rfl, _, hatl⟩ := hat6 _ x hx
  have hcx := h.2 x (List.mem_of_getElem? hx)
  have hX : (ls.map LnA.ln)[i]? = some x.ln := by rw [List.getElem?_map, hx]; rfl
  have hcs := cur_snoc hX q2
  have hcl : (((ls.map LnA.ln).take i).drop f).length = i - f := by rw [List.length_drop, List.length_take]; omega
  refine T.skip ?_
  refine TE.next ?_
  refine T.seq ?_
  refine T.block ?_
  refine T.seq ?_
  refine T.region ?_
  refine TL.val (OpV.move rfl) rfl ?_
  refine TL.val (OpV.move rfl) rfl ?_
  refine TL.val (OpV.indexAddr se_22 rfl hA6 rfl (by rfl) (by first | omega | simp)) rfl ?_
  refine TL.val (OpV.fieldAddr rfl fo_65_1) rfl ?_
  refine TL.val (OpV.load pl_4 rfl (by first | exact Cel.blk P0 rfl | exact Cel.blk P1 rfl | exact Cel.blk P2 rfl | exact Cel.blk P3 rfl | exact Cel.blk P4 rfl | exact Cel.blk P5 rfl | exact Cel.frA (hatl _ _ rfl))) rfl ?_
  refine TL.val (OpV.not rfl) rfl ?_
  refine TL.val (OpV.move rfl) rfl ?_
  refine TL.part (t := 18) rfl ?_ ?_
  ·
   intro hg18
   refine TL.shut rfl rfl ?_
   refine TL.shut rfl rfl ?_
   refine TL.shut rfl rfl ?_
   refine TL.shut rfl rfl ?_
   refine TL.shut rfl rfl ?_
   refine TL.val ((by first | exact OpV.pick_t rfl rfl | exact OpV.pick_f rfl rfl)) rfl ?_
   refine TL.nil ?_
   refine TE.sub (.cons (t := 0) rfl <| .cons (t := 3) rfl <| .cons (t := 4) rfl <| .cons (t := 5) rfl <| .cons (t := 24) rfl <| .nil) ?_
   refine TE.next ?_
   refine T.yes rfl ?_
   refine T.seq ?_
   have hlg := lgG_end (cur := (((ls.map LnA.ln).take i).drop f)) (f := f) hX (by first | (left; show x.soft = false; simpa using hg18) | (right; have h9 := eq_of_beq ht24; rw [hXl]; omega))
   rw [hlg, ← hcs, hcl] at q3
   have hls := h.slice (lo := f) (hi := i + 1) (by omega) (by omega)
   have hmc : (((ls.map LnA.ln).take (i + 1)).drop f).map Ln.cells = (((ls.take (i + 1)).drop f).map LnA.cells) := by rw [← List.map_take, ← List.map_drop, List.map_map]; rfl
   rw [hmc] at q3
   have hb2 : ∀ x ∈ (((ls.take (i + 1)).drop f).map LnA.cells), x.length ≤ 1000 := fun x hx => by obtain ⟨l, hl, rfl⟩ := List.mem_map.1 hx; exact hb _ (List.mem_map_of_mem (List.mem_of_mem_take (List.mem_of_mem_drop hl)))
   have hab : (allV (((ls.take (i + 1)).drop f).map LnA.cells)).length ≤ 131072000 := by have h9 := allV_len (((ls.take (i + 1)).drop f).map LnA.cells); have h8 := sumL_le hb2; rw [List.length_map, hls.1.1] at h8; omega
   refine T.region ?_
   refine TL.val (OpV.move rfl) rfl ?_
   refine TL.val (OpV.move rfl) rfl ?_
   refine TL.val (OpV.move rfl) rfl ?_
   refine TL.val (OpV.move rfl) rfl ?_
   refine TL.val (OpV.add rfl rfl (by first | exact IntWalk.i64_in _ ⟨by omega, by omega⟩ | rfl)) rfl ?_
   refine TL.val (OpV.sliceLH (lo := f) (hi := i + 1) se_22 rfl rfl rfl rfl (by omega) (by omega) (by omega)) rfl ?_
   refine TL.callx (g := 54) rfl go_54 rfl (fun wz k1 => own_x k1 (rall_c wz hls (k1.get (e := .fr σ) (by first | exact P0 | exact P1 | exact P2 | exact P3 | exact P4 | exact P5)) (by omega) hb2)) rfl ?_
   rintro ⟨Aa, na, ca, ρa⟩ ha
   replace ha : CsR ρa Aa na ca (allV (((ls.take (i + 1)).drop f).map LnA.cells)) := ha
   have hal : na ≤ 131072000 := by have h9 : (allV (((ls.take (i + 1)).drop f).map LnA.cells)).length = na := ha.1; omega
   refine TL.said (t := 31) rfl (show SV.v ⟨Aa, na, ca, ρa⟩ = Value.slice Aa na ca from rfl) ?_
   refine TL.callx (g := 29) rfl go_29 rfl (fun wz k1 => own_x k1 (rtrim_c wz ha (fun b o hb => (k1.get (e := .own ρa) (by first | exact P0 | exact P1 | exact P2 | exact P3 | exact P4 | exact P5) b o hb).2) (by omega))) rfl ?_
   rintro ⟨At, nt, ct, ρt⟩ ht
   replace ht : CsR ρt At nt ct (trimV (allV (((ls.take (i + 1)).drop f).map LnA.cells))) := ht
   have htc := ht.2.2.1
   refine TL.said (t := 32) rfl (show SV.v ⟨At, nt, ct, ρt⟩ = Value.slice At nt ct from rfl) ?_
   refine TL.val (OpV.move rfl) rfl ?_
   refine TL.val (OpV.move rfl) rfl ?_
   refine TL.val (OpV.add rfl rfl (by first | exact IntWalk.i64_in _ ⟨by omega, by omega⟩ | rfl)) rfl ?_
   refine TL.val (OpV.move rfl) rfl ?_
   refine TL.val (OpV.sub rfl rfl (by first | exact IntWalk.i64_in _ ⟨by omega, by omega⟩ | rfl)) rfl ?_
   refine TL.val (OpV.build (qs := #[(0, _), (1, _), (2, _)]) (fun _ f => by simp only [List.map_toArray, List.map_cons, List.map_nil]; rw [f.ev (x := .tmp 32) rfl, f.ev (x := .tmp 33) rfl, f.ev (x := .tmp 37) rfl]) (bld_37_0_1_2 (LgA.mk At nt ct (trimV (allV (((ls.take (i + 1)).drop f).map LnA.cells))) (f : Int) ((i : Int) + 1 - (f : Int))) )) rfl ?_
   refine TL.slit (qs := #[(0, _)]) (fun _ f => by simp only [List.map_toArray, List.map_cons, List.map_nil]; rw [f.ev (x := .tmp 38) rfl]) (sl_34_1_0 (LgA.mk At nt ct (trimV (allV (((ls.take (i + 1)).drop f).map LnA.cells))) (f : Int) ((i : Int) + 1 - (f : Int)))) rfl ?_
   intro b39
   obtain ⟨ti40, hi40, hz40, hs40, hb40⟩ := info_parts inf_37
   refine TL.append rfl rfl Tryd.underlying34 hi40 hz40 hs40 hb40 rfl (by omega) (by first | exact P0 | exact P1 | exact P2 | exact P3 | exact P4 | exact P5) (by first | exact Src.nil | exact Src.blk P0 rfl | exact Src.blk P1 rfl | exact Src.blk P2 rfl | exact Src.blk P3 rfl | exact Src.blk P4 rfl | exact Src.blk P5 rfl | exact Src.row P0 | exact Src.row P1 | exact Src.row P2 | exact Src.row P3 | exact Src.row P4 | exact Src.row P5) (fun h => by cases h) rfl (by omega) (by omega) rfl ?_
   clear hi40 hz40 hs40 hb40 ti40
   intro A40 c40 hn40
   refine TL.val (OpV.assign rfl) rfl ?_
   refine TL.nil ?_
   refine TE.sub (.cons (t := 0) rfl <| .cons (t := 3) rfl <| .cons (t := 5) rfl <| .nil) ?_
   refine TE.next ?_
   refine T.ex (ι := Nat → Option Obj) (R := fun ρ => (∀ b o, ρt b = some o → ρ b = some o) ∧ (∀ b o, τ b = some o → ρ b = some o)) (K2 := fun ρ => [.own ρ, .row 37 3 A40 (gs.length + 1) c40 (flg gs ++ (LgA.mk At nt ct (trimV (allV (((ls.take (i + 1)).drop f).map LnA.cells))) (f : Int) ((i : Int) + 1 - (f : Int))).l), .fr σ]) (fun wz kz => ?_) ?_
   · skip
     obtain ⟨ρ, h9, k2⟩ := KOk.own2 ((kz.pick (e := .own τ) (by first | exact P0 | exact P1 | exact P2 | exact P3 | exact P4 | exact P5 | exact P6)).pick (e := .own ρt) (by first | exact P0 | exact P1 | exact P2 | exact P3 | exact P4 | exact P5 | exact P6))
     exact ⟨ρ, h9, Perm.kle (.cons (by first | exact P0 | exact P1 | exact P2 | exact P3 | exact P4 | exact P5 | exact P6) (.cons (by first | exact P0 | exact P1 | exact P2 | exact P3 | exact P4 | exact P5 | exact P6) (.cons (by first | exact P0 | exact P1 | exact P2 | exact P3 | exact P4 | exact P5 | exact P6) .nil))) wz k2⟩
   rintro ρ ⟨e1, e2⟩
   refine T.region ?_
   refine TL.val (OpV.move rfl) rfl ?_
   refine TL.val (OpV.add rfl rfl (by first | exact IntWalk.i64_in _ ⟨by omega, by omega⟩ | rfl)) rfl ?_
   refine TL.val (OpV.assign rfl) rfl ?_
   refine TL.nil ?_
   refine TE.out ?_
   refine TE.next ?_
   refine T.region ?_
   refine TL.val (OpV.move rfl) rfl ?_
   refine TL.val (OpV.add rfl rfl (by first | exact IntWalk.i64_in _ ⟨by omega, by omega⟩ | rfl)) rfl ?_
   refine TL.val (OpV.assign rfl) rfl ?_
   refine TL.nil ?_
   exact TE.meet (i + 1, i + 1, gs ++ [(LgA.mk At nt ct (trimV (allV (((ls.take (i + 1)).drop f).map LnA.cells))) (f : Int) ((i : Int) + 1 - (f : Int)))], A40, c40, ρ) ⟨⟨by omega, by omega, by rw [List.map_append, List.append_assoc, cur_nil, ← q3]; congr 1; simp only [List.map_cons, List.map_nil, LgA.lg, List.cons_append, List.nil_append, List.cons.injEq, Lg.mk.injEq, true_and]; exact ⟨by omega, by rw [show f + (i - f) + 1 = i + 1 by omega]⟩, (fun l hl => by rcases List.mem_append.1 hl with hl | hl; exact (q4 l hl).mono e2; obtain rfl := List.mem_singleton.1 hl; exact ht.mono e1), hn40, by simp only [List.length_append, List.length_cons, List.length_nil]; omega⟩, by simp only; omega⟩ (.cons (t := 0) (by first | rfl | (simp [lk]; done)) <| .cons (t := 3) (by simp only [List.length_append, List.length_cons, List.length_nil]; rfl) <| .cons (t := 4) (by first | rfl | (simp [lk]; done)) <| .cons (t := 5) (by first | rfl | (simp [lk]; done)) <| .nil) ((by simp only [flg_snoc, List.length_append, List.length_cons, List.length_nil]; exact Perm.kle (.cons (by first | exact P0 | exact P1 | exact P2 | exact P3 | exact P4 | exact P5 | exact P6) (.cons (by first | exact P0 | exact P1 | exact P2 | exact P3 | exact P4 | exact P5 | exact P6) (.cons (by first | exact P0 | exact P1 | exact P2 | exact P3 | exact P4 | exact P5 | exact P6) .nil)))))
  ·
   intro hg18
   refine TL.open rfl rfl ?_
   refine TL.val (OpV.move rfl) rfl ?_
   refine TL.open rfl rfl ?_
   refine TL.val (OpV.move rfl) rfl ?_
   refine TL.open rfl rfl ?_
   refine TL.val (OpV.len Tryd.underlying22 rfl) rfl ?_
   refine TL.open rfl rfl ?_
   refine TL.val (OpV.sub rfl rfl (by first | exact IntWalk.i64_in _ ⟨by omega, by omega⟩ | rfl)) rfl ?_
   refine TL.open rfl rfl ?_
   refine TL.val (OpV.eql rfl rfl) rfl ?_
   refine TL.val ((by first | exact OpV.pick_t rfl rfl | exact OpV.pick_f rfl rfl)) rfl ?_
   refine TL.nil ?_
   refine TE.sub (.cons (t := 0) rfl <| .cons (t := 3) rfl <| .cons (t := 4) rfl <| .cons (t := 5) rfl <| .cons (t := 24) rfl <| .nil) ?_
   refine TE.next ?_
   refine T.cond rfl ?_ ?_
   ·
    intro ht24
    refine T.seq ?_
    have hlg := lgG_end (cur := (((ls.map LnA.ln).take i).drop f)) (f := f) hX (by first | (left; show x.soft = false; simpa using hg18) | (right; have h9 := eq_of_beq ht24; rw [hXl]; omega))
    rw [hlg, ← hcs, hcl] at q3
    have hls := h.slice (lo := f) (hi := i + 1) (by omega) (by omega)
    have hmc : (((ls.map LnA.ln).take (i + 1)).drop f).map Ln.cells = (((ls.take (i + 1)).drop f).map LnA.cells) := by rw [← List.map_take, ← List.map_drop, List.map_map]; rfl
    rw [hmc] at q3
    have hb2 : ∀ x ∈ (((ls.take (i + 1)).drop f).map LnA.cells), x.length ≤ 1000 := fun x hx => by obtain ⟨l, hl, rfl⟩ := List.mem_map.1 hx; exact hb _ (List.mem_map_of_mem (List.mem_of_mem_take (List.mem_of_mem_drop hl)))
    have hab : (allV (((ls.take (i + 1)).drop f).map LnA.cells)).length ≤ 131072000 := by have h9 := allV_len (((ls.take (i + 1)).drop f).map LnA.cells); have h8 := sumL_le hb2; rw [List.length_map, hls.1.1] at h8; omega
    refine T.region ?_
    refine TL.val (OpV.move rfl) rfl ?_
    refine TL.val (OpV.move rfl) rfl ?_
    refine TL.val (OpV.move rfl) rfl ?_
    refine TL.val (OpV.move rfl) rfl ?_
    refine TL.val (OpV.add rfl rfl (by first | exact IntWalk.i64_in _ ⟨by omega, by omega⟩ | rfl)) rfl ?_
    refine TL.val (OpV.sliceLH (lo := f) (hi := i + 1) se_22 rfl rfl rfl rfl (by omega) (by omega) (by omega)) rfl ?_
    refine TL.callx (g := 54) rfl go_54 rfl (fun wz k1 => own_x k1 (rall_c wz hls (k1.get (e := .fr σ) (by first | exact P0 | exact P1 | exact P2 | exact P3 | exact P4 | exact P5)) (by omega) hb2)) rfl ?_
    rintro ⟨Aa, na, ca, ρa⟩ ha
    replace ha : CsR ρa Aa na ca (allV (((ls.take (i + 1)).drop f).map LnA.cells)) := ha
    have hal : na ≤ 131072000 := by have h9 : (allV (((ls.take (i + 1)).drop f).map LnA.cells)).length = na := ha.1; omega
    refine TL.said (t := 31) rfl (show SV.v ⟨Aa, na, ca, ρa⟩ = Value.slice Aa na ca from rfl) ?_
    refine TL.callx (g := 29) rfl go_29 rfl (fun wz k1 => own_x k1 (rtrim_c wz ha (fun b o hb => (k1.get (e := .own ρa) (by first | exact P0 | exact P1 | exact P2 | exact P3 | exact P4 | exact P5) b o hb).2) (by omega))) rfl ?_
    rintro ⟨At, nt, ct, ρt⟩ ht
    replace ht : CsR ρt At nt ct (trimV (allV (((ls.take (i + 1)).drop f).map LnA.cells))) := ht
    have htc := ht.2.2.1
    refine TL.said (t := 32) rfl (show SV.v ⟨At, nt, ct, ρt⟩ = Value.slice At nt ct from rfl) ?_
    refine TL.val (OpV.move rfl) rfl ?_
    refine TL.val (OpV.move rfl) rfl ?_
    refine TL.val (OpV.add rfl rfl (by first | exact IntWalk.i64_in _ ⟨by omega, by omega⟩ | rfl)) rfl ?_
    refine TL.val (OpV.move rfl) rfl ?_
    refine TL.val (OpV.sub rfl rfl (by first | exact IntWalk.i64_in _ ⟨by omega, by omega⟩ | rfl)) rfl ?_
    refine TL.val (OpV.build (qs := #[(0, _), (1, _), (2, _)]) (fun _ f => by simp only [List.map_toArray, List.map_cons, List.map_nil]; rw [f.ev (x := .tmp 32) rfl, f.ev (x := .tmp 33) rfl, f.ev (x := .tmp 37) rfl]) (bld_37_0_1_2 (LgA.mk At nt ct (trimV (allV (((ls.take (i + 1)).drop f).map LnA.cells))) (f : Int) ((i : Int) + 1 - (f : Int))) )) rfl ?_
    refine TL.slit (qs := #[(0, _)]) (fun _ f => by simp only [List.map_toArray, List.map_cons, List.map_nil]; rw [f.ev (x := .tmp 38) rfl]) (sl_34_1_0 (LgA.mk At nt ct (trimV (allV (((ls.take (i + 1)).drop f).map LnA.cells))) (f : Int) ((i : Int) + 1 - (f : Int)))) rfl ?_
    intro b39
    obtain ⟨ti40, hi40, hz40, hs40, hb40⟩ := info_parts inf_37
    refine TL.append rfl rfl Tryd.underlying34 hi40 hz40 hs40 hb40 rfl (by omega) (by first | exact P0 | exact P1 | exact P2 | exact P3 | exact P4 | exact P5) (by first | exact Src.nil | exact Src.blk P0 rfl | exact Src.blk P1 rfl | exact Src.blk P2 rfl | exact Src.blk P3 rfl | exact Src.blk P4 rfl | exact Src.blk P5 rfl | exact Src.row P0 | exact Src.row P1 | exact Src.row P2 | exact Src.row P3 | exact Src.row P4 | exact Src.row P5) (fun h => by cases h) rfl (by omega) (by omega) rfl ?_
    clear hi40 hz40 hs40 hb40 ti40
    intro A40 c40 hn40
    refine TL.val (OpV.assign rfl) rfl ?_
    refine TL.nil ?_
    refine TE.sub (.cons (t := 0) rfl <| .cons (t := 3) rfl <| .cons (t := 5) rfl <| .nil) ?_
    refine TE.next ?_
    refine T.ex (ι := Nat → Option Obj) (R := fun ρ => (∀ b o, ρt b = some o → ρ b = some o) ∧ (∀ b o, τ b = some o → ρ b = some o)) (K2 := fun ρ => [.own ρ, .row 37 3 A40 (gs.length + 1) c40 (flg gs ++ (LgA.mk At nt ct (trimV (allV (((ls.take (i + 1)).drop f).map LnA.cells))) (f : Int) ((i : Int) + 1 - (f : Int))).l), .fr σ]) (fun wz kz => ?_) ?_
    · skip
      obtain ⟨ρ, h9, k2⟩ := KOk.own2 ((kz.pick (e := .own τ) (by first | exact P0 | exact P1 | exact P2 | exact P3 | exact P4 | exact P5 | exact P6)).pick (e := .own ρt) (by first | exact P0 | exact P1 | exact P2 | exact P3 | exact P4 | exact P5 | exact P6))
      exact ⟨ρ, h9, Perm.kle (.cons (by first | exact P0 | exact P1 | exact P2 | exact P3 | exact P4 | exact P5 | exact P6) (.cons (by first | exact P0 | exact P1 | exact P2 | exact P3 | exact P4 | exact P5 | exact P6) (.cons (by first | exact P0 | exact P1 | exact P2 | exact P3 | exact P4 | exact P5 | exact P6) .nil))) wz k2⟩
    rintro ρ ⟨e1, e2⟩
    refine T.region ?_
    refine TL.val (OpV.move rfl) rfl ?_
    refine TL.val (OpV.add rfl rfl (by first | exact IntWalk.i64_in _ ⟨by omega, by omega⟩ | rfl)) rfl ?_
    refine TL.val (OpV.assign rfl) rfl ?_
    refine TL.nil ?_
    refine TE.out ?_
    refine TE.next ?_
    refine T.region ?_
    refine TL.val (OpV.move rfl) rfl ?_
    refine TL.val (OpV.add rfl rfl (by first | exact IntWalk.i64_in _ ⟨by omega, by omega⟩ | rfl)) rfl ?_
    refine TL.val (OpV.assign rfl) rfl ?_
    refine TL.nil ?_
    exact TE.meet (i + 1, i + 1, gs ++ [(LgA.mk At nt ct (trimV (allV (((ls.take (i + 1)).drop f).map LnA.cells))) (f : Int) ((i : Int) + 1 - (f : Int)))], A40, c40, ρ) ⟨⟨by omega, by omega, by rw [List.map_append, List.append_assoc, cur_nil, ← q3]; congr 1; simp only [List.map_cons, List.map_nil, LgA.lg, List.cons_append, List.nil_append, List.cons.injEq, Lg.mk.injEq, true_and]; exact ⟨by omega, by rw [show f + (i - f) + 1 = i + 1 by omega]⟩, (fun l hl => by rcases List.mem_append.1 hl with hl | hl; exact (q4 l hl).mono e2; obtain rfl := List.mem_singleton.1 hl; exact ht.mono e1), hn40, by simp only [List.length_append, List.length_cons, List.length_nil]; omega⟩, by simp only; omega⟩ (.cons (t := 0) (by first | rfl | (simp [lk]; done)) <| .cons (t := 3) (by simp only [List.length_append, List.length_cons, List.length_nil]; rfl) <| .cons (t := 4) (by first | rfl | (simp [lk]; done)) <| .cons (t := 5) (by first | rfl | (simp [lk]; done)) <| .nil) ((by simp only [flg_snoc, List.length_append, List.length_cons, List.length_nil]; exact Perm.kle (.cons (by first | exact P0 | exact P1 | exact P2 | exact P3 | exact P4 | exact P5 | exact P6) (.cons (by first | exact P0 | exact P1 | exact P2 | exact P3 | exact P4 | exact P5 | exact P6) (.cons (by first | exact P0 | exact P1 | exact P2 | exact P3 | exact P4 | exact P5 | exact P6) .nil)))))
   ·
    intro ht24
    have hlg := lgG_soft (cur := (((ls.map LnA.ln).take i).drop f)) (f := f) hX (show x.soft = true by simpa using hg18) (by rw [hXl]; have h9 := beq_eq_false_iff_ne.1 ht24; omega)
    rw [hlg, ← hcs] at q3
    refine T.skip ?_
    refine TE.out ?_
    refine TE.next ?_
    refine T.region ?_
    refine TL.val (OpV.move rfl) rfl ?_
    refine TL.val (OpV.add rfl rfl (by first | exact IntWalk.i64_in _ ⟨by omega, by omega⟩ | rfl)) rfl ?_
    refine TL.val (OpV.assign rfl) rfl ?_
    refine TL.nil ?_
    exact TE.meet (i + 1, f, gs, A4, c4, τ) ⟨⟨by omega, by omega, q3, q4, q5, by omega⟩, by simp only; omega⟩ (.cons (t := 0) (by first | rfl | (simp [lk]; done)) <| .cons (t := 3) (by first | rfl | (simp [lk]; done)) <| .cons (t := 4) (by first | rfl | (simp [lk]; done)) <| .cons (t := 5) (by first | rfl | (simp [lk]; done)) <| .nil) (Perm.kle (.cons (by first | exact P0 | exact P1 | exact P2 | exact P3 | exact P4 | exact P5 | exact P6) (.cons (by first | exact P0 | exact P1 | exact P2 | exact P3 | exact P4 | exact P5 | exact P6) (.cons (by first | exact P0 | exact P1 | exact P2 | exact P3 | exact P4 | exact P5 | exact P6) .nil))))
 ·
  intro ht9
  obtain ⟨q1, q2, q3, q4, q5, q6⟩ := hR
  have hin : ¬ i < n := by have h9 := of_decide_eq_false ht9; omega
  rw [List.drop_of_length_le (l := (ls.map LnA.ln)) (i := i) (by omega), lgG, List.append_nil] at q3
  refine T.exit ?_
  refine TE.pass_exit ?_
  refine TE.pass_exit ?_
  refine TE.here ?_
  refine TE.next ?_
  refine T.seq ?_
  refine T.region ?_
  refine TL.val (OpV.move rfl) rfl ?_
  refine TL.val (OpV.assign rfl) rfl ?_
  refine TL.nil ?_
  refine TE.sub (.cons (t := 2) rfl <| .nil) ?_
  refine TE.next ?_
  refine T.ret ?_
  refine TE.ret1 rfl (ResV.tmp rfl) ?_
  intro wz kz
  obtain ⟨ρ, ⟨r2, r3⟩, k2⟩ := KOk.rowInto (e := 37) (z := 3) (A := A4) (m := gs.length) (c := c4) (xs := flg gs) (τ := τ) kz (by first | exact P0 | exact P1 | exact P2 | exact P3 | exact P4 | exact P5 | exact P6) (by first | exact P0 | exact P1 | exact P2 | exact P3 | exact P4 | exact P5 | exact P6)
  exact ⟨⟨A4, gs.length, c4, ρ⟩, rfl, ⟨gs, ⟨SlR.of_row LgA.l_length r2 rfl, fun l hl => (q4 l hl).mono r3⟩, q3⟩, Perm.kle (.cons .here .nil) wz k2⟩
set_option maxRecDepth 100000 in
set_option maxHeartbeats 1000000 in
theorem rcopy_c {σ : Nat → Option Obj} {A : Option Addr} {n c : Nat} {ls : List LnA} (w : World) (h : LsA σ A n c ls) (hs : ∀ b o, σ b = some o → w.heap[b]? = some o) (hn : n ≤ 131072) (hb : ∀ l ∈ ls, l.n ≤ 1048576) : Calls Tryd.prog 15 #[.slice A n c] w (fun e w' => ∃ v : SV, e = .returned v.v ∧ LsR v.σ v.A v.n v.c (ls.map LnA.ln) ∧ KOk w [.own v.σ] w') := by
 have hn63 := h.1.2.1
 have hc63 := h.1.2.2.1
 have hl1 := h.1.1
 have hXl : (ls.map LnA.ln).length = n := by rw [List.length_map]; exact hl1
 refine calls_T (vs := [.slice A n c]) (L0 := [(0, .slice A n c)]) Tryd.func15 rfl rfl rfl rfl (KOk.fr1 hs) ?_
 refine T.seq ?_
 refine T.region ?_
 refine TL.val (OpV.assign rfl) rfl ?_
 refine TL.nil ?_
 refine TE.next ?_
 refine T.seq ?_
 refine T.region ?_
 refine TL.val (OpV.assign rfl) rfl ?_
 refine TL.nil ?_
 refine TE.next ?_
 refine T.seq ?_
 refine T.seq ?_
 refine T.region ?_
 refine TL.val (OpV.assign rfl) rfl ?_
 refine TL.nil ?_
 refine TE.next ?_
 refine T.block ?_
 refine T.loop (ι := Nat × List LnA × Option Addr × Nat × (Nat → Option Obj)) (fun ⟨i, cs, A3, c3, τ⟩ => i ≤ n ∧ cs.map LnA.ln = (ls.take i).map LnA.ln ∧ (∀ l ∈ cs, CsR τ l.A l.n l.c l.cells) ∧ (A3 = none → c3 = 0)) (fun ⟨i, cs, A3, c3, τ⟩ => (n - i)) (fun ⟨i, cs, A3, c3, τ⟩ => [(0, .slice A n c), (3, .slice A3 cs.length c3), (4, .int .i64 (i : Int))]) (fun ⟨i, cs, A3, c3, τ⟩ => [.row 65 2 A3 cs.length c3 (fll cs), .own τ, .fr σ]) (0, [], none, 0, fun _ => none) ⟨Nat.zero_le _, rfl, (fun l hl => by cases hl), fun _ => rfl⟩ (.cons (t := 0) rfl <| .cons (t := 3) rfl <| .cons (t := 4) rfl <| .nil) ((fun wz kz => Perm.kle (.cons (by first | exact P0 | exact P1 | exact P2 | exact P3 | exact P4 | exact P5 | exact P6) (.cons (by first | exact P0 | exact P1 | exact P2 | exact P3 | exact P4 | exact P5 | exact P6) (.cons (by first | exact P0 | exact P1 | exact P2 | exact P3 | exact P4 | exact P5 | exact P6) .nil))) wz (Kle.nilRow 65 2 wz (KOk.ownNil kz)))) ?_
 rintro ⟨i, cs, A3, c3, τ⟩ hR
 have hcl : cs.length = i := by have h9 := congrArg List.length hR.2.1; have h8 := hR.1; simp at h9; omega
 refine T.seq ?_
 refine T.seq ?_
 refine T.region ?_
 refine TL.val (OpV.move rfl) rfl ?_
 refine TL.val (OpV.move rfl) rfl ?_
 refine TL.val (OpV.len Tryd.underlying22 rfl) rfl ?_
 refine TL.val (OpV.lss rfl rfl) rfl ?_
 refine TL.nil ?_
 refine TE.next ?_
 refine T.cond rfl ?_ ?_
 ·
  intro ht8
  obtain ⟨q1, q2, q3, q4⟩ := hR
  have hi : i < n := by have h9 := of_decide_eq_true ht8; omega
  obtain ⟨x, hx⟩ := get_of_lt h.1.1 (show i < n by omega)
  obtain ⟨br, or, hA6, hat6⟩ := h.1.2.2.2.2 (by omega)
  obtain ⟨_, rfl, _, hatl⟩ := hat6 _ x hx
  have hcx := h.2 x (List.mem_of_getElem? hx)
  have hxb := hb x (List.mem_of_getElem? hx)
  refine T.skip ?_
  refine TE.next ?_
  refine T.seq ?_
  refine T.block ?_
  refine T.any ([.fr σ]) [] mix rfl rfl ?_
  refine TA.takeP (i := 0) (ls := #[true, false, false, false, false, false, false, false, false, false, false, false, false, false, false, false]) rfl rfl rfl rfl rfl (by kernel_rfl) (by kernel_rfl) (by kernel_rfl) (by repeat (first | with_reducible exact PanicOk.body | with_reducible apply PanicOk.next | with_reducible apply PanicOk.block)) (OpV.move rfl) rfl (by kernel_rfl) ?_
  refine TA.takeP (i := 1) (ls := #[true, true, false, false, false, false, false, false, false, false, false, false, false, false, false, false]) rfl rfl rfl rfl rfl (by kernel_rfl) (by kernel_rfl) (by kernel_rfl) (by repeat (first | with_reducible exact PanicOk.body | with_reducible apply PanicOk.next | with_reducible apply PanicOk.block)) (OpV.move rfl) rfl (by kernel_rfl) ?_
  refine TA.takeP (i := 2) (ls := #[true, true, true, false, false, false, false, false, false, false, false, false, false, false, false, false]) rfl rfl rfl rfl rfl (by kernel_rfl) (by kernel_rfl) (by kernel_rfl) (by repeat (first | with_reducible exact PanicOk.body | with_reducible apply PanicOk.next | with_reducible apply PanicOk.block)) (OpV.move rfl) rfl (by kernel_rfl) ?_
  refine TA.takeP (i := 3) (ls := #[true, true, true, true, false, false, false, false, false, false, false, false, false, false, false, false]) rfl rfl rfl rfl rfl (by kernel_rfl) (by kernel_rfl) (by kernel_rfl) (by repeat (first | with_reducible exact PanicOk.body | with_reducible apply PanicOk.next | with_reducible apply PanicOk.block)) (OpV.indexAddr se_22 rfl hA6 rfl (by rfl) (by first | omega | simp)) rfl (by kernel_rfl) ?_
  refine TA.takeP (i := 4) (ls := #[true, true, true, true, true, false, false, false, false, false, false, false, false, false, false, false]) rfl rfl rfl rfl rfl (by kernel_rfl) (by kernel_rfl) (by kernel_rfl) (by repeat (first | with_reducible exact PanicOk.body | with_reducible apply PanicOk.next | with_reducible apply PanicOk.block)) (OpV.fieldAddr rfl fo_65_0) rfl (by kernel_rfl) ?_
  refine TA.take (i := 5) (ls := #[true, true, true, true, true, true, false, false, false, false, false, false, false, false, false, false]) rfl rfl rfl rfl rfl (by kernel_rfl) (by kernel_rfl) (by kernel_rfl) (by kernel_rfl) (by repeat (first | with_reducible exact PanicOk.body | with_reducible apply PanicOk.next | with_reducible apply PanicOk.block)) ((.cons (by first | exact P0 | exact P1 | exact P2 | exact P3 | exact P4 | exact P5 | exact P6) .nil)) (OpV.load pl_35 rfl (by first | exact Cel.blk P0 rfl | exact Cel.blk P1 rfl | exact Cel.blk P2 rfl | exact Cel.blk P3 rfl | exact Cel.blk P4 rfl | exact Cel.blk P5 rfl | exact Cel.frA (hatl _ _ rfl))) rfl (by kernel_rfl) ?_
  refine TA.takeP (i := 7) (ls := #[true, true, true, true, true, true, false, true, false, false, false, false, false, false, false, false]) rfl rfl rfl rfl rfl (by kernel_rfl) (by kernel_rfl) (by kernel_rfl) (by repeat (first | with_reducible exact PanicOk.body | with_reducible apply PanicOk.next | with_reducible apply PanicOk.block)) (OpV.move rfl) rfl (by kernel_rfl) ?_
  refine TA.takeP (i := 8) (ls := #[true, true, true, true, true, true, false, true, true, false, false, false, false, false, false, false]) rfl rfl rfl rfl rfl (by kernel_rfl) (by kernel_rfl) (by kernel_rfl) (by repeat (first | with_reducible exact PanicOk.body | with_reducible apply PanicOk.next | with_reducible apply PanicOk.block)) (OpV.move rfl) rfl (by kernel_rfl) ?_
  refine TA.takeP (i := 9) (ls := #[true, true, true, true, true, true, false, true, true, true, false, false, false, false, false, false]) rfl rfl rfl rfl rfl (by kernel_rfl) (by kernel_rfl) (by kernel_rfl) (by repeat (first | with_reducible exact PanicOk.body | with_reducible apply PanicOk.next | with_reducible apply PanicOk.block)) (OpV.indexAddr se_22 rfl hA6 rfl (by rfl) (by first | omega | simp)) rfl (by kernel_rfl) ?_
  refine TA.takeP (i := 10) (ls := #[true, true, true, true, true, true, false, true, true, true, true, false, false, false, false, false]) rfl rfl rfl rfl rfl (by kernel_rfl) (by kernel_rfl) (by kernel_rfl) (by repeat (first | with_reducible exact PanicOk.body | with_reducible apply PanicOk.next | with_reducible apply PanicOk.block)) (OpV.fieldAddr rfl fo_65_1) rfl (by kernel_rfl) ?_
  refine TA.take (i := 11) (ls := #[true, true, true, true, true, true, false, true, true, true, true, true, false, false, false, false]) rfl rfl rfl rfl rfl (by kernel_rfl) (by kernel_rfl) (by kernel_rfl) (by kernel_rfl) (by repeat (first | with_reducible exact PanicOk.body | with_reducible apply PanicOk.next | with_reducible apply PanicOk.block)) ((.cons (by first | exact P0 | exact P1 | exact P2 | exact P3 | exact P4 | exact P5 | exact P6) .nil)) (OpV.load pl_4 rfl (by first | exact Cel.blk P0 rfl | exact Cel.blk P1 rfl | exact Cel.blk P2 rfl | exact Cel.blk P3 rfl | exact Cel.blk P4 rfl | exact Cel.blk P5 rfl | exact Cel.frA (hatl _ _ rfl))) rfl (by kernel_rfl) ?_
  refine TA.one (i := 6) (ls := #[true, true, true, true, true, true, true, true, true, true, true, true, false, false, false, false]) (by kernel_rfl) rfl (by kernel_rfl) (fun w1 => ?_)
  refine TL.kle (Kle.nilRow 58 16) ?_
  obtain ⟨ti17, hi17, hz17, hs17, hb17⟩ := info_parts inf_58
  refine TL.append rfl rfl Tryd.underlying35 hi17 hz17 hs17 hb17 rfl (by omega) (by first | exact P0 | exact P1 | exact P2 | exact P3 | exact P4 | exact P5) (Src.cs (by first | exact P0 | exact P1 | exact P2 | exact P3 | exact P4 | exact P5 | exact P6) hcx) (fun h9 => hcx.2.2.2.1 h9) (one_fl _) (by omega) (by omega) rfl ?_
  clear hi17 hz17 hs17 hb17 ti17
  intro A17 c17 hn17
  rw [List.nil_append]
  refine TL.said (t := 17) rfl (show _ = Value.slice A17 x.n c17 by rw [Nat.zero_add]) ?_
  rw [Nat.zero_add]
  refine TL.nil ?_
  refine TA.cont ((.cons (by first | exact P0 | exact P1 | exact P2 | exact P3 | exact P4 | exact P5 | exact P6) .nil)) ?_
  refine TA.takeP (i := 12) (ls := #[true, true, true, true, true, true, true, true, true, true, true, true, true, false, false, false]) rfl rfl rfl rfl rfl (by kernel_rfl) (by kernel_rfl) (by kernel_rfl) (by repeat (first | with_reducible exact PanicOk.body | with_reducible apply PanicOk.next | with_reducible apply PanicOk.block)) (OpV.build (qs := #[(0, _), (1, _)]) (fun _ f => by simp only [List.map_toArray, List.map_cons, List.map_nil]; rw [f.ev (x := .tmp 17) rfl, f.ev (x := .tmp 22) rfl]) (bld_65_0_1 (LnA.mk A17 x.n c17 x.cells x.soft) )) rfl (by kernel_rfl) ?_
  refine TA.one (i := 13) (ls := #[true, true, true, true, true, true, true, true, true, true, true, true, true, true, false, false]) (by kernel_rfl) rfl (by kernel_rfl) (fun w1 => ?_)
  refine TL.slit (qs := #[(0, _)]) (fun _ f => by simp only [List.map_toArray, List.map_cons, List.map_nil]; rw [f.ev (x := .tmp 23) rfl]) (sl_22_1_0 (LnA.mk A17 x.n c17 x.cells x.soft)) rfl ?_
  intro b24
  refine TL.nil ?_
  refine TA.cont ((.cons (by first | exact P0 | exact P1 | exact P2 | exact P3 | exact P4 | exact P5 | exact P6) .nil)) ?_
  refine TA.one (i := 14) (ls := #[true, true, true, true, true, true, true, true, true, true, true, true, true, true, true, false]) (by kernel_rfl) rfl (by kernel_rfl) (fun w1 => ?_)
  obtain ⟨ti25, hi25, hz25, hs25, hb25⟩ := info_parts inf_65
  refine TL.append rfl rfl Tryd.underlying22 hi25 hz25 hs25 hb25 rfl (by omega) (by first | exact P0 | exact P1 | exact P2 | exact P3 | exact P4 | exact P5) (by first | exact Src.nil | exact Src.blk P0 rfl | exact Src.blk P1 rfl | exact Src.blk P2 rfl | exact Src.blk P3 rfl | exact Src.blk P4 rfl | exact Src.blk P5 rfl | exact Src.row P0 | exact Src.row P1 | exact Src.row P2 | exact Src.row P3 | exact Src.row P4 | exact Src.row P5) (fun h => by cases h) rfl (by omega) (by omega) rfl ?_
  clear hi25 hz25 hs25 hb25 ti25
  intro A25 c25 hn25
  refine TL.nil ?_
  refine TA.cont ((.cons (by first | exact P0 | exact P1 | exact P2 | exact P3 | exact P4 | exact P5 | exact P6) .nil)) ?_
  refine TA.takeP (i := 15) (ls := #[true, true, true, true, true, true, true, true, true, true, true, true, true, true, true, true]) rfl rfl rfl rfl rfl (by kernel_rfl) (by kernel_rfl) (by kernel_rfl) (by repeat (first | with_reducible exact PanicOk.body | with_reducible apply PanicOk.next | with_reducible apply PanicOk.block)) (OpV.assign rfl) rfl (by kernel_rfl) ?_
  refine TA.done (by kernel_rfl) ?_
  refine TE.out ?_
  refine TE.sub (.cons (t := 0) rfl <| .cons (t := 3) rfl <| .cons (t := 4) rfl <| .nil) ?_
  refine TE.next ?_
  refine T.ex (ι := Nat → Option Obj) (R := fun ρ => RowOk ρ A17 x.n c17 16 (fl x.cells) ∧ (∀ b o, τ b = some o → ρ b = some o)) (K2 := fun ρ => [.own ρ, .row 65 2 A25 (cs.length + 1) c25 (fll cs ++ (LnA.mk A17 x.n c17 x.cells x.soft).l), .fr σ]) (fun wz kz => ?_) ?_
  · skip
    obtain ⟨ρ, h9, k2⟩ := KOk.rowInto (e := 58) (z := 16) (A := A17) (m := x.n) (c := c17) (xs := fl x.cells) (τ := τ) kz (by first | exact P0 | exact P1 | exact P2 | exact P3 | exact P4 | exact P5 | exact P6) (by first | exact P0 | exact P1 | exact P2 | exact P3 | exact P4 | exact P5 | exact P6)
    exact ⟨ρ, h9, Perm.kle (.cons (by first | exact P0 | exact P1 | exact P2 | exact P3 | exact P4 | exact P5 | exact P6) (.cons (by first | exact P0 | exact P1 | exact P2 | exact P3 | exact P4 | exact P5 | exact P6) (.cons (by first | exact P0 | exact P1 | exact P2 | exact P3 | exact P4 | exact P5 | exact P6) .nil))) wz k2⟩
  rintro ρ ⟨e1, e2⟩
  refine T.region ?_
  refine TL.val (OpV.move rfl) rfl ?_
  refine TL.val (OpV.add rfl rfl (by first | exact IntWalk.i64_in _ ⟨by omega, by omega⟩ | rfl)) rfl ?_
  refine TL.val (OpV.assign rfl) rfl ?_
  refine TL.nil ?_
  exact TE.meet (i + 1, cs ++ [(LnA.mk A17 x.n c17 x.cells x.soft)], A25, c25, ρ) ⟨⟨by omega, by rw [List.map_append, q2, take_snoc hx, List.map_append]; rfl, (fun l hl => by rcases List.mem_append.1 hl with hl | hl; exact (q3 l hl).mono e2; obtain rfl := List.mem_singleton.1 hl; exact CsR.of_row e1 hcx.1), hn25⟩, by simp only; omega⟩ (.cons (t := 0) (by first | rfl | (simp [lk]; done)) <| .cons (t := 3) (by simp only [List.length_append, List.length_cons, List.length_nil]; rfl) <| .cons (t := 4) (by first | rfl | (simp [lk]; done)) <| .nil) ((by simp only [fll_snoc, List.length_append, List.length_cons, List.length_nil]; exact Perm.kle (.cons (by first | exact P0 | exact P1 | exact P2 | exact P3 | exact P4 | exact P5 | exact P6) (.cons (by first | exact P0 | exact P1 | exact P2 | exact P3 | exact P4 | exact P5 | exact P6) (.cons (by first | exact P0 | exact P1 | exact P2 | exact P3 | exact P4 | exact P5 | exact P6) .nil)))))
 ·
  intro ht8
  obtain ⟨q1, q2, q3, q4⟩ := hR
  have hin : ¬ i < n := by have h9 := of_decide_eq_false ht8; omega
  rw [List.take_of_length_le (by omega)] at q2
  refine T.exit ?_
  refine TE.pass_exit ?_
  refine TE.pass_exit ?_
  refine TE.here ?_
  refine TE.next ?_
  refine T.seq ?_
  refine T.region ?_
  refine TL.val (OpV.move rfl) rfl ?_
  refine TL.val (OpV.assign rfl) rfl ?_
  refine TL.nil ?_
  refine TE.sub (.cons (t := 2) rfl <| .nil) ?_
  refine TE.next ?_
  refine T.ret ?_
  refine TE.ret1 rfl (ResV.tmp rfl) ?_
  intro wz kz
  obtain ⟨ρ, ⟨r2, r3⟩, k2⟩ := KOk.rowInto (e := 65) (z := 2) (A := A3) (m := cs.length) (c := c3) (xs := fll cs) (τ := τ) kz (by first | exact P0 | exact P1 | exact P2 | exact P3 | exact P4 | exact P5 | exact P6) (by first | exact P0 | exact P1 | exact P2 | exact P3 | exact P4 | exact P5 | exact P6)
  exact ⟨⟨A3, cs.length, c3, ρ⟩, rfl, ⟨cs, ⟨SlR.of_row LnA.l_length r2 rfl, fun l hl => (q3 l hl).mono r3⟩, q2⟩, Perm.kle (.cons .here .nil) wz k2⟩
end Go.Proofs.YtdmpodpdpncobaaDoor
