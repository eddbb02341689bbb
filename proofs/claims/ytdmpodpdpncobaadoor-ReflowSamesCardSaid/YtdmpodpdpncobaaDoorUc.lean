/-
  The walks of Lines and Find. Condition: the package-level tables hold what they were laid with.
-/
import Derived.Test.YtdmpodpdpncobaaDoorUb
namespace Go.Proofs.YtdmpodpdpncobaaDoor
open Go.RowKit
set_option linter.unusedSimpArgs false
set_option linter.unusedVariables false

theorem bld_37_0_1_2 (x : LgA) (w : World) : (Instr.build 37 #[(0, .slice x.A x.n x.c), (1, .int .i64 x.frm), (2, .int .i64 x.rows)]).run Tryd.prog w = .ok (.agg x.l.toArray) w := by kernel_rfl
theorem sl_34_1_0 (x : LgA) (w : World) : (Instr.buildSlice 34 1 #[(0, .agg x.l.toArray)]).run Tryd.prog w = .ok (.slice (some ⟨w.heap.size, 0, none⟩) 1 1) (w.alloc (.cells x.l.toArray 37)) := by kernel_rfl
theorem sl_125_1_0 (s : ByteArray) (w : World) : (Instr.buildSlice 125 1 #[(0, .string s)]).run Tryd.prog w = .ok (.slice (some ⟨w.heap.size, 0, none⟩) 1 1) (w.alloc (.cells [Value.string s].toArray 9)) := by kernel_rfl
set_option maxRecDepth 100000 in
set_option maxHeartbeats 1000000 in
theorem ulines_c {σ : Nat → Option Obj} {A : Option Addr} {n c : Nat} {ls : List LnA} (w : World) (L : LaidW w) (h : LsA σ A n c ls) (hs : ∀ b o, σ b = some o → w.heap[b]? = some o) (hn : n ≤ 131072) : Calls Tryd.prog 32 #[.slice A n c] w (fun e w' => ∃ v : SV, e = .returned (.tuple #[v.v, .int .i64 (linesE (ls.map LnA.ln))]) ∧ (∃ gs, GsW 58 v.σ v.A v.n v.c gs ∧ gs.map LgA.lg = linesV (ls.map LnA.ln)) ∧ KOk w [.own v.σ] w') := by
 have hn63 := h.1.2.1
 have hc63 := h.1.2.2.1
 have hl1 := h.1.1
 have hXl : (ls.map LnA.ln).length = n := by rw [List.length_map]; exact hl1
 refine calls_T (vs := [.slice A n c]) (L0 := [(0, .slice A n c)]) Tryd.func32 rfl rfl rfl rfl (KOk.fr1 hs) ?_
 refine T.seq ?_
 refine T.region ?_
 refine TL.val (OpV.assign rfl) rfl ?_
 refine TL.val (OpV.assign rfl) rfl ?_
 refine TL.nil ?_
 refine TE.next ?_
 refine T.seq ?_
 refine T.seq ?_
 refine T.region ?_
 refine TL.val (OpV.move rfl) rfl ?_
 refine TL.call (g := 60) rfl go_60 rfl (fun w1 k1 => uvalid_c w1 (L.below k1.bel) h (k1.get (e := .fr σ) (by first | exact P0 | exact P1 | exact P2 | exact P3 | exact P4 | exact P5))) rfl ?_
 refine TL.val (OpV.not rfl) rfl ?_
 refine TL.nil ?_
 refine TE.next ?_
 refine T.cond rfl ?_ ?_
 ·
  intro ht10
  have hv9 : vLs (ls.map LnA.ln) = false := by simpa using ht10
  refine T.seq ?_
  refine T.region ?_
  refine TL.val (OpV.assign rfl) rfl ?_
  refine TL.val (OpV.assign rfl) rfl ?_
  refine TL.nil ?_
  refine TE.next ?_
  refine T.ret ?_
  refine TE.pass_ret ?_
  refine TE.retN rfl (.cons (ResV.tmp rfl) <| .cons (ResV.tmp rfl) <| .nil) ?_
  exact fun wz kz => ⟨⟨none, 0, 0, fun _ => none⟩, by rw [linesE, hv9]; rfl, ⟨[], GsW.nil, by rw [linesV, hv9]; rfl⟩, Perm.kle (.cons .here .nil) wz (KOk.ownNil kz)⟩
 ·
  intro ht10
  have hv9 : vLs (ls.map LnA.ln) = true := by simpa using ht10
  have hb := h.len hv9
  refine T.skip ?_
  refine TE.next ?_
  refine T.seq ?_
  refine T.region ?_
  refine TL.val (OpV.assign rfl) rfl ?_
  refine TL.nil ?_
  refine TE.next ?_
  refine T.seq ?_
  refine T.region ?_
  refine TL.val (OpV.assign rfl) rfl ?_
  refine TL.nil ?_
  refine TE.next ?_
  refine T.seq ?_
  refine T.seq ?_
  refine T.region ?_
  refine TL.val (OpV.move rfl) rfl ?_
  refine TL.val (OpV.len Tryd.underlying22 rfl) rfl ?_
  refine TL.val (OpV.move rfl) rfl ?_
  refine TL.nil ?_
  refine TE.next ?_
  refine T.block ?_
  refine T.loop (ι := Nat × Nat × List LgA × Option Addr × Nat × (Nat → Option Obj)) (fun ⟨i, f, gs, A4, c4, τ⟩ => i ≤ n ∧ f ≤ i ∧ gs.map LgA.lg ++ lgG (((ls.map LnA.ln).take i).drop f) f ((ls.map LnA.ln).drop i) = lgG [] 0 (ls.map LnA.ln) ∧ OG 58 τ gs ∧ (A4 = none → c4 = 0) ∧ gs.length ≤ i) (fun ⟨i, f, gs, A4, c4, τ⟩ => (n - i)) (fun ⟨i, f, gs, A4, c4, τ⟩ => [(0, .slice A n c), (4, .slice A4 gs.length c4), (5, .int .i64 (f : Int)), (11, .slice A n c), (12, .int .i64 (n : Int)), (13, .int .i64 (i : Int))]) (fun ⟨i, f, gs, A4, c4, τ⟩ => [.row 37 3 A4 gs.length c4 (flg gs), .own τ, .fr σ]) (0, 0, [], none, 0, fun _ => none) ⟨Nat.zero_le _, Nat.le_refl _, rfl, OG.nil, fun _ => rfl, Nat.zero_le _⟩ (.cons (t := 0) rfl <| .cons (t := 4) rfl <| .cons (t := 5) rfl <| .cons (t := 11) rfl <| .cons (t := 12) rfl <| .cons (t := 13) rfl <| .nil) ((fun wz kz => Perm.kle (.cons (by first | exact P0 | exact P1 | exact P2 | exact P3 | exact P4 | exact P5 | exact P6) (.cons (by first | exact P0 | exact P1 | exact P2 | exact P3 | exact P4 | exact P5 | exact P6) (.cons (by first | exact P0 | exact P1 | exact P2 | exact P3 | exact P4 | exact P5 | exact P6) .nil))) wz (Kle.nilRow 37 3 wz (KOk.ownNil kz)))) ?_
  rintro ⟨i, f, gs, A4, c4, τ⟩ hR
  refine T.seq ?_
  refine T.region ?_
  refine TL.val (OpV.lss rfl rfl) rfl ?_
  refine TL.nil ?_
  refine TE.next ?_
  refine T.seq ?_
  refine T.cond rfl ?_ ?_
  ·
   intro ht14
   obtain ⟨q1, q2, q3, q4, q5, q6⟩ := hR
   have hi : i < n := by have h9 := of_decide_eq_true ht14; omega
   obtain ⟨x, hx⟩ := get_of_lt h.1.1 (show i < n by omega)
   obtain ⟨br, or, hA6, hat6⟩ := h.1.2.2.2.2 (by omega)
   obtain ⟨_, rfl, _, hatl⟩ := hat6 _ x hx
   have hcx := h.2 x (List.mem_of_getElem? hx)
   have hX : (ls.map LnA.ln)[i]? = some x.ln := by rw [List.getElem?_map, hx]; rfl
   have hcs := cur_snoc hX q2
   have hcl : (((ls.map LnA.ln).take i).drop f).length = i - f := by rw [List.length_drop, List.length_take]; omega
   refine T.skip ?_
   refine TE.next ?_
   refine T.seq ?_
   refine T.block ?_
   refine T.seq ?_
   refine T.region ?_
   refine TL.val (OpV.move rfl) rfl ?_
   refine TL.val (OpV.indexAddr se_22 rfl hA6 rfl (by rfl) (by first | omega | simp)) rfl ?_
   refine TL.val (OpV.loadA ag_65 rfl (by first | exact Cels.blk P0 rfl | exact Cels.blk P1 rfl | exact Cels.blk P2 rfl | exact Cels.blk P3 rfl | exact Cels.blk P4 rfl | exact Cels.blk P5 rfl | exact Cels.frA hatl rfl)) rfl ?_
   refine TL.alloc zo_65 rfl ?_
   intro b7
   refine TL.val (OpV.assign rfl) rfl ?_
   first
     | refine TL.storeAll rfl rfl szz_65 rfl rfl rfl (by first | exact P0 | exact P1 | exact P2 | exact P3 | exact P4 | exact P5) (by rfl) ?_
     | refine TL.store rfl rfl szz_65 rfl rfl rfl (by first | exact P0 | exact P1 | exact P2 | exact P3 | exact P4 | exact P5) (by first | exact Nat.le_of_ble_eq_true rfl | (simp; done) | (simp; omega)) (by simp only [LnA.l, putL, List.take_succ_cons, List.take_zero, List.drop_succ_cons, List.drop_zero, List.cons_append, List.nil_append, List.length_cons, List.length_nil, Nat.reduceAdd]; rfl) ?_
   refine TL.nil ?_
   refine TE.next ?_
   refine T.seq ?_
   refine T.seq ?_
   refine T.region ?_
   refine TL.val (OpV.fieldAddr rfl fo_65_1) rfl ?_
   refine TL.val (OpV.load pl_4 rfl (by first | exact Cel.blk P0 rfl | exact Cel.blk P1 rfl | exact Cel.blk P2 rfl | exact Cel.blk P3 rfl | exact Cel.blk P4 rfl | exact Cel.blk P5 rfl | exact Cel.frA (hatl _ _ rfl))) rfl ?_
   refine TL.val (OpV.move rfl) rfl ?_
   refine TL.part (t := 20) rfl ?_ ?_
   ·
    intro hg20
    refine TL.open rfl rfl ?_
    refine TL.val (OpV.move rfl) rfl ?_
    refine TL.open rfl rfl ?_
    refine TL.val (OpV.add rfl rfl (by first | exact IntWalk.i64_in _ ⟨by omega, by omega⟩ | rfl)) rfl ?_
    refine TL.open rfl rfl ?_
    refine TL.val (OpV.move rfl) rfl ?_
    refine TL.open rfl rfl ?_
    refine TL.val (OpV.len Tryd.underlying22 rfl) rfl ?_
    refine TL.open rfl rfl ?_
    refine TL.val (OpV.lss rfl rfl) rfl ?_
    refine TL.val ((by first | exact OpV.pick_t rfl rfl | exact OpV.pick_f rfl rfl)) rfl ?_
    refine TL.nil ?_
    refine TE.sub (.cons (t := 0) rfl <| .cons (t := 4) rfl <| .cons (t := 5) rfl <| .cons (t := 6) rfl <| .cons (t := 11) rfl <| .cons (t := 12) rfl <| .cons (t := 13) rfl <| .cons (t := 26) rfl <| .nil) ?_
    refine TE.next ?_
    refine T.cond rfl ?_ ?_
    ·
     intro ht26
     have hlg := lgG_soft (cur := (((ls.map LnA.ln).take i).drop f)) (f := f) hX (show x.ln.soft = true from hg20) (by rw [hXl]; have h9 := of_decide_eq_true ht26; omega)
     rw [hlg, ← hcs] at q3
     refine T.exit ?_
     refine TE.pass_exit ?_
     refine TE.here ?_
     refine TE.next ?_
     refine T.region ?_
     refine TL.val (OpV.add rfl rfl (by first | exact IntWalk.i64_in _ ⟨by omega, by omega⟩ | rfl)) rfl ?_
     refine TL.val (OpV.move rfl) rfl ?_
     refine TL.nil ?_
     exact TE.meet (i + 1, f, gs, A4, c4, τ) ⟨⟨by omega, by omega, q3, q4, q5, by omega⟩, by simp only; omega⟩ (.cons (t := 0) (by first | rfl | (simp [lk]; done)) <| .cons (t := 4) (by first | rfl | (simp [lk]; done)) <| .cons (t := 5) (by first | rfl | (simp [lk]; done)) <| .cons (t := 11) (by first | rfl | (simp [lk]; done)) <| .cons (t := 12) (by first | rfl | (simp [lk]; done)) <| .cons (t := 13) (by first | rfl | (simp [lk]; done)) <| .nil) (Perm.kle (.cons (by first | exact P0 | exact P1 | exact P2 | exact P3 | exact P4 | exact P5 | exact P6) (.cons (by first | exact P0 | exact P1 | exact P2 | exact P3 | exact P4 | exact P5 | exact P6) (.cons (by first | exact P0 | exact P1 | exact P2 | exact P3 | exact P4 | exact P5 | exact P6) .nil))))
    ·
     intro ht26
     refine T.skip ?_
     refine TE.next ?_
     refine T.seq ?_
     have hlg := lgG_end (cur := (((ls.map LnA.ln).take i).drop f)) (f := f) hX (by first | exact .inl hg20 | (right; have h9 := of_decide_eq_false ht26; rw [hXl]; omega))
     rw [hlg, ← hcs, hcl] at q3
     have hls := h.slice (lo := f) (hi := i + 1) (by omega) (by omega)
     have hmc : (((ls.map LnA.ln).take (i + 1)).drop f).map Ln.cells = ((ls.take (i + 1)).drop f).map LnA.cells := by rw [← List.map_take, ← List.map_drop, List.map_map]; rfl
     rw [hmc] at q3
     have hb2 : ∀ x ∈ ((ls.take (i + 1)).drop f).map LnA.cells, x.length ≤ 1000 := fun x hx => by obtain ⟨l, hl, rfl⟩ := List.mem_map.1 hx; exact hb _ (List.mem_map_of_mem (List.mem_of_mem_take (List.mem_of_mem_drop hl)))
     refine T.region ?_
     refine TL.val (OpV.move rfl) rfl ?_
     refine TL.val (OpV.move rfl) rfl ?_
     refine TL.val (OpV.move rfl) rfl ?_
     refine TL.val (OpV.move rfl) rfl ?_
     refine TL.val (OpV.add rfl rfl (by first | exact IntWalk.i64_in _ ⟨by omega, by omega⟩ | rfl)) rfl ?_
     refine TL.val (OpV.sliceLH (lo := f) (hi := i + 1) se_22 rfl rfl rfl rfl (by omega) (by omega) (by omega)) rfl ?_
     refine TL.callx (g := 61) rfl go_61 rfl (fun wz k1 => own_x k1 (joined_c wz hls (k1.get (e := .fr σ) (by first | exact P0 | exact P1 | exact P2 | exact P3 | exact P4 | exact P5)) (by omega) hb2)) rfl ?_
     rintro ⟨bj, mj, ρj⟩ ⟨hj1, hj2⟩
     simp only at hj1 hj2
     have hmb : mj ≤ 131072000 := by obtain ⟨k0, hk0, ek⟩ := trimV_pre _ (allV (((ls.take (i + 1)).drop f).map LnA.cells)) rfl; have h9 := allV_len (((ls.take (i + 1)).drop f).map LnA.cells); have h8 := sumL_le hb2; rw [List.length_map, hls.1.1] at h8; rw [ek, List.length_take] at hj1; omega
     refine TL.val (OpV.move rfl) rfl ?_
     refine TL.val (OpV.move rfl) rfl ?_
     refine TL.val (OpV.add rfl rfl (by first | exact IntWalk.i64_in _ ⟨by omega, by omega⟩ | rfl)) rfl ?_
     refine TL.val (OpV.move rfl) rfl ?_
     refine TL.val (OpV.sub rfl rfl (by first | exact IntWalk.i64_in _ ⟨by omega, by omega⟩ | rfl)) rfl ?_
     refine TL.val (OpV.build (qs := #[(0, _), (1, _), (2, _)]) (fun _ f => by simp only [List.map_toArray, List.map_cons, List.map_nil]; rw [f.ev (x := .tmp 33) rfl, f.ev (x := .tmp 34) rfl, f.ev (x := .tmp 38) rfl]) (bld_37_0_1_2 (LgA.mk (some ⟨bj, 0, none⟩) mj mj (trimV (allV (((ls.take (i + 1)).drop f).map LnA.cells))) (f : Int) ((i : Int) + 1 - (f : Int))) )) rfl ?_
     refine TL.slit (qs := #[(0, _)]) (fun _ f => by simp only [List.map_toArray, List.map_cons, List.map_nil]; rw [f.ev (x := .tmp 39) rfl]) (sl_34_1_0 (LgA.mk (some ⟨bj, 0, none⟩) mj mj (trimV (allV (((ls.take (i + 1)).drop f).map LnA.cells))) (f : Int) ((i : Int) + 1 - (f : Int)))) rfl ?_
     intro b40
     obtain ⟨ti41, hi41, hz41, hs41, hb41⟩ := info_parts inf_37
     refine TL.append rfl rfl Tryd.underlying34 hi41 hz41 hs41 hb41 rfl (by omega) (by first | exact P0 | exact P1 | exact P2 | exact P3 | exact P4 | exact P5) (by first | exact Src.nil | exact Src.blk P0 rfl | exact Src.blk P1 rfl | exact Src.blk P2 rfl | exact Src.blk P3 rfl | exact Src.blk P4 rfl | exact Src.blk P5 rfl | exact Src.row P0 | exact Src.row P1 | exact Src.row P2 | exact Src.row P3 | exact Src.row P4 | exact Src.row P5) (fun h => by cases h) rfl (by omega) (by omega) rfl ?_
     clear hi41 hz41 hs41 hb41 ti41
     intro A41 c41 hn41
     refine TL.val (OpV.assign rfl) rfl ?_
     refine TL.nil ?_
     refine TE.sub (.cons (t := 0) rfl <| .cons (t := 4) rfl <| .cons (t := 6) rfl <| .cons (t := 11) rfl <| .cons (t := 12) rfl <| .cons (t := 13) rfl <| .nil) ?_
     refine TE.next ?_
     refine T.ex (ι := Nat → Option Obj) (R := fun ρ => (∀ b o, ρj b = some o → ρ b = some o) ∧ (∀ b o, τ b = some o → ρ b = some o) ∧ ∀ b o, ρj b = some o → τ b = none) (K2 := fun ρ => [.own ρ, .row 37 3 A41 (gs.length + 1) c41 (flg gs ++ (LgA.mk (some ⟨bj, 0, none⟩) mj mj (trimV (allV (((ls.take (i + 1)).drop f).map LnA.cells))) (f : Int) ((i : Int) + 1 - (f : Int))).l), .fr σ]) (fun wz kz => ?_) ?_
     · skip
       obtain ⟨ρ, h9, k2⟩ := own2d ((kz.pick (e := .own τ) (by first | exact P0 | exact P1 | exact P2 | exact P3 | exact P4 | exact P5 | exact P6)).pick (e := .own ρj) (by first | exact P0 | exact P1 | exact P2 | exact P3 | exact P4 | exact P5 | exact P6))
       exact ⟨ρ, h9, Perm.kle (.cons (by first | exact P0 | exact P1 | exact P2 | exact P3 | exact P4 | exact P5 | exact P6) (.cons (by first | exact P0 | exact P1 | exact P2 | exact P3 | exact P4 | exact P5 | exact P6) (.cons (by first | exact P0 | exact P1 | exact P2 | exact P3 | exact P4 | exact P5 | exact P6) .nil))) wz k2⟩
     rintro ρ ⟨e1, e2, e3⟩
     refine T.region ?_
     refine TL.val (OpV.move rfl) rfl ?_
     refine TL.val (OpV.add rfl rfl (by first | exact IntWalk.i64_in _ ⟨by omega, by omega⟩ | rfl)) rfl ?_
     refine TL.val (OpV.assign rfl) rfl ?_
     refine TL.nil ?_
     refine TE.out ?_
     refine TE.next ?_
     refine T.region ?_
     refine TL.val (OpV.add rfl rfl (by first | exact IntWalk.i64_in _ ⟨by omega, by omega⟩ | rfl)) rfl ?_
     refine TL.val (OpV.move rfl) rfl ?_
     refine TL.nil ?_
     obtain ⟨csj, hcj1, hcj2⟩ := hj2
     have hj2 : OwR 58 ρj bj (trimV (allV (((ls.take (i + 1)).drop f).map LnA.cells))) := ⟨csj, hcj1, hcj2⟩
     exact TE.meet (i + 1, i + 1, gs ++ [(LgA.mk (some ⟨bj, 0, none⟩) mj mj (trimV (allV (((ls.take (i + 1)).drop f).map LnA.cells))) (f : Int) ((i : Int) + 1 - (f : Int)))], A41, c41, ρ) ⟨⟨by omega, by omega, by rw [List.map_append, List.append_assoc, cur_nil, ← q3]; congr 1; simp only [List.map_cons, List.map_nil, LgA.lg, List.cons_append, List.nil_append, List.cons.injEq, Lg.mk.injEq, true_and]; exact ⟨by omega, by rw [show f + (i - f) + 1 = i + 1 by omega]⟩, q4.snoc e2 rfl (by exact hj1) (Nat.le_refl _) (by simp only; omega) (hj2.mono e1) (e3 _ _ hcj1), hn41, by simp only [List.length_append, List.length_cons, List.length_nil]; omega⟩, by simp only; omega⟩ (.cons (t := 0) (by first | rfl | (simp [lk]; done)) <| .cons (t := 4) (by simp only [List.length_append, List.length_cons, List.length_nil]; rfl) <| .cons (t := 5) (by first | rfl | (simp [lk]; done)) <| .cons (t := 11) (by first | rfl | (simp [lk]; done)) <| .cons (t := 12) (by first | rfl | (simp [lk]; done)) <| .cons (t := 13) (by first | rfl | (simp [lk]; done)) <| .nil) ((by simp only [flg_snoc, List.length_append, List.length_cons, List.length_nil]; exact Perm.kle (.cons (by first | exact P0 | exact P1 | exact P2 | exact P3 | exact P4 | exact P5 | exact P6) (.cons (by first | exact P0 | exact P1 | exact P2 | exact P3 | exact P4 | exact P5 | exact P6) (.cons (by first | exact P0 | exact P1 | exact P2 | exact P3 | exact P4 | exact P5 | exact P6) .nil)))))
   ·
    intro hg20
    refine TL.shut rfl rfl ?_
    refine TL.shut rfl rfl ?_
    refine TL.shut rfl rfl ?_
    refine TL.shut rfl rfl ?_
    refine TL.shut rfl rfl ?_
    refine TL.val ((by first | exact OpV.pick_t rfl rfl | exact OpV.pick_f rfl rfl)) rfl ?_
    refine TL.nil ?_
    refine TE.sub (.cons (t := 0) rfl <| .cons (t := 4) rfl <| .cons (t := 5) rfl <| .cons (t := 6) rfl <| .cons (t := 11) rfl <| .cons (t := 12) rfl <| .cons (t := 13) rfl <| .cons (t := 26) rfl <| .nil) ?_
    refine TE.next ?_
    refine T.no rfl ?_
    refine T.skip ?_
    refine TE.next ?_
    refine T.seq ?_
    have hlg := lgG_end (cur := (((ls.map LnA.ln).take i).drop f)) (f := f) hX (by first | exact .inl hg20 | (right; have h9 := of_decide_eq_false ht26; rw [hXl]; omega))
    rw [hlg, ← hcs, hcl] at q3
    have hls := h.slice (lo := f) (hi := i + 1) (by omega) (by omega)
    have hmc : (((ls.map LnA.ln).take (i + 1)).drop f).map Ln.cells = ((ls.take (i + 1)).drop f).map LnA.cells := by rw [← List.map_take, ← List.map_drop, List.map_map]; rfl
    rw [hmc] at q3
    have hb2 : ∀ x ∈ ((ls.take (i + 1)).drop f).map LnA.cells, x.length ≤ 1000 := fun x hx => by obtain ⟨l, hl, rfl⟩ := List.mem_map.1 hx; exact hb _ (List.mem_map_of_mem (List.mem_of_mem_take (List.mem_of_mem_drop hl)))
    refine T.region ?_
    refine TL.val (OpV.move rfl) rfl ?_
    refine TL.val (OpV.move rfl) rfl ?_
    refine TL.val (OpV.move rfl) rfl ?_
    refine TL.val (OpV.move rfl) rfl ?_
    refine TL.val (OpV.add rfl rfl (by first | exact IntWalk.i64_in _ ⟨by omega, by omega⟩ | rfl)) rfl ?_
    refine TL.val (OpV.sliceLH (lo := f) (hi := i + 1) se_22 rfl rfl rfl rfl (by omega) (by omega) (by omega)) rfl ?_
    refine TL.callx (g := 61) rfl go_61 rfl (fun wz k1 => own_x k1 (joined_c wz hls (k1.get (e := .fr σ) (by first | exact P0 | exact P1 | exact P2 | exact P3 | exact P4 | exact P5)) (by omega) hb2)) rfl ?_
    rintro ⟨bj, mj, ρj⟩ ⟨hj1, hj2⟩
    simp only at hj1 hj2
    have hmb : mj ≤ 131072000 := by obtain ⟨k0, hk0, ek⟩ := trimV_pre _ (allV (((ls.take (i + 1)).drop f).map LnA.cells)) rfl; have h9 := allV_len (((ls.take (i + 1)).drop f).map LnA.cells); have h8 := sumL_le hb2; rw [List.length_map, hls.1.1] at h8; rw [ek, List.length_take] at hj1; omega
    refine TL.val (OpV.move rfl) rfl ?_
    refine TL.val (OpV.move rfl) rfl ?_
    refine TL.val (OpV.add rfl rfl (by first | exact IntWalk.i64_in _ ⟨by omega, by omega⟩ | rfl)) rfl ?_
    refine TL.val (OpV.move rfl) rfl ?_
    refine TL.val (OpV.sub rfl rfl (by first | exact IntWalk.i64_in _ ⟨by omega, by omega⟩ | rfl)) rfl ?_
    refine TL.val (OpV.build (qs := #[(0, _), (1, _), (2, _)]) (fun _ f => by simp only [List.map_toArray, List.map_cons, List.map_nil]; rw [f.ev (x := .tmp 33) rfl, f.ev (x := .tmp 34) rfl, f.ev (x := .tmp 38) rfl]) (bld_37_0_1_2 (LgA.mk (some ⟨bj, 0, none⟩) mj mj (trimV (allV (((ls.take (i + 1)).drop f).map LnA.cells))) (f : Int) ((i : Int) + 1 - (f : Int))) )) rfl ?_
    refine TL.slit (qs := #[(0, _)]) (fun _ f => by simp only [List.map_toArray, List.map_cons, List.map_nil]; rw [f.ev (x := .tmp 39) rfl]) (sl_34_1_0 (LgA.mk (some ⟨bj, 0, none⟩) mj mj (trimV (allV (((ls.take (i + 1)).drop f).map LnA.cells))) (f : Int) ((i : Int) + 1 - (f : Int)))) rfl ?_
    intro b40
    obtain ⟨ti41, hi41, hz41, hs41, hb41⟩ := info_parts inf_37
    refine TL.append rfl rfl Tryd.underlying34 hi41 hz41 hs41 hb41 rfl (by omega) (by first | exact P0 | exact P1 | exact P2 | exact P3 | exact P4 | exact P5) (by first | exact Src.nil | exact Src.blk P0 rfl | exact Src.blk P1 rfl | exact Src.blk P2 rfl | exact Src.blk P3 rfl | exact Src.blk P4 rfl | exact Src.blk P5 rfl | exact Src.row P0 | exact Src.row P1 | exact Src.row P2 | exact Src.row P3 | exact Src.row P4 | exact Src.row P5) (fun h => by cases h) rfl (by omega) (by omega) rfl ?_
    clear hi41 hz41 hs41 hb41 ti41
    intro A41 c41 hn41
    refine TL.val (OpV.assign rfl) rfl ?_
    refine TL.nil ?_
    refine TE.sub (.cons (t := 0) rfl <| .cons (t := 4) rfl <| .cons (t := 6) rfl <| .cons (t := 11) rfl <| .cons (t := 12) rfl <| .cons (t := 13) rfl <| .nil) ?_
    refine TE.next ?_
    refine T.ex (ι := Nat → Option Obj) (R := fun ρ => (∀ b o, ρj b = some o → ρ b = some o) ∧ (∀ b o, τ b = some o → ρ b = some o) ∧ ∀ b o, ρj b = some o → τ b = none) (K2 := fun ρ => [.own ρ, .row 37 3 A41 (gs.length + 1) c41 (flg gs ++ (LgA.mk (some ⟨bj, 0, none⟩) mj mj (trimV (allV (((ls.take (i + 1)).drop f).map LnA.cells))) (f : Int) ((i : Int) + 1 - (f : Int))).l), .fr σ]) (fun wz kz => ?_) ?_
    · skip
      obtain ⟨ρ, h9, k2⟩ := own2d ((kz.pick (e := .own τ) (by first | exact P0 | exact P1 | exact P2 | exact P3 | exact P4 | exact P5 | exact P6)).pick (e := .own ρj) (by first | exact P0 | exact P1 | exact P2 | exact P3 | exact P4 | exact P5 | exact P6))
      exact ⟨ρ, h9, Perm.kle (.cons (by first | exact P0 | exact P1 | exact P2 | exact P3 | exact P4 | exact P5 | exact P6) (.cons (by first | exact P0 | exact P1 | exact P2 | exact P3 | exact P4 | exact P5 | exact P6) (.cons (by first | exact P0 | exact P1 | exact P2 | exact P3 | exact P4 | exact P5 | exact P6) .nil))) wz k2⟩
    rintro ρ ⟨e1, e2, e3⟩
    refine T.region ?_
    refine TL.val (OpV.move rfl) rfl ?_
    refine TL.val (OpV.add rfl rfl (by first | exact IntWalk.i64_in _ ⟨by omega, by omega⟩ | rfl)) rfl ?_
    refine TL.val (OpV.assign rfl) rfl ?_
    refine TL.nil ?_
    refine TE.out ?_
    refine TE.next ?_
    refine T.region ?_
    refine TL.val (OpV.add rfl rfl (by first | exact IntWalk.i64_in _ ⟨by omega, by omega⟩ | rfl)) rfl ?_
    refine TL.val (OpV.move rfl) rfl ?_
    refine TL.nil ?_
    obtain ⟨csj, hcj1, hcj2⟩ := hj2
    have hj2 : OwR 58 ρj bj (trimV (allV (((ls.take (i + 1)).drop f).map LnA.cells))) := ⟨csj, hcj1, hcj2⟩
    exact TE.meet (i + 1, i + 1, gs ++ [(LgA.mk (some ⟨bj, 0, none⟩) mj mj (trimV (allV (((ls.take (i + 1)).drop f).map LnA.cells))) (f : Int) ((i : Int) + 1 - (f : Int)))], A41, c41, ρ) ⟨⟨by omega, by omega, by rw [List.map_append, List.append_assoc, cur_nil, ← q3]; congr 1; simp only [List.map_cons, List.map_nil, LgA.lg, List.cons_append, List.nil_append, List.cons.injEq, Lg.mk.injEq, true_and]; exact ⟨by omega, by rw [show f + (i - f) + 1 = i + 1 by omega]⟩, q4.snoc e2 rfl (by exact hj1) (Nat.le_refl _) (by simp only; omega) (hj2.mono e1) (e3 _ _ hcj1), hn41, by simp only [List.length_append, List.length_cons, List.length_nil]; omega⟩, by simp only; omega⟩ (.cons (t := 0) (by first | rfl | (simp [lk]; done)) <| .cons (t := 4) (by simp only [List.length_append, List.length_cons, List.length_nil]; rfl) <| .cons (t := 5) (by first | rfl | (simp [lk]; done)) <| .cons (t := 11) (by first | rfl | (simp [lk]; done)) <| .cons (t := 12) (by first | rfl | (simp [lk]; done)) <| .cons (t := 13) (by first | rfl | (simp [lk]; done)) <| .nil) ((by simp only [flg_snoc, List.length_append, List.length_cons, List.length_nil]; exact Perm.kle (.cons (by first | exact P0 | exact P1 | exact P2 | exact P3 | exact P4 | exact P5 | exact P6) (.cons (by first | exact P0 | exact P1 | exact P2 | exact P3 | exact P4 | exact P5 | exact P6) (.cons (by first | exact P0 | exact P1 | exact P2 | exact P3 | exact P4 | exact P5 | exact P6) .nil)))))
  ·
   intro ht14
   obtain ⟨q1, q2, q3, q4, q5, q6⟩ := hR
   have hin : ¬ i < n := by have h9 := of_decide_eq_false ht14; omega
   rw [List.drop_of_length_le (l := (ls.map LnA.ln)) (i := i) (by omega), lgG, List.append_nil] at q3
   refine T.exit ?_
   refine TE.pass_exit ?_
   refine TE.pass_exit ?_
   refine TE.here ?_
   refine TE.next ?_
   refine T.seq ?_
   refine T.region ?_
   refine TL.val (OpV.move rfl) rfl ?_
   refine TL.val (OpV.assign rfl) rfl ?_
   refine TL.val (OpV.assign rfl) rfl ?_
   refine TL.nil ?_
   refine TE.sub (.cons (t := 2) rfl <| .cons (t := 3) rfl <| .nil) ?_
   refine TE.next ?_
   refine T.ret ?_
   refine TE.retN rfl (.cons (ResV.tmp rfl) <| .cons (ResV.tmp rfl) <| .nil) ?_
   intro wz kz
   by_cases h0 : 0 < gs.length
   · obtain ⟨bq, csq, ρ, ⟨r1, r2, r4, r5, r6, r7⟩, k2⟩ := rowIntoW (e := 37) (z := 3) (A := A4) (m := gs.length) (c := c4) (xs := flg gs) (τ := τ) kz (by first | exact P0 | exact P1 | exact P2 | exact P3 | exact P4 | exact P5 | exact P6) (by first | exact P0 | exact P1 | exact P2 | exact P3 | exact P4 | exact P5 | exact P6) h0
     exact ⟨⟨A4, gs.length, c4, ρ⟩, by rw [linesE, hv9]; rfl, ⟨gs, GsW.of_rows q4 r7 r1 r6 (SlR.of_row LgA.l_length r2 rfl), by rw [linesV, hv9, if_pos rfl]; exact q3⟩, Perm.kle (.cons .here .nil) wz k2⟩
   · obtain ⟨ρ, r2, k2⟩ := KOk.rowOwn (kz.pick (e := .row 37 3 A4 gs.length c4 (flg gs)) (by first | exact P0 | exact P1 | exact P2 | exact P3 | exact P4 | exact P5 | exact P6))
     have hg0 : gs = [] := List.length_eq_zero_iff.1 (by omega)
     exact ⟨⟨A4, gs.length, c4, ρ⟩, by rw [linesE, hv9]; rfl, ⟨gs, ⟨SlR.of_row LgA.l_length r2 rfl, by rw [hg0]; exact OG.nil, fun l hl => by rw [hg0] at hl; cases hl⟩, by rw [linesV, hv9, if_pos rfl]; exact q3⟩, Perm.kle (.cons .here .nil) wz k2⟩
set_option maxRecDepth 100000 in
set_option maxHeartbeats 1000000 in
theorem find_c {σ : Nat → Option Obj} {A : Option Addr} {n c : Nat} {gs : List LgA} (row : Int) (w : World) (h : GsA σ A n c gs) (hs : ∀ b o, σ b = some o → w.heap[b]? = some o) (hr : 0 ≤ row ∧ row ≤ 1099511627776) (hb : ∀ g ∈ gs, (0 ≤ g.frm ∧ g.frm ≤ 1099511627776) ∧ (0 ≤ g.rows ∧ g.rows ≤ 1099511627776)) : Calls Tryd.prog 85 #[.slice A n c, .int .i64 row] w (Ret (.tuple #[.int .i64 (findV (gs.map LgA.lg) row).1, .int .i64 (findV (gs.map LgA.lg) row).2]) w) := by
 have hn63 := h.1.2.1
 have hc63 := h.1.2.2.1
 have hl1 := h.1.1
 refine calls_T (vs := [.slice A n c, .int .i64 row]) (L0 := [(0, .slice A n c), (1, .int .i64 row)]) Tryd.func85 rfl rfl rfl rfl (KOk.fr1 hs) ?_
 refine T.seq ?_
 refine T.region ?_
 refine TL.val (OpV.assign rfl) rfl ?_
 refine TL.val (OpV.assign rfl) rfl ?_
 refine TL.nil ?_
 refine TE.next ?_
 refine T.seq ?_
 refine T.seq ?_
 refine T.region ?_
 refine TL.val (OpV.move rfl) rfl ?_
 refine TL.val (OpV.len Tryd.underlying34 rfl) rfl ?_
 refine TL.val (OpV.move rfl) rfl ?_
 refine TL.nil ?_
 refine TE.next ?_
 refine T.block ?_
 refine T.loop (ι := Nat) (fun i => i ≤ n ∧ ∀ j, j < i → ∀ y, (gs.map LgA.lg)[j]? = some y → hasR row y = false) (fun i => (n - i)) (fun i => [(1, .int .i64 row), (8, .slice A n c), (9, .int .i64 (n : Int)), (10, .int .i64 (i : Int))]) (fun i => [.fr σ]) 0 ⟨Nat.zero_le _, fun j hj => absurd hj (Nat.not_lt_zero _)⟩ (.cons (t := 1) rfl <| .cons (t := 8) rfl <| .cons (t := 9) rfl <| .cons (t := 10) rfl <| .nil) (Kle.refl) ?_
 rintro i hR
 refine T.seq ?_
 refine T.region ?_
 refine TL.val (OpV.lss rfl rfl) rfl ?_
 refine TL.nil ?_
 refine TE.next ?_
 refine T.seq ?_
 refine T.cond rfl ?_ ?_
 ·
  intro ht11
  obtain ⟨q1, q2⟩ := hR
  have hi : i < n := by have h9 := of_decide_eq_true ht11; omega
  obtain ⟨g, hg⟩ := get_of_lt h.1.1 hi
  obtain ⟨b6, o6, hA6, hat6⟩ := h.1.2.2.2.2 (by omega)
  obtain ⟨_, rfl, _, hatg⟩ := hat6 _ g hg
  have hgb := hb g (List.mem_of_getElem? hg)
  refine T.skip ?_
  refine TE.next ?_
  refine T.seq ?_
  refine T.block ?_
  refine T.seq ?_
  refine T.region ?_
  refine TL.val (OpV.move rfl) rfl ?_
  refine TL.val (OpV.indexAddr se_34 rfl hA6 rfl (by rfl) (by first | omega | simp)) rfl ?_
  refine TL.val (OpV.loadA ag_37 rfl (by first | exact Cels.blk P0 rfl | exact Cels.blk P1 rfl | exact Cels.blk P2 rfl | exact Cels.blk P3 rfl | exact Cels.blk P4 rfl | exact Cels.frA hatg rfl)) rfl ?_
  refine TL.alloc zo_37 rfl ?_
  intro b7
  refine TL.val (OpV.assign rfl) rfl ?_
  first
    | refine TL.storeAll rfl rfl szz_37 rfl rfl rfl (by first | exact P0 | exact P1 | exact P2 | exact P3 | exact P4) (by rfl) ?_
    | refine TL.store rfl rfl szz_37 rfl rfl rfl (by first | exact P0 | exact P1 | exact P2 | exact P3 | exact P4) (by first | exact Nat.le_of_ble_eq_true rfl | (simp; done) | (simp; omega)) (by simp only [LgA.l, putL, List.take_succ_cons, List.take_zero, List.drop_succ_cons, List.drop_zero, List.cons_append, List.nil_append, List.length_cons, List.length_nil, Nat.reduceAdd]; rfl) ?_
  refine TL.nil ?_
  refine TE.next ?_
  refine T.seq ?_
  refine T.region ?_
  refine TL.val (OpV.move rfl) rfl ?_
  refine TL.val (OpV.fieldAddr rfl fo_37_1) rfl ?_
  refine TL.val (OpV.load pl_3 rfl (by first | exact Cel.blk P0 rfl | exact Cel.blk P1 rfl | exact Cel.blk P2 rfl | exact Cel.blk P3 rfl | exact Cel.blk P4 rfl | exact Cel.frA (hatg _ _ rfl))) rfl ?_
  refine TL.val (OpV.geq rfl rfl) rfl ?_
  refine TL.val (OpV.move rfl) rfl ?_
  refine TL.part (t := 19) rfl ?_ ?_
  ·
   intro hg19
   have hge := of_decide_eq_true hg19
   refine TL.open rfl rfl ?_
   refine TL.val (OpV.fieldAddr rfl fo_37_2) rfl ?_
   refine TL.open rfl rfl ?_
   refine TL.val (OpV.load pl_3 rfl (by first | exact Cel.blk P0 rfl | exact Cel.blk P1 rfl | exact Cel.blk P2 rfl | exact Cel.blk P3 rfl | exact Cel.blk P4 rfl | exact Cel.frA (hatg _ _ rfl))) rfl ?_
   refine TL.open rfl rfl ?_
   refine TL.val (OpV.gtr rfl rfl) rfl ?_
   refine TL.val ((by first | exact OpV.pick_t rfl rfl | exact OpV.pick_f rfl rfl)) rfl ?_
   refine TL.val (OpV.move rfl) rfl ?_
   refine TL.part (t := 24) rfl ?_ ?_
   ·
    intro hg24
    have hgr := of_decide_eq_true hg24
    refine TL.open rfl rfl ?_
    refine TL.val (OpV.move rfl) rfl ?_
    refine TL.open rfl rfl ?_
    refine TL.val (OpV.conv Tryd.underlying3 Tryd.underlying127 rfl (by first | exact IntWalk.u64_in _ ⟨by omega, by omega⟩ | rfl)) rfl ?_
    refine TL.open rfl rfl ?_
    refine TL.val (OpV.fieldAddr rfl fo_37_1) rfl ?_
    refine TL.open rfl rfl ?_
    refine TL.val (OpV.load pl_3 rfl (by first | exact Cel.blk P0 rfl | exact Cel.blk P1 rfl | exact Cel.blk P2 rfl | exact Cel.blk P3 rfl | exact Cel.blk P4 rfl | exact Cel.frA (hatg _ _ rfl))) rfl ?_
    refine TL.open rfl rfl ?_
    refine TL.val (OpV.conv Tryd.underlying3 Tryd.underlying127 rfl (by first | exact IntWalk.u64_in _ ⟨by omega, by omega⟩ | rfl)) rfl ?_
    refine TL.open rfl rfl ?_
    refine TL.val (OpV.sub rfl rfl (by first | exact IntWalk.u64_in _ ⟨by omega, by omega⟩ | rfl)) rfl ?_
    refine TL.open rfl rfl ?_
    refine TL.val (OpV.fieldAddr rfl fo_37_2) rfl ?_
    refine TL.open rfl rfl ?_
    refine TL.val (OpV.load pl_3 rfl (by first | exact Cel.blk P0 rfl | exact Cel.blk P1 rfl | exact Cel.blk P2 rfl | exact Cel.blk P3 rfl | exact Cel.blk P4 rfl | exact Cel.frA (hatg _ _ rfl))) rfl ?_
    refine TL.open rfl rfl ?_
    refine TL.val (OpV.conv Tryd.underlying3 Tryd.underlying127 rfl (by first | exact IntWalk.u64_in _ ⟨by omega, by omega⟩ | rfl)) rfl ?_
    refine TL.open rfl rfl ?_
    refine TL.val (OpV.lss rfl rfl) rfl ?_
    refine TL.val ((by first | exact OpV.pick_t rfl rfl | exact OpV.pick_f rfl rfl)) rfl ?_
    refine TL.nil ?_
    refine TE.sub (.cons (t := 1) rfl <| .cons (t := 6) rfl <| .cons (t := 8) rfl <| .cons (t := 9) rfl <| .cons (t := 10) rfl <| .cons (t := 35) rfl <| .nil) ?_
    refine TE.next ?_
    refine T.cond rfl ?_ ?_
    ·
     intro ht35
     have hhr : hasR row g.lg = true := by have h9 := of_decide_eq_true ht35; exact hasR_yes (x := g.lg) (show g.frm ≤ row ∧ 0 < g.rows ∧ row - g.frm < g.rows by omega)
     have hf : findV (gs.map LgA.lg) row = ((i : Int), 0) := find_some q2 (x := g.lg) (by rw [List.getElem?_map, hg]; rfl) hhr
     refine T.seq ?_
     refine T.region ?_
     refine TL.val (OpV.move rfl) rfl ?_
     refine TL.val (OpV.assign rfl) rfl ?_
     refine TL.val (OpV.assign rfl) rfl ?_
     refine TL.nil ?_
     refine TE.sub (.cons (t := 4) rfl <| .cons (t := 5) rfl <| .nil) ?_
     refine TE.next ?_
     refine T.ret ?_
     refine TE.out_ret ?_
     refine TE.pass_ret ?_
     refine TE.pass_ret ?_
     refine TE.out_ret ?_
     refine TE.pass_ret ?_
     refine TE.retN rfl (.cons (ResV.tmp rfl) <| .cons (ResV.tmp rfl) <| .nil) ?_
     exact fun w1 k1 => ⟨by rw [hf] <;> rfl, k1.bel⟩
    ·
     intro ht35
     have hhr : hasR row g.lg = false := by have h9 := of_decide_eq_false ht35; exact hasR_not (x := g.lg) (show ¬ (g.frm ≤ row ∧ 0 < g.rows ∧ row - g.frm < g.rows) by omega)
     refine T.skip ?_
     refine TE.out ?_
     refine TE.next ?_
     refine T.region ?_
     refine TL.val (OpV.add rfl rfl (by first | exact IntWalk.i64_in _ ⟨by omega, by omega⟩ | rfl)) rfl ?_
     refine TL.val (OpV.move rfl) rfl ?_
     refine TL.nil ?_
     exact TE.meet (i + 1) ⟨⟨by omega, fun j hj y hy => by rcases Nat.lt_succ_iff_lt_or_eq.1 hj with hj | rfl; exact q2 j hj y hy; rw [List.getElem?_map, hg] at hy; cases hy; exact hhr⟩, by omega⟩ (.cons (t := 1) (by first | rfl | (simp [lk]; done)) <| .cons (t := 8) (by first | rfl | (simp [lk]; done)) <| .cons (t := 9) (by first | rfl | (simp [lk]; done)) <| .cons (t := 10) (by first | rfl | (simp [lk]; done)) <| .nil) (Perm.kle (.cons (by first | exact P0 | exact P1 | exact P2 | exact P3 | exact P4 | exact P5 | exact P6) .nil))
   ·
    intro hg24
    have hhr : hasR row g.lg = false := by have h9 := of_decide_eq_false hg24; exact hasR_not (x := g.lg) (show ¬ (g.frm ≤ row ∧ 0 < g.rows ∧ row - g.frm < g.rows) by omega)
    refine TL.shut rfl rfl ?_
    refine TL.shut rfl rfl ?_
    refine TL.shut rfl rfl ?_
    refine TL.shut rfl rfl ?_
    refine TL.shut rfl rfl ?_
    refine TL.shut rfl rfl ?_
    refine TL.shut rfl rfl ?_
    refine TL.shut rfl rfl ?_
    refine TL.shut rfl rfl ?_
    refine TL.shut rfl rfl ?_
    refine TL.val ((by first | exact OpV.pick_t rfl rfl | exact OpV.pick_f rfl rfl)) rfl ?_
    refine TL.nil ?_
    refine TE.sub (.cons (t := 1) rfl <| .cons (t := 6) rfl <| .cons (t := 8) rfl <| .cons (t := 9) rfl <| .cons (t := 10) rfl <| .cons (t := 35) rfl <| .nil) ?_
    refine TE.next ?_
    refine T.no rfl ?_
    refine T.skip ?_
    refine TE.out ?_
    refine TE.next ?_
    refine T.region ?_
    refine TL.val (OpV.add rfl rfl (by first | exact IntWalk.i64_in _ ⟨by omega, by omega⟩ | rfl)) rfl ?_
    refine TL.val (OpV.move rfl) rfl ?_
    refine TL.nil ?_
    exact TE.meet (i + 1) ⟨⟨by omega, fun j hj y hy => by rcases Nat.lt_succ_iff_lt_or_eq.1 hj with hj | rfl; exact q2 j hj y hy; rw [List.getElem?_map, hg] at hy; cases hy; exact hhr⟩, by omega⟩ (.cons (t := 1) (by first | rfl | (simp [lk]; done)) <| .cons (t := 8) (by first | rfl | (simp [lk]; done)) <| .cons (t := 9) (by first | rfl | (simp [lk]; done)) <| .cons (t := 10) (by first | rfl | (simp [lk]; done)) <| .nil) (Perm.kle (.cons (by first | exact P0 | exact P1 | exact P2 | exact P3 | exact P4 | exact P5 | exact P6) .nil))
  ·
   intro hg19
   have hhr : hasR row g.lg = false := by rw [hasR, show decide (g.lg.frm ≤ row) = false from hg19, Bool.false_and]
   refine TL.shut rfl rfl ?_
   refine TL.shut rfl rfl ?_
   refine TL.shut rfl rfl ?_
   refine TL.val ((by first | exact OpV.pick_t rfl rfl | exact OpV.pick_f rfl rfl)) rfl ?_
   refine TL.val (OpV.move rfl) rfl ?_
   refine TL.shut rfl rfl ?_
   refine TL.shut rfl rfl ?_
   refine TL.shut rfl rfl ?_
   refine TL.shut rfl rfl ?_
   refine TL.shut rfl rfl ?_
   refine TL.shut rfl rfl ?_
   refine TL.shut rfl rfl ?_
   refine TL.shut rfl rfl ?_
   refine TL.shut rfl rfl ?_
   refine TL.shut rfl rfl ?_
   refine TL.val ((by first | exact OpV.pick_t rfl rfl | exact OpV.pick_f rfl rfl)) rfl ?_
   refine TL.nil ?_
   refine TE.sub (.cons (t := 1) rfl <| .cons (t := 6) rfl <| .cons (t := 8) rfl <| .cons (t := 9) rfl <| .cons (t := 10) rfl <| .cons (t := 35) rfl <| .nil) ?_
   refine TE.next ?_
   refine T.no rfl ?_
   refine T.skip ?_
   refine TE.out ?_
   refine TE.next ?_
   refine T.region ?_
   refine TL.val (OpV.add rfl rfl (by first | exact IntWalk.i64_in _ ⟨by omega, by omega⟩ | rfl)) rfl ?_
   refine TL.val (OpV.move rfl) rfl ?_
   refine TL.nil ?_
   exact TE.meet (i + 1) ⟨⟨by omega, fun j hj y hy => by rcases Nat.lt_succ_iff_lt_or_eq.1 hj with hj | rfl; exact q2 j hj y hy; rw [List.getElem?_map, hg] at hy; cases hy; exact hhr⟩, by omega⟩ (.cons (t := 1) (by first | rfl | (simp [lk]; done)) <| .cons (t := 8) (by first | rfl | (simp [lk]; done)) <| .cons (t := 9) (by first | rfl | (simp [lk]; done)) <| .cons (t := 10) (by first | rfl | (simp [lk]; done)) <| .nil) (Perm.kle (.cons (by first | exact P0 | exact P1 | exact P2 | exact P3 | exact P4 | exact P5 | exact P6) .nil))
 ·
  intro ht11
  obtain ⟨q1, q2⟩ := hR
  have hin : ¬ i < n := by have h9 := of_decide_eq_false ht11; omega
  have hf : findV (gs.map LgA.lg) row = (0, 3) := find_none fun j hj y hy => by rw [List.length_map, h.1.1] at hj; exact q2 j (by omega) y hy
  refine T.exit ?_
  refine TE.pass_exit ?_
  refine TE.pass_exit ?_
  refine TE.here ?_
  refine TE.next ?_
  refine T.seq ?_
  refine T.region ?_
  refine TL.val (OpV.assign rfl) rfl ?_
  refine TL.val (OpV.assign rfl) rfl ?_
  refine TL.nil ?_
  refine TE.next ?_
  refine T.ret ?_
  refine TE.retN rfl (.cons (ResV.tmp rfl) <| .cons (ResV.tmp rfl) <| .nil) ?_
  exact fun w1 k1 => ⟨by rw [hf] <;> rfl, k1.bel⟩
end Go.Proofs.YtdmpodpdpncobaaDoor
