/-
  The walks of Lines, One, Find and Text. Condition: the package-level tables hold what they were laid with.
-/
import Derived.Test.YtblpfelhgcggfaaDoorUb
namespace Go.Proofs.YtblpfelhgcggfaaDoor
open Go.RowKit
set_option linter.unusedSimpArgs false
set_option linter.unusedVariables false

theorem bld_72_0_1_2 (x : LgA) (w : World) : (Instr.build 72 #[(0, .slice x.A x.n x.c), (1, .int .i64 x.frm), (2, .int .i64 x.rows)]).run Tryd.prog w = .ok (.agg x.l.toArray) w := by kernel_rfl
theorem sl_69_1_0 (x : LgA) (w : World) : (Instr.buildSlice 69 1 #[(0, .agg x.l.toArray)]).run Tryd.prog w = .ok (.slice (some ⟨w.heap.size, 0, none⟩) 1 1) (w.alloc (.cells x.l.toArray 72)) := by kernel_rfl
theorem sl_77_1_0 (s : ByteArray) (w : World) : (Instr.buildSlice 77 1 #[(0, .string s)]).run Tryd.prog w = .ok (.slice (some ⟨w.heap.size, 0, none⟩) 1 1) (w.alloc (.cells [Value.string s].toArray 9)) := by kernel_rfl
set_option maxRecDepth 100000 in
set_option maxHeartbeats 1000000 in
theorem ulines_c {σ : Nat → Option Obj} {A : Option Addr} {n c : Nat} {ls : List LnA} (w : World) (L : LaidW w) (h : LsA σ A n c ls) (hs : ∀ b o, σ b = some o → w.heap[b]? = some o) (hn : n ≤ 131072) : Calls Tryd.prog 36 #[.slice A n c] w (fun e w' => ∃ v : SV, e = .returned (.tuple #[v.v, .int .i64 (linesE (ls.map LnA.ln))]) ∧ (∃ gs, GsW 59 v.σ v.A v.n v.c gs ∧ gs.map LgA.lg = linesV (ls.map LnA.ln)) ∧ KOk w [.own v.σ] w') := by
  have hn63 := h.1.2.1
  have hc63 := h.1.2.2.1
  have hl1 := h.1.1
  have hXl : (ls.map LnA.ln).length = n := by rw [List.length_map]; exact hl1
  refine calls_T (vs := [.slice A n c]) (L0 := [(0, .slice A n c)]) Tryd.func36 rfl rfl rfl rfl (KOk.fr1 hs) ?_
  refine T.seq ?_
  refine T.region ?_
  refine TL.val (OpV.assign rfl) rfl ?_
  refine TL.val (OpV.assign rfl) rfl ?_
  refine TL.nil ?_
  refine TE.next ?_
  refine T.seq ?_
  refine T.seq ?_
  refine T.region ?_
  refine TL.val (OpV.move rfl) rfl ?_
  refine TL.call (g := 58) rfl go_58 rfl (fun w1 k1 => uvalid_c w1 (L.below k1.bel) h (k1.get (e := .fr σ) (by first | exact P0 | exact P1 | exact P2 | exact P3 | exact P4 | exact P5))) rfl ?_
  refine TL.val (OpV.not rfl) rfl ?_
  refine TL.nil ?_
  refine TE.next ?_
  refine T.cond rfl ?_ ?_
  · intro ht10
    have hv9 : vLs (ls.map LnA.ln) = false := by simpa using ht10
    refine T.seq ?_
    refine T.region ?_
    refine TL.val (OpV.assign rfl) rfl ?_
    refine TL.val (OpV.assign rfl) rfl ?_
    refine TL.nil ?_
    refine TE.next ?_
    refine T.ret ?_
    refine TE.pass_ret ?_
    refine TE.retN rfl (.cons (ResV.tmp rfl) <| .cons (ResV.tmp rfl) <| .nil) ?_
    exact fun wz kz => ⟨⟨none, 0, 0, fun _ => none⟩, by rw [linesE, hv9]; rfl, ⟨[], GsW.nil, by rw [linesV, hv9]; rfl⟩, Perm.kle (.cons .here .nil) wz (KOk.ownNil kz)⟩
  · intro ht10
    have hv9 : vLs (ls.map LnA.ln) = true := by simpa using ht10
    have hb := h.len hv9
    refine T.skip ?_
    refine TE.next ?_
    refine T.seq ?_
    refine T.region ?_
    refine TL.val (OpV.assign rfl) rfl ?_
    refine TL.nil ?_
    refine TE.next ?_
    refine T.seq ?_
    refine T.region ?_
    refine TL.val (OpV.assign rfl) rfl ?_
    refine TL.nil ?_
    refine TE.next ?_
    refine T.seq ?_
    refine T.seq ?_
    refine T.region ?_
    refine TL.val (OpV.move rfl) rfl ?_
    refine TL.val (OpV.len Tryd.underlying28 rfl) rfl ?_
    refine TL.val (OpV.move rfl) rfl ?_
    refine TL.nil ?_
    refine TE.next ?_
    refine T.block ?_
    refine T.loop (ι := Nat × Nat × List LgA × Option Addr × Nat × (Nat → Option Obj)) (fun ⟨i, f, gs, A4, c4, τ⟩ => i ≤ n ∧ f ≤ i ∧ gs.map LgA.lg ++ lgG (((ls.map LnA.ln).take i).drop f) f ((ls.map LnA.ln).drop i) = lgG [] 0 (ls.map LnA.ln) ∧ OG 59 τ gs ∧ (A4 = none → c4 = 0) ∧ gs.length ≤ i) (fun ⟨i, f, gs, A4, c4, τ⟩ => (n - i)) (fun ⟨i, f, gs, A4, c4, τ⟩ => [(0, .slice A n c), (4, .slice A4 gs.length c4), (5, .int .i64 (f : Int)), (11, .slice A n c), (12, .int .i64 (n : Int)), (13, .int .i64 (i : Int))]) (fun ⟨i, f, gs, A4, c4, τ⟩ => [.row 72 3 A4 gs.length c4 (flg gs), .own τ, .fr σ]) (0, 0, [], none, 0, fun _ => none) ⟨Nat.zero_le _, Nat.le_refl _, rfl, OG.nil, fun _ => rfl, Nat.zero_le _⟩ (.cons (t := 0) rfl <| .cons (t := 4) rfl <| .cons (t := 5) rfl <| .cons (t := 11) rfl <| .cons (t := 12) rfl <| .cons (t := 13) rfl <| .nil) ((fun wz kz => Perm.kle (.cons (by first | exact P0 | exact P1 | exact P2 | exact P3 | exact P4 | exact P5 | exact P6) (.cons (by first | exact P0 | exact P1 | exact P2 | exact P3 | exact P4 | exact P5 | exact P6) (.cons (by first | exact P0 | exact P1 | exact P2 | exact P3 | exact P4 | exact P5 | exact P6) .nil))) wz (Kle.nilRow 72 3 wz (KOk.ownNil kz)))) ?_
    rintro ⟨i, f, gs, A4, c4, τ⟩ hR
    refine T.seq ?_
    refine T.region ?_
    refine TL.val (OpV.lss rfl rfl) rfl ?_
    refine TL.nil ?_
    refine TE.next ?_
    refine T.seq ?_
    refine T.cond rfl ?_ ?_
    · intro ht14
      obtain ⟨q1, q2, q3, q4, q5, q6⟩ := hR
      have hi : i < n := by have h9 := of_decide_eq_true ht14; omega
      obtain ⟨x, hx⟩ := get_of_lt h.1.1 (show i < n by omega)
      obtain ⟨br, or, hA6, hat6⟩ := h.1.2.2.2.2 (by omega)
      obtain ⟨_, rfl, _, hatl⟩ := hat6 _ x hx
      have hcx := h.2 x (List.mem_of_getElem? hx)
      have hX : (ls.map LnA.ln)[i]? = some x.ln := by rw [List.getElem?_map, hx]; rfl
      have hcs := cur_snoc hX q2
      have hcl : (((ls.map LnA.ln).take i).drop f).length = i - f := by rw [List.length_drop, List.length_take]; omega
      refine T.skip ?_
      refine TE.next ?_
      refine T.seq ?_
      refine T.block ?_
      refine T.seq ?_
      refine T.region ?_
      refine TL.val (OpV.move rfl) rfl ?_
      refine TL.val (OpV.indexAddr se_28 rfl hA6 rfl (by rfl) (by first | omega | simp)) rfl ?_
      refine TL.val (OpV.loadA ag_34 rfl (by first | exact Cels.blk P0 rfl | exact Cels.blk P1 rfl | exact Cels.blk P2 rfl | exact Cels.blk P3 rfl | exact Cels.blk P4 rfl | exact Cels.blk P5 rfl | exact Cels.frA hatl rfl)) rfl ?_
      refine TL.alloc zo_34 rfl ?_
      intro b7
      refine TL.val (OpV.assign rfl) rfl ?_
      first
        | refine TL.storeAll rfl rfl szz_34 rfl rfl rfl (by first | exact P0 | exact P1 | exact P2 | exact P3 | exact P4 | exact P5) (by rfl) ?_
        | refine TL.store rfl rfl szz_34 rfl rfl rfl (by first | exact P0 | exact P1 | exact P2 | exact P3 | exact P4 | exact P5) (by first | exact Nat.le_of_ble_eq_true rfl | (simp; done) | (simp; omega)) (by simp only [LnA.l, putL, List.take_succ_cons, List.take_zero, List.drop_succ_cons, List.drop_zero, List.cons_append, List.nil_append, List.length_cons, List.length_nil, Nat.reduceAdd]; rfl) ?_
      refine TL.nil ?_
      refine TE.next ?_
      refine T.seq ?_
      refine T.seq ?_
      refine T.region ?_
      refine TL.val (OpV.fieldAddr rfl fo_34_1) rfl ?_
      refine TL.val (OpV.load pl_4 rfl (by first | exact Cel.blk P0 rfl | exact Cel.blk P1 rfl | exact Cel.blk P2 rfl | exact Cel.blk P3 rfl | exact Cel.blk P4 rfl | exact Cel.blk P5 rfl | exact Cel.frA (hatl _ _ rfl))) rfl ?_
      refine TL.val (OpV.move rfl) rfl ?_
      refine TL.part (t := 20) rfl ?_ ?_
      · intro hg20
        refine TL.open rfl rfl ?_
        refine TL.val (OpV.move rfl) rfl ?_
        refine TL.open rfl rfl ?_
        refine TL.val (OpV.add rfl rfl (by first | exact IntWalk.i64_in _ ⟨by omega, by omega⟩ | rfl)) rfl ?_
        refine TL.open rfl rfl ?_
        refine TL.val (OpV.move rfl) rfl ?_
        refine TL.open rfl rfl ?_
        refine TL.val (OpV.len Tryd.underlying28 rfl) rfl ?_
        refine TL.open rfl rfl ?_
        refine TL.val (OpV.lss rfl rfl) rfl ?_
        refine TL.val ((by first | exact OpV.pick_t rfl rfl | exact OpV.pick_f rfl rfl)) rfl ?_
        refine TL.nil ?_
        refine TE.sub (.cons (t := 0) rfl <| .cons (t := 4) rfl <| .cons (t := 5) rfl <| .cons (t := 6) rfl <| .cons (t := 11) rfl <| .cons (t := 12) rfl <| .cons (t := 13) rfl <| .cons (t := 26) rfl <| .nil) ?_
        refine TE.next ?_
        refine T.cond rfl ?_ ?_
        · intro ht26
          have hlg := lgG_soft (cur := (((ls.map LnA.ln).take i).drop f)) (f := f) hX (show x.ln.soft = true from hg20) (by rw [hXl]; have h9 := of_decide_eq_true ht26; omega)
          rw [hlg, ← hcs] at q3
          refine T.exit ?_
          refine TE.pass_exit ?_
          refine TE.here ?_
          refine TE.next ?_
          refine T.region ?_
          refine TL.val (OpV.add rfl rfl (by first | exact IntWalk.i64_in _ ⟨by omega, by omega⟩ | rfl)) rfl ?_
          refine TL.val (OpV.move rfl) rfl ?_
          refine TL.nil ?_
          exact TE.meet (i + 1, f, gs, A4, c4, τ) ⟨⟨by omega, by omega, q3, q4, q5, by omega⟩, by simp only; omega⟩ (.cons (t := 0) (by first | rfl | (simp [lk]; done)) <| .cons (t := 4) (by first | rfl | (simp [lk]; done)) <| .cons (t := 5) (by first | rfl | (simp [lk]; done)) <| .cons (t := 11) (by first | rfl | (simp [lk]; done)) <| .cons (t := 12) (by first | rfl | (simp [lk]; done)) <| .cons (t := 13) (by first | rfl | (simp [lk]; done)) <| .nil) (Perm.kle (.cons (by first | exact P0 | exact P1 | exact P2 | exact P3 | exact P4 | exact P5 | exact P6) (.cons (by first | exact P0 | exact P1 | exact P2 | exact P3 | exact P4 | exact P5 | exact P6) (.cons (by first | exact P0 | exact P1 | exact P2 | exact P3 | exact P4 | exact P5 | exact P6) .nil))))
        · intro ht26
          refine T.skip ?_
          refine TE.next ?_
          refine T.seq ?_
          have hlg := lgG_end (cur := (((ls.map LnA.ln).take i).drop f)) (f := f) hX (by first | exact .inl hg20 | (right; have h9 := of_decide_eq_false ht26; rw [hXl]; omega))
          rw [hlg, ← hcs, hcl] at q3
          have hls := h.slice (lo := f) (hi := i + 1) (by omega) (by omega)
          have hmc : (((ls.map LnA.ln).take (i + 1)).drop f).map Ln.cells = ((ls.take (i + 1)).drop f).map LnA.cells := by rw [← List.map_take, ← List.map_drop, List.map_map]; rfl
          rw [hmc] at q3
          have hb2 : ∀ x ∈ ((ls.take (i + 1)).drop f).map LnA.cells, x.length ≤ 1000 := fun x hx => by obtain ⟨l, hl, rfl⟩ := List.mem_map.1 hx; exact hb _ (List.mem_map_of_mem (List.mem_of_mem_take (List.mem_of_mem_drop hl)))
          refine T.region ?_
          refine TL.val (OpV.move rfl) rfl ?_
          refine TL.val (OpV.move rfl) rfl ?_
          refine TL.val (OpV.move rfl) rfl ?_
          refine TL.val (OpV.move rfl) rfl ?_
          refine TL.val (OpV.add rfl rfl (by first | exact IntWalk.i64_in _ ⟨by omega, by omega⟩ | rfl)) rfl ?_
          refine TL.val (OpV.sliceLH (lo := f) (hi := i + 1) se_28 rfl rfl rfl rfl (by omega) (by omega) (by omega)) rfl ?_
          refine TL.callx (g := 59) rfl go_59 rfl (fun wz k1 => own_x k1 (joined_c wz hls (k1.get (e := .fr σ) (by first | exact P0 | exact P1 | exact P2 | exact P3 | exact P4 | exact P5)) (by omega) hb2)) rfl ?_
          rintro ⟨bj, mj, ρj⟩ ⟨hj1, hj2⟩
          simp only at hj1 hj2
          have hmb : mj ≤ 131072000 := by obtain ⟨k0, hk0, ek⟩ := trimV_pre _ (allV (((ls.take (i + 1)).drop f).map LnA.cells)) rfl; have h9 := allV_len (((ls.take (i + 1)).drop f).map LnA.cells); have h8 := sumL_le hb2; rw [List.length_map, hls.1.1] at h8; rw [ek, List.length_take] at hj1; omega
          refine TL.val (OpV.move rfl) rfl ?_
          refine TL.val (OpV.move rfl) rfl ?_
          refine TL.val (OpV.add rfl rfl (by first | exact IntWalk.i64_in _ ⟨by omega, by omega⟩ | rfl)) rfl ?_
          refine TL.val (OpV.move rfl) rfl ?_
          refine TL.val (OpV.sub rfl rfl (by first | exact IntWalk.i64_in _ ⟨by omega, by omega⟩ | rfl)) rfl ?_
          refine TL.val (OpV.build (qs := #[(0, _), (1, _), (2, _)]) (fun _ f => by simp only [List.map_toArray, List.map_cons, List.map_nil]; rw [f.ev (x := .tmp 33) rfl, f.ev (x := .tmp 34) rfl, f.ev (x := .tmp 38) rfl]) (bld_72_0_1_2 (LgA.mk (some ⟨bj, 0, none⟩) mj mj (trimV (allV (((ls.take (i + 1)).drop f).map LnA.cells))) (f : Int) ((i : Int) + 1 - (f : Int))) )) rfl ?_
          refine TL.slit (qs := #[(0, _)]) (fun _ f => by simp only [List.map_toArray, List.map_cons, List.map_nil]; rw [f.ev (x := .tmp 39) rfl]) (sl_69_1_0 (LgA.mk (some ⟨bj, 0, none⟩) mj mj (trimV (allV (((ls.take (i + 1)).drop f).map LnA.cells))) (f : Int) ((i : Int) + 1 - (f : Int)))) rfl ?_
          intro b40
          obtain ⟨ti41, hi41, hz41, hs41, hb41⟩ := info_parts inf_72
          refine TL.append rfl rfl Tryd.underlying69 hi41 hz41 hs41 hb41 rfl (by omega) (by first | exact P0 | exact P1 | exact P2 | exact P3 | exact P4 | exact P5) (by first | exact Src.nil | exact Src.blk P0 rfl | exact Src.blk P1 rfl | exact Src.blk P2 rfl | exact Src.blk P3 rfl | exact Src.blk P4 rfl | exact Src.blk P5 rfl | exact Src.row P0 | exact Src.row P1 | exact Src.row P2 | exact Src.row P3 | exact Src.row P4 | exact Src.row P5) (fun h => by cases h) rfl (by omega) (by omega) rfl ?_
          clear hi41 hz41 hs41 hb41 ti41
          intro A41 c41 hn41
          refine TL.val (OpV.assign rfl) rfl ?_
          refine TL.nil ?_
          refine TE.sub (.cons (t := 0) rfl <| .cons (t := 4) rfl <| .cons (t := 6) rfl <| .cons (t := 11) rfl <| .cons (t := 12) rfl <| .cons (t := 13) rfl <| .nil) ?_
          refine TE.next ?_
          refine T.ex (ι := Nat → Option Obj) (R := fun ρ => (∀ b o, ρj b = some o → ρ b = some o) ∧ (∀ b o, τ b = some o → ρ b = some o) ∧ ∀ b o, ρj b = some o → τ b = none) (K2 := fun ρ => [.own ρ, .row 72 3 A41 (gs.length + 1) c41 (flg gs ++ (LgA.mk (some ⟨bj, 0, none⟩) mj mj (trimV (allV (((ls.take (i + 1)).drop f).map LnA.cells))) (f : Int) ((i : Int) + 1 - (f : Int))).l), .fr σ]) (fun wz kz => ?_) ?_
          · skip
            obtain ⟨ρ, h9, k2⟩ := own2d ((kz.pick (e := .own τ) (by first | exact P0 | exact P1 | exact P2 | exact P3 | exact P4 | exact P5 | exact P6)).pick (e := .own ρj) (by first | exact P0 | exact P1 | exact P2 | exact P3 | exact P4 | exact P5 | exact P6))
            exact ⟨ρ, h9, Perm.kle (.cons (by first | exact P0 | exact P1 | exact P2 | exact P3 | exact P4 | exact P5 | exact P6) (.cons (by first | exact P0 | exact P1 | exact P2 | exact P3 | exact P4 | exact P5 | exact P6) (.cons (by first | exact P0 | exact P1 | exact P2 | exact P3 | exact P4 | exact P5 | exact P6) .nil))) wz k2⟩
          rintro ρ ⟨e1, e2, e3⟩
          refine T.region ?_
          refine TL.val (OpV.move rfl) rfl ?_
          refine TL.val (OpV.add rfl rfl (by first | exact IntWalk.i64_in _ ⟨by omega, by omega⟩ | rfl)) rfl ?_
          refine TL.val (OpV.assign rfl) rfl ?_
          refine TL.nil ?_
          refine TE.out ?_
          refine TE.next ?_
          refine T.region ?_
          refine TL.val (OpV.add rfl rfl (by first | exact IntWalk.i64_in _ ⟨by omega, by omega⟩ | rfl)) rfl ?_
          refine TL.val (OpV.move rfl) rfl ?_
          refine TL.nil ?_
          obtain ⟨csj, hcj1, hcj2⟩ := hj2
          have hj2 : OwR 59 ρj bj (trimV (allV (((ls.take (i + 1)).drop f).map LnA.cells))) := ⟨csj, hcj1, hcj2⟩
          exact TE.meet (i + 1, i + 1, gs ++ [(LgA.mk (some ⟨bj, 0, none⟩) mj mj (trimV (allV (((ls.take (i + 1)).drop f).map LnA.cells))) (f : Int) ((i : Int) + 1 - (f : Int)))], A41, c41, ρ) ⟨⟨by omega, by omega, by rw [List.map_append, List.append_assoc, cur_nil, ← q3]; congr 1; simp only [List.map_cons, List.map_nil, LgA.lg, List.cons_append, List.nil_append, List.cons.injEq, Lg.mk.injEq, true_and]; exact ⟨by omega, by rw [show f + (i - f) + 1 = i + 1 by omega]⟩, q4.snoc e2 rfl (by exact hj1) (Nat.le_refl _) (by simp only; omega) (hj2.mono e1) (e3 _ _ hcj1), hn41, by simp only [List.length_append, List.length_cons, List.length_nil]; omega⟩, by simp only; omega⟩ (.cons (t := 0) (by first | rfl | (simp [lk]; done)) <| .cons (t := 4) (by simp only [List.length_append, List.length_cons, List.length_nil]; rfl) <| .cons (t := 5) (by first | rfl | (simp [lk]; done)) <| .cons (t := 11) (by first | rfl | (simp [lk]; done)) <| .cons (t := 12) (by first | rfl | (simp [lk]; done)) <| .cons (t := 13) (by first | rfl | (simp [lk]; done)) <| .nil) ((by simp only [flg_snoc, List.length_append, List.length_cons, List.length_nil]; exact Perm.kle (.cons (by first | exact P0 | exact P1 | exact P2 | exact P3 | exact P4 | exact P5 | exact P6) (.cons (by first | exact P0 | exact P1 | exact P2 | exact P3 | exact P4 | exact P5 | exact P6) (.cons (by first | exact P0 | exact P1 | exact P2 | exact P3 | exact P4 | exact P5 | exact P6) .nil)))))
      · intro hg20
        refine TL.shut rfl rfl ?_
        refine TL.shut rfl rfl ?_
        refine TL.shut rfl rfl ?_
        refine TL.shut rfl rfl ?_
        refine TL.shut rfl rfl ?_
        refine TL.val ((by first | exact OpV.pick_t rfl rfl | exact OpV.pick_f rfl rfl)) rfl ?_
        refine TL.nil ?_
        refine TE.sub (.cons (t := 0) rfl <| .cons (t := 4) rfl <| .cons (t := 5) rfl <| .cons (t := 6) rfl <| .cons (t := 11) rfl <| .cons (t := 12) rfl <| .cons (t := 13) rfl <| .cons (t := 26) rfl <| .nil) ?_
        refine TE.next ?_
        refine T.no rfl ?_
        refine T.skip ?_
        refine TE.next ?_
        refine T.seq ?_
        have hlg := lgG_end (cur := (((ls.map LnA.ln).take i).drop f)) (f := f) hX (by first | exact .inl hg20 | (right; have h9 := of_decide_eq_false ht26; rw [hXl]; omega))
        rw [hlg, ← hcs, hcl] at q3
        have hls := h.slice (lo := f) (hi := i + 1) (by omega) (by omega)
        have hmc : (((ls.map LnA.ln).take (i + 1)).drop f).map Ln.cells = ((ls.take (i + 1)).drop f).map LnA.cells := by rw [← List.map_take, ← List.map_drop, List.map_map]; rfl
        rw [hmc] at q3
        have hb2 : ∀ x ∈ ((ls.take (i + 1)).drop f).map LnA.cells, x.length ≤ 1000 := fun x hx => by obtain ⟨l, hl, rfl⟩ := List.mem_map.1 hx; exact hb _ (List.mem_map_of_mem (List.mem_of_mem_take (List.mem_of_mem_drop hl)))
        refine T.region ?_
        refine TL.val (OpV.move rfl) rfl ?_
        refine TL.val (OpV.move rfl) rfl ?_
        refine TL.val (OpV.move rfl) rfl ?_
        refine TL.val (OpV.move rfl) rfl ?_
        refine TL.val (OpV.add rfl rfl (by first | exact IntWalk.i64_in _ ⟨by omega, by omega⟩ | rfl)) rfl ?_
        refine TL.val (OpV.sliceLH (lo := f) (hi := i + 1) se_28 rfl rfl rfl rfl (by omega) (by omega) (by omega)) rfl ?_
        refine TL.callx (g := 59) rfl go_59 rfl (fun wz k1 => own_x k1 (joined_c wz hls (k1.get (e := .fr σ) (by first | exact P0 | exact P1 | exact P2 | exact P3 | exact P4 | exact P5)) (by omega) hb2)) rfl ?_
        rintro ⟨bj, mj, ρj⟩ ⟨hj1, hj2⟩
        simp only at hj1 hj2
        have hmb : mj ≤ 131072000 := by obtain ⟨k0, hk0, ek⟩ := trimV_pre _ (allV (((ls.take (i + 1)).drop f).map LnA.cells)) rfl; have h9 := allV_len (((ls.take (i + 1)).drop f).map LnA.cells); have h8 := sumL_le hb2; rw [List.length_map, hls.1.1] at h8; rw [ek, List.length_take] at hj1; omega
        refine TL.val (OpV.move rfl) rfl ?_
        refine TL.val (OpV.move rfl) rfl ?_
        refine TL.val (OpV.add rfl rfl (by first | exact IntWalk.i64_in _ ⟨by omega, by omega⟩ | rfl)) rfl ?_
        refine TL.val (OpV.move rfl) rfl ?_
        refine TL.val (OpV.sub rfl rfl (by first | exact IntWalk.i64_in _ ⟨by omega, by omega⟩ | rfl)) rfl ?_
        refine TL.val (OpV.build (qs := #[(0, _), (1, _), (2, _)]) (fun _ f => by simp only [List.map_toArray, List.map_cons, List.map_nil]; rw [f.ev (x := .tmp 33) rfl, f.ev (x := .tmp 34) rfl, f.ev (x := .tmp 38) rfl]) (bld_72_0_1_2 (LgA.mk (some ⟨bj, 0, none⟩) mj mj (trimV (allV (((ls.take (i + 1)).drop f).map LnA.cells))) (f : Int) ((i : Int) + 1 - (f : Int))) )) rfl ?_
        refine TL.slit (qs := #[(0, _)]) (fun _ f => by simp only [List.map_toArray, List.map_cons, List.map_nil]; rw [f.ev (x := .tmp 39) rfl]) (sl_69_1_0 (LgA.mk (some ⟨bj, 0, none⟩) mj mj (trimV (allV (((ls.take (i + 1)).drop f).map LnA.cells))) (f : Int) ((i : Int) + 1 - (f : Int)))) rfl ?_
        intro b40
        obtain ⟨ti41, hi41, hz41, hs41, hb41⟩ := info_parts inf_72
        refine TL.append rfl rfl Tryd.underlying69 hi41 hz41 hs41 hb41 rfl (by omega) (by first | exact P0 | exact P1 | exact P2 | exact P3 | exact P4 | exact P5) (by first | exact Src.nil | exact Src.blk P0 rfl | exact Src.blk P1 rfl | exact Src.blk P2 rfl | exact Src.blk P3 rfl | exact Src.blk P4 rfl | exact Src.blk P5 rfl | exact Src.row P0 | exact Src.row P1 | exact Src.row P2 | exact Src.row P3 | exact Src.row P4 | exact Src.row P5) (fun h => by cases h) rfl (by omega) (by omega) rfl ?_
        clear hi41 hz41 hs41 hb41 ti41
        intro A41 c41 hn41
        refine TL.val (OpV.assign rfl) rfl ?_
        refine TL.nil ?_
        refine TE.sub (.cons (t := 0) rfl <| .cons (t := 4) rfl <| .cons (t := 6) rfl <| .cons (t := 11) rfl <| .cons (t := 12) rfl <| .cons (t := 13) rfl <| .nil) ?_
        refine TE.next ?_
        refine T.ex (ι := Nat → Option Obj) (R := fun ρ => (∀ b o, ρj b = some o → ρ b = some o) ∧ (∀ b o, τ b = some o → ρ b = some o) ∧ ∀ b o, ρj b = some o → τ b = none) (K2 := fun ρ => [.own ρ, .row 72 3 A41 (gs.length + 1) c41 (flg gs ++ (LgA.mk (some ⟨bj, 0, none⟩) mj mj (trimV (allV (((ls.take (i + 1)).drop f).map LnA.cells))) (f : Int) ((i : Int) + 1 - (f : Int))).l), .fr σ]) (fun wz kz => ?_) ?_
        · skip
          obtain ⟨ρ, h9, k2⟩ := own2d ((kz.pick (e := .own τ) (by first | exact P0 | exact P1 | exact P2 | exact P3 | exact P4 | exact P5 | exact P6)).pick (e := .own ρj) (by first | exact P0 | exact P1 | exact P2 | exact P3 | exact P4 | exact P5 | exact P6))
          exact ⟨ρ, h9, Perm.kle (.cons (by first | exact P0 | exact P1 | exact P2 | exact P3 | exact P4 | exact P5 | exact P6) (.cons (by first | exact P0 | exact P1 | exact P2 | exact P3 | exact P4 | exact P5 | exact P6) (.cons (by first | exact P0 | exact P1 | exact P2 | exact P3 | exact P4 | exact P5 | exact P6) .nil))) wz k2⟩
        rintro ρ ⟨e1, e2, e3⟩
        refine T.region ?_
        refine TL.val (OpV.move rfl) rfl ?_
        refine TL.val (OpV.add rfl rfl (by first | exact IntWalk.i64_in _ ⟨by omega, by omega⟩ | rfl)) rfl ?_
        refine TL.val (OpV.assign rfl) rfl ?_
        refine TL.nil ?_
        refine TE.out ?_
        refine TE.next ?_
        refine T.region ?_
        refine TL.val (OpV.add rfl rfl (by first | exact IntWalk.i64_in _ ⟨by omega, by omega⟩ | rfl)) rfl ?_
        refine TL.val (OpV.move rfl) rfl ?_
        refine TL.nil ?_
        obtain ⟨csj, hcj1, hcj2⟩ := hj2
        have hj2 : OwR 59 ρj bj (trimV (allV (((ls.take (i + 1)).drop f).map LnA.cells))) := ⟨csj, hcj1, hcj2⟩
        exact TE.meet (i + 1, i + 1, gs ++ [(LgA.mk (some ⟨bj, 0, none⟩) mj mj (trimV (allV (((ls.take (i + 1)).drop f).map LnA.cells))) (f : Int) ((i : Int) + 1 - (f : Int)))], A41, c41, ρ) ⟨⟨by omega, by omega, by rw [List.map_append, List.append_assoc, cur_nil, ← q3]; congr 1; simp only [List.map_cons, List.map_nil, LgA.lg, List.cons_append, List.nil_append, List.cons.injEq, Lg.mk.injEq, true_and]; exact ⟨by omega, by rw [show f + (i - f) + 1 = i + 1 by omega]⟩, q4.snoc e2 rfl (by exact hj1) (Nat.le_refl _) (by simp only; omega) (hj2.mono e1) (e3 _ _ hcj1), hn41, by simp only [List.length_append, List.length_cons, List.length_nil]; omega⟩, by simp only; omega⟩ (.cons (t := 0) (by first | rfl | (simp [lk]; done)) <| .cons (t := 4) (by simp only [List.length_append, List.length_cons, List.length_nil]; rfl) <| .cons (t := 5) (by first | rfl | (simp [lk]; done)) <| .cons (t := 11) (by first | rfl | (simp [lk]; done)) <| .cons (t := 12) (by first | rfl | (simp [lk]; done)) <| .cons (t := 13) (by first | rfl | (simp [lk]; done)) <| .nil) ((by simp only [flg_snoc, List.length_append, List.length_cons, List.length_nil]; exact Perm.kle (.cons (by first | exact P0 | exact P1 | exact P2 | exact P3 | exact P4 | exact P5 | exact P6) (.cons (by first | exact P0 | exact P1 | exact P2 | exact P3 | exact P4 | exact P5 | exact P6) (.cons (by first | exact P0 | exact P1 | exact P2 | exact P3 | exact P4 | exact P5 | exact P6) .nil)))))
    · intro ht14
      obtain ⟨q1, q2, q3, q4, q5, q6⟩ := hR
      have hin : ¬ i < n := by have h9 := of_decide_eq_false ht14; omega
      rw [List.drop_of_length_le (l := (ls.map LnA.ln)) (i := i) (by omega), lgG, List.append_nil] at q3
      refine T.exit ?_
      refine TE.pass_exit ?_
      refine TE.pass_exit ?_
      refine TE.here ?_
      refine TE.next ?_
      refine T.seq ?_
      refine T.region ?_
      refine TL.val (OpV.move rfl) rfl ?_
      refine TL.val (OpV.assign rfl) rfl ?_
      refine TL.val (OpV.assign rfl) rfl ?_
      refine TL.nil ?_
      refine TE.sub (.cons (t := 2) rfl <| .cons (t := 3) rfl <| .nil) ?_
      refine TE.next ?_
      refine T.ret ?_
      refine TE.retN rfl (.cons (ResV.tmp rfl) <| .cons (ResV.tmp rfl) <| .nil) ?_
      intro wz kz
      by_cases h0 : 0 < gs.length
      · obtain ⟨bq, csq, ρ, ⟨r1, r2, r4, r5, r6, r7⟩, k2⟩ := rowIntoW (e := 72) (z := 3) (A := A4) (m := gs.length) (c := c4) (xs := flg gs) (τ := τ) kz (by first | exact P0 | exact P1 | exact P2 | exact P3 | exact P4 | exact P5 | exact P6) (by first | exact P0 | exact P1 | exact P2 | exact P3 | exact P4 | exact P5 | exact P6) h0
        exact ⟨⟨A4, gs.length, c4, ρ⟩, by rw [linesE, hv9]; rfl, ⟨gs, GsW.of_rows q4 r7 r1 r6 (SlR.of_row LgA.l_length r2 rfl), by rw [linesV, hv9, if_pos rfl]; exact q3⟩, Perm.kle (.cons .here .nil) wz k2⟩
      · obtain ⟨ρ, r2, k2⟩ := KOk.rowOwn (kz.pick (e := .row 72 3 A4 gs.length c4 (flg gs)) (by first | exact P0 | exact P1 | exact P2 | exact P3 | exact P4 | exact P5 | exact P6))
        have hg0 : gs = [] := List.length_eq_zero_iff.1 (by omega)
        exact ⟨⟨A4, gs.length, c4, ρ⟩, by rw [linesE, hv9]; rfl, ⟨gs, ⟨SlR.of_row LgA.l_length r2 rfl, by rw [hg0]; exact OG.nil, fun l hl => by rw [hg0] at hl; cases hl⟩, by rw [linesV, hv9, if_pos rfl]; exact q3⟩, Perm.kle (.cons .here .nil) wz k2⟩
set_option maxRecDepth 100000 in
set_option maxHeartbeats 1000000 in
theorem one_c {σ : Nat → Option Obj} {A : Option Addr} {n c : Nat} {ls : List LnA} (w : World) (L : LaidW w) (h : LsA σ A n c ls) (hs : ∀ b o, σ b = some o → w.heap[b]? = some o) (hn : n ≤ 131072) : Calls Tryd.prog 55 #[.slice A n c] w (fun e w' => ∃ v : SV, e = .returned (.tuple #[v.v, .int .i64 (oneE (ls.map LnA.ln))]) ∧ CsR v.σ v.A v.n v.c (oneV (ls.map LnA.ln)) ∧ KOk w [.own v.σ] w') := by
  have hn63 := h.1.2.1
  have hc63 := h.1.2.2.1
  have hl1 := h.1.1
  have hXl : (ls.map LnA.ln).length = n := by rw [List.length_map]; exact hl1
  refine calls_T (vs := [.slice A n c]) (L0 := [(0, .slice A n c)]) Tryd.func55 rfl rfl rfl rfl (KOk.fr1 hs) ?_
  refine T.seq ?_
  refine T.region ?_
  refine TL.val (OpV.assign rfl) rfl ?_
  refine TL.val (OpV.assign rfl) rfl ?_
  refine TL.nil ?_
  refine TE.next ?_
  refine T.seq ?_
  refine T.region ?_
  refine TL.val (OpV.move rfl) rfl ?_
  refine TL.callx (g := 36) rfl go_36 rfl (fun wz k1 => own_x k1 (ulines_c wz (L.below k1.bel) h (k1.get (e := .fr σ) (by first | exact P0 | exact P1 | exact P2 | exact P3 | exact P4 | exact P5)) hn)) rfl ?_
  rintro ⟨A6, n6, c6, ρ⟩ ⟨gs, hgs, hge⟩
  replace hgs : GsW 59 ρ A6 n6 c6 gs := hgs
  have hn6 := hgs.1.1
  have hLl : (linesV (ls.map LnA.ln)).length = n6 := by rw [← hge, List.length_map]; exact hn6
  refine TL.val (OpV.move rfl) rfl ?_
  refine TL.val (OpV.extract rfl rfl) rfl ?_
  refine TL.val (OpV.extract rfl rfl) rfl ?_
  refine TL.val (OpV.assign rfl) rfl ?_
  refine TL.val (OpV.assign rfl) rfl ?_
  refine TL.nil ?_
  refine TE.sub (.cons (t := 4) rfl <| .cons (t := 5) rfl <| .nil) ?_
  refine TE.next ?_
  refine T.seq ?_
  refine T.seq ?_
  refine T.region ?_
  refine TL.val (OpV.move rfl) rfl ?_
  refine TL.val (OpV.neq rfl rfl) rfl ?_
  refine TL.val (OpV.move rfl) rfl ?_
  refine TL.part (t := 13) rfl ?_ ?_
  · intro hg13
    have hE : vLs (ls.map LnA.ln) = false := by cases hv : vLs (ls.map LnA.ln) <;> simp_all [linesE]
    have hoe : oneE (ls.map LnA.ln) = 2 := by rw [oneE, hE]; rfl
    have hov : oneV (ls.map LnA.ln) = [] := by rw [oneV, linesV, hE]; rfl
    refine TL.shut rfl rfl ?_
    refine TL.shut rfl rfl ?_
    refine TL.shut rfl rfl ?_
    refine TL.val ((by first | exact OpV.pick_t rfl rfl | exact OpV.pick_f rfl rfl)) rfl ?_
    refine TL.nil ?_
    refine TE.sub (.cons (t := 4) rfl <| .cons (t := 17) rfl <| .nil) ?_
    refine TE.next ?_
    refine T.yes rfl ?_
    refine T.seq ?_
    refine T.region ?_
    refine TL.val (OpV.assign rfl) rfl ?_
    refine TL.val (OpV.assign rfl) rfl ?_
    refine TL.nil ?_
    refine TE.next ?_
    refine T.ret ?_
    refine TE.pass_ret ?_
    refine TE.retN rfl (.cons (ResV.tmp rfl) <| .cons (ResV.tmp rfl) <| .nil) ?_
    exact fun wz kz => ⟨⟨none, 0, 0, fun _ => none⟩, by rw [hoe]; rfl, by rw [hov]; exact SlR.nil, Perm.kle (.cons .here .nil) wz (KOk.ownNil kz)⟩
  · intro hg13
    refine TL.open rfl rfl ?_
    refine TL.val (OpV.move rfl) rfl ?_
    refine TL.open rfl rfl ?_
    refine TL.val (OpV.len Tryd.underlying69 rfl) rfl ?_
    refine TL.open rfl rfl ?_
    refine TL.val (OpV.neq rfl rfl) rfl ?_
    refine TL.val ((by first | exact OpV.pick_t rfl rfl | exact OpV.pick_f rfl rfl)) rfl ?_
    refine TL.nil ?_
    refine TE.sub (.cons (t := 4) rfl <| .cons (t := 17) rfl <| .nil) ?_
    refine TE.next ?_
    refine T.cond rfl ?_ ?_
    · intro ht17
      have h16 : n6 ≠ 1 := by have h9 : ((n6 : Int) != 1) = true := ht17; simp at h9; omega
      have hoe : oneE (ls.map LnA.ln) = 2 := by rw [oneE, decide_eq_false (show ¬ (linesV (ls.map LnA.ln)).length = 1 by rw [hLl]; exact h16), Bool.and_false]; rfl
      have hov : oneV (ls.map LnA.ln) = [] := by rw [oneV]; match hl : linesV (ls.map LnA.ln), hLl with | [y], h9 => (simp at h9; omega) | [], _ => rfl | _ :: _ :: _, _ => rfl
      refine T.seq ?_
      refine T.region ?_
      refine TL.val (OpV.assign rfl) rfl ?_
      refine TL.val (OpV.assign rfl) rfl ?_
      refine TL.nil ?_
      refine TE.next ?_
      refine T.ret ?_
      refine TE.pass_ret ?_
      refine TE.retN rfl (.cons (ResV.tmp rfl) <| .cons (ResV.tmp rfl) <| .nil) ?_
      exact fun wz kz => ⟨⟨none, 0, 0, fun _ => none⟩, by rw [hoe]; rfl, by rw [hov]; exact SlR.nil, Perm.kle (.cons .here .nil) wz (KOk.ownNil kz)⟩
    · intro ht17
      have hE : vLs (ls.map LnA.ln) = true := by cases hv : vLs (ls.map LnA.ln) <;> simp_all [linesE]
      have h16 : n6 = 1 := by have h9 : ((n6 : Int) != 1) = false := ht17; simp at h9; omega
      obtain ⟨g, hg⟩ := get_of_lt hgs.1.1 (show 0 < n6 by omega)
      obtain ⟨b6, o6, hA6, hat6⟩ := hgs.1.2.2.2.2 (by omega)
      obtain ⟨_, rfl, _, hatg⟩ := hat6 _ g hg
      have hcg := hgs.gsA.2 g (List.mem_of_getElem? hg)
      have hgs1 : gs = [g] := by match gs, hn6, hg with | [y], _, hg => (simp at hg; rw [hg]) | [], h9, _ => (simp at h9; omega) | _ :: _ :: _, h9, _ => (simp at h9; omega)
      have hov : oneV (ls.map LnA.ln) = g.cells := by rw [oneV, ← hge, hgs1]; rfl
      have hoe : oneE (ls.map LnA.ln) = 0 := by rw [oneE, hE, decide_eq_true (show (linesV (ls.map LnA.ln)).length = 1 by rw [hLl, h16])]; rfl
      refine T.skip ?_
      refine TE.next ?_
      refine T.seq ?_
      refine T.region ?_
      refine TL.val (OpV.move rfl) rfl ?_
      refine TL.val (OpV.indexAddr (j := 0) se_69 rfl hA6 rfl rfl (show 0 < n6 by omega)) rfl ?_
      refine TL.val (OpV.fieldAddr rfl fo_72_0) rfl ?_
      refine TL.val (OpV.load pl_22 rfl (by first | exact Cel.blk P0 rfl | exact Cel.blk P1 rfl | exact Cel.blk P2 rfl | exact Cel.blk P3 rfl | exact Cel.blk P4 rfl | exact Cel.ownA (hatg _ _ rfl))) rfl ?_
      refine TL.val (OpV.assign rfl) rfl ?_
      refine TL.val (OpV.assign rfl) rfl ?_
      refine TL.nil ?_
      refine TE.next ?_
      refine T.ret ?_
      refine TE.retN rfl (.cons (ResV.tmp rfl) <| .cons (ResV.tmp rfl) <| .nil) ?_
      exact fun wz kz => ⟨⟨g.A, g.n, g.c, ρ⟩, by rw [hoe]; rfl, by rw [hov]; exact hcg, Perm.kle (.cons (by first | exact P0 | exact P1 | exact P2 | exact P3 | exact P4 | exact P5 | exact P6) .nil) wz kz⟩
set_option maxRecDepth 100000 in
set_option maxHeartbeats 1000000 in
theorem find_c {σ : Nat → Option Obj} {A : Option Addr} {n c : Nat} {gs : List LgA} (row : Int) (w : World) (h : GsA σ A n c gs) (hs : ∀ b o, σ b = some o → w.heap[b]? = some o) (hr : 0 ≤ row ∧ row ≤ 1099511627776) (hb : ∀ g ∈ gs, (0 ≤ g.frm ∧ g.frm ≤ 1099511627776) ∧ (0 ≤ g.rows ∧ g.rows ≤ 1099511627776)) : Calls Tryd.prog 63 #[.slice A n c, .int .i64 row] w (Ret (.tuple #[.int .i64 (findV (gs.map LgA.lg) row).1, .int .i64 (findV (gs.map LgA.lg) row).2]) w) := by
  have hn63 := h.1.2.1
  have hc63 := h.1.2.2.1
  have hl1 := h.1.1
  refine calls_T (vs := [.slice A n c, .int .i64 row]) (L0 := [(0, .slice A n c), (1, .int .i64 row)]) Tryd.func63 rfl rfl rfl rfl (KOk.fr1 hs) ?_
  refine T.seq ?_
  refine T.region ?_
  refine TL.val (OpV.assign rfl) rfl ?_
  refine TL.val (OpV.assign rfl) rfl ?_
  refine TL.nil ?_
  refine TE.next ?_
  refine T.seq ?_
  refine T.seq ?_
  refine T.region ?_
  refine TL.val (OpV.move rfl) rfl ?_
  refine TL.val (OpV.len Tryd.underlying69 rfl) rfl ?_
  refine TL.val (OpV.move rfl) rfl ?_
  refine TL.nil ?_
  refine TE.next ?_
  refine T.block ?_
  refine T.loop (ι := Nat) (fun i => i ≤ n ∧ ∀ j, j < i → ∀ y, (gs.map LgA.lg)[j]? = some y → hasR row y = false) (fun i => (n - i)) (fun i => [(1, .int .i64 row), (8, .slice A n c), (9, .int .i64 (n : Int)), (10, .int .i64 (i : Int))]) (fun i => [.fr σ]) 0 ⟨Nat.zero_le _, fun j hj => absurd hj (Nat.not_lt_zero _)⟩ (.cons (t := 1) rfl <| .cons (t := 8) rfl <| .cons (t := 9) rfl <| .cons (t := 10) rfl <| .nil) (Kle.refl) ?_
  rintro i hR
  refine T.seq ?_
  refine T.region ?_
  refine TL.val (OpV.lss rfl rfl) rfl ?_
  refine TL.nil ?_
  refine TE.next ?_
  refine T.seq ?_
  refine T.cond rfl ?_ ?_
  · intro ht11
    obtain ⟨q1, q2⟩ := hR
    have hi : i < n := by have h9 := of_decide_eq_true ht11; omega
    obtain ⟨g, hg⟩ := get_of_lt h.1.1 hi
    obtain ⟨b6, o6, hA6, hat6⟩ := h.1.2.2.2.2 (by omega)
    obtain ⟨_, rfl, _, hatg⟩ := hat6 _ g hg
    have hgb := hb g (List.mem_of_getElem? hg)
    refine T.skip ?_
    refine TE.next ?_
    refine T.seq ?_
    refine T.block ?_
    refine T.seq ?_
    refine T.region ?_
    refine TL.val (OpV.move rfl) rfl ?_
    refine TL.val (OpV.indexAddr se_69 rfl hA6 rfl (by rfl) (by first | omega | simp)) rfl ?_
    refine TL.val (OpV.loadA ag_72 rfl (by first | exact Cels.blk P0 rfl | exact Cels.blk P1 rfl | exact Cels.blk P2 rfl | exact Cels.blk P3 rfl | exact Cels.blk P4 rfl | exact Cels.frA hatg rfl)) rfl ?_
    refine TL.alloc zo_72 rfl ?_
    intro b7
    refine TL.val (OpV.assign rfl) rfl ?_
    first
      | refine TL.storeAll rfl rfl szz_72 rfl rfl rfl (by first | exact P0 | exact P1 | exact P2 | exact P3 | exact P4) (by rfl) ?_
      | refine TL.store rfl rfl szz_72 rfl rfl rfl (by first | exact P0 | exact P1 | exact P2 | exact P3 | exact P4) (by first | exact Nat.le_of_ble_eq_true rfl | (simp; done) | (simp; omega)) (by simp only [LgA.l, putL, List.take_succ_cons, List.take_zero, List.drop_succ_cons, List.drop_zero, List.cons_append, List.nil_append, List.length_cons, List.length_nil, Nat.reduceAdd]; rfl) ?_
    refine TL.nil ?_
    refine TE.next ?_
    refine T.seq ?_
    refine T.region ?_
    refine TL.val (OpV.move rfl) rfl ?_
    refine TL.val (OpV.fieldAddr rfl fo_72_1) rfl ?_
    refine TL.val (OpV.load pl_3 rfl (by first | exact Cel.blk P0 rfl | exact Cel.blk P1 rfl | exact Cel.blk P2 rfl | exact Cel.blk P3 rfl | exact Cel.blk P4 rfl | exact Cel.frA (hatg _ _ rfl))) rfl ?_
    refine TL.val (OpV.geq rfl rfl) rfl ?_
    refine TL.val (OpV.move rfl) rfl ?_
    refine TL.part (t := 19) rfl ?_ ?_
    · intro hg19
      have hge := of_decide_eq_true hg19
      refine TL.open rfl rfl ?_
      refine TL.val (OpV.fieldAddr rfl fo_72_2) rfl ?_
      refine TL.open rfl rfl ?_
      refine TL.val (OpV.load pl_3 rfl (by first | exact Cel.blk P0 rfl | exact Cel.blk P1 rfl | exact Cel.blk P2 rfl | exact Cel.blk P3 rfl | exact Cel.blk P4 rfl | exact Cel.frA (hatg _ _ rfl))) rfl ?_
      refine TL.open rfl rfl ?_
      refine TL.val (OpV.gtr rfl rfl) rfl ?_
      refine TL.val ((by first | exact OpV.pick_t rfl rfl | exact OpV.pick_f rfl rfl)) rfl ?_
      refine TL.val (OpV.move rfl) rfl ?_
      refine TL.part (t := 24) rfl ?_ ?_
      · intro hg24
        have hgr := of_decide_eq_true hg24
        refine TL.open rfl rfl ?_
        refine TL.val (OpV.move rfl) rfl ?_
        refine TL.open rfl rfl ?_
        refine TL.val (OpV.conv Tryd.underlying3 Tryd.underlying112 rfl (by first | exact IntWalk.u64_in _ ⟨by omega, by omega⟩ | rfl)) rfl ?_
        refine TL.open rfl rfl ?_
        refine TL.val (OpV.fieldAddr rfl fo_72_1) rfl ?_
        refine TL.open rfl rfl ?_
        refine TL.val (OpV.load pl_3 rfl (by first | exact Cel.blk P0 rfl | exact Cel.blk P1 rfl | exact Cel.blk P2 rfl | exact Cel.blk P3 rfl | exact Cel.blk P4 rfl | exact Cel.frA (hatg _ _ rfl))) rfl ?_
        refine TL.open rfl rfl ?_
        refine TL.val (OpV.conv Tryd.underlying3 Tryd.underlying112 rfl (by first | exact IntWalk.u64_in _ ⟨by omega, by omega⟩ | rfl)) rfl ?_
        refine TL.open rfl rfl ?_
        refine TL.val (OpV.sub rfl rfl (by first | exact IntWalk.u64_in _ ⟨by omega, by omega⟩ | rfl)) rfl ?_
        refine TL.open rfl rfl ?_
        refine TL.val (OpV.fieldAddr rfl fo_72_2) rfl ?_
        refine TL.open rfl rfl ?_
        refine TL.val (OpV.load pl_3 rfl (by first | exact Cel.blk P0 rfl | exact Cel.blk P1 rfl | exact Cel.blk P2 rfl | exact Cel.blk P3 rfl | exact Cel.blk P4 rfl | exact Cel.frA (hatg _ _ rfl))) rfl ?_
        refine TL.open rfl rfl ?_
        refine TL.val (OpV.conv Tryd.underlying3 Tryd.underlying112 rfl (by first | exact IntWalk.u64_in _ ⟨by omega, by omega⟩ | rfl)) rfl ?_
        refine TL.open rfl rfl ?_
        refine TL.val (OpV.lss rfl rfl) rfl ?_
        refine TL.val ((by first | exact OpV.pick_t rfl rfl | exact OpV.pick_f rfl rfl)) rfl ?_
        refine TL.nil ?_
        refine TE.sub (.cons (t := 1) rfl <| .cons (t := 6) rfl <| .cons (t := 8) rfl <| .cons (t := 9) rfl <| .cons (t := 10) rfl <| .cons (t := 35) rfl <| .nil) ?_
        refine TE.next ?_
        refine T.cond rfl ?_ ?_
        · intro ht35
          have hhr : hasR row g.lg = true := by have h9 := of_decide_eq_true ht35; exact hasR_yes (x := g.lg) (show g.frm ≤ row ∧ 0 < g.rows ∧ row - g.frm < g.rows by omega)
          have hf : findV (gs.map LgA.lg) row = ((i : Int), 0) := find_some q2 (x := g.lg) (by rw [List.getElem?_map, hg]; rfl) hhr
          refine T.seq ?_
          refine T.region ?_
          refine TL.val (OpV.move rfl) rfl ?_
          refine TL.val (OpV.assign rfl) rfl ?_
          refine TL.val (OpV.assign rfl) rfl ?_
          refine TL.nil ?_
          refine TE.sub (.cons (t := 4) rfl <| .cons (t := 5) rfl <| .nil) ?_
          refine TE.next ?_
          refine T.ret ?_
          refine TE.out_ret ?_
          refine TE.pass_ret ?_
          refine TE.pass_ret ?_
          refine TE.out_ret ?_
          refine TE.pass_ret ?_
          refine TE.retN rfl (.cons (ResV.tmp rfl) <| .cons (ResV.tmp rfl) <| .nil) ?_
          exact fun w1 k1 => ⟨by rw [hf] <;> rfl, k1.bel⟩
        · intro ht35
          have hhr : hasR row g.lg = false := by have h9 := of_decide_eq_false ht35; exact hasR_not (x := g.lg) (show ¬ (g.frm ≤ row ∧ 0 < g.rows ∧ row - g.frm < g.rows) by omega)
          refine T.skip ?_
          refine TE.out ?_
          refine TE.next ?_
          refine T.region ?_
          refine TL.val (OpV.add rfl rfl (by first | exact IntWalk.i64_in _ ⟨by omega, by omega⟩ | rfl)) rfl ?_
          refine TL.val (OpV.move rfl) rfl ?_
          refine TL.nil ?_
          exact TE.meet (i + 1) ⟨⟨by omega, fun j hj y hy => by rcases Nat.lt_succ_iff_lt_or_eq.1 hj with hj | rfl; exact q2 j hj y hy; rw [List.getElem?_map, hg] at hy; cases hy; exact hhr⟩, by omega⟩ (.cons (t := 1) (by first | rfl | (simp [lk]; done)) <| .cons (t := 8) (by first | rfl | (simp [lk]; done)) <| .cons (t := 9) (by first | rfl | (simp [lk]; done)) <| .cons (t := 10) (by first | rfl | (simp [lk]; done)) <| .nil) (Perm.kle (.cons (by first | exact P0 | exact P1 | exact P2 | exact P3 | exact P4 | exact P5 | exact P6) .nil))
      · intro hg24
        have hhr : hasR row g.lg = false := by have h9 := of_decide_eq_false hg24; exact hasR_not (x := g.lg) (show ¬ (g.frm ≤ row ∧ 0 < g.rows ∧ row - g.frm < g.rows) by omega)
        refine TL.shut rfl rfl ?_
        refine TL.shut rfl rfl ?_
        refine TL.shut rfl rfl ?_
        refine TL.shut rfl rfl ?_
        refine TL.shut rfl rfl ?_
        refine TL.shut rfl rfl ?_
        refine TL.shut rfl rfl ?_
        refine TL.shut rfl rfl ?_
        refine TL.shut rfl rfl ?_
        refine TL.shut rfl rfl ?_
        refine TL.val ((by first | exact OpV.pick_t rfl rfl | exact OpV.pick_f rfl rfl)) rfl ?_
        refine TL.nil ?_
        refine TE.sub (.cons (t := 1) rfl <| .cons (t := 6) rfl <| .cons (t := 8) rfl <| .cons (t := 9) rfl <| .cons (t := 10) rfl <| .cons (t := 35) rfl <| .nil) ?_
        refine TE.next ?_
        refine T.no rfl ?_
        refine T.skip ?_
        refine TE.out ?_
        refine TE.next ?_
        refine T.region ?_
        refine TL.val (OpV.add rfl rfl (by first | exact IntWalk.i64_in _ ⟨by omega, by omega⟩ | rfl)) rfl ?_
        refine TL.val (OpV.move rfl) rfl ?_
        refine TL.nil ?_
        exact TE.meet (i + 1) ⟨⟨by omega, fun j hj y hy => by rcases Nat.lt_succ_iff_lt_or_eq.1 hj with hj | rfl; exact q2 j hj y hy; rw [List.getElem?_map, hg] at hy; cases hy; exact hhr⟩, by omega⟩ (.cons (t := 1) (by first | rfl | (simp [lk]; done)) <| .cons (t := 8) (by first | rfl | (simp [lk]; done)) <| .cons (t := 9) (by first | rfl | (simp [lk]; done)) <| .cons (t := 10) (by first | rfl | (simp [lk]; done)) <| .nil) (Perm.kle (.cons (by first | exact P0 | exact P1 | exact P2 | exact P3 | exact P4 | exact P5 | exact P6) .nil))
    · intro hg19
      have hhr : hasR row g.lg = false := by rw [hasR, show decide (g.lg.frm ≤ row) = false from hg19, Bool.false_and]
      refine TL.shut rfl rfl ?_
      refine TL.shut rfl rfl ?_
      refine TL.shut rfl rfl ?_
      refine TL.val ((by first | exact OpV.pick_t rfl rfl | exact OpV.pick_f rfl rfl)) rfl ?_
      refine TL.val (OpV.move rfl) rfl ?_
      refine TL.shut rfl rfl ?_
      refine TL.shut rfl rfl ?_
      refine TL.shut rfl rfl ?_
      refine TL.shut rfl rfl ?_
      refine TL.shut rfl rfl ?_
      refine TL.shut rfl rfl ?_
      refine TL.shut rfl rfl ?_
      refine TL.shut rfl rfl ?_
      refine TL.shut rfl rfl ?_
      refine TL.shut rfl rfl ?_
      refine TL.val ((by first | exact OpV.pick_t rfl rfl | exact OpV.pick_f rfl rfl)) rfl ?_
      refine TL.nil ?_
      refine TE.sub (.cons (t := 1) rfl <| .cons (t := 6) rfl <| .cons (t := 8) rfl <| .cons (t := 9) rfl <| .cons (t := 10) rfl <| .cons (t := 35) rfl <| .nil) ?_
      refine TE.next ?_
      refine T.no rfl ?_
      refine T.skip ?_
      refine TE.out ?_
      refine TE.next ?_
      refine T.region ?_
      refine TL.val (OpV.add rfl rfl (by first | exact IntWalk.i64_in _ ⟨by omega, by omega⟩ | rfl)) rfl ?_
      refine TL.val (OpV.move rfl) rfl ?_
      refine TL.nil ?_
      exact TE.meet (i + 1) ⟨⟨by omega, fun j hj y hy => by rcases Nat.lt_succ_iff_lt_or_eq.1 hj with hj | rfl; exact q2 j hj y hy; rw [List.getElem?_map, hg] at hy; cases hy; exact hhr⟩, by omega⟩ (.cons (t := 1) (by first | rfl | (simp [lk]; done)) <| .cons (t := 8) (by first | rfl | (simp [lk]; done)) <| .cons (t := 9) (by first | rfl | (simp [lk]; done)) <| .cons (t := 10) (by first | rfl | (simp [lk]; done)) <| .nil) (Perm.kle (.cons (by first | exact P0 | exact P1 | exact P2 | exact P3 | exact P4 | exact P5 | exact P6) .nil))
  · intro ht11
    obtain ⟨q1, q2⟩ := hR
    have hin : ¬ i < n := by have h9 := of_decide_eq_false ht11; omega
    have hf : findV (gs.map LgA.lg) row = (0, 3) := find_none fun j hj y hy => by rw [List.length_map, h.1.1] at hj; exact q2 j (by omega) y hy
    refine T.exit ?_
    refine TE.pass_exit ?_
    refine TE.pass_exit ?_
    refine TE.here ?_
    refine TE.next ?_
    refine T.seq ?_
    refine T.region ?_
    refine TL.val (OpV.assign rfl) rfl ?_
    refine TL.val (OpV.assign rfl) rfl ?_
    refine TL.nil ?_
    refine TE.next ?_
    refine T.ret ?_
    refine TE.retN rfl (.cons (ResV.tmp rfl) <| .cons (ResV.tmp rfl) <| .nil) ?_
    exact fun w1 k1 => ⟨by rw [hf] <;> rfl, k1.bel⟩
set_option maxRecDepth 100000 in
set_option maxHeartbeats 1000000 in
theorem text_c (c : Cl) (w : World) : Calls Tryd.prog 81 #[.agg c.l.toArray] w (Ret (.string (textV c)) w) := by
  refine calls_T (vs := [.agg c.l.toArray]) (L0 := [(0, .agg c.l.toArray)]) Tryd.func81 rfl rfl rfl rfl (KOk.none w) ?_
  refine T.seq ?_
  refine T.region ?_
  refine TL.boxA rfl rfl ?_
  intro b1
  refine TL.val (OpV.assign rfl) rfl ?_
  refine TL.nil ?_
  refine TE.next ?_
  refine T.seq ?_
  refine T.block ?_
  refine T.seq ?_
  refine T.region ?_
  refine TL.val (OpV.fieldAddr rfl fo_59_2) rfl ?_
  refine TL.val (OpV.load pl_3 rfl (by first | exact Cel.blk P0 rfl | exact Cel.blk P1 rfl | exact Cel.blk P2 rfl | exact Cel.blk P3 rfl)) rfl ?_
  refine TL.val (OpV.eql rfl rfl) rfl ?_
  refine TL.val (OpV.assign rfl) rfl ?_
  refine TL.nil ?_
  refine TE.next ?_
  refine T.cond rfl ?_ ?_
  · intro ht6
    have hw : c.w = 0 := by simpa using ht6
    refine T.seq ?_
    refine T.region ?_
    refine TL.val (OpV.assign rfl) rfl ?_
    refine TL.nil ?_
    refine TE.next ?_
    refine T.ret ?_
    refine TE.out_ret ?_
    refine TE.pass_ret ?_
    refine TE.ret1 rfl (ResV.tmp rfl) ?_
    exact fun w1 k1 => ⟨by rw [textV, if_pos hw], k1.bel⟩
  · intro ht6
    have hw : ¬ c.w = 0 := by simpa using ht6
    refine T.seq ?_
    refine T.region ?_
    refine TL.val (OpV.fieldAddr rfl fo_59_0) rfl ?_
    refine TL.val (OpV.load pl_21 rfl (by first | exact Cel.blk P0 rfl | exact Cel.blk P1 rfl | exact Cel.blk P2 rfl | exact Cel.blk P3 rfl)) rfl ?_
    refine TL.val (OpV.eql rfl rfl) rfl ?_
    refine TL.val (OpV.assign rfl) rfl ?_
    refine TL.nil ?_
    refine TE.sub (.cons (t := 1) rfl <| .cons (t := 10) rfl <| .nil) ?_
    refine TE.next ?_
    refine T.cond rfl ?_ ?_
    · intro ht10
      have hr : c.r = 0 := by simpa using ht10
      refine T.seq ?_
      refine T.region ?_
      refine TL.val (OpV.assign rfl) rfl ?_
      refine TL.nil ?_
      refine TE.next ?_
      refine T.ret ?_
      refine TE.out_ret ?_
      refine TE.pass_ret ?_
      refine TE.ret1 rfl (ResV.tmp rfl) ?_
      exact fun w1 k1 => ⟨by rw [textV, if_neg hw, if_pos hr], k1.bel⟩
    · intro ht10
      have hr : ¬ c.r = 0 := by simpa using ht10
      refine T.skip ?_
      refine TE.out ?_
      refine TE.next ?_
      refine T.seq ?_
      refine T.region ?_
      refine TL.val (OpV.fieldAddr rfl fo_59_0) rfl ?_
      refine TL.val (OpV.load pl_21 rfl (by first | exact Cel.blk P0 rfl | exact Cel.blk P1 rfl | exact Cel.blk P2 rfl | exact Cel.blk P3 rfl)) rfl ?_
      refine TL.val (OpV.convs Tryd.underlying21 Tryd.underlying9 rfl) rfl ?_
      refine TL.val (OpV.assign rfl) rfl ?_
      refine TL.nil ?_
      refine TE.next ?_
      refine T.seq ?_
      refine T.seq ?_
      refine T.region ?_
      refine TL.val (OpV.fieldAddr rfl fo_59_1) rfl ?_
      refine TL.val (OpV.loadA ag_51 rfl (Cels.blkAt (mlL c.m0 c.m1 c.m2) (by first | exact P0 | exact P1 | exact P2 | exact P3) rfl rfl)) rfl ?_
      refine TL.val (OpV.move rfl) rfl ?_
      refine TL.nil ?_
      refine TE.next ?_
      refine T.block ?_
      refine T.rounds 3 ?_
      refine T.seq ?_
      refine T.region ?_
      refine TL.val (OpV.lss rfl rfl) rfl ?_
      refine TL.nil ?_
      refine TE.next ?_
      refine T.seq ?_
      refine T.yes rfl ?_
      refine T.skip ?_
      refine TE.sub (.cons (t := 3) rfl <| .cons (t := 18) rfl <| .cons (t := 19) rfl <| .nil) ?_
      refine TE.next ?_
      refine T.seq ?_
      refine T.block ?_
      refine T.seq ?_
      refine T.region ?_
      refine TL.val (OpV.indexA1 (j := 0) ae_51 pl_21 rfl rfl (by rfl) (by decide) (show _ = some (.int .i32 c.m0) from rfl)) rfl ?_
      refine TL.val (OpV.assign rfl) rfl ?_
      refine TL.nil ?_
      refine TE.next ?_
      refine T.seq ?_
      refine T.region ?_
      refine TL.val (OpV.move rfl) rfl ?_
      refine TL.val (OpV.neq rfl rfl) rfl ?_
      refine TL.nil ?_
      refine TE.next ?_
      refine T.cond rfl ?_ ?_
      · intro ht23
        have hm0 : ¬ c.m0 = 0 := by simpa using ht23
        refine T.region ?_
        refine TL.val (OpV.move rfl) rfl ?_
        refine TL.val (OpV.move rfl) rfl ?_
        refine TL.val (OpV.convs Tryd.underlying21 Tryd.underlying9 rfl) rfl ?_
        refine TL.val (OpV.sadd rfl rfl (by have e0 := encode_size_le c.r; have e1 := encode_size_le c.m0; have e2 := encode_size_le c.m1; have e3 := encode_size_le c.m2; first | omega | (simp only [ByteArray.size_append]; omega))) rfl ?_
        refine TL.val (OpV.assign rfl) rfl ?_
        refine TL.nil ?_
        refine TE.out ?_
        refine TE.sub (.cons (t := 3) rfl <| .cons (t := 18) rfl <| .cons (t := 19) rfl <| .nil) ?_
        refine TE.next ?_
        refine T.region ?_
        refine TL.val (OpV.add rfl rfl (by first | exact IntWalk.i64_in _ ⟨by omega, by omega⟩ | rfl)) rfl ?_
        refine TL.val (OpV.move rfl) rfl ?_
        refine TL.nil ?_
        refine TE.round ?_
        refine T.seq ?_
        refine T.region ?_
        refine TL.val (OpV.lss rfl rfl) rfl ?_
        refine TL.nil ?_
        refine TE.next ?_
        refine T.seq ?_
        refine T.yes rfl ?_
        refine T.skip ?_
        refine TE.next ?_
        refine T.seq ?_
        refine T.block ?_
        refine T.seq ?_
        refine T.region ?_
        refine TL.val (OpV.indexA1 (j := 1) ae_51 pl_21 rfl rfl (by rfl) (by decide) (show _ = some (.int .i32 c.m1) from rfl)) rfl ?_
        refine TL.val (OpV.assign rfl) rfl ?_
        refine TL.nil ?_
        refine TE.next ?_
        refine T.seq ?_
        refine T.region ?_
        refine TL.val (OpV.move rfl) rfl ?_
        refine TL.val (OpV.neq rfl rfl) rfl ?_
        refine TL.nil ?_
        refine TE.next ?_
        refine T.cond rfl ?_ ?_
        · intro ht23
          have hm1 : ¬ c.m1 = 0 := by simpa using ht23
          refine T.region ?_
          refine TL.val (OpV.move rfl) rfl ?_
          refine TL.val (OpV.move rfl) rfl ?_
          refine TL.val (OpV.convs Tryd.underlying21 Tryd.underlying9 rfl) rfl ?_
          refine TL.val (OpV.sadd rfl rfl (by have e0 := encode_size_le c.r; have e1 := encode_size_le c.m0; have e2 := encode_size_le c.m1; have e3 := encode_size_le c.m2; first | omega | (simp only [ByteArray.size_append]; omega))) rfl ?_
          refine TL.val (OpV.assign rfl) rfl ?_
          refine TL.nil ?_
          refine TE.out ?_
          refine TE.sub (.cons (t := 3) rfl <| .cons (t := 18) rfl <| .cons (t := 19) rfl <| .nil) ?_
          refine TE.next ?_
          refine T.region ?_
          refine TL.val (OpV.add rfl rfl (by first | exact IntWalk.i64_in _ ⟨by omega, by omega⟩ | rfl)) rfl ?_
          refine TL.val (OpV.move rfl) rfl ?_
          refine TL.nil ?_
          refine TE.round ?_
          refine T.seq ?_
          refine T.region ?_
          refine TL.val (OpV.lss rfl rfl) rfl ?_
          refine TL.nil ?_
          refine TE.next ?_
          refine T.seq ?_
          refine T.yes rfl ?_
          refine T.skip ?_
          refine TE.next ?_
          refine T.seq ?_
          refine T.block ?_
          refine T.seq ?_
          refine T.region ?_
          refine TL.val (OpV.indexA1 (j := 2) ae_51 pl_21 rfl rfl (by rfl) (by decide) (show _ = some (.int .i32 c.m2) from rfl)) rfl ?_
          refine TL.val (OpV.assign rfl) rfl ?_
          refine TL.nil ?_
          refine TE.next ?_
          refine T.seq ?_
          refine T.region ?_
          refine TL.val (OpV.move rfl) rfl ?_
          refine TL.val (OpV.neq rfl rfl) rfl ?_
          refine TL.nil ?_
          refine TE.next ?_
          refine T.cond rfl ?_ ?_
          · intro ht23
            have hm2 : ¬ c.m2 = 0 := by simpa using ht23
            refine T.region ?_
            refine TL.val (OpV.move rfl) rfl ?_
            refine TL.val (OpV.move rfl) rfl ?_
            refine TL.val (OpV.convs Tryd.underlying21 Tryd.underlying9 rfl) rfl ?_
            refine TL.val (OpV.sadd rfl rfl (by have e0 := encode_size_le c.r; have e1 := encode_size_le c.m0; have e2 := encode_size_le c.m1; have e3 := encode_size_le c.m2; first | omega | (simp only [ByteArray.size_append]; omega))) rfl ?_
            refine TL.val (OpV.assign rfl) rfl ?_
            refine TL.nil ?_
            refine TE.out ?_
            refine TE.sub (.cons (t := 3) rfl <| .cons (t := 18) rfl <| .cons (t := 19) rfl <| .nil) ?_
            refine TE.next ?_
            refine T.region ?_
            refine TL.val (OpV.add rfl rfl (by first | exact IntWalk.i64_in _ ⟨by omega, by omega⟩ | rfl)) rfl ?_
            refine TL.val (OpV.move rfl) rfl ?_
            refine TL.nil ?_
            refine TE.round ?_
            refine T.seq ?_
            refine T.region ?_
            refine TL.val (OpV.lss rfl rfl) rfl ?_
            refine TL.nil ?_
            refine TE.next ?_
            refine T.seq ?_
            refine T.no rfl ?_
            refine T.exit ?_
            refine TE.pass_exit ?_
            refine TE.pass_exit ?_
            refine TE.here ?_
            refine TE.next ?_
            refine T.seq ?_
            refine T.region ?_
            refine TL.val (OpV.move rfl) rfl ?_
            refine TL.val (OpV.assign rfl) rfl ?_
            refine TL.nil ?_
            refine TE.next ?_
            refine T.ret ?_
            refine TE.ret1 rfl (ResV.tmp rfl) ?_
            exact fun w1 k1 => ⟨by simp [textV, hw, hr, runesOf, markB, runesBytes, hm0, hm1, hm2], k1.bel⟩
          · intro ht23
            have hm2 : c.m2 = 0 := by simpa using ht23
            refine T.skip ?_
            refine TE.out ?_
            refine TE.next ?_
            refine T.region ?_
            refine TL.val (OpV.add rfl rfl (by first | exact IntWalk.i64_in _ ⟨by omega, by omega⟩ | rfl)) rfl ?_
            refine TL.val (OpV.move rfl) rfl ?_
            refine TL.nil ?_
            refine TE.round ?_
            refine T.seq ?_
            refine T.region ?_
            refine TL.val (OpV.lss rfl rfl) rfl ?_
            refine TL.nil ?_
            refine TE.next ?_
            refine T.seq ?_
            refine T.no rfl ?_
            refine T.exit ?_
            refine TE.pass_exit ?_
            refine TE.pass_exit ?_
            refine TE.here ?_
            refine TE.next ?_
            refine T.seq ?_
            refine T.region ?_
            refine TL.val (OpV.move rfl) rfl ?_
            refine TL.val (OpV.assign rfl) rfl ?_
            refine TL.nil ?_
            refine TE.sub (.cons (t := 2) rfl <| .nil) ?_
            refine TE.next ?_
            refine T.ret ?_
            refine TE.ret1 rfl (ResV.tmp rfl) ?_
            exact fun w1 k1 => ⟨by simp [textV, hw, hr, runesOf, markB, runesBytes, hm0, hm1, hm2], k1.bel⟩
        · intro ht23
          have hm1 : c.m1 = 0 := by simpa using ht23
          refine T.skip ?_
          refine TE.out ?_
          refine TE.next ?_
          refine T.region ?_
          refine TL.val (OpV.add rfl rfl (by first | exact IntWalk.i64_in _ ⟨by omega, by omega⟩ | rfl)) rfl ?_
          refine TL.val (OpV.move rfl) rfl ?_
          refine TL.nil ?_
          refine TE.round ?_
          refine T.seq ?_
          refine T.region ?_
          refine TL.val (OpV.lss rfl rfl) rfl ?_
          refine TL.nil ?_
          refine TE.next ?_
          refine T.seq ?_
          refine T.yes rfl ?_
          refine T.skip ?_
          refine TE.next ?_
          refine T.seq ?_
          refine T.block ?_
          refine T.seq ?_
          refine T.region ?_
          refine TL.val (OpV.indexA1 (j := 2) ae_51 pl_21 rfl rfl (by rfl) (by decide) (show _ = some (.int .i32 c.m2) from rfl)) rfl ?_
          refine TL.val (OpV.assign rfl) rfl ?_
          refine TL.nil ?_
          refine TE.next ?_
          refine T.seq ?_
          refine T.region ?_
          refine TL.val (OpV.move rfl) rfl ?_
          refine TL.val (OpV.neq rfl rfl) rfl ?_
          refine TL.nil ?_
          refine TE.next ?_
          refine T.cond rfl ?_ ?_
          · intro ht23
            have hm2 : ¬ c.m2 = 0 := by simpa using ht23
            refine T.region ?_
            refine TL.val (OpV.move rfl) rfl ?_
            refine TL.val (OpV.move rfl) rfl ?_
            refine TL.val (OpV.convs Tryd.underlying21 Tryd.underlying9 rfl) rfl ?_
            refine TL.val (OpV.sadd rfl rfl (by have e0 := encode_size_le c.r; have e1 := encode_size_le c.m0; have e2 := encode_size_le c.m1; have e3 := encode_size_le c.m2; first | omega | (simp only [ByteArray.size_append]; omega))) rfl ?_
            refine TL.val (OpV.assign rfl) rfl ?_
            refine TL.nil ?_
            refine TE.out ?_
            refine TE.sub (.cons (t := 3) rfl <| .cons (t := 18) rfl <| .cons (t := 19) rfl <| .nil) ?_
            refine TE.next ?_
            refine T.region ?_
            refine TL.val (OpV.add rfl rfl (by first | exact IntWalk.i64_in _ ⟨by omega, by omega⟩ | rfl)) rfl ?_
            refine TL.val (OpV.move rfl) rfl ?_
            refine TL.nil ?_
            refine TE.round ?_
            refine T.seq ?_
            refine T.region ?_
            refine TL.val (OpV.lss rfl rfl) rfl ?_
            refine TL.nil ?_
            refine TE.next ?_
            refine T.seq ?_
            refine T.no rfl ?_
            refine T.exit ?_
            refine TE.pass_exit ?_
            refine TE.pass_exit ?_
            refine TE.here ?_
            refine TE.next ?_
            refine T.seq ?_
            refine T.region ?_
            refine TL.val (OpV.move rfl) rfl ?_
            refine TL.val (OpV.assign rfl) rfl ?_
            refine TL.nil ?_
            refine TE.next ?_
            refine T.ret ?_
            refine TE.ret1 rfl (ResV.tmp rfl) ?_
            exact fun w1 k1 => ⟨by simp [textV, hw, hr, runesOf, markB, runesBytes, hm0, hm1, hm2], k1.bel⟩
          · intro ht23
            have hm2 : c.m2 = 0 := by simpa using ht23
            refine T.skip ?_
            refine TE.out ?_
            refine TE.next ?_
            refine T.region ?_
            refine TL.val (OpV.add rfl rfl (by first | exact IntWalk.i64_in _ ⟨by omega, by omega⟩ | rfl)) rfl ?_
            refine TL.val (OpV.move rfl) rfl ?_
            refine TL.nil ?_
            refine TE.round ?_
            refine T.seq ?_
            refine T.region ?_
            refine TL.val (OpV.lss rfl rfl) rfl ?_
            refine TL.nil ?_
            refine TE.next ?_
            refine T.seq ?_
            refine T.no rfl ?_
            refine T.exit ?_
            refine TE.pass_exit ?_
            refine TE.pass_exit ?_
            refine TE.here ?_
            refine TE.next ?_
            refine T.seq ?_
            refine T.region ?_
            refine TL.val (OpV.move rfl) rfl ?_
            refine TL.val (OpV.assign rfl) rfl ?_
            refine TL.nil ?_
            refine TE.sub (.cons (t := 2) rfl <| .nil) ?_
            refine TE.next ?_
            refine T.ret ?_
            refine TE.ret1 rfl (ResV.tmp rfl) ?_
            exact fun w1 k1 => ⟨by simp [textV, hw, hr, runesOf, markB, runesBytes, hm0, hm1, hm2], k1.bel⟩
      · intro ht23
        have hm0 : c.m0 = 0 := by simpa using ht23
        refine T.skip ?_
        refine TE.out ?_
        refine TE.next ?_
        refine T.region ?_
        refine TL.val (OpV.add rfl rfl (by first | exact IntWalk.i64_in _ ⟨by omega, by omega⟩ | rfl)) rfl ?_
        refine TL.val (OpV.move rfl) rfl ?_
        refine TL.nil ?_
        refine TE.round ?_
        refine T.seq ?_
        refine T.region ?_
        refine TL.val (OpV.lss rfl rfl) rfl ?_
        refine TL.nil ?_
        refine TE.next ?_
        refine T.seq ?_
        refine T.yes rfl ?_
        refine T.skip ?_
        refine TE.next ?_
        refine T.seq ?_
        refine T.block ?_
        refine T.seq ?_
        refine T.region ?_
        refine TL.val (OpV.indexA1 (j := 1) ae_51 pl_21 rfl rfl (by rfl) (by decide) (show _ = some (.int .i32 c.m1) from rfl)) rfl ?_
        refine TL.val (OpV.assign rfl) rfl ?_
        refine TL.nil ?_
        refine TE.next ?_
        refine T.seq ?_
        refine T.region ?_
        refine TL.val (OpV.move rfl) rfl ?_
        refine TL.val (OpV.neq rfl rfl) rfl ?_
        refine TL.nil ?_
        refine TE.next ?_
        refine T.cond rfl ?_ ?_
        · intro ht23
          have hm1 : ¬ c.m1 = 0 := by simpa using ht23
          refine T.region ?_
          refine TL.val (OpV.move rfl) rfl ?_
          refine TL.val (OpV.move rfl) rfl ?_
          refine TL.val (OpV.convs Tryd.underlying21 Tryd.underlying9 rfl) rfl ?_
          refine TL.val (OpV.sadd rfl rfl (by have e0 := encode_size_le c.r; have e1 := encode_size_le c.m0; have e2 := encode_size_le c.m1; have e3 := encode_size_le c.m2; first | omega | (simp only [ByteArray.size_append]; omega))) rfl ?_
          refine TL.val (OpV.assign rfl) rfl ?_
          refine TL.nil ?_
          refine TE.out ?_
          refine TE.sub (.cons (t := 3) rfl <| .cons (t := 18) rfl <| .cons (t := 19) rfl <| .nil) ?_
          refine TE.next ?_
          refine T.region ?_
          refine TL.val (OpV.add rfl rfl (by first | exact IntWalk.i64_in _ ⟨by omega, by omega⟩ | rfl)) rfl ?_
          refine TL.val (OpV.move rfl) rfl ?_
          refine TL.nil ?_
          refine TE.round ?_
          refine T.seq ?_
          refine T.region ?_
          refine TL.val (OpV.lss rfl rfl) rfl ?_
          refine TL.nil ?_
          refine TE.next ?_
          refine T.seq ?_
          refine T.yes rfl ?_
          refine T.skip ?_
          refine TE.next ?_
          refine T.seq ?_
          refine T.block ?_
          refine T.seq ?_
          refine T.region ?_
          refine TL.val (OpV.indexA1 (j := 2) ae_51 pl_21 rfl rfl (by rfl) (by decide) (show _ = some (.int .i32 c.m2) from rfl)) rfl ?_
          refine TL.val (OpV.assign rfl) rfl ?_
          refine TL.nil ?_
          refine TE.next ?_
          refine T.seq ?_
          refine T.region ?_
          refine TL.val (OpV.move rfl) rfl ?_
          refine TL.val (OpV.neq rfl rfl) rfl ?_
          refine TL.nil ?_
          refine TE.next ?_
          refine T.cond rfl ?_ ?_
          · intro ht23
            have hm2 : ¬ c.m2 = 0 := by simpa using ht23
            refine T.region ?_
            refine TL.val (OpV.move rfl) rfl ?_
            refine TL.val (OpV.move rfl) rfl ?_
            refine TL.val (OpV.convs Tryd.underlying21 Tryd.underlying9 rfl) rfl ?_
            refine TL.val (OpV.sadd rfl rfl (by have e0 := encode_size_le c.r; have e1 := encode_size_le c.m0; have e2 := encode_size_le c.m1; have e3 := encode_size_le c.m2; first | omega | (simp only [ByteArray.size_append]; omega))) rfl ?_
            refine TL.val (OpV.assign rfl) rfl ?_
            refine TL.nil ?_
            refine TE.out ?_
            refine TE.sub (.cons (t := 3) rfl <| .cons (t := 18) rfl <| .cons (t := 19) rfl <| .nil) ?_
            refine TE.next ?_
            refine T.region ?_
            refine TL.val (OpV.add rfl rfl (by first | exact IntWalk.i64_in _ ⟨by omega, by omega⟩ | rfl)) rfl ?_
            refine TL.val (OpV.move rfl) rfl ?_
            refine TL.nil ?_
            refine TE.round ?_
            refine T.seq ?_
            refine T.region ?_
            refine TL.val (OpV.lss rfl rfl) rfl ?_
            refine TL.nil ?_
            refine TE.next ?_
            refine T.seq ?_
            refine T.no rfl ?_
            refine T.exit ?_
            refine TE.pass_exit ?_
            refine TE.pass_exit ?_
            refine TE.here ?_
            refine TE.next ?_
            refine T.seq ?_
            refine T.region ?_
            refine TL.val (OpV.move rfl) rfl ?_
            refine TL.val (OpV.assign rfl) rfl ?_
            refine TL.nil ?_
            refine TE.next ?_
            refine T.ret ?_
            refine TE.ret1 rfl (ResV.tmp rfl) ?_
            exact fun w1 k1 => ⟨by simp [textV, hw, hr, runesOf, markB, runesBytes, hm0, hm1, hm2], k1.bel⟩
          · intro ht23
            have hm2 : c.m2 = 0 := by simpa using ht23
            refine T.skip ?_
            refine TE.out ?_
            refine TE.next ?_
            refine T.region ?_
            refine TL.val (OpV.add rfl rfl (by first | exact IntWalk.i64_in _ ⟨by omega, by omega⟩ | rfl)) rfl ?_
            refine TL.val (OpV.move rfl) rfl ?_
            refine TL.nil ?_
            refine TE.round ?_
            refine T.seq ?_
            refine T.region ?_
            refine TL.val (OpV.lss rfl rfl) rfl ?_
            refine TL.nil ?_
            refine TE.next ?_
            refine T.seq ?_
            refine T.no rfl ?_
            refine T.exit ?_
            refine TE.pass_exit ?_
            refine TE.pass_exit ?_
            refine TE.here ?_
            refine TE.next ?_
            refine T.seq ?_
            refine T.region ?_
            refine TL.val (OpV.move rfl) rfl ?_
            refine TL.val (OpV.assign rfl) rfl ?_
            refine TL.nil ?_
            refine TE.sub (.cons (t := 2) rfl <| .nil) ?_
            refine TE.next ?_
            refine T.ret ?_
            refine TE.ret1 rfl (ResV.tmp rfl) ?_
            exact fun w1 k1 => ⟨by simp [textV, hw, hr, runesOf, markB, runesBytes, hm0, hm1, hm2], k1.bel⟩
        · intro ht23
          have hm1 : c.m1 = 0 := by simpa using ht23
          refine T.skip ?_
          refine TE.out ?_
          refine TE.next ?_
          refine T.region ?_
          refine TL.val (OpV.add rfl rfl (by first | exact IntWalk.i64_in _ ⟨by omega, by omega⟩ | rfl)) rfl ?_
          refine TL.val (OpV.move rfl) rfl ?_
          refine TL.nil ?_
          refine TE.round ?_
          refine T.seq ?_
          refine T.region ?_
          refine TL.val (OpV.lss rfl rfl) rfl ?_
          refine TL.nil ?_
          refine TE.next ?_
          refine T.seq ?_
          refine T.yes rfl ?_
          refine T.skip ?_
          refine TE.next ?_
          refine T.seq ?_
          refine T.block ?_
          refine T.seq ?_
          refine T.region ?_
          refine TL.val (OpV.indexA1 (j := 2) ae_51 pl_21 rfl rfl (by rfl) (by decide) (show _ = some (.int .i32 c.m2) from rfl)) rfl ?_
          refine TL.val (OpV.assign rfl) rfl ?_
          refine TL.nil ?_
          refine TE.next ?_
          refine T.seq ?_
          refine T.region ?_
          refine TL.val (OpV.move rfl) rfl ?_
          refine TL.val (OpV.neq rfl rfl) rfl ?_
          refine TL.nil ?_
          refine TE.next ?_
          refine T.cond rfl ?_ ?_
          · intro ht23
            have hm2 : ¬ c.m2 = 0 := by simpa using ht23
            refine T.region ?_
            refine TL.val (OpV.move rfl) rfl ?_
            refine TL.val (OpV.move rfl) rfl ?_
            refine TL.val (OpV.convs Tryd.underlying21 Tryd.underlying9 rfl) rfl ?_
            refine TL.val (OpV.sadd rfl rfl (by have e0 := encode_size_le c.r; have e1 := encode_size_le c.m0; have e2 := encode_size_le c.m1; have e3 := encode_size_le c.m2; first | omega | (simp only [ByteArray.size_append]; omega))) rfl ?_
            refine TL.val (OpV.assign rfl) rfl ?_
            refine TL.nil ?_
            refine TE.out ?_
            refine TE.sub (.cons (t := 3) rfl <| .cons (t := 18) rfl <| .cons (t := 19) rfl <| .nil) ?_
            refine TE.next ?_
            refine T.region ?_
            refine TL.val (OpV.add rfl rfl (by first | exact IntWalk.i64_in _ ⟨by omega, by omega⟩ | rfl)) rfl ?_
            refine TL.val (OpV.move rfl) rfl ?_
            refine TL.nil ?_
            refine TE.round ?_
            refine T.seq ?_
            refine T.region ?_
            refine TL.val (OpV.lss rfl rfl) rfl ?_
            refine TL.nil ?_
            refine TE.next ?_
            refine T.seq ?_
            refine T.no rfl ?_
            refine T.exit ?_
            refine TE.pass_exit ?_
            refine TE.pass_exit ?_
            refine TE.here ?_
            refine TE.next ?_
            refine T.seq ?_
            refine T.region ?_
            refine TL.val (OpV.move rfl) rfl ?_
            refine TL.val (OpV.assign rfl) rfl ?_
            refine TL.nil ?_
            refine TE.next ?_
            refine T.ret ?_
            refine TE.ret1 rfl (ResV.tmp rfl) ?_
            exact fun w1 k1 => ⟨by simp [textV, hw, hr, runesOf, markB, runesBytes, hm0, hm1, hm2], k1.bel⟩
          · intro ht23
            have hm2 : c.m2 = 0 := by simpa using ht23
            refine T.skip ?_
            refine TE.out ?_
            refine TE.next ?_
            refine T.region ?_
            refine TL.val (OpV.add rfl rfl (by first | exact IntWalk.i64_in _ ⟨by omega, by omega⟩ | rfl)) rfl ?_
            refine TL.val (OpV.move rfl) rfl ?_
            refine TL.nil ?_
            refine TE.round ?_
            refine T.seq ?_
            refine T.region ?_
            refine TL.val (OpV.lss rfl rfl) rfl ?_
            refine TL.nil ?_
            refine TE.next ?_
            refine T.seq ?_
            refine T.no rfl ?_
            refine T.exit ?_
            refine TE.pass_exit ?_
            refine TE.pass_exit ?_
            refine TE.here ?_
            refine TE.next ?_
            refine T.seq ?_
            refine T.region ?_
            refine TL.val (OpV.move rfl) rfl ?_
            refine TL.val (OpV.assign rfl) rfl ?_
            refine TL.nil ?_
            refine TE.sub (.cons (t := 2) rfl <| .nil) ?_
            refine TE.next ?_
            refine T.ret ?_
            refine TE.ret1 rfl (ResV.tmp rfl) ?_
            exact fun w1 k1 => ⟨by simp [textV, hw, hr, runesOf, markB, runesBytes, hm0, hm1, hm2], k1.bel⟩
set_option maxRecDepth 100000 in
set_option maxHeartbeats 1000000 in
theorem texts_c {σ : Nat → Option Obj} {A : Option Addr} {n c : Nat} {xs : List Cl} (w : World) (h : CsR σ A n c xs) (hs : ∀ b o, σ b = some o → w.heap[b]? = some o) (hn : n ≤ 1073741824) : Calls Tryd.prog 74 #[.slice A n c] w (Ret (.string (textsV xs)) w) := by
  have hn63 := h.2.1
  have hc63 := h.2.2.1
  have hl1 := h.1
  refine calls_T (vs := [.slice A n c]) (L0 := [(0, .slice A n c)]) Tryd.func74 rfl rfl rfl rfl (KOk.fr1 hs) ?_
  refine T.seq ?_
  refine T.region ?_
  refine TL.val (OpV.assign rfl) rfl ?_
  refine TL.nil ?_
  refine TE.next ?_
  refine T.seq ?_
  refine T.region ?_
  refine TL.val (OpV.assign rfl) rfl ?_
  refine TL.nil ?_
  refine TE.next ?_
  refine T.seq ?_
  refine T.seq ?_
  refine T.region ?_
  refine TL.val (OpV.move rfl) rfl ?_
  refine TL.val (OpV.len Tryd.underlying22 rfl) rfl ?_
  refine TL.val (OpV.move rfl) rfl ?_
  refine TL.nil ?_
  refine TE.next ?_
  refine T.block ?_
  refine T.loop (ι := Nat) (fun i => i ≤ n) (fun i => (n - i)) (fun i => [(3, .string (textsV (xs.take i))), (6, .slice A n c), (7, .int .i64 (n : Int)), (8, .int .i64 (i : Int))]) (fun i => [.fr σ]) 0 (Nat.zero_le _) (.cons (t := 3) rfl <| .cons (t := 6) rfl <| .cons (t := 7) rfl <| .cons (t := 8) rfl <| .nil) (Kle.refl) ?_
  rintro i hR
  refine T.seq ?_
  refine T.region ?_
  refine TL.val (OpV.lss rfl rfl) rfl ?_
  refine TL.nil ?_
  refine TE.next ?_
  refine T.seq ?_
  refine T.cond rfl ?_ ?_
  · intro ht9
    have hi : i < n := by have h9 := of_decide_eq_true ht9; omega
    obtain ⟨x, hx⟩ := get_of_lt h.1 hi
    obtain ⟨b, o, hA, hat⟩ := h.pos (by omega)
    have hatx := hat i x hx
    have hs1 := textsV_size (xs.take i)
    have hs2 := textV_size x
    rw [List.length_take] at hs1
    refine T.skip ?_
    refine TE.next ?_
    refine T.seq ?_
    refine T.block ?_
    refine T.seq ?_
    refine T.region ?_
    refine TL.val (OpV.indexAddr se_22 rfl hA rfl (by rfl) (by first | omega | simp)) rfl ?_
    refine TL.val (OpV.loadA ag_59 rfl (by first | exact Cels.blk P0 rfl | exact Cels.blk P1 rfl | exact Cels.blk P2 rfl | exact Cels.blk P3 rfl | exact Cels.frA hatx rfl)) rfl ?_
    refine TL.alloc zo_59 rfl ?_
    intro b5
    first
      | refine TL.storeAll rfl rfl szz_59 rfl rfl rfl (by first | exact P0 | exact P1 | exact P2 | exact P3) (by rfl) ?_
      | refine TL.store rfl rfl szz_59 rfl rfl rfl (by first | exact P0 | exact P1 | exact P2 | exact P3) (by first | exact Nat.le_of_ble_eq_true rfl | (simp; done) | (simp; omega)) (by simp only [putL, List.take_succ_cons, List.take_zero, List.drop_succ_cons, List.drop_zero, List.cons_append, List.nil_append, List.length_cons, List.length_nil, Nat.reduceAdd]; rfl) ?_
    refine TL.nil ?_
    refine TE.next ?_
    refine T.region ?_
    refine TL.val (OpV.move rfl) rfl ?_
    refine TL.val (OpV.loadA ag_59 rfl (by first | exact Cels.blk P0 rfl | exact Cels.blk P1 rfl | exact Cels.blk P2 rfl | exact Cels.blk P3 rfl | exact Cels.frA hatx rfl)) rfl ?_
    refine TL.call (g := 81) rfl go_81 rfl (fun w1 k1 => text_c x w1) rfl ?_
    refine TL.val (OpV.sadd rfl rfl (by omega)) rfl ?_
    refine TL.val (OpV.assign rfl) rfl ?_
    refine TL.nil ?_
    refine TE.out ?_
    refine TE.sub (.cons (t := 3) rfl <| .cons (t := 6) rfl <| .cons (t := 7) rfl <| .cons (t := 8) rfl <| .nil) ?_
    refine TE.next ?_
    refine T.region ?_
    refine TL.val (OpV.add rfl rfl (by first | exact IntWalk.i64_in _ ⟨by omega, by omega⟩ | rfl)) rfl ?_
    refine TL.val (OpV.move rfl) rfl ?_
    refine TL.nil ?_
    exact TE.meet (i + 1) ⟨by omega, by omega⟩ (.cons (t := 3) (by rw [textsV_snoc hx]; rfl) <| .cons (t := 6) (by first | rfl | (simp [lk]; done)) <| .cons (t := 7) (by first | rfl | (simp [lk]; done)) <| .cons (t := 8) (by first | rfl | (simp [lk]; done)) <| .nil) (Perm.kle (.cons (by first | exact P0 | exact P1 | exact P2 | exact P3 | exact P4 | exact P5 | exact P6) .nil))
  · intro ht9
    have hin : i = n := by have h9 := of_decide_eq_false ht9; omega
    rw [hin, List.take_of_length_le (by omega)]
    refine T.exit ?_
    refine TE.pass_exit ?_
    refine TE.pass_exit ?_
    refine TE.here ?_
    refine TE.next ?_
    refine T.seq ?_
    refine T.region ?_
    refine TL.val (OpV.move rfl) rfl ?_
    refine TL.val (OpV.assign rfl) rfl ?_
    refine TL.nil ?_
    refine TE.next ?_
    refine T.ret ?_
    refine TE.ret1 rfl (ResV.tmp rfl) ?_
    exact fun w1 k1 => ⟨rfl, k1.bel⟩
set_option maxRecDepth 100000 in
set_option maxHeartbeats 1000000 in
theorem utext_c {σ : Nat → Option Obj} {A : Option Addr} {n c : Nat} {ls : List LnA} (w : World) (L : LaidW w) (h : LsA σ A n c ls) (hs : ∀ b o, σ b = some o → w.heap[b]? = some o) (hn : n ≤ 131072) : Calls Tryd.prog 61 #[.slice A n c] w (fun e w' => ∃ v : SV, e = .returned (.tuple #[v.v, .int .i64 (linesE (ls.map LnA.ln))]) ∧ SsR v.σ v.A v.n v.c (textsOf (ls.map LnA.ln)) ∧ KOk w [.own v.σ] w') := by
  have hn63 := h.1.2.1
  have hc63 := h.1.2.2.1
  have hl1 := h.1.1
  have hXl : (ls.map LnA.ln).length = n := by rw [List.length_map]; exact hl1
  refine calls_T (vs := [.slice A n c]) (L0 := [(0, .slice A n c)]) Tryd.func61 rfl rfl rfl rfl (KOk.fr1 hs) ?_
  refine T.seq ?_
  refine T.region ?_
  refine TL.val (OpV.assign rfl) rfl ?_
  refine TL.val (OpV.assign rfl) rfl ?_
  refine TL.nil ?_
  refine TE.next ?_
  refine T.seq ?_
  refine T.region ?_
  refine TL.val (OpV.move rfl) rfl ?_
  refine TL.callx (g := 36) rfl go_36 rfl (fun wz k1 => own_x k1 (ulines_c wz (L.below k1.bel) h (k1.get (e := .fr σ) (by first | exact P0 | exact P1 | exact P2 | exact P3 | exact P4 | exact P5)) hn)) rfl ?_
  rintro ⟨A6, n6, c6, ρ⟩ ⟨gs, hgs, hge⟩
  replace hgs : GsW 59 ρ A6 n6 c6 gs := hgs
  have hn6 := hgs.1.1
  have hLl : (linesV (ls.map LnA.ln)).length = n6 := by rw [← hge, List.length_map]; exact hn6
  refine TL.val (OpV.move rfl) rfl ?_
  refine TL.val (OpV.extract rfl rfl) rfl ?_
  refine TL.val (OpV.extract rfl rfl) rfl ?_
  refine TL.val (OpV.assign rfl) rfl ?_
  refine TL.val (OpV.assign rfl) rfl ?_
  refine TL.nil ?_
  refine TE.sub (.cons (t := 4) rfl <| .cons (t := 5) rfl <| .nil) ?_
  refine TE.next ?_
  refine T.seq ?_
  refine T.seq ?_
  refine T.region ?_
  refine TL.val (OpV.move rfl) rfl ?_
  refine TL.val (OpV.neq rfl rfl) rfl ?_
  refine TL.nil ?_
  refine TE.next ?_
  refine T.cond rfl ?_ ?_
  · intro ht15
    have hE : vLs (ls.map LnA.ln) = false := by cases hv : vLs (ls.map LnA.ln) <;> simp_all [linesE]
    have hto : textsOf (ls.map LnA.ln) = [] := by rw [textsOf, linesV, hE]; rfl
    refine T.seq ?_
    refine T.region ?_
    refine TL.val (OpV.move rfl) rfl ?_
    refine TL.val (OpV.assign rfl) rfl ?_
    refine TL.val (OpV.assign rfl) rfl ?_
    refine TL.nil ?_
    refine TE.next ?_
    refine T.ret ?_
    refine TE.pass_ret ?_
    refine TE.retN rfl (.cons (ResV.tmp rfl) <| .cons (ResV.tmp rfl) <| .nil) ?_
    exact fun wz kz => ⟨⟨none, 0, 0, fun _ => none⟩, by rw [linesE, hE]; rfl, by rw [hto]; exact SlR.nil, Perm.kle (.cons .here .nil) wz (KOk.ownNil kz)⟩
  · intro ht15
    have hE : vLs (ls.map LnA.ln) = true := by cases hv : vLs (ls.map LnA.ln) <;> simp_all [linesE]
    have hn6b : n6 ≤ 131072 := by have h9 := lgG_count (ls.map LnA.ln) [] 0; rw [← hLl, linesV, hE, if_pos rfl]; omega
    have hn6c := hgs.1.2.1
    have hn6d := hgs.1.2.2.1
    refine T.skip ?_
    refine TE.next ?_
    refine T.seq ?_
    refine T.region ?_
    refine TL.val (OpV.assign rfl) rfl ?_
    refine TL.nil ?_
    refine TE.next ?_
    refine T.seq ?_
    refine T.seq ?_
    refine T.region ?_
    refine TL.val (OpV.move rfl) rfl ?_
    refine TL.val (OpV.len Tryd.underlying69 rfl) rfl ?_
    refine TL.val (OpV.move rfl) rfl ?_
    refine TL.nil ?_
    refine TE.next ?_
    refine T.block ?_
    refine T.loop (ι := Nat × List ByteArray × Option Addr × Nat) (fun ⟨i, ss, A7, c7⟩ => i ≤ n6 ∧ ss = (gs.take i).map (fun g => textsV g.cells) ∧ (A7 = none → c7 = 0) ∧ ss.length = i) (fun ⟨i, ss, A7, c7⟩ => (n6 - i)) (fun ⟨i, ss, A7, c7⟩ => [(6, .slice A7 i c7), (17, .slice A6 n6 c6), (18, .int .i64 (n6 : Int)), (19, .int .i64 (i : Int))]) (fun ⟨i, ss, A7, c7⟩ => [.row 9 1 A7 i c7 (strL ss), .own ρ, .fr σ]) (0, [], none, 0) ⟨Nat.zero_le _, rfl, fun _ => rfl, rfl⟩ (.cons (t := 6) rfl <| .cons (t := 17) rfl <| .cons (t := 18) rfl <| .cons (t := 19) rfl <| .nil) ((fun wz kz => Perm.kle (.cons (by first | exact P0 | exact P1 | exact P2 | exact P3 | exact P4 | exact P5 | exact P6) (.cons (by first | exact P0 | exact P1 | exact P2 | exact P3 | exact P4 | exact P5 | exact P6) (.cons (by first | exact P0 | exact P1 | exact P2 | exact P3 | exact P4 | exact P5 | exact P6) .nil))) wz (Kle.nilRow 9 1 wz kz))) ?_
    rintro ⟨i, ss, A7, c7⟩ hR
    refine T.seq ?_
    refine T.region ?_
    refine TL.val (OpV.lss rfl rfl) rfl ?_
    refine TL.nil ?_
    refine TE.next ?_
    refine T.seq ?_
    refine T.cond rfl ?_ ?_
    · intro ht20
      obtain ⟨q1, q2, q3, q4⟩ := hR
      have hi : i < n6 := by have h9 := of_decide_eq_true ht20; omega
      obtain ⟨g, hg⟩ := get_of_lt hgs.1.1 hi
      obtain ⟨b6, o6, hA6, hat6⟩ := hgs.1.2.2.2.2 (by omega)
      obtain ⟨_, rfl, _, hatg⟩ := hat6 _ g hg
      have hcg := hgs.gsA.2 g (List.mem_of_getElem? hg)
      have hgl : g.n ≤ 1073741824 := by have h9 : g.lg ∈ linesV (ls.map LnA.ln) := (by rw [← hge]; exact List.mem_map_of_mem (List.mem_of_getElem? hg)); rw [linesV, hE, if_pos rfl] at h9; have h8 := (linesV_bd (fun z hz => by obtain ⟨l, hl, rfl⟩ := List.mem_map.1 hz; exact h.len hE _ (List.mem_map_of_mem hl)) _ h9).1; have h7 : g.lg.cells.length = g.n := hcg.1; omega
      refine T.skip ?_
      refine TE.next ?_
      refine T.seq ?_
      refine T.block ?_
      refine T.seq ?_
      refine T.region ?_
      refine TL.val (OpV.indexAddr se_69 rfl hA6 rfl (by rfl) (by first | omega | simp)) rfl ?_
      refine TL.val (OpV.loadA ag_72 rfl (by first | exact Cels.blk P0 rfl | exact Cels.blk P1 rfl | exact Cels.blk P2 rfl | exact Cels.blk P3 rfl | exact Cels.blk P4 rfl | exact Cels.blk P5 rfl | exact Cels.ownA (hatg) rfl)) rfl ?_
      refine TL.alloc zo_72 rfl ?_
      intro b8
      first
        | refine TL.storeAll rfl rfl szz_72 rfl rfl rfl (by first | exact P0 | exact P1 | exact P2 | exact P3 | exact P4 | exact P5) (by rfl) ?_
        | refine TL.store rfl rfl szz_72 rfl rfl rfl (by first | exact P0 | exact P1 | exact P2 | exact P3 | exact P4 | exact P5) (by first | exact Nat.le_of_ble_eq_true rfl | (simp; done) | (simp; omega)) (by simp only [LgA.l, putL, List.take_succ_cons, List.take_zero, List.drop_succ_cons, List.drop_zero, List.cons_append, List.nil_append, List.length_cons, List.length_nil, Nat.reduceAdd]; rfl) ?_
      refine TL.nil ?_
      refine TE.next ?_
      refine T.region ?_
      refine TL.val (OpV.move rfl) rfl ?_
      refine TL.val (OpV.fieldAddr rfl fo_72_0) rfl ?_
      refine TL.val (OpV.load pl_22 rfl (by first | exact Cel.blk P0 rfl | exact Cel.blk P1 rfl | exact Cel.blk P2 rfl | exact Cel.blk P3 rfl | exact Cel.blk P4 rfl | exact Cel.blk P5 rfl | exact Cel.ownA (hatg _ _ rfl))) rfl ?_
      refine TL.call (g := 74) rfl go_74 rfl (fun w1 k1 => texts_c w1 hcg (fun b o hb => (k1.get (e := .own ρ) (by first | exact P0 | exact P1 | exact P2 | exact P3 | exact P4 | exact P5) b o hb).2) hgl) rfl ?_
      refine TL.slit (qs := #[(0, _)]) (fun _ f => by simp only [List.map_toArray, List.map_cons, List.map_nil]; rw [f.ev (x := .tmp 26) rfl]) (sl_77_1_0 (textsV g.cells)) rfl ?_
      intro b27
      obtain ⟨ti28, hi28, hz28, hs28, hb28⟩ := info_parts inf_9
      refine TL.append rfl rfl Tryd.underlying77 hi28 hz28 hs28 hb28 rfl (by omega) (by first | exact P0 | exact P1 | exact P2 | exact P3 | exact P4 | exact P5) (by first | exact Src.nil | exact Src.blk P0 rfl | exact Src.blk P1 rfl | exact Src.blk P2 rfl | exact Src.blk P3 rfl | exact Src.blk P4 rfl | exact Src.blk P5 rfl | exact Src.row P0 | exact Src.row P1 | exact Src.row P2 | exact Src.row P3 | exact Src.row P4 | exact Src.row P5) (fun h => by cases h) rfl (by omega) (by omega) rfl ?_
      clear hi28 hz28 hs28 hb28 ti28
      intro A28 c28 hn28
      refine TL.val (OpV.assign rfl) rfl ?_
      refine TL.nil ?_
      refine TE.out ?_
      refine TE.sub (.cons (t := 6) rfl <| .cons (t := 17) rfl <| .cons (t := 18) rfl <| .cons (t := 19) rfl <| .nil) ?_
      refine TE.next ?_
      refine T.region ?_
      refine TL.val (OpV.add rfl rfl (by first | exact IntWalk.i64_in _ ⟨by omega, by omega⟩ | rfl)) rfl ?_
      refine TL.val (OpV.move rfl) rfl ?_
      refine TL.nil ?_
      exact TE.meet (i + 1, ss ++ [textsV g.cells], A28, c28) ⟨⟨by omega, by rw [take_snoc hg, List.map_append, q2]; rfl, hn28, by simp [q4]⟩, by simp only; omega⟩ (.cons (t := 6) (by first | rfl | (simp [lk]; done)) <| .cons (t := 17) (by first | rfl | (simp [lk]; done)) <| .cons (t := 18) (by first | rfl | (simp [lk]; done)) <| .cons (t := 19) (by first | rfl | (simp [lk]; done)) <| .nil) ((by simp only [strL_snoc]; exact Perm.kle (.cons (by first | exact P0 | exact P1 | exact P2 | exact P3 | exact P4 | exact P5 | exact P6) (.cons (by first | exact P0 | exact P1 | exact P2 | exact P3 | exact P4 | exact P5 | exact P6) (.cons (by first | exact P0 | exact P1 | exact P2 | exact P3 | exact P4 | exact P5 | exact P6) .nil)))))
    · intro ht20
      obtain ⟨q1, q2, q3, q4⟩ := hR
      have hin : ¬ i < n6 := by have h9 := of_decide_eq_false ht20; omega
      rw [List.take_of_length_le (by omega)] at q2
      have hto : textsOf (ls.map LnA.ln) = ss := by rw [textsOf, ← hge, List.map_map, q2]; rfl
      refine T.exit ?_
      refine TE.pass_exit ?_
      refine TE.pass_exit ?_
      refine TE.here ?_
      refine TE.next ?_
      refine T.seq ?_
      refine T.region ?_
      refine TL.val (OpV.move rfl) rfl ?_
      refine TL.val (OpV.assign rfl) rfl ?_
      refine TL.val (OpV.assign rfl) rfl ?_
      refine TL.nil ?_
      refine TE.next ?_
      refine T.ret ?_
      refine TE.retN rfl (.cons (ResV.tmp rfl) <| .cons (ResV.tmp rfl) <| .nil) ?_
      intro wz kz
      obtain ⟨ρ2, r2, k2⟩ := KOk.rowOwn (kz.pick (e := .row 9 1 A7 i c7 (strL ss)) (by first | exact P0 | exact P1 | exact P2 | exact P3 | exact P4 | exact P5 | exact P6))
      exact ⟨⟨A7, i, c7, ρ2⟩, by rw [linesE, hE]; rfl, by rw [hto]; exact SlR.of_row (f := fun s => [Value.string s]) (fun _ => rfl) r2 q4, Perm.kle (.cons .here .nil) wz k2⟩
end Go.Proofs.YtblpfelhgcggfaaDoor
