/-
  The walk of the law UnwrapTexts. Condition: the package-level tables hold what they were laid with.
-/
import Derived.Test.YtblpfelhgcggfaaDoorUf
import Derived.Test.YtblpfelhgcggfaaDoorUnp
namespace Go.Proofs.YtblpfelhgcggfaaDoor
open Go.RowKit
set_option linter.unusedSimpArgs false
set_option linter.unusedVariables false
set_option maxRecDepth 100000 in
set_option maxHeartbeats 1000000 in
theorem unwrapTexts_law {σ : Nat → Option Obj} {A : Option Addr} {n c : Nat} {ls : List LnA} (w : World) (L : LaidW w) (h : LsA σ A n c ls) (hs : ∀ b o, σ b = some o → w.heap[b]? = some o) : Calls Tryd.prog 9 #[.slice A n c] w (Ret (.bool true) w) := by
  have hn63 := h.1.2.1
  have hc63 := h.1.2.2.1
  have hl1 := h.1.1
  have hXl : (ls.map LnA.ln).length = n := by rw [List.length_map]; exact hl1
  refine calls_T (vs := [.slice A n c]) (L0 := [(0, .slice A n c)]) Tryd.func9 rfl rfl rfl rfl (KOk.fr1 hs) ?_
  refine T.seq ?_
  refine T.region ?_
  refine TL.val (OpV.assign rfl) rfl ?_
  refine TL.nil ?_
  refine TE.next ?_
  refine T.seq ?_
  refine T.seq ?_
  refine T.region ?_
  refine TL.val (OpV.move rfl) rfl ?_
  refine TL.call (g := 29) rfl go_29 rfl (fun w1 k1 => few_c w1 h (k1.get (e := .fr σ) (by first | exact P0 | exact P1 | exact P2 | exact P3 | exact P4 | exact P5 | exact P6))) rfl ?_
  refine TL.val (OpV.not rfl) rfl ?_
  refine TL.nil ?_
  refine TE.next ?_
  refine T.cond rfl ?_ ?_
  · intro ht8
    refine T.seq ?_
    refine T.region ?_
    refine TL.call (g := 30) rfl go_30 rfl (fun w1 k1 => known28_law w1 (L.below k1.bel)) rfl ?_
    refine TL.val (OpV.assign rfl) rfl ?_
    refine TL.nil ?_
    refine TE.next ?_
    refine T.ret ?_
    refine TE.pass_ret ?_
    refine TE.ret1 rfl (ResV.tmp rfl) ?_
    exact fun w1 k1 => ⟨rfl, k1.bel⟩
  · intro ht8
    have hfew : fewV (ls.map LnA.ln) = true := by simpa using ht8
    have hfb := few_bd hfew
    have hn16 : n ≤ 16 := by rw [hXl] at hfb; exact hfb.1
    have hcn : ∀ l ∈ ls, l.n ≤ 24 := fun l hl => by have h9 := hfb.2 l.ln (List.mem_map_of_mem hl); have h8 : l.ln.cells.length = l.n := (h.2 l hl).1; omega
    have hb24 : ∀ x ∈ ls.map LnA.cells, x.length ≤ 1000 := fun x hx => by obtain ⟨l, hl, rfl⟩ := List.mem_map.1 hx; have h9 := hcn l hl; have h8 := (h.2 l hl).1; omega
    refine T.skip ?_
    refine TE.next ?_
    refine T.seq ?_
    refine T.seq ?_
    refine T.region ?_
    refine TL.val (OpV.move rfl) rfl ?_
    refine TL.call (g := 32) rfl go_32 rfl (fun w1 k1 => ruvalid_c w1 h (k1.get (e := .fr σ) (by first | exact P0 | exact P1 | exact P2 | exact P3 | exact P4 | exact P5 | exact P6))) rfl ?_
    refine TL.val (OpV.not rfl) rfl ?_
    refine TL.nil ?_
    refine TE.next ?_
    refine T.cond rfl ?_ ?_
    · intro ht12
      have hv : vLs (ls.map LnA.ln) = false := by simpa using ht12
      refine T.seq ?_
      refine T.region ?_
      refine TL.val (OpV.move rfl) rfl ?_
      refine TL.call (g := 38) rfl go_38 rfl (fun w1 k1 => texts_t (σ := σ) (τ := σ) w1 2 (L.below k1.bel) (⟨ls, h, rfl⟩ : LsR σ A n c (ls.map LnA.ln)) (SsR_nil _) (k1.get (e := .fr σ) (by first | exact P0 | exact P1 | exact P2 | exact P3 | exact P4 | exact P5 | exact P6)) (k1.get (e := .fr σ) (by first | exact P0 | exact P1 | exact P2 | exact P3 | exact P4 | exact P5 | exact P6)) (by omega) (texts_bad hv)) rfl ?_
      refine TL.val (OpV.move rfl) rfl ?_
      refine TL.open rfl rfl ?_
      refine TL.call (g := 30) rfl go_30 rfl (fun w1 k1 => known28_law w1 (L.below k1.bel)) rfl ?_
      refine TL.val ((by first | exact OpV.pick_t rfl rfl | exact OpV.pick_f rfl rfl)) rfl ?_
      refine TL.val (OpV.assign rfl) rfl ?_
      refine TL.nil ?_
      refine TE.sub (.cons (t := 2) rfl <| .nil) ?_
      refine TE.next ?_
      refine T.ret ?_
      refine TE.pass_ret ?_
      refine TE.ret1 rfl (ResV.tmp rfl) ?_
      exact fun w1 k1 => ⟨rfl, k1.bel⟩
    · intro ht12
      have hv : vLs (ls.map LnA.ln) = true := by simpa using ht12
      refine T.skip ?_
      refine TE.sub (.cons (t := 0) rfl <| .nil) ?_
      refine TE.next ?_
      refine T.seq ?_
      refine T.region ?_
      refine TL.val (OpV.assign rfl) rfl ?_
      refine TL.nil ?_
      refine TE.next ?_
      refine T.seq ?_
      refine T.region ?_
      refine TL.val (OpV.move rfl) rfl ?_
      refine TL.callx (g := 35) rfl go_35 rfl (fun wz k1 => own_x k1 (rlines_c wz h (k1.get (e := .fr σ) (by first | exact P0 | exact P1 | exact P2 | exact P3 | exact P4 | exact P5 | exact P6)) (by omega) hb24)) rfl ?_
      rintro ⟨A4, n4, c4, ρ4⟩ ⟨gs, hgs, hge⟩
      replace hgs : GsA ρ4 A4 n4 c4 gs := hgs
      have hn4 : (lgG [] 0 (ls.map LnA.ln)).length = n4 := by rw [← hge, List.length_map]; exact hgs.1.1
      have hn4b : n4 ≤ 16 := by have h9 := lgG_count (ls.map LnA.ln) [] 0; omega
      have hn4c := hgs.1.2.1
      have hn4d := hgs.1.2.2.1
      refine TL.said (t := 19) rfl (show SV.v ⟨A4, n4, c4, ρ4⟩ = Value.slice A4 n4 c4 from rfl) ?_
      refine TL.val (OpV.assign rfl) rfl ?_
      refine TL.nil ?_
      refine TE.next ?_
      refine T.seq ?_
      refine T.seq ?_
      refine T.region ?_
      refine TL.val (OpV.assign rfl) rfl ?_
      refine TL.nil ?_
      refine TE.next ?_
      refine T.block ?_
      refine T.loop (ι := Nat × List ByteArray × Option Addr × Nat) (fun ⟨i, ss, A7, c7⟩ => i ≤ n4 ∧ ss = (gs.take i).map (fun g => textsV g.cells) ∧ (A7 = none → c7 = 0) ∧ ss.length = i) (fun ⟨i, ss, A7, c7⟩ => (n4 - i)) (fun ⟨i, ss, A7, c7⟩ => [(0, .slice A n c), (3, .slice A7 i c7), (4, .slice A4 n4 c4), (5, .int .i64 (i : Int))]) (fun ⟨i, ss, A7, c7⟩ => [.row 9 1 A7 i c7 (strL ss), .own ρ4, .fr σ]) (0, [], none, 0) ⟨Nat.zero_le _, rfl, fun _ => rfl, rfl⟩ (.cons (t := 0) rfl <| .cons (t := 3) rfl <| .cons (t := 4) rfl <| .cons (t := 5) rfl <| .nil) ((fun wz kz => Perm.kle (.cons (by first | exact P0 | exact P1 | exact P2 | exact P3 | exact P4 | exact P5 | exact P6) (.cons (by first | exact P0 | exact P1 | exact P2 | exact P3 | exact P4 | exact P5 | exact P6) (.cons (by first | exact P0 | exact P1 | exact P2 | exact P3 | exact P4 | exact P5 | exact P6) .nil))) wz (Kle.nilRow 9 1 wz kz))) ?_
      rintro ⟨i, ss, A7, c7⟩ hR
      refine T.seq ?_
      refine T.seq ?_
      refine T.region ?_
      refine TL.val (OpV.move rfl) rfl ?_
      refine TL.val (OpV.move rfl) rfl ?_
      refine TL.val (OpV.len Tryd.underlying69 rfl) rfl ?_
      refine TL.val (OpV.lss rfl rfl) rfl ?_
      refine TL.nil ?_
      refine TE.next ?_
      refine T.cond rfl ?_ ?_
      · intro ht23
        obtain ⟨q1, q2, q3, q4⟩ := hR
        have hi : i < n4 := by have h9 := of_decide_eq_true ht23; omega
        obtain ⟨g, hg⟩ := get_of_lt hgs.1.1 hi
        obtain ⟨b4, o4, hA4, hat4⟩ := hgs.1.2.2.2.2 (by omega)
        obtain ⟨_, rfl, _, hatg⟩ := hat4 _ g hg
        have hcg := hgs.2 g (List.mem_of_getElem? hg)
        have hgl : g.n ≤ 1073741824 := by have h9 : g.lg ∈ (lgG [] 0 (ls.map LnA.ln)) := (by rw [← hge]; exact List.mem_map_of_mem (List.mem_of_getElem? hg)); have h8 := (linesV_bd (fun z hz => by obtain ⟨l, hl, rfl⟩ := List.mem_map.1 hz; exact hb24 _ (List.mem_map_of_mem hl)) _ h9).1; have h7 : g.lg.cells.length = g.n := hcg.1; omega
        refine T.skip ?_
        refine TE.next ?_
        refine T.seq ?_
        refine T.block ?_
        refine T.region ?_
        refine TL.val (OpV.move rfl) rfl ?_
        refine TL.val (OpV.move rfl) rfl ?_
        refine TL.val (OpV.move rfl) rfl ?_
        refine TL.val (OpV.indexAddr se_69 rfl hA4 rfl (by rfl) (by first | omega | simp)) rfl ?_
        refine TL.val (OpV.fieldAddr rfl fo_72_0) rfl ?_
        refine TL.val (OpV.load pl_22 rfl (by first | exact Cel.blk P0 rfl | exact Cel.blk P1 rfl | exact Cel.blk P2 rfl | exact Cel.blk P3 rfl | exact Cel.blk P4 rfl | exact Cel.blk P5 rfl | exact Cel.ownA (hatg _ _ rfl))) rfl ?_
        refine TL.call (g := 39) rfl go_39 rfl (fun w1 k1 => rtexts_c w1 hcg (fun b o hb => (k1.get (e := .own ρ4) (by first | exact P0 | exact P1 | exact P2 | exact P3 | exact P4 | exact P5 | exact P6) b o hb).2) hgl) rfl ?_
        refine TL.slit (qs := #[(0, _)]) (fun _ f => by simp only [List.map_toArray, List.map_cons, List.map_nil]; rw [f.ev (x := .tmp 32) rfl]) (sl_77_1_0 (textsV g.cells)) rfl ?_
        intro b33
        obtain ⟨ti34, hi34, hz34, hs34, hb34⟩ := info_parts inf_9
        refine TL.append rfl rfl Tryd.underlying77 hi34 hz34 hs34 hb34 rfl (by omega) (by first | exact P0 | exact P1 | exact P2 | exact P3 | exact P4 | exact P5) (by first | exact Src.nil | exact Src.blk P0 rfl | exact Src.blk P1 rfl | exact Src.blk P2 rfl | exact Src.blk P3 rfl | exact Src.blk P4 rfl | exact Src.blk P5 rfl | exact Src.row P0 | exact Src.row P1 | exact Src.row P2 | exact Src.row P3 | exact Src.row P4 | exact Src.row P5) (fun h => by cases h) rfl (by omega) (by omega) rfl ?_
        clear hi34 hz34 hs34 hb34 ti34
        intro A34 c34 hn34
        refine TL.val (OpV.assign rfl) rfl ?_
        refine TL.nil ?_
        refine TE.out ?_
        refine TE.sub (.cons (t := 0) rfl <| .cons (t := 3) rfl <| .cons (t := 4) rfl <| .cons (t := 5) rfl <| .nil) ?_
        refine TE.next ?_
        refine T.region ?_
        refine TL.val (OpV.move rfl) rfl ?_
        refine TL.val (OpV.add rfl rfl (by first | exact IntWalk.i64_in _ ⟨by omega, by omega⟩ | rfl)) rfl ?_
        refine TL.val (OpV.assign rfl) rfl ?_
        refine TL.nil ?_
        exact TE.meet (i + 1, ss ++ [textsV g.cells], A34, c34) ⟨⟨by omega, by rw [take_snoc hg, List.map_append, q2]; rfl, hn34, by simp [q4]⟩, by simp only; omega⟩ (.cons (t := 0) (by first | rfl | (simp [lk]; done)) <| .cons (t := 3) (by first | rfl | (simp [lk]; done)) <| .cons (t := 4) (by first | rfl | (simp [lk]; done)) <| .cons (t := 5) (by first | rfl | (simp [lk]; done)) <| .nil) ((by simp only [strL_snoc]; exact Perm.kle (.cons (by first | exact P0 | exact P1 | exact P2 | exact P3 | exact P4 | exact P5 | exact P6) (.cons (by first | exact P0 | exact P1 | exact P2 | exact P3 | exact P4 | exact P5 | exact P6) (.cons (by first | exact P0 | exact P1 | exact P2 | exact P3 | exact P4 | exact P5 | exact P6) .nil)))))
      · intro ht23
        obtain ⟨q1, q2, q3, q4⟩ := hR
        have hin : ¬ i < n4 := by have h9 := of_decide_eq_false ht23; omega
        have hgl0 := hgs.1.1
        rw [List.take_of_length_le (by omega)] at q2
        have hss : ss = (lgG [] 0 (ls.map LnA.ln)).map fun y => textsV y.cells := by rw [← hge, List.map_map, q2]; rfl
        refine T.ex (ι := Nat → Option Obj) (R := fun s => RowOk s A7 i c7 1 (strL ss)) (K2 := fun s => [.own s, .own ρ4, .fr σ]) (fun wz kz => ?_) ?_
        · skip
          obtain ⟨s8, h8, k2⟩ := KOk.rowOwn (kz.pick (e := .row 9 1 A7 i c7 (strL ss)) (by first | exact P0 | exact P1 | exact P2 | exact P3 | exact P4 | exact P5 | exact P6))
          exact ⟨s8, h8, Perm.kle (.cons (by first | exact P0 | exact P1 | exact P2 | exact P3 | exact P4 | exact P5 | exact P6) (.cons (by first | exact P0 | exact P1 | exact P2 | exact P3 | exact P4 | exact P5 | exact P6) (.cons (by first | exact P0 | exact P1 | exact P2 | exact P3 | exact P4 | exact P5 | exact P6) .nil))) wz k2⟩
        rintro σ8 h8
        have hs8 : SsR σ8 A7 i c7 ss := SlR.of_row (f := fun s => [Value.string s]) (fun _ => rfl) h8 q4
        refine T.exit ?_
        refine TE.pass_exit ?_
        refine TE.pass_exit ?_
        refine TE.here ?_
        refine TE.next ?_
        refine T.seq ?_
        refine T.region ?_
        refine TL.val (OpV.move rfl) rfl ?_
        refine TL.val (OpV.move rfl) rfl ?_
        refine TL.call (g := 38) rfl go_38 rfl (fun w1 k1 => texts_t (σ := σ) (τ := σ8) w1 0 (L.below k1.bel) (⟨ls, h, rfl⟩ : LsR σ A n c (ls.map LnA.ln)) hs8 (k1.get (e := .fr σ) (by first | exact P0 | exact P1 | exact P2 | exact P3 | exact P4 | exact P5 | exact P6)) (fun b o hb => (k1.get (e := .own σ8) (by first | exact P0 | exact P1 | exact P2 | exact P3 | exact P4 | exact P5 | exact P6) b o hb).2) (by omega) (by rw [hss]; exact texts_ok hv)) rfl ?_
        refine TL.val (OpV.move rfl) rfl ?_
        refine TL.open rfl rfl ?_
        refine TL.call (g := 30) rfl go_30 rfl (fun w1 k1 => known28_law w1 (L.below k1.bel)) rfl ?_
        refine TL.val ((by first | exact OpV.pick_t rfl rfl | exact OpV.pick_f rfl rfl)) rfl ?_
        refine TL.val (OpV.assign rfl) rfl ?_
        refine TL.nil ?_
        refine TE.sub (.cons (t := 2) rfl <| .nil) ?_
        refine TE.next ?_
        refine T.ret ?_
        refine TE.ret1 rfl (ResV.tmp rfl) ?_
        exact fun w1 k1 => ⟨rfl, k1.bel⟩
end Go.Proofs.YtblpfelhgcggfaaDoor
