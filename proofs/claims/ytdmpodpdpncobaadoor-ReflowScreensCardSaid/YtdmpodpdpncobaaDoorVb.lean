/-
  The walks of starts, From and Carry. Condition: the package-level tables hold what they were laid with.
-/
import Derived.Test.YtdmpodpdpncobaaDoorVa
namespace Go.Proofs.YtdmpodpdpncobaaDoor
open Go.RowKit
set_option linter.unusedSimpArgs false
set_option linter.unusedVariables false

theorem rowBlk {w0 w : World} {K K1 : List Ent} {e z m c : Nat} {A : Option Addr} {xs : List Value} (k : KOk w0 K w) (p : Pick K (.row e z A m c xs) K1) (hm : 0 < m) :
    ∃ q : Nat × List Value, (A = some ⟨q.1, 0, none⟩ ∧ q.2.length = c * z ∧ q.2.take (m * z) = xs ∧ m ≤ c ∧ c ≤ 9223372036854775807) ∧ KOk w0 (.blk q.1 q.2 e :: K1) w := by
  have k1 := k.pick p
  obtain ⟨h1, h2⟩ := k1.all.1
  rcases h2 with ⟨hv, hm0⟩ | ⟨g, cap, cur, hv, hb, hg, hc, hcap, hsz, htk⟩
  · omega
  · cases hv
    refine ⟨⟨g, cur.toList⟩, ⟨rfl, by simpa using hsz, htk, hc, by simpa [maxLen] using hcap⟩, k1.bel, ⟨hb, by rw [Array.toArray_toList]; exact hg⟩, fun e' he' hm x hx => k1.all.2.1 e' he' rfl x ?_, k1.all.2.2⟩
    cases hx
    rfl
theorem Kle.blkRow2 {w0 : World} {K : List Ent} {b m c z : Nat} {cs xs : List Value} {e : TypeId} (hl : cs.length = c * z) (ht : cs.take (m * z) = xs) (hx : xs.length = m * z) (hm : m ≤ c) (hc : c ≤ 9223372036854775807) : Kle w0 (.blk b cs e :: K) (.row e z (some ⟨b, 0, none⟩) m c xs :: K) := fun w k => by
  obtain ⟨h1, h2, h3⟩ := k.all
  refine ⟨k.bel, ⟨hx, .inr ⟨b, c, cs.toArray, rfl, h1.1, h1.2, hm, by simpa [maxLen] using hc, by simpa using hl, by simpa using ht⟩⟩, fun e' he' _ x hx => ?_, h3⟩
  cases hx
  exact h2 e' he' rfl b rfl
set_option maxRecDepth 100000 in
set_option maxHeartbeats 1000000 in
theorem starts_c {τ : Nat → Option Obj} {A2 : Option Addr} {n2 c2 : Nat} {gs : List LgA} (cols : Int) (w : World) (L : LaidW w) (h2 : GsA τ A2 n2 c2 gs) (hn2 : n2 ≤ 131072) (ht : ∀ b o, τ b = some o → w.heap[b]? = some o) : Calls Tryd.prog 62 #[.slice A2 n2 c2, .int .i64 cols] w (fun e w' => ∃ v : SV, e = .returned (.tuple #[v.v, .int .i64 (startsE (gs.map LgA.lg) cols)]) ∧ IsR v.σ v.A v.n v.c (startsV (gs.map LgA.lg) cols) ∧ KOk w [.own v.σ] w') := by
 have hn64 := h2.1.2.1
 have hc64 := h2.1.2.2.1
 refine calls_T (vs := [.slice A2 n2 c2, .int .i64 cols]) (L0 := [(0, .slice A2 n2 c2), (1, .int .i64 cols)]) Tryd.func62 rfl rfl rfl rfl (KOk.fr1 ht) ?_
 refine T.seq ?_
 refine T.region ?_
 refine TL.val (OpV.assign rfl) rfl ?_
 refine TL.val (OpV.assign rfl) rfl ?_
 refine TL.nil ?_
 refine TE.next ?_
 refine T.seq ?_
 refine T.seq ?_
 refine T.region ?_
 refine TL.val (OpV.move rfl) rfl ?_
 refine TL.call (g := 35) rfl go_35 rfl (fun w1 k1 => rows_c w1 cols (L.below k1.bel) (CsR_nil τ) (k1.get (e := .fr τ) (by first | exact P0 | exact P1 | exact P2 | exact P3 | exact P4 | exact P5 | exact P6 | exact P7))) rfl ?_
 refine TL.val (OpV.move rfl) rfl ?_
 refine TL.val (OpV.extract rfl rfl) rfl ?_
 refine TL.val (OpV.extract rfl rfl) rfl ?_
 refine TL.val (OpV.assign rfl) rfl ?_
 refine TL.val (OpV.assign rfl) rfl ?_
 refine TL.nil ?_
 refine TE.sub (.cons (t := 0) rfl <| .cons (t := 1) rfl <| .cons (t := 7) rfl <| .nil) ?_
 refine TE.next ?_
 refine T.seq ?_
 refine T.region ?_
 refine TL.val (OpV.move rfl) rfl ?_
 refine TL.val (OpV.neq rfl rfl) rfl ?_
 refine TL.nil ?_
 refine TE.next ?_
 refine T.cond rfl ?_ ?_
 ·
  intro ht19
  obtain ⟨hv0, he2⟩ := rowsE_bad ht19
  have hf : fineB (gs.map LgA.lg) cols = false := by rw [fineB, hv0, Bool.false_and]
  refine T.seq ?_
  refine T.region ?_
  refine TL.val (OpV.move rfl) rfl ?_
  refine TL.val (OpV.assign rfl) rfl ?_
  refine TL.val (OpV.assign rfl) rfl ?_
  refine TL.nil ?_
  refine TE.next ?_
  refine T.ret ?_
  refine TE.pass_ret ?_
  refine TE.retN rfl (.cons (ResV.tmp rfl) <| .cons (ResV.tmp rfl) <| .nil) ?_
  exact fun wz kz => ⟨⟨none, 0, 0, fun _ => none⟩, by rw [startsE, hf, he2]; rfl, by rw [startsV, hf]; exact SlR.nil, Perm.kle (.cons .here .nil) wz (KOk.ownNil kz)⟩
 ·
  intro ht19
  have hv0 := rowsE_ok ht19
  refine T.skip ?_
  refine TE.next ?_
  refine T.seq ?_
  refine T.region ?_
  refine TL.slit (qs := #[(0, _)]) (fun _ f => by simp only [List.map_toArray, List.map_cons, List.map_nil]; rw [f.ev (x := .const (.int .i64 0)) rfl]) (sl_97_1_0 0) rfl ?_
  intro b21
  refine TL.val (OpV.assign rfl) rfl ?_
  refine TL.nil ?_
  refine TE.next ?_
  refine T.seq ?_
  refine T.seq ?_
  refine T.region ?_
  refine TL.val (OpV.move rfl) rfl ?_
  refine TL.val (OpV.len Tryd.underlying34 rfl) rfl ?_
  refine TL.val (OpV.move rfl) rfl ?_
  refine TL.nil ?_
  refine TE.next ?_
  refine T.block ?_
  refine T.loop (ι := Nat × Option Addr × Nat) (fun ⟨i, A8, c8⟩ => i ≤ n2 ∧ ((gs.map LgA.lg).take i).all (fun g => vW g.cells cols) = true ∧ (A8 = none → c8 = 0)) (fun ⟨i, A8, c8⟩ => (n2 - i)) (fun ⟨i, A8, c8⟩ => [(1, .int .i64 cols), (8, .slice A8 (i + 1) c8), (22, .slice A2 n2 c2), (23, .int .i64 (n2 : Int)), (24, .int .i64 (i : Int))]) (fun ⟨i, A8, c8⟩ => [.row 3 1 A8 (i + 1) c8 (il (stV cols (gs.map LgA.lg) (i + 1))), .fr τ]) (0, some ⟨b21, 0, none⟩, 1) ⟨Nat.zero_le _, rfl, fun h9 => by cases h9⟩ (.cons (t := 1) rfl <| .cons (t := 8) rfl <| .cons (t := 22) rfl <| .cons (t := 23) rfl <| .cons (t := 24) rfl <| .nil) ((Kle.trans (Perm.kle (.cons (by first | exact P0 | exact P1 | exact P2 | exact P3 | exact P4 | exact P5 | exact P6) (.cons (by first | exact P0 | exact P1 | exact P2 | exact P3 | exact P4 | exact P5 | exact P6) .nil))) (Kle.blkRow (m := 1) (z := 1) (cs := il (stV cols (gs.map LgA.lg) 1)) (e := 3) rfl (by decide)))) ?_
  rintro ⟨i, A8, c8⟩ hR
  refine T.seq ?_
  refine T.region ?_
  refine TL.val (OpV.lss rfl rfl) rfl ?_
  refine TL.nil ?_
  refine TE.next ?_
  refine T.seq ?_
  refine T.cond rfl ?_ ?_
  ·
   intro ht25
   obtain ⟨q1, q2, q3⟩ := hR
   have hi : i < n2 := by have h9 := of_decide_eq_true ht25; omega
   obtain ⟨g, hg⟩ := get_of_lt h2.1.1 hi
   obtain ⟨b3, o3, hA3, hat3⟩ := h2.1.2.2.2.2 (by omega)
   obtain ⟨_, rfl, _, hatg⟩ := hat3 _ g hg
   have hcg := h2.2 g (List.mem_of_getElem? hg)
   have hgG : (gs.map LgA.lg)[i]? = some g.lg := by simp [hg]
   have hbr := rowsV_bd (xs := g.cells) (cols := cols)
   have hbs := rwS_bd (cols := cols) ((gs.map LgA.lg).take i)
   rw [List.length_take, List.length_map, h2.1.1] at hbs
   refine T.skip ?_
   refine TE.next ?_
   refine T.seq ?_
   refine T.block ?_
   refine T.seq ?_
   refine T.region ?_
   refine TL.val (OpV.move rfl) rfl ?_
   refine TL.val (OpV.indexAddr (j := i) se_34 rfl hA3 rfl rfl (by omega)) rfl ?_
   refine TL.val (OpV.loadA ag_37 rfl (by first | exact Cels.blk P0 rfl | exact Cels.blk P1 rfl | exact Cels.blk P2 rfl | exact Cels.blk P3 rfl | exact Cels.blk P4 rfl | exact Cels.blk P5 rfl | exact Cels.frA hatg rfl)) rfl ?_
   refine TL.alloc zo_37 rfl ?_
   intro b10
   refine TL.val (OpV.assign rfl) rfl ?_
   first
     | refine TL.storeAll rfl rfl szz_37 rfl rfl rfl (by first | exact P0 | exact P1 | exact P2 | exact P3 | exact P4 | exact P5) (by rfl) ?_
     | refine TL.store rfl rfl szz_37 rfl rfl rfl (by first | exact P0 | exact P1 | exact P2 | exact P3 | exact P4 | exact P5) (by first | exact Nat.le_of_ble_eq_true rfl | (simp; done) | (simp; omega)) (by simp only [LgA.l, putL, List.take_succ_cons, List.take_zero, List.drop_succ_cons, List.drop_zero, List.cons_append, List.nil_append, List.length_cons, List.length_nil, Nat.reduceAdd]; rfl) ?_
   refine TL.nil ?_
   refine TE.next ?_
   refine T.seq ?_
   refine T.region ?_
   refine TL.val (OpV.fieldAddr rfl fo_37_0) rfl ?_
   refine TL.val (OpV.load pl_35 rfl (by first | exact Cel.blk P0 rfl | exact Cel.blk P1 rfl | exact Cel.blk P2 rfl | exact Cel.blk P3 rfl | exact Cel.blk P4 rfl | exact Cel.blk P5 rfl | exact Cel.frA (hatg _ _ rfl))) rfl ?_
   refine TL.val (OpV.move rfl) rfl ?_
   refine TL.call (g := 35) rfl go_35 rfl (fun w1 k1 => rows_c w1 cols (L.below k1.bel) hcg (k1.get (e := .fr τ) (by first | exact P0 | exact P1 | exact P2 | exact P3 | exact P4 | exact P5 | exact P6 | exact P7))) rfl ?_
   refine TL.val (OpV.move rfl) rfl ?_
   refine TL.val (OpV.extract rfl rfl) rfl ?_
   refine TL.val (OpV.extract rfl rfl) rfl ?_
   refine TL.val (OpV.assign rfl) rfl ?_
   refine TL.val (OpV.assign rfl) rfl ?_
   refine TL.nil ?_
   refine TE.sub (.cons (t := 1) rfl <| .cons (t := 8) rfl <| .cons (t := 9) rfl <| .cons (t := 11) rfl <| .cons (t := 12) rfl <| .cons (t := 22) rfl <| .cons (t := 23) rfl <| .cons (t := 24) rfl <| .nil) ?_
   refine TE.next ?_
   refine T.seq ?_
   refine T.seq ?_
   refine T.region ?_
   refine TL.val (OpV.move rfl) rfl ?_
   refine TL.val (OpV.neq rfl rfl) rfl ?_
   refine TL.nil ?_
   refine TE.next ?_
   refine T.cond rfl ?_ ?_
   ·
    intro ht37
    obtain ⟨hv1, he2⟩ := rowsE_bad ht37
    have hf : fineB (gs.map LgA.lg) cols = false := by rw [fineB, show (gs.map LgA.lg).all (fun g => vW g.cells cols) = false by rw [List.all_eq_false]; exact ⟨g.lg, List.mem_of_getElem? hgG, by show ¬ vW g.cells cols = true; rw [hv1]; decide⟩, Bool.and_false]
    refine T.seq ?_
    refine T.region ?_
    refine TL.val (OpV.move rfl) rfl ?_
    refine TL.val (OpV.assign rfl) rfl ?_
    refine TL.val (OpV.assign rfl) rfl ?_
    refine TL.nil ?_
    refine TE.sub (.cons (t := 4) rfl <| .cons (t := 5) rfl <| .nil) ?_
    refine TE.next ?_
    refine T.ret ?_
    refine TE.pass_ret ?_
    refine TE.out_ret ?_
    refine TE.pass_ret ?_
    refine TE.pass_ret ?_
    refine TE.out_ret ?_
    refine TE.pass_ret ?_
    refine TE.retN rfl (.cons (ResV.tmp rfl) <| .cons (ResV.tmp rfl) <| .nil) ?_
    exact fun wz kz => ⟨⟨none, 0, 0, fun _ => none⟩, by rw [startsE, hf, he2]; rfl, by rw [startsV, hf]; exact SlR.nil, Perm.kle (.cons .here .nil) wz (KOk.ownNil kz)⟩
   ·
    intro ht37
    have hv1 := rowsE_ok ht37
    refine T.skip ?_
    refine TE.next ?_
    refine T.ex (ι := Nat × List Value) (R := fun q => A8 = some ⟨q.1, 0, none⟩ ∧ q.2.length = c8 * 1 ∧ q.2.take ((i + 1) * 1) = il (stV cols (gs.map LgA.lg) (i + 1)) ∧ i + 1 ≤ c8 ∧ c8 ≤ 9223372036854775807) (K2 := fun q => [.blk q.1 q.2 3, .fr τ]) (fun wz kz => ?_) ?_
    · skip
      obtain ⟨q, h9, k2⟩ := rowBlk (e := 3) (z := 1) (A := A8) (m := i + 1) (c := c8) (xs := il (stV cols (gs.map LgA.lg) (i + 1))) kz (by first | exact P0 | exact P1 | exact P2 | exact P3 | exact P4 | exact P5 | exact P6) (by omega)
      exact ⟨q, h9, Perm.kle (.cons (by first | exact P0 | exact P1 | exact P2 | exact P3 | exact P4 | exact P5 | exact P6) (.cons (by first | exact P0 | exact P1 | exact P2 | exact P3 | exact P4 | exact P5 | exact P6) .nil)) wz k2⟩
    rintro ⟨bq, cs⟩ ⟨e1, e2, e3, e4, e5⟩
    simp only at e1 e2 e3
    subst e1
    have hcz : cs[i]? = some (.int .i64 (rwS cols ((gs.map LgA.lg).take i))) := by have h9 := il_get (stV_get (cols := cols) (G := (gs.map LgA.lg)) (i := i) (k := i + 1) (by omega)); rw [← e3, List.getElem?_take] at h9; split at h9; exact h9; cases h9
    refine T.region ?_
    refine TL.val (OpV.move rfl) rfl ?_
    refine TL.val (OpV.move rfl) rfl ?_
    refine TL.val (OpV.move rfl) rfl ?_
    refine TL.val (OpV.indexAddr (j := i) se_97 rfl rfl rfl rfl (by omega)) rfl ?_
    refine TL.val (OpV.load pl_3 rfl (Cel.blk (by first | exact P0 | exact P1 | exact P2 | exact P3 | exact P4 | exact P5) (by simpa using hcz))) rfl ?_
    refine TL.val (OpV.move rfl) rfl ?_
    refine TL.val (OpV.add rfl rfl (by first | exact IntWalk.i64_in _ ⟨by omega, by omega⟩ | rfl)) rfl ?_
    refine TL.slit (qs := #[(0, _)]) (fun _ f => by simp only [List.map_toArray, List.map_cons, List.map_nil]; rw [f.ev (x := .tmp 45) rfl]) (sl_97_1_0 (rwS cols ((gs.map LgA.lg).take i) + rowsV g.cells cols)) rfl ?_
    intro b46
    refine TL.kle (Kle.trans (Kle.pick (e := .blk bq cs 3) (by first | exact P0 | exact P1 | exact P2 | exact P3 | exact P4 | exact P5 | exact P6)) (Kle.blkRow2 (m := i + 1) (c := c8) (z := 1) (xs := il (stV cols (gs.map LgA.lg) (i + 1))) e2 e3 (by rw [il_len, stV_len, Nat.mul_one]) e4 e5)) ?_
    obtain ⟨ti47, hi47, hz47, hs47, hb47⟩ := info_parts inf_3
    refine TL.append rfl rfl Tryd.underlying97 hi47 hz47 hs47 hb47 rfl (by omega) (by first | exact P0 | exact P1 | exact P2 | exact P3 | exact P4 | exact P5) (by first | exact Src.nil | exact Src.blk P0 rfl | exact Src.blk P1 rfl | exact Src.blk P2 rfl | exact Src.blk P3 rfl | exact Src.blk P4 rfl | exact Src.blk P5 rfl | exact Src.row P0 | exact Src.row P1 | exact Src.row P2 | exact Src.row P3 | exact Src.row P4 | exact Src.row P5) (fun h => by cases h) rfl (by omega) (by omega) rfl ?_
    clear hi47 hz47 hs47 hb47 ti47
    intro A47 c47 hn47
    refine TL.val (OpV.assign rfl) rfl ?_
    refine TL.nil ?_
    refine TE.out ?_
    refine TE.sub (.cons (t := 1) rfl <| .cons (t := 8) rfl <| .cons (t := 22) rfl <| .cons (t := 23) rfl <| .cons (t := 24) rfl <| .nil) ?_
    refine TE.next ?_
    refine T.region ?_
    refine TL.val (OpV.add rfl rfl (by first | exact IntWalk.i64_in _ ⟨by omega, by omega⟩ | rfl)) rfl ?_
    refine TL.val (OpV.move rfl) rfl ?_
    refine TL.nil ?_
    have hil : il (stV cols (gs.map LgA.lg) (i + 1 + 1)) = il (stV cols (gs.map LgA.lg) (i + 1)) ++ [.int .i64 (rwS cols ((gs.map LgA.lg).take i) + rowsV g.cells cols)] := by rw [stV_succ, il_snoc, rwS_snoc hgG]; rfl
    exact TE.meet (i + 1, A47, c47) ⟨⟨by omega, by rw [take_snoc hgG, List.all_append, q2]; simp [hv1, LgA.lg], hn47⟩, by simp only; omega⟩ (.cons (t := 1) (by first | rfl | (simp [lk]; done)) <| .cons (t := 8) (by first | rfl | (simp [lk]; done)) <| .cons (t := 22) (by first | rfl | (simp [lk]; done)) <| .cons (t := 23) (by first | rfl | (simp [lk]; done)) <| .cons (t := 24) (by first | rfl | (simp [lk]; done)) <| .nil) ((by simp only [hil]; exact Perm.kle (.cons (by first | exact P0 | exact P1 | exact P2 | exact P3 | exact P4 | exact P5 | exact P6) (.cons (by first | exact P0 | exact P1 | exact P2 | exact P3 | exact P4 | exact P5 | exact P6) .nil))))
  ·
   intro ht25
   obtain ⟨q1, q2, q3⟩ := hR
   have hin : i = n2 := by have h9 := of_decide_eq_false ht25; omega
   have hf : fineB (gs.map LgA.lg) cols = true := by rw [List.take_of_length_le (by rw [List.length_map, h2.1.1]; omega)] at q2; rw [fineB, hv0, q2]; rfl
   refine T.exit ?_
   refine TE.pass_exit ?_
   refine TE.pass_exit ?_
   refine TE.here ?_
   refine TE.next ?_
   refine T.seq ?_
   refine T.region ?_
   refine TL.val (OpV.move rfl) rfl ?_
   refine TL.val (OpV.assign rfl) rfl ?_
   refine TL.val (OpV.assign rfl) rfl ?_
   refine TL.nil ?_
   refine TE.sub (.cons (t := 4) rfl <| .cons (t := 5) rfl <| .nil) ?_
   refine TE.next ?_
   refine T.ret ?_
   refine TE.retN rfl (.cons (ResV.tmp rfl) <| .cons (ResV.tmp rfl) <| .nil) ?_
   intro wz kz
   obtain ⟨ρ, h1, k2⟩ := KOk.rowOwn (kz.pick (e := .row 3 1 A8 (i + 1) c8 (il (stV cols (gs.map LgA.lg) (i + 1)))) (by first | exact P0 | exact P1 | exact P2 | exact P3 | exact P4 | exact P5 | exact P6))
   exact ⟨⟨A8, i + 1, c8, ρ⟩, by rw [startsE, hf]; rfl, by rw [startsV, hf, if_pos rfl, List.length_map, h2.1.1, ← hin]; exact SlR.of_row (f := fun z : Int => [Value.int .i64 z]) (fun _ => rfl) h1 (stV_len _ _ _), Perm.kle (.cons .here .nil) wz k2⟩
set_option maxRecDepth 100000 in
set_option maxHeartbeats 1000000 in
theorem from_c {σ : Nat → Option Obj} (x : LgA) (cols start cell : Int) (w : World) (L : LaidW w) (h : CsR σ x.A x.n x.c x.cells) (hv : vW x.cells cols = true) (h0 : 0 ≤ cell ∧ cell ≤ 2199023255552) (h1 : 0 ≤ start ∧ start ≤ 1125899906842624) (hs : ∀ b o, σ b = some o → w.heap[b]? = some o) : Calls Tryd.prog 64 #[.agg x.l.toArray, .int .i64 cols, .int .i64 start, .int .i64 cell] w (Ret (.tuple #[.agg (anL (fromV x.cells cols start cell).1 (fromV x.cells cols start cell).2).toArray, .int .i64 0]) w) := by
 have hn63 := h.2.1
 have hc63 := h.2.2.1
 have hqn : (min cell.toNat x.cells.length) ≤ x.cells.length := Nat.min_le_right _ _
 have hpv := placeV_at hv hqn
 have hpi := plV_in hv hqn
 have hbr := rowsV_bd (xs := x.cells) (cols := cols)
 have hcb := (vW_parts hv).1
 have hle := h.1
 refine calls_T (vs := [.agg x.l.toArray, .int .i64 cols, .int .i64 start, .int .i64 cell]) (L0 := [(0, .agg x.l.toArray), (1, .int .i64 cols), (2, .int .i64 start), (3, .int .i64 cell)]) Tryd.func64 rfl rfl rfl rfl (KOk.fr1 hs) ?_
 refine T.seq ?_
 refine T.region ?_
 refine TL.boxA rfl rfl ?_
 intro b4
 refine TL.alloc zo_24 rfl ?_
 intro b8
 refine TL.val (OpV.assign rfl) rfl ?_
 refine TL.nil ?_
 refine TE.next ?_
 refine T.seq ?_
 refine T.region ?_
 refine TL.val (OpV.move rfl) rfl ?_
 refine TL.val (OpV.fieldAddr rfl fo_37_0) rfl ?_
 refine TL.val (OpV.load pl_35 rfl (by first | exact Cel.blk P0 rfl | exact Cel.blk P1 rfl | exact Cel.blk P2 rfl | exact Cel.blk P3 rfl | exact Cel.blk P4 rfl | exact Cel.blk P5 rfl)) rfl ?_
 refine TL.val (OpV.len Tryd.underlying35 rfl) rfl ?_
 refine TL.val (OpV.min rfl rfl) rfl ?_
 refine TL.said (t := 17) rfl (show _ = Value.int .i64 (((min cell.toNat x.cells.length) : Nat) : Int) from congrArg _ (by rw [h.1]; omega)) ?_
 refine TL.val (OpV.assign rfl) rfl ?_
 refine TL.nil ?_
 refine TE.sub (.cons (t := 1) rfl <| .cons (t := 2) rfl <| .cons (t := 3) rfl <| .cons (t := 4) rfl <| .cons (t := 8) rfl <| .cons (t := 10) rfl <| .nil) ?_
 refine TE.next ?_
 refine T.seq ?_
 refine T.region ?_
 refine TL.val (OpV.fieldAddr rfl fo_37_0) rfl ?_
 refine TL.val (OpV.load pl_35 rfl (by first | exact Cel.blk P0 rfl | exact Cel.blk P1 rfl | exact Cel.blk P2 rfl | exact Cel.blk P3 rfl | exact Cel.blk P4 rfl | exact Cel.blk P5 rfl)) rfl ?_
 refine TL.val (OpV.move rfl) rfl ?_
 refine TL.val (OpV.move rfl) rfl ?_
 refine TL.call (g := 87) rfl go_87 rfl (fun w1 k1 => place_c w1 cols (((min cell.toNat x.cells.length) : Nat) : Int) (L.below k1.bel) h (k1.get (e := .fr σ) (by first | exact P0 | exact P1 | exact P2 | exact P3 | exact P4 | exact P5 | exact P6 | exact P7))) rfl ?_
 refine TL.said (t := 23) rfl (show _ = Value.tuple #[.agg (anL (plV x.cells cols (min cell.toNat x.cells.length)).1 (plV x.cells cols (min cell.toNat x.cells.length)).2).toArray, .int .i64 0] by rw [hpv.1, hpv.2]) ?_
 refine TL.val (OpV.move rfl) rfl ?_
 refine TL.val (OpV.extract rfl rfl) rfl ?_
 refine TL.val (OpV.extract rfl rfl) rfl ?_
 refine TL.alloc zo_24 rfl ?_
 intro b11
 first
   | refine TL.storeAll rfl rfl szz_24 rfl rfl rfl (by first | exact P0 | exact P1 | exact P2 | exact P3 | exact P4 | exact P5) (by rfl) ?_
   | refine TL.store rfl rfl szz_24 rfl rfl rfl (by first | exact P0 | exact P1 | exact P2 | exact P3 | exact P4 | exact P5) (by first | exact Nat.le_of_ble_eq_true rfl | (simp; done) | (simp; omega)) (by simp only [anL, LgA.l, putL, List.take_succ_cons, List.take_zero, List.drop_succ_cons, List.drop_zero, List.cons_append, List.nil_append, List.length_cons, List.length_nil, Nat.reduceAdd]; rfl) ?_
 refine TL.val (OpV.assign rfl) rfl ?_
 refine TL.nil ?_
 refine TE.sub (.cons (t := 1) rfl <| .cons (t := 2) rfl <| .cons (t := 3) rfl <| .cons (t := 8) rfl <| .cons (t := 10) rfl <| .cons (t := 11) rfl <| .cons (t := 12) rfl <| .nil) ?_
 refine TE.next ?_
 refine T.seq ?_
 refine T.seq ?_
 refine T.region ?_
 refine TL.val (OpV.move rfl) rfl ?_
 refine TL.val (OpV.neq rfl rfl) rfl ?_
 refine TL.said (t := 27) rfl (show _ = Value.bool false from congrArg Value.bool (rfl)) ?_
 refine TL.nil ?_
 refine TE.next ?_
 refine T.no rfl ?_
 refine T.skip ?_
 refine TE.next ?_
 refine T.seq ?_
 refine T.region ?_
 refine TL.val (OpV.move rfl) rfl ?_
 refine TL.val (OpV.fieldAddr rfl fo_24_0) rfl ?_
 refine TL.val (OpV.load pl_3 rfl (by first | exact Cel.blk P0 rfl | exact Cel.blk P1 rfl | exact Cel.blk P2 rfl | exact Cel.blk P3 rfl | exact Cel.blk P4 rfl | exact Cel.blk P5 rfl)) rfl ?_
 refine TL.val (OpV.add rfl rfl (by first | exact IntWalk.i64_in _ ⟨by omega, by omega⟩ | rfl)) rfl ?_
 refine TL.val (OpV.fieldAddr rfl fo_24_1) rfl ?_
 refine TL.val (OpV.load pl_3 rfl (by first | exact Cel.blk P0 rfl | exact Cel.blk P1 rfl | exact Cel.blk P2 rfl | exact Cel.blk P3 rfl | exact Cel.blk P4 rfl | exact Cel.blk P5 rfl)) rfl ?_
 refine TL.val (OpV.move rfl) rfl ?_
 refine TL.val (OpV.move rfl) rfl ?_
 refine TL.val (OpV.sub rfl rfl (by first | exact IntWalk.i64_in _ ⟨by omega, by omega⟩ | rfl)) rfl ?_
 refine TL.val (OpV.move rfl) rfl ?_
 refine TL.val (OpV.sub rfl rfl (by first | exact IntWalk.i64_in _ ⟨by omega, by omega⟩ | rfl)) rfl ?_
 refine TL.val (OpV.fieldAddr rfl fo_24_1) rfl ?_
 refine TL.val (OpV.load pl_3 rfl (by first | exact Cel.blk P0 rfl | exact Cel.blk P1 rfl | exact Cel.blk P2 rfl | exact Cel.blk P3 rfl | exact Cel.blk P4 rfl | exact Cel.blk P5 rfl)) rfl ?_
 refine TL.val (OpV.sub rfl rfl (by first | exact IntWalk.i64_in _ ⟨by omega, by omega⟩ | rfl)) rfl ?_
 refine TL.val (OpV.min rfl rfl) rfl ?_
 refine TL.val (OpV.add rfl rfl (by first | exact IntWalk.i64_in _ ⟨by omega, by omega⟩ | rfl)) rfl ?_
 refine TL.val (OpV.build (qs := #[(0, _), (1, _)]) (fun _ f => by simp only [List.map_toArray, List.map_cons, List.map_nil]; rw [f.ev (x := .tmp 33) rfl, f.ev (x := .tmp 45) rfl]) (bld_24_0_1 _ _ )) rfl ?_
 refine TL.said (t := 46) rfl (show _ = Value.agg (anL (fromV x.cells cols start cell).1 (fromV x.cells cols start cell).2).toArray from from_agg _ _ _ _) ?_
 first
   | refine TL.storeAll rfl rfl szz_24 rfl rfl rfl (by first | exact P0 | exact P1 | exact P2 | exact P3 | exact P4 | exact P5) (by rfl) ?_
   | refine TL.store rfl rfl szz_24 rfl rfl rfl (by first | exact P0 | exact P1 | exact P2 | exact P3 | exact P4 | exact P5) (by first | exact Nat.le_of_ble_eq_true rfl | (simp; done) | (simp; omega)) (by simp only [anL, LgA.l, putL, List.take_succ_cons, List.take_zero, List.drop_succ_cons, List.drop_zero, List.cons_append, List.nil_append, List.length_cons, List.length_nil, Nat.reduceAdd]; rfl) ?_
 refine TL.val (OpV.assign rfl) rfl ?_
 refine TL.nil ?_
 refine TE.sub (.cons (t := 8) rfl <| .cons (t := 9) rfl <| .nil) ?_
 refine TE.next ?_
 refine T.ret ?_
 refine TE.retN rfl (.cons (ResV.cellA rfl ag_24 (by first | exact Cels.blk P0 rfl | exact Cels.blk P1 rfl | exact Cels.blk P2 rfl | exact Cels.blk P3 rfl | exact Cels.blk P4 rfl | exact Cels.blk P5 rfl)) <| .cons (ResV.tmp rfl) <| .nil) ?_
 exact fun w1 k1 => ⟨rfl, k1.bel⟩
end Go.Proofs.YtdmpodpdpncobaaDoor
