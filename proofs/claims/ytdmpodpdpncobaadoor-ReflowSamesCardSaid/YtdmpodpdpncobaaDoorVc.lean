/-
  The walks of From and Carry. Condition: the package-level tables hold what they were laid with.
-/
import Derived.Test.YtdmpodpdpncobaaDoorVb
namespace Go.Proofs.YtdmpodpdpncobaaDoor
open Go.RowKit
set_option linter.unusedSimpArgs false
set_option linter.unusedVariables false

theorem sl_43_1_0 (x : Int × Int) (w : World) : (Instr.buildSlice 43 1 #[(0, .agg (aL x).toArray)]).run Tryd.prog w = .ok (.slice (some ⟨w.heap.size, 0, none⟩) 1 1) (w.alloc (.cells (aL x).toArray 24)) := by kernel_rfl
theorem okG_len {X : List Ln} : ∀ (G : List Lg) (n : Nat), OkG X n G → n + G.length ≤ X.length
  | [], n, h => by rw [OkG] at h; simp; omega
  | y :: t, n, h => by
    obtain ⟨r, e1, e2, e3, e4, _, _, _, ht⟩ := h
    have := okG_len t (n + r) ht
    rw [List.length_cons]
    omega
theorem starts_bad {G : List Lg} {cols : Int} (h : (startsE G cols != 0) = true) : fineB G cols = false ∧ startsE G cols = 2 := by
  cases hv : fineB G cols with
  | false => rw [startsE, hv]; exact ⟨rfl, rfl⟩
  | true => rw [startsE, hv] at h; cases h
theorem starts_ok {G : List Lg} {cols : Int} (h : (startsE G cols != 0) = false) : fineB G cols = true := by
  cases hv : fineB G cols with
  | false => rw [startsE, hv] at h; cases h
  | true => rfl
theorem fine_at {G : List Lg} {cols : Int} (h : fineB G cols = true) {i : Nat} {g : Lg} (hg : G[i]? = some g) : vW g.cells cols = true := by
  rw [fineB, Bool.and_eq_true, List.all_eq_true] at h
  exact h.2 g (List.mem_of_getElem? hg)
set_option maxRecDepth 100000 in
set_option maxHeartbeats 1000000 in
theorem carry_c {σ υ : Nat → Option Obj} {A A3 : Option Addr} {n c n3 c3 : Nat} {ls : List LnA} {as_ : List (Int × Int)} (cols : Int) (w : World) (L : LaidW w) (h : LsA σ A n c ls) (h3 : AsR υ A3 n3 c3 as_) (hn : n ≤ 131072) (hn3 : n3 ≤ 131072) (hs : ∀ b o, σ b = some o → w.heap[b]? = some o) (hu : ∀ b o, υ b = some o → w.heap[b]? = some o) : Calls Tryd.prog 33 #[.slice A n c, .int .i64 cols, .slice A3 n3 c3] w (fun e w' => ∃ v : SV, e = .returned (.tuple #[v.v, .int .i64 (carE (ls.map LnA.ln) cols as_)]) ∧ AsR v.σ v.A v.n v.c (carV (ls.map LnA.ln) cols as_) ∧ KOk w [.own v.σ] w') := by
 have hn63 := h.1.2.1
 have hc63 := h.1.2.2.1
 have hl1 := h.1.1
 have hn65 := h3.2.1
 have hc65 := h3.2.2.1
 refine calls_T (vs := [.slice A n c, .int .i64 cols, .slice A3 n3 c3]) (L0 := [(0, .slice A n c), (1, .int .i64 cols), (2, .slice A3 n3 c3)]) Tryd.func33 rfl rfl rfl rfl (KOk.frs hs hu) ?_
 refine T.seq ?_
 refine T.region ?_
 refine TL.val (OpV.assign rfl) rfl ?_
 refine TL.val (OpV.assign rfl) rfl ?_
 refine TL.nil ?_
 refine TE.next ?_
 refine T.seq ?_
 refine T.region ?_
 refine TL.val (OpV.move rfl) rfl ?_
 refine TL.callx (g := 32) rfl go_32 rfl (fun wz k1 => own_x k1 (ulines_c wz (L.below k1.bel) h (k1.get (e := .fr σ) (by first | exact P0 | exact P1 | exact P2 | exact P3 | exact P4 | exact P5 | exact P6 | exact P7)) hn)) rfl ?_
 rintro ⟨A6, n6, c6, ρ⟩ ⟨gs, hgs, hge⟩
 replace hgs : GsA ρ A6 n6 c6 gs := GsW.gsA hgs
 refine TL.said (t := 20) rfl (show _ = Value.tuple #[.slice A6 n6 c6, .int .i64 (linesE (ls.map LnA.ln))] from rfl) ?_
 have hgs1 := hgs.1.2.1
 have hgs2 := hgs.1.2.2.1
 refine TL.val (OpV.move rfl) rfl ?_
 refine TL.val (OpV.extract rfl rfl) rfl ?_
 refine TL.val (OpV.extract rfl rfl) rfl ?_
 refine TL.val (OpV.assign rfl) rfl ?_
 refine TL.val (OpV.assign rfl) rfl ?_
 refine TL.nil ?_
 refine TE.sub (.cons (t := 0) rfl <| .cons (t := 1) rfl <| .cons (t := 2) rfl <| .cons (t := 8) rfl <| .cons (t := 9) rfl <| .nil) ?_
 refine TE.next ?_
 refine T.seq ?_
 refine T.seq ?_
 refine T.region ?_
 refine TL.val (OpV.move rfl) rfl ?_
 refine TL.val (OpV.neq rfl rfl) rfl ?_
 refine TL.nil ?_
 refine TE.next ?_
 refine T.cond rfl ?_ ?_
 ·
  intro ht24
  have hv : vLs (ls.map LnA.ln) = false := by cases hv : vLs (ls.map LnA.ln) with | false => rfl | true => (rw [linesE, hv] at ht24; cases ht24)
  have hle : linesE (ls.map LnA.ln) = 2 := by rw [linesE, hv]; rfl
  have hce : carE (ls.map LnA.ln) cols as_ = 2 := by rw [carE, hv]; rfl
  refine T.seq ?_
  refine T.region ?_
  refine TL.val (OpV.move rfl) rfl ?_
  refine TL.val (OpV.assign rfl) rfl ?_
  refine TL.val (OpV.assign rfl) rfl ?_
  refine TL.nil ?_
  refine TE.sub (.cons (t := 6) rfl <| .cons (t := 7) rfl <| .nil) ?_
  refine TE.next ?_
  refine T.ret ?_
  refine TE.pass_ret ?_
  refine TE.retN rfl (.cons (ResV.tmp rfl) <| .cons (ResV.tmp rfl) <| .nil) ?_
  exact fun wz kz => ⟨⟨none, 0, 0, fun _ => none⟩, by rw [hce, hle]; rfl, by rw [carV, hce]; exact SlR.nil, Perm.kle (.cons .here .nil) wz (KOk.ownNil kz)⟩
 ·
  intro ht24
  have hv : vLs (ls.map LnA.ln) = true := by cases hv : vLs (ls.map LnA.ln) with | true => rfl | false => (rw [linesE, hv] at ht24; cases ht24)
  rw [show linesV (ls.map LnA.ln) = (lgG [] 0 (ls.map LnA.ln)) by rw [linesV, hv, if_pos rfl]] at hge
  have hn6 : n6 ≤ 131072 := by have h9 := okG_len _ 0 (ok_lines hv); rw [← hge, List.length_map, hgs.1.1, List.length_map, hl1] at h9; omega
  refine T.skip ?_
  refine TE.next ?_
  refine T.seq ?_
  refine T.region ?_
  refine TL.val (OpV.move rfl) rfl ?_
  refine TL.val (OpV.move rfl) rfl ?_
  refine TL.callx (g := 62) rfl go_62 rfl (fun wz k1 => own_x k1 (starts_c cols wz (L.below k1.bel) hgs hn6 (fun b o hb => (k1.get (e := .own ρ) (by first | exact P0 | exact P1 | exact P2 | exact P3 | exact P4 | exact P5 | exact P6 | exact P7) b o hb).2))) rfl ?_
  rintro ⟨A10, n10, c10, ρs⟩ hst
  replace hst : IsR ρs A10 n10 c10 (startsV (gs.map LgA.lg) cols) := hst
  refine TL.said (t := 29) rfl (show _ = Value.tuple #[.slice A10 n10 c10, .int .i64 (startsE (gs.map LgA.lg) cols)] from rfl) ?_
  refine TL.val (OpV.move rfl) rfl ?_
  refine TL.val (OpV.extract rfl rfl) rfl ?_
  refine TL.val (OpV.extract rfl rfl) rfl ?_
  refine TL.val (OpV.assign rfl) rfl ?_
  refine TL.val (OpV.assign rfl) rfl ?_
  refine TL.nil ?_
  refine TE.sub (.cons (t := 0) rfl <| .cons (t := 1) rfl <| .cons (t := 2) rfl <| .cons (t := 8) rfl <| .cons (t := 9) rfl <| .cons (t := 10) rfl <| .nil) ?_
  refine TE.next ?_
  refine T.seq ?_
  refine T.seq ?_
  refine T.region ?_
  refine TL.val (OpV.move rfl) rfl ?_
  refine TL.val (OpV.neq rfl rfl) rfl ?_
  refine TL.nil ?_
  refine TE.next ?_
  refine T.cond rfl ?_ ?_
  ·
   intro ht33
   obtain ⟨hf, he2⟩ := starts_bad ht33
   have hce : carE (ls.map LnA.ln) cols as_ = 2 := by rw [carE, hv, if_pos rfl, ← hge, hf]; rfl
   refine T.seq ?_
   refine T.region ?_
   refine TL.val (OpV.move rfl) rfl ?_
   refine TL.val (OpV.assign rfl) rfl ?_
   refine TL.val (OpV.assign rfl) rfl ?_
   refine TL.nil ?_
   refine TE.sub (.cons (t := 6) rfl <| .cons (t := 7) rfl <| .nil) ?_
   refine TE.next ?_
   refine T.ret ?_
   refine TE.pass_ret ?_
   refine TE.retN rfl (.cons (ResV.tmp rfl) <| .cons (ResV.tmp rfl) <| .nil) ?_
   exact fun wz kz => ⟨⟨none, 0, 0, fun _ => none⟩, by rw [hce, he2]; rfl, by rw [carV, hce]; exact SlR.nil, Perm.kle (.cons .here .nil) wz (KOk.ownNil kz)⟩
  ·
   intro ht33
   have hf := starts_ok ht33
   refine T.skip ?_
   refine TE.next ?_
   refine T.seq ?_
   refine T.region ?_
   refine TL.val (OpV.assign rfl) rfl ?_
   refine TL.nil ?_
   refine TE.next ?_
   refine T.seq ?_
   refine T.seq ?_
   refine T.region ?_
   refine TL.val (OpV.move rfl) rfl ?_
   refine TL.val (OpV.len Tryd.underlying43 rfl) rfl ?_
   refine TL.val (OpV.move rfl) rfl ?_
   refine TL.nil ?_
   refine TE.next ?_
   refine T.block ?_
   refine T.loop (ι := Nat × List (Int × Int) × Option Addr × Nat) (fun ⟨i, out, A11, c11⟩ => i ≤ n3 ∧ out = (as_.take i).map (car1 (ls.map LnA.ln) cols) ∧ (as_.take i).all (hasP (ls.map LnA.ln)) = true ∧ (A11 = none → c11 = 0)) (fun ⟨i, out, A11, c11⟩ => (n3 - i)) (fun ⟨i, out, A11, c11⟩ => [(0, .slice A n c), (1, .int .i64 cols), (8, .slice A6 n6 c6), (10, .slice A10 n10 c10), (11, .slice A11 out.length c11), (35, .slice A3 n3 c3), (36, .int .i64 (n3 : Int)), (37, .int .i64 (i : Int))]) (fun ⟨i, out, A11, c11⟩ => [.row 24 2 A11 out.length c11 (al out), .own ρs, .own ρ, .fr σ, .fr υ]) (0, [], none, 0) ⟨Nat.zero_le _, rfl, rfl, fun _ => rfl⟩ (.cons (t := 0) rfl <| .cons (t := 1) rfl <| .cons (t := 8) rfl <| .cons (t := 10) rfl <| .cons (t := 11) rfl <| .cons (t := 35) rfl <| .cons (t := 36) rfl <| .cons (t := 37) rfl <| .nil) ((fun wz kz => Perm.kle (.cons (by first | exact P0 | exact P1 | exact P2 | exact P3 | exact P4 | exact P5 | exact P6 | exact P7) (.cons (by first | exact P0 | exact P1 | exact P2 | exact P3 | exact P4 | exact P5 | exact P6 | exact P7) (.cons (by first | exact P0 | exact P1 | exact P2 | exact P3 | exact P4 | exact P5 | exact P6 | exact P7) (.cons (by first | exact P0 | exact P1 | exact P2 | exact P3 | exact P4 | exact P5 | exact P6 | exact P7) (.cons (by first | exact P0 | exact P1 | exact P2 | exact P3 | exact P4 | exact P5 | exact P6 | exact P7) .nil))))) wz (Kle.nilRow 24 2 wz kz))) ?_
   rintro ⟨i, out, A11, c11⟩ hR
   have hol : out.length ≤ n3 := by have h9 := congrArg List.length hR.2.1; rw [List.length_map, List.length_take] at h9; omega
   refine T.seq ?_
   refine T.region ?_
   refine TL.val (OpV.lss rfl rfl) rfl ?_
   refine TL.nil ?_
   refine TE.next ?_
   refine T.seq ?_
   refine T.cond rfl ?_ ?_
   ·
    intro ht38
    obtain ⟨q1, q2, q3, q4⟩ := hR
    have hi : i < n3 := by have h9 := of_decide_eq_true ht38; omega
    obtain ⟨a, ha⟩ := get_of_lt h3.1 hi
    obtain ⟨b5, o5, hA5, hat5⟩ := h3.2.2.2.2 (by omega)
    obtain ⟨_, rfl, _, hata⟩ := hat5 _ a ha
    refine T.skip ?_
    refine TE.next ?_
    refine T.seq ?_
    refine T.block ?_
    refine T.seq ?_
    refine T.region ?_
    refine TL.val (OpV.indexAddr (j := i) se_43 rfl hA5 rfl rfl (by omega)) rfl ?_
    refine TL.val (OpV.loadA ag_24 rfl (by first | exact Cels.blk P0 rfl | exact Cels.blk P1 rfl | exact Cels.blk P2 rfl | exact Cels.blk P3 rfl | exact Cels.blk P4 rfl | exact Cels.blk P5 rfl | exact Cels.blk P6 rfl | exact Cels.frA hata rfl | exact Cels.ownA (hatg) rfl | exact Cels.ownA (hatq) rfl)) rfl ?_
    refine TL.alloc zo_24 rfl ?_
    intro b13
    first
      | refine TL.storeAll rfl rfl szz_24 rfl rfl rfl (by first | exact P0 | exact P1 | exact P2 | exact P3 | exact P4 | exact P5 | exact P6) (by rfl) ?_
      | refine TL.store rfl rfl szz_24 rfl rfl rfl (by first | exact P0 | exact P1 | exact P2 | exact P3 | exact P4 | exact P5 | exact P6) (by first | exact Nat.le_of_ble_eq_true rfl | (simp; done) | (simp; omega)) (by simp only [anL, aL, putL, List.take_succ_cons, List.take_zero, List.drop_succ_cons, List.drop_zero, List.cons_append, List.nil_append, List.length_cons, List.length_nil, Nat.reduceAdd]; rfl) ?_
    refine TL.nil ?_
    refine TE.next ?_
    refine T.seq ?_
    refine T.region ?_
    refine TL.val (OpV.move rfl) rfl ?_
    refine TL.val (OpV.move rfl) rfl ?_
    refine TL.val (OpV.loadA ag_24 rfl (Cels.blkAt (anL a.1 a.2) (by first | exact P0 | exact P1 | exact P2 | exact P3 | exact P4 | exact P5 | exact P6) rfl rfl)) rfl ?_
    refine TL.call (g := 63) rfl go_63 rfl (fun w1 k1 => aplace_c a.1 a.2 w1 h hgs hge hv hn (k1.get (e := .fr σ) (by first | exact P0 | exact P1 | exact P2 | exact P3 | exact P4 | exact P5 | exact P6 | exact P7)) (fun b o hb => (k1.get (e := .own ρ) (by first | exact P0 | exact P1 | exact P2 | exact P3 | exact P4 | exact P5 | exact P6 | exact P7) b o hb).2)) rfl ?_
    refine TL.val (OpV.move rfl) rfl ?_
    refine TL.val (OpV.extract rfl rfl) rfl ?_
    refine TL.val (OpV.extract rfl rfl) rfl ?_
    refine TL.val (OpV.extract rfl rfl) rfl ?_
    refine TL.val (OpV.assign rfl) rfl ?_
    refine TL.val (OpV.assign rfl) rfl ?_
    refine TL.val (OpV.assign rfl) rfl ?_
    refine TL.nil ?_
    refine TE.sub (.cons (t := 0) rfl <| .cons (t := 1) rfl <| .cons (t := 8) rfl <| .cons (t := 10) rfl <| .cons (t := 11) rfl <| .cons (t := 14) rfl <| .cons (t := 15) rfl <| .cons (t := 16) rfl <| .cons (t := 35) rfl <| .cons (t := 36) rfl <| .cons (t := 37) rfl <| .nil) ?_
    refine TE.next ?_
    refine T.seq ?_
    refine T.seq ?_
    refine T.region ?_
    refine TL.val (OpV.move rfl) rfl ?_
    refine TL.val (OpV.neq rfl rfl) rfl ?_
    refine TL.nil ?_
    refine TE.next ?_
    refine T.cond rfl ?_ ?_
    ·
     intro ht50
     have hP : hasP (ls.map LnA.ln) a = false := by cases hP : hasP (ls.map LnA.ln) a with | false => rfl | true => (rw [plAE, show hasP (ls.map LnA.ln) (a.1, a.2) = true from hP] at ht50; cases ht50)
     have hpe : plAE (ls.map LnA.ln) (a.1, a.2) = 3 := by rw [plAE, show hasP (ls.map LnA.ln) (a.1, a.2) = false from hP]; rfl
     have hce : carE (ls.map LnA.ln) cols as_ = 3 := by rw [carE, hv, if_pos rfl, ← hge, hf, if_pos rfl, show as_.all (hasP (ls.map LnA.ln)) = false by rw [List.all_eq_false]; exact ⟨a, List.mem_of_getElem? ha, by rw [hP]; decide⟩]; rfl
     refine T.seq ?_
     refine T.region ?_
     refine TL.val (OpV.move rfl) rfl ?_
     refine TL.val (OpV.assign rfl) rfl ?_
     refine TL.val (OpV.assign rfl) rfl ?_
     refine TL.nil ?_
     refine TE.sub (.cons (t := 6) rfl <| .cons (t := 7) rfl <| .nil) ?_
     refine TE.next ?_
     refine T.ret ?_
     refine TE.pass_ret ?_
     refine TE.out_ret ?_
     refine TE.pass_ret ?_
     refine TE.pass_ret ?_
     refine TE.out_ret ?_
     refine TE.pass_ret ?_
     refine TE.retN rfl (.cons (ResV.tmp rfl) <| .cons (ResV.tmp rfl) <| .nil) ?_
     exact fun wz kz => ⟨⟨none, 0, 0, fun _ => none⟩, by rw [hce, hpe]; rfl, by rw [carV, hce]; exact SlR.nil, Perm.kle (.cons .here .nil) wz (KOk.ownNil kz)⟩
    ·
     intro ht50
     have hP : hasP (ls.map LnA.ln) a = true := by cases hP : hasP (ls.map LnA.ln) a with | true => rfl | false => (rw [plAE, show hasP (ls.map LnA.ln) (a.1, a.2) = false from hP] at ht50; cases ht50)
     obtain ⟨k, xr, ha1, hXk, hkl, ha2, ha3⟩ := hasP_parts hP
     obtain ⟨ii, gl, fi, r0, hfi, hgl, hfrm, hrows, hfk, hkr, hfr, hfo⟩ := to_find hv hkl
     have hto : toV (ls.map LnA.ln) a = ((ii : Int), a.2 + (sumK (((ls.map LnA.ln).drop fi).map Ln.cells) (k - fi) : Int)) := by have h9 := to_eq (c := a.2) hfi hfo; rwa [← ha1] at h9
     have hpa : plAV (ls.map LnA.ln) (a.1, a.2) = toV (ls.map LnA.ln) a := by rw [plAV, show hasP (ls.map LnA.ln) (a.1, a.2) = true from hP]; rfl
     have hii : ii < n6 := by have h9 := (List.getElem?_eq_some_iff.1 hgl).1; rw [← hge, List.length_map, hgs.1.1] at h9; exact h9
     obtain ⟨g, hg⟩ := get_of_lt hgs.1.1 (show ii < n6 by omega)
     obtain ⟨b3, o3, hA3, hat3⟩ := hgs.1.2.2.2.2 (by omega)
     obtain ⟨_, rfl, _, hatg⟩ := hat3 _ g hg
     have hcg := hgs.2 g (List.mem_of_getElem? hg)
     have hgG : (gs.map LgA.lg)[ii]? = some g.lg := by simp [hg]
     have hvg : vW g.cells cols = true := fine_at hf hgG
     have hst2 := hst
     rw [startsV, hf, if_pos rfl, List.length_map, hgs.1.1] at hst2
     have hsl := hst2.1
     rw [stV_len] at hsl
     obtain ⟨b4, o4, hA4, hat4⟩ := hst2.2.2.2.2 (by omega)
     obtain ⟨_, rfl, _, hatq⟩ := hat4 ii _ (stV_get (show ii < n6 + 1 by omega))
     have hbs := rwS_bd (cols := cols) ((gs.map LgA.lg).take ii)
     rw [List.length_take, List.length_map, hgs.1.1] at hbs
     have hs10 := hst2.2.1
     have hs11 := hst2.2.2.1
     have hcar : car1 (ls.map LnA.ln) cols a = fromV g.cells cols (rwS cols ((gs.map LgA.lg).take ii)) (a.2 + (sumK (((ls.map LnA.ln).drop fi).map Ln.cells) (k - fi) : Int)) := by rw [car1, hto, frV, ← hge]; simp only [Int.toNat_natCast, hgG]; rfl
     have hsk1 := sumK_le (((ls.map LnA.ln).drop fi).map Ln.cells) (k - fi)
     have hsk2 := sumL_le (l := ((ls.map LnA.ln).drop fi).map Ln.cells) (fun z hz => by obtain ⟨y, hy, rfl⟩ := List.mem_map.1 hz; exact vLs_row hv (List.mem_of_mem_drop hy))
     rw [List.length_map, List.length_drop, List.length_map, hl1] at hsk2
     have hxr := vLs_row hv (List.mem_of_getElem? hXk)
     refine T.skip ?_
     refine TE.next ?_
     refine T.seq ?_
     refine T.any ([.own ρs, .own ρ]) [] mix rfl rfl ?_
     refine TA.takeP (i := 0) (ls := #[true, false, false, false, false, false, false, false, false, false, false, false, false, false, false, false, false]) rfl rfl rfl rfl rfl (by kernel_rfl) (by kernel_rfl) (by kernel_rfl) (by repeat (first | with_reducible exact PanicOk.body | with_reducible apply PanicOk.next | with_reducible apply PanicOk.block)) (OpV.move rfl) rfl (by kernel_rfl) ?_
     refine TA.takeP (i := 1) (ls := #[true, true, false, false, false, false, false, false, false, false, false, false, false, false, false, false, false]) rfl rfl rfl rfl rfl (by kernel_rfl) (by kernel_rfl) (by kernel_rfl) (by repeat (first | with_reducible exact PanicOk.body | with_reducible apply PanicOk.next | with_reducible apply PanicOk.block)) (OpV.move rfl) rfl (by kernel_rfl) ?_
     refine TA.said (t := 54) rfl (show _ = Value.int .i64 (ii : Int) by rw [hpa, hto]) ?_
     refine TA.takeP (i := 2) (ls := #[true, true, true, false, false, false, false, false, false, false, false, false, false, false, false, false, false]) rfl rfl rfl rfl rfl (by kernel_rfl) (by kernel_rfl) (by kernel_rfl) (by repeat (first | with_reducible exact PanicOk.body | with_reducible apply PanicOk.next | with_reducible apply PanicOk.block)) (OpV.indexAddr (j := ii) se_34 rfl hA3 rfl rfl (by omega)) rfl (by kernel_rfl) ?_
     refine TA.take (i := 3) (ls := #[true, true, true, true, false, false, false, false, false, false, false, false, false, false, false, false, false]) rfl rfl rfl rfl rfl (by kernel_rfl) (by kernel_rfl) (by kernel_rfl) (by kernel_rfl) (by repeat (first | with_reducible exact PanicOk.body | with_reducible apply PanicOk.next | with_reducible apply PanicOk.block)) ((.cons (by first | exact P0 | exact P1 | exact P2 | exact P3 | exact P4 | exact P5 | exact P6 | exact P7) (.cons (by first | exact P0 | exact P1 | exact P2 | exact P3 | exact P4 | exact P5 | exact P6 | exact P7) .nil))) (OpV.loadA ag_37 rfl (by first | exact Cels.blk P0 rfl | exact Cels.blk P1 rfl | exact Cels.blk P2 rfl | exact Cels.blk P3 rfl | exact Cels.blk P4 rfl | exact Cels.blk P5 rfl | exact Cels.blk P6 rfl | exact Cels.frA hata rfl | exact Cels.ownA (hatg) rfl | exact Cels.ownA (hatq) rfl)) rfl (by kernel_rfl) ?_
     refine TA.takeP (i := 4) (ls := #[true, true, true, true, true, false, false, false, false, false, false, false, false, false, false, false, false]) rfl rfl rfl rfl rfl (by kernel_rfl) (by kernel_rfl) (by kernel_rfl) (by repeat (first | with_reducible exact PanicOk.body | with_reducible apply PanicOk.next | with_reducible apply PanicOk.block)) (OpV.move rfl) rfl (by kernel_rfl) ?_
     refine TA.takeP (i := 5) (ls := #[true, true, true, true, true, true, false, false, false, false, false, false, false, false, false, false, false]) rfl rfl rfl rfl rfl (by kernel_rfl) (by kernel_rfl) (by kernel_rfl) (by repeat (first | with_reducible exact PanicOk.body | with_reducible apply PanicOk.next | with_reducible apply PanicOk.block)) (OpV.move rfl) rfl (by kernel_rfl) ?_
     refine TA.takeP (i := 6) (ls := #[true, true, true, true, true, true, true, false, false, false, false, false, false, false, false, false, false]) rfl rfl rfl rfl rfl (by kernel_rfl) (by kernel_rfl) (by kernel_rfl) (by repeat (first | with_reducible exact PanicOk.body | with_reducible apply PanicOk.next | with_reducible apply PanicOk.block)) (OpV.move rfl) rfl (by kernel_rfl) ?_
     refine TA.said (t := 59) rfl (show _ = Value.int .i64 (ii : Int) by rw [hpa, hto]) ?_
     refine TA.takeP (i := 7) (ls := #[true, true, true, true, true, true, true, true, false, false, false, false, false, false, false, false, false]) rfl rfl rfl rfl rfl (by kernel_rfl) (by kernel_rfl) (by kernel_rfl) (by repeat (first | with_reducible exact PanicOk.body | with_reducible apply PanicOk.next | with_reducible apply PanicOk.block)) (OpV.indexAddr (j := ii) se_97 rfl hA4 rfl rfl (by omega)) rfl (by kernel_rfl) ?_
     refine TA.take (i := 8) (ls := #[true, true, true, true, true, true, true, true, true, false, false, false, false, false, false, false, false]) rfl rfl rfl rfl rfl (by kernel_rfl) (by kernel_rfl) (by kernel_rfl) (by kernel_rfl) (by repeat (first | with_reducible exact PanicOk.body | with_reducible apply PanicOk.next | with_reducible apply PanicOk.block)) ((.cons (by first | exact P0 | exact P1 | exact P2 | exact P3 | exact P4 | exact P5 | exact P6 | exact P7) (.cons (by first | exact P0 | exact P1 | exact P2 | exact P3 | exact P4 | exact P5 | exact P6 | exact P7) .nil))) (OpV.load pl_3 rfl (by first | exact Cel.blk P0 rfl | exact Cel.blk P1 rfl | exact Cel.blk P2 rfl | exact Cel.blk P3 rfl | exact Cel.blk P4 rfl | exact Cel.blk P5 rfl | exact Cel.blk P6 rfl | exact Cel.frA (hata _ _ rfl) | exact Cel.ownA (hatg 0 _ rfl) | exact Cel.ownA (hatq 0 _ rfl))) rfl (by kernel_rfl) ?_
     refine TA.takeP (i := 9) (ls := #[true, true, true, true, true, true, true, true, true, true, false, false, false, false, false, false, false]) rfl rfl rfl rfl rfl (by kernel_rfl) (by kernel_rfl) (by kernel_rfl) (by repeat (first | with_reducible exact PanicOk.body | with_reducible apply PanicOk.next | with_reducible apply PanicOk.block)) (OpV.move rfl) rfl (by kernel_rfl) ?_
     refine TA.said (t := 62) rfl (show _ = Value.int .i64 (a.2 + (sumK (((ls.map LnA.ln).drop fi).map Ln.cells) (k - fi) : Int)) by rw [hpa, hto]) ?_
     refine TA.two (i := 10) (i' := 14) (ls := #[true, true, true, true, true, true, true, true, true, true, true, false, false, false, false, false, false]) (ls' := #[true, true, true, true, true, true, true, true, true, true, false, false, false, false, true, false, false]) (by kernel_rfl) rfl rfl (by kernel_rfl) (by kernel_rfl) (fun w1 => ?_) (fun w1 => ?_)
     ·
      refine TL.call (g := 64) rfl go_64 rfl (fun w1 k1 => from_c g cols (rwS cols ((gs.map LgA.lg).take ii)) (a.2 + (sumK (((ls.map LnA.ln).drop fi).map Ln.cells) (k - fi) : Int)) w1 (L.below k1.bel) hcg hvg ⟨by omega, by omega⟩ ⟨by omega, by omega⟩ (fun b o hb => (k1.get (e := .own ρ) (by first | exact P0 | exact P1 | exact P2 | exact P3 | exact P4 | exact P5 | exact P6 | exact P7) b o hb).2)) rfl ?_
      refine TL.nil ?_
      refine TA.cont ((.cons (by first | exact P0 | exact P1 | exact P2 | exact P3 | exact P4 | exact P5 | exact P6 | exact P7) (.cons (by first | exact P0 | exact P1 | exact P2 | exact P3 | exact P4 | exact P5 | exact P6 | exact P7) .nil))) ?_
      refine TA.takeP (i := 11) (ls := #[true, true, true, true, true, true, true, true, true, true, true, true, false, false, false, false, false]) rfl rfl rfl rfl rfl (by kernel_rfl) (by kernel_rfl) (by kernel_rfl) (by repeat (first | with_reducible exact PanicOk.body | with_reducible apply PanicOk.next | with_reducible apply PanicOk.block)) (OpV.move rfl) rfl (by kernel_rfl) ?_
      refine TA.takeP (i := 12) (ls := #[true, true, true, true, true, true, true, true, true, true, true, true, true, false, false, false, false]) rfl rfl rfl rfl rfl (by kernel_rfl) (by kernel_rfl) (by kernel_rfl) (by repeat (first | with_reducible exact PanicOk.body | with_reducible apply PanicOk.next | with_reducible apply PanicOk.block)) (OpV.extract rfl rfl) rfl (by kernel_rfl) ?_
      refine TA.takeP (i := 13) (ls := #[true, true, true, true, true, true, true, true, true, true, true, true, true, true, false, false, false]) rfl rfl rfl rfl rfl (by kernel_rfl) (by kernel_rfl) (by kernel_rfl) (by repeat (first | with_reducible exact PanicOk.body | with_reducible apply PanicOk.next | with_reducible apply PanicOk.block)) (OpV.extract rfl rfl) rfl (by kernel_rfl) ?_
      refine TA.one (i := 14) (ls := #[true, true, true, true, true, true, true, true, true, true, true, true, true, true, true, false, false]) (by kernel_rfl) rfl (by kernel_rfl) (fun w1 => ?_)
      refine TL.alloc zo_24 rfl ?_
      intro b17
      refine TL.nil ?_
      refine TA.cont ((.cons (by first | exact P0 | exact P1 | exact P2 | exact P3 | exact P4 | exact P5 | exact P6 | exact P7) (.cons (by first | exact P0 | exact P1 | exact P2 | exact P3 | exact P4 | exact P5 | exact P6 | exact P7) .nil))) ?_
      refine TA.one (i := 15) (ls := #[true, true, true, true, true, true, true, true, true, true, true, true, true, true, true, true, false]) (by kernel_rfl) rfl (by kernel_rfl) (fun w1 => ?_)
      first
        | refine TL.storeAll rfl rfl szz_24 rfl rfl rfl (by first | exact P0 | exact P1 | exact P2 | exact P3 | exact P4 | exact P5 | exact P6) (by rfl) ?_
        | refine TL.store rfl rfl szz_24 rfl rfl rfl (by first | exact P0 | exact P1 | exact P2 | exact P3 | exact P4 | exact P5 | exact P6) (by first | exact Nat.le_of_ble_eq_true rfl | (simp; done) | (simp; omega)) (by simp only [anL, aL, putL, List.take_succ_cons, List.take_zero, List.drop_succ_cons, List.drop_zero, List.cons_append, List.nil_append, List.length_cons, List.length_nil, Nat.reduceAdd]; rfl) ?_
      refine TL.nil ?_
      refine TA.cont ((.cons (by first | exact P0 | exact P1 | exact P2 | exact P3 | exact P4 | exact P5 | exact P6 | exact P7) (.cons (by first | exact P0 | exact P1 | exact P2 | exact P3 | exact P4 | exact P5 | exact P6 | exact P7) .nil))) ?_
      refine TA.takeP (i := 16) (ls := #[true, true, true, true, true, true, true, true, true, true, true, true, true, true, true, true, true]) rfl rfl rfl rfl rfl (by kernel_rfl) (by kernel_rfl) (by kernel_rfl) (by repeat (first | with_reducible exact PanicOk.body | with_reducible apply PanicOk.next | with_reducible apply PanicOk.block)) (OpV.assign rfl) rfl (by kernel_rfl) ?_
      refine TA.done (by kernel_rfl) ?_
      refine TE.sub (.cons (t := 0) rfl <| .cons (t := 1) rfl <| .cons (t := 8) rfl <| .cons (t := 10) rfl <| .cons (t := 11) rfl <| .cons (t := 16) rfl <| .cons (t := 17) rfl <| .cons (t := 35) rfl <| .cons (t := 36) rfl <| .cons (t := 37) rfl <| .nil) ?_
      refine TE.next ?_
      refine T.seq ?_
      refine T.seq ?_
      refine T.region ?_
      refine TL.val (OpV.move rfl) rfl ?_
      refine TL.val (OpV.neq rfl rfl) rfl ?_
      refine TL.said (t := 67) rfl (show _ = Value.bool false from congrArg Value.bool (rfl)) ?_
      refine TL.nil ?_
      refine TE.next ?_
      refine T.no rfl ?_
      refine T.skip ?_
      refine TE.next ?_
      refine T.region ?_
      refine TL.val (OpV.move rfl) rfl ?_
      refine TL.val (OpV.loadA ag_24 rfl (by first | exact Cels.blk P0 rfl | exact Cels.blk P1 rfl | exact Cels.blk P2 rfl | exact Cels.blk P3 rfl | exact Cels.blk P4 rfl | exact Cels.blk P5 rfl | exact Cels.blk P6 rfl | exact Cels.frA hata rfl | exact Cels.ownA (hatg) rfl | exact Cels.ownA (hatq) rfl)) rfl ?_
      refine TL.said (t := 70) rfl (show _ = Value.agg (aL (car1 (ls.map LnA.ln) cols a)).toArray by rw [hcar]; rfl) ?_
      refine TL.slit (qs := #[(0, _)]) (fun _ f => by simp only [List.map_toArray, List.map_cons, List.map_nil]; rw [f.ev (x := .tmp 70) rfl]) (sl_43_1_0 (car1 (ls.map LnA.ln) cols a)) rfl ?_
      intro b71
      obtain ⟨ti72, hi72, hz72, hs72, hb72⟩ := info_parts inf_24
      refine TL.append rfl rfl Tryd.underlying43 hi72 hz72 hs72 hb72 rfl (by omega) (by first | exact P0 | exact P1 | exact P2 | exact P3 | exact P4 | exact P5 | exact P6) (by first | exact Src.nil | exact Src.blk P0 rfl | exact Src.blk P1 rfl | exact Src.blk P2 rfl | exact Src.blk P3 rfl | exact Src.blk P4 rfl | exact Src.blk P5 rfl | exact Src.blk P6 rfl | exact Src.row P0 | exact Src.row P1 | exact Src.row P2 | exact Src.row P3 | exact Src.row P4 | exact Src.row P5 | exact Src.row P6) (fun h => by cases h) rfl (by omega) (by omega) rfl ?_
      clear hi72 hz72 hs72 hb72 ti72
      intro A72 c72 hn72
      refine TL.val (OpV.assign rfl) rfl ?_
      refine TL.nil ?_
      refine TE.out ?_
      refine TE.sub (.cons (t := 0) rfl <| .cons (t := 1) rfl <| .cons (t := 8) rfl <| .cons (t := 10) rfl <| .cons (t := 11) rfl <| .cons (t := 35) rfl <| .cons (t := 36) rfl <| .cons (t := 37) rfl <| .nil) ?_
      refine TE.next ?_
      refine T.region ?_
      refine TL.val (OpV.add rfl rfl (by first | exact IntWalk.i64_in _ ⟨by omega, by omega⟩ | rfl)) rfl ?_
      refine TL.val (OpV.move rfl) rfl ?_
      refine TL.nil ?_
      exact TE.meet (i + 1, out ++ [car1 (ls.map LnA.ln) cols a], A72, c72) ⟨⟨by omega, by rw [take_snoc ha, List.map_append, q2]; rfl, by rw [take_snoc ha, List.all_append, q3]; simp [hP], hn72⟩, by simp only; omega⟩ (.cons (t := 0) (by first | rfl | (simp [lk]; done)) <| .cons (t := 1) (by first | rfl | (simp [lk]; done)) <| .cons (t := 8) (by first | rfl | (simp [lk]; done)) <| .cons (t := 10) (by first | rfl | (simp [lk]; done)) <| .cons (t := 11) (by simp only [List.length_append, List.length_cons, List.length_nil]; rfl) <| .cons (t := 35) (by first | rfl | (simp [lk]; done)) <| .cons (t := 36) (by first | rfl | (simp [lk]; done)) <| .cons (t := 37) (by first | rfl | (simp [lk]; done)) <| .nil) ((by simp only [al_snoc, List.length_append, List.length_cons, List.length_nil]; exact Perm.kle (.cons (by first | exact P0 | exact P1 | exact P2 | exact P3 | exact P4 | exact P5 | exact P6 | exact P7) (.cons (by first | exact P0 | exact P1 | exact P2 | exact P3 | exact P4 | exact P5 | exact P6 | exact P7) (.cons (by first | exact P0 | exact P1 | exact P2 | exact P3 | exact P4 | exact P5 | exact P6 | exact P7) (.cons (by first | exact P0 | exact P1 | exact P2 | exact P3 | exact P4 | exact P5 | exact P6 | exact P7) (.cons (by first | exact P0 | exact P1 | exact P2 | exact P3 | exact P4 | exact P5 | exact P6 | exact P7) .nil)))))))
     ·
      refine TL.alloc zo_24 rfl ?_
      intro b17
      refine TL.nil ?_
      refine TA.cont ((.cons (by first | exact P0 | exact P1 | exact P2 | exact P3 | exact P4 | exact P5 | exact P6 | exact P7) (.cons (by first | exact P0 | exact P1 | exact P2 | exact P3 | exact P4 | exact P5 | exact P6 | exact P7) .nil))) ?_
      refine TA.one (i := 10) (ls := #[true, true, true, true, true, true, true, true, true, true, true, false, false, false, true, false, false]) (by kernel_rfl) rfl (by kernel_rfl) (fun w1 => ?_)
      refine TL.call (g := 64) rfl go_64 rfl (fun w1 k1 => from_c g cols (rwS cols ((gs.map LgA.lg).take ii)) (a.2 + (sumK (((ls.map LnA.ln).drop fi).map Ln.cells) (k - fi) : Int)) w1 (L.below k1.bel) hcg hvg ⟨by omega, by omega⟩ ⟨by omega, by omega⟩ (fun b o hb => (k1.get (e := .own ρ) (by first | exact P0 | exact P1 | exact P2 | exact P3 | exact P4 | exact P5 | exact P6 | exact P7) b o hb).2)) rfl ?_
      refine TL.nil ?_
      refine TA.cont ((.cons (by first | exact P0 | exact P1 | exact P2 | exact P3 | exact P4 | exact P5 | exact P6 | exact P7) (.cons (by first | exact P0 | exact P1 | exact P2 | exact P3 | exact P4 | exact P5 | exact P6 | exact P7) .nil))) ?_
      refine TA.takeP (i := 11) (ls := #[true, true, true, true, true, true, true, true, true, true, true, true, false, false, true, false, false]) rfl rfl rfl rfl rfl (by kernel_rfl) (by kernel_rfl) (by kernel_rfl) (by repeat (first | with_reducible exact PanicOk.body | with_reducible apply PanicOk.next | with_reducible apply PanicOk.block)) (OpV.move rfl) rfl (by kernel_rfl) ?_
      refine TA.takeP (i := 12) (ls := #[true, true, true, true, true, true, true, true, true, true, true, true, true, false, true, false, false]) rfl rfl rfl rfl rfl (by kernel_rfl) (by kernel_rfl) (by kernel_rfl) (by repeat (first | with_reducible exact PanicOk.body | with_reducible apply PanicOk.next | with_reducible apply PanicOk.block)) (OpV.extract rfl rfl) rfl (by kernel_rfl) ?_
      refine TA.takeP (i := 13) (ls := #[true, true, true, true, true, true, true, true, true, true, true, true, true, true, true, false, false]) rfl rfl rfl rfl rfl (by kernel_rfl) (by kernel_rfl) (by kernel_rfl) (by repeat (first | with_reducible exact PanicOk.body | with_reducible apply PanicOk.next | with_reducible apply PanicOk.block)) (OpV.extract rfl rfl) rfl (by kernel_rfl) ?_
      refine TA.one (i := 15) (ls := #[true, true, true, true, true, true, true, true, true, true, true, true, true, true, true, true, false]) (by kernel_rfl) rfl (by kernel_rfl) (fun w1 => ?_)
      first
        | refine TL.storeAll rfl rfl szz_24 rfl rfl rfl (by first | exact P0 | exact P1 | exact P2 | exact P3 | exact P4 | exact P5 | exact P6) (by rfl) ?_
        | refine TL.store rfl rfl szz_24 rfl rfl rfl (by first | exact P0 | exact P1 | exact P2 | exact P3 | exact P4 | exact P5 | exact P6) (by first | exact Nat.le_of_ble_eq_true rfl | (simp; done) | (simp; omega)) (by simp only [anL, aL, putL, List.take_succ_cons, List.take_zero, List.drop_succ_cons, List.drop_zero, List.cons_append, List.nil_append, List.length_cons, List.length_nil, Nat.reduceAdd]; rfl) ?_
      refine TL.nil ?_
      refine TA.cont ((.cons (by first | exact P0 | exact P1 | exact P2 | exact P3 | exact P4 | exact P5 | exact P6 | exact P7) (.cons (by first | exact P0 | exact P1 | exact P2 | exact P3 | exact P4 | exact P5 | exact P6 | exact P7) .nil))) ?_
      refine TA.takeP (i := 16) (ls := #[true, true, true, true, true, true, true, true, true, true, true, true, true, true, true, true, true]) rfl rfl rfl rfl rfl (by kernel_rfl) (by kernel_rfl) (by kernel_rfl) (by repeat (first | with_reducible exact PanicOk.body | with_reducible apply PanicOk.next | with_reducible apply PanicOk.block)) (OpV.assign rfl) rfl (by kernel_rfl) ?_
      refine TA.done (by kernel_rfl) ?_
      refine TE.sub (.cons (t := 0) rfl <| .cons (t := 1) rfl <| .cons (t := 8) rfl <| .cons (t := 10) rfl <| .cons (t := 11) rfl <| .cons (t := 16) rfl <| .cons (t := 17) rfl <| .cons (t := 35) rfl <| .cons (t := 36) rfl <| .cons (t := 37) rfl <| .nil) ?_
      refine TE.next ?_
      refine T.seq ?_
      refine T.seq ?_
      refine T.region ?_
      refine TL.val (OpV.move rfl) rfl ?_
      refine TL.val (OpV.neq rfl rfl) rfl ?_
      refine TL.said (t := 67) rfl (show _ = Value.bool false from congrArg Value.bool (rfl)) ?_
      refine TL.nil ?_
      refine TE.next ?_
      refine T.no rfl ?_
      refine T.skip ?_
      refine TE.next ?_
      refine T.region ?_
      refine TL.val (OpV.move rfl) rfl ?_
      refine TL.val (OpV.loadA ag_24 rfl (by first | exact Cels.blk P0 rfl | exact Cels.blk P1 rfl | exact Cels.blk P2 rfl | exact Cels.blk P3 rfl | exact Cels.blk P4 rfl | exact Cels.blk P5 rfl | exact Cels.blk P6 rfl | exact Cels.frA hata rfl | exact Cels.ownA (hatg) rfl | exact Cels.ownA (hatq) rfl)) rfl ?_
      refine TL.said (t := 70) rfl (show _ = Value.agg (aL (car1 (ls.map LnA.ln) cols a)).toArray by rw [hcar]; rfl) ?_
      refine TL.slit (qs := #[(0, _)]) (fun _ f => by simp only [List.map_toArray, List.map_cons, List.map_nil]; rw [f.ev (x := .tmp 70) rfl]) (sl_43_1_0 (car1 (ls.map LnA.ln) cols a)) rfl ?_
      intro b71
      obtain ⟨ti72, hi72, hz72, hs72, hb72⟩ := info_parts inf_24
      refine TL.append rfl rfl Tryd.underlying43 hi72 hz72 hs72 hb72 rfl (by omega) (by first | exact P0 | exact P1 | exact P2 | exact P3 | exact P4 | exact P5 | exact P6) (by first | exact Src.nil | exact Src.blk P0 rfl | exact Src.blk P1 rfl | exact Src.blk P2 rfl | exact Src.blk P3 rfl | exact Src.blk P4 rfl | exact Src.blk P5 rfl | exact Src.blk P6 rfl | exact Src.row P0 | exact Src.row P1 | exact Src.row P2 | exact Src.row P3 | exact Src.row P4 | exact Src.row P5 | exact Src.row P6) (fun h => by cases h) rfl (by omega) (by omega) rfl ?_
      clear hi72 hz72 hs72 hb72 ti72
      intro A72 c72 hn72
      refine TL.val (OpV.assign rfl) rfl ?_
      refine TL.nil ?_
      refine TE.out ?_
      refine TE.sub (.cons (t := 0) rfl <| .cons (t := 1) rfl <| .cons (t := 8) rfl <| .cons (t := 10) rfl <| .cons (t := 11) rfl <| .cons (t := 35) rfl <| .cons (t := 36) rfl <| .cons (t := 37) rfl <| .nil) ?_
      refine TE.next ?_
      refine T.region ?_
      refine TL.val (OpV.add rfl rfl (by first | exact IntWalk.i64_in _ ⟨by omega, by omega⟩ | rfl)) rfl ?_
      refine TL.val (OpV.move rfl) rfl ?_
      refine TL.nil ?_
      exact TE.meet (i + 1, out ++ [car1 (ls.map LnA.ln) cols a], A72, c72) ⟨⟨by omega, by rw [take_snoc ha, List.map_append, q2]; rfl, by rw [take_snoc ha, List.all_append, q3]; simp [hP], hn72⟩, by simp only; omega⟩ (.cons (t := 0) (by first | rfl | (simp [lk]; done)) <| .cons (t := 1) (by first | rfl | (simp [lk]; done)) <| .cons (t := 8) (by first | rfl | (simp [lk]; done)) <| .cons (t := 10) (by first | rfl | (simp [lk]; done)) <| .cons (t := 11) (by simp only [List.length_append, List.length_cons, List.length_nil]; rfl) <| .cons (t := 35) (by first | rfl | (simp [lk]; done)) <| .cons (t := 36) (by first | rfl | (simp [lk]; done)) <| .cons (t := 37) (by first | rfl | (simp [lk]; done)) <| .nil) ((by simp only [al_snoc, List.length_append, List.length_cons, List.length_nil]; exact Perm.kle (.cons (by first | exact P0 | exact P1 | exact P2 | exact P3 | exact P4 | exact P5 | exact P6 | exact P7) (.cons (by first | exact P0 | exact P1 | exact P2 | exact P3 | exact P4 | exact P5 | exact P6 | exact P7) (.cons (by first | exact P0 | exact P1 | exact P2 | exact P3 | exact P4 | exact P5 | exact P6 | exact P7) (.cons (by first | exact P0 | exact P1 | exact P2 | exact P3 | exact P4 | exact P5 | exact P6 | exact P7) (.cons (by first | exact P0 | exact P1 | exact P2 | exact P3 | exact P4 | exact P5 | exact P6 | exact P7) .nil)))))))
   ·
    intro ht38
    obtain ⟨q1, q2, q3, q4⟩ := hR
    have hin : ¬ i < n3 := by have h9 := of_decide_eq_false ht38; omega
    rw [List.take_of_length_le (by rw [h3.1]; omega)] at q2 q3
    have hce : carE (ls.map LnA.ln) cols as_ = 0 := by rw [carE, hv, if_pos rfl, ← hge, hf, if_pos rfl, q3]; rfl
    refine T.exit ?_
    refine TE.pass_exit ?_
    refine TE.pass_exit ?_
    refine TE.here ?_
    refine TE.next ?_
    refine T.seq ?_
    refine T.region ?_
    refine TL.val (OpV.move rfl) rfl ?_
    refine TL.val (OpV.assign rfl) rfl ?_
    refine TL.val (OpV.assign rfl) rfl ?_
    refine TL.nil ?_
    refine TE.sub (.cons (t := 6) rfl <| .cons (t := 7) rfl <| .nil) ?_
    refine TE.next ?_
    refine T.ret ?_
    refine TE.retN rfl (.cons (ResV.tmp rfl) <| .cons (ResV.tmp rfl) <| .nil) ?_
    intro wz kz
    obtain ⟨ρq, h9, k2⟩ := KOk.rowOwn (kz.pick (e := .row 24 2 A11 out.length c11 (al out)) (by first | exact P0 | exact P1 | exact P2 | exact P3 | exact P4 | exact P5 | exact P6 | exact P7))
    exact ⟨⟨A11, out.length, c11, ρq⟩, by rw [hce]; rfl, by rw [carV, hce, if_pos rfl, ← q2]; exact SlR.of_row aL_len h9 rfl, Perm.kle (.cons .here .nil) wz k2⟩
end Go.Proofs.YtdmpodpdpncobaaDoor
