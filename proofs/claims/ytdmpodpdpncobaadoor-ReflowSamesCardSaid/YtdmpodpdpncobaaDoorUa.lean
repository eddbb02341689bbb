/-
  The walks of what asks about rows. Condition: the package-level tables hold what they were laid with.
-/
import Derived.Test.YtdmpodpdpncobaaDoorWg
import Derived.Test.YtdmpodpdpncobaaDoorEng6
import Derived.Test.YtdmpodpdpncobaaDoorUnw
namespace Go.Proofs.YtdmpodpdpncobaaDoor
open Go.RowKit
set_option linter.unusedSimpArgs false
set_option linter.unusedVariables false

theorem all_step {α : Type} {f : α → Bool} {l : List α} {i : Nat} {x : α} (h : l[i]? = some x) : (l.take (i + 1)).all f = ((l.take i).all f && f x) := by
  rw [take_snoc h, List.all_append]; simp
theorem vLs_len {X : List Ln} (h : ¬ (X.length : Int) ≤ 1073741824) : vLs X = false := by simp only [vLs, decide_eq_false h, Bool.false_and]
theorem vLs_bad {X : List Ln} {i : Nat} {x : Ln} (h : X[i]? = some x) (hv : vLine x.cells = false) : vLs X = false := by
  have : (X.all fun x => vLine x.cells) = false := by
    rw [List.all_eq_false]
    exact ⟨x, List.mem_of_getElem? h, by rw [hv]; decide⟩
  rw [vLs, this, Bool.and_false]
theorem vLs_ok {X : List Ln} (h : (X.length : Int) ≤ 1073741824) (ha : (X.all fun x => vLine x.cells) = true) : vLs X = true := by rw [vLs, ha, decide_eq_true h]; rfl
theorem keptN_nil {x y : List Cl} (h : x.length = 0) : keptN x y = 0 := by
  obtain rfl := List.length_eq_zero_iff.1 h
  rfl
theorem keptN_some {x y : List Cl} {c : Cl} (h : x[x.length - 1]? = some c) : keptN x y = if isB c && wideH y then x.length - 1 else x.length := by unfold keptN; simp only [h]
theorem wideH_nil {y : List Cl} (h : y.length = 0) : wideH y = false := by
  obtain rfl := List.length_eq_zero_iff.1 h
  rfl
theorem wideH_get {y : List Cl} {z : Cl} (h : y[0]? = some z) : wideH y = (z.w == 2) := by
  cases y with
  | nil => simp at h
  | cons a l => simp at h; rw [h]; rfl
theorem SlR.slice3 {α : Type} {z : Nat} {E : α → List Value → Prop} {σ : Nat → Option Obj} {A : Option Addr} {n c hi : Nat} {xs : List α} (h : SlR z E σ A n c xs) (h2 : hi ≤ n) : SlR z E σ (subA A hi 0 z) hi hi (xs.take hi) := by
  refine ⟨by have := h.1; simp; omega, Nat.le_refl _, by have := h.2.1; have := h.2.2.1; omega, fun hA => ?_, fun hn => ?_⟩
  · unfold subA at hA
    split at hA
    · assumption
    · cases A with
      | none => have := h.2.2.2.1 rfl; have := h.2.1; omega
      | some a => cases hA
  · obtain ⟨b, o, hA, hc⟩ := h.2.2.2.2 (by omega)
    refine ⟨b, o, by rw [subA, if_neg (by omega), hA, Option.map_some, add_plain]; simp, fun i x hx => ?_⟩
    rw [List.getElem?_take] at hx
    split at hx
    · exact hc i x hx
    · cases hx
set_option maxRecDepth 100000 in
set_option maxHeartbeats 400000 in
theorem empty_c (c : Cl) (w : World) : Calls Tryd.prog 59 #[.agg c.l.toArray] w (Ret (.bool (isB c)) w) := by
 refine calls_T (vs := [.agg c.l.toArray]) (L0 := [(0, .agg c.l.toArray)]) Tryd.func59 rfl rfl rfl rfl (KOk.none w) ?_
 refine T.seq ?_
 refine T.region ?_
 refine TL.boxA rfl rfl ?_
 intro b1
 refine TL.val (OpV.assign rfl) rfl ?_
 refine TL.nil ?_
 refine TE.next ?_
 refine T.seq ?_
 refine T.region ?_
 refine TL.val (OpV.loadA ag_58 rfl (by first | exact Cels.blk P0 rfl | exact Cels.blk P1 rfl | exact Cels.blk P2 rfl | exact Cels.blk P3 rfl)) rfl ?_
 refine TL.val (OpV.build (qs := #[(2, _)]) (fun _ f => by simp only [List.map_toArray, List.map_cons, List.map_nil]; rw [f.ev (x := .const (.int .i64 1)) rfl]) (bld_58_2 1 )) rfl ?_
 refine TL.val (OpV.aeql rfl rfl eg_58 (eq_58 c (blank Pen.zero))) rfl ?_
 refine TL.val (OpV.assign rfl) rfl ?_
 refine TL.nil ?_
 refine TE.next ?_
 refine T.ret ?_
 refine TE.ret1 rfl (ResV.tmp rfl) ?_
 exact fun w1 k1 => ⟨rfl, k1.bel⟩
set_option maxRecDepth 100000 in
set_option maxHeartbeats 400000 in
theorem cempty_c (c : Cl) (w : World) : Calls Tryd.prog 84 #[.agg c.l.toArray] w (Ret (.bool (isB c)) w) := by
 refine calls_T (vs := [.agg c.l.toArray]) (L0 := [(0, .agg c.l.toArray)]) Tryd.func84 rfl rfl rfl rfl (KOk.none w) ?_
 refine T.seq ?_
 refine T.region ?_
 refine TL.boxA rfl rfl ?_
 intro b1
 refine TL.val (OpV.assign rfl) rfl ?_
 refine TL.nil ?_
 refine TE.next ?_
 refine T.seq ?_
 refine T.quiet mix (by kernel_rfl) ?_
 refine TQ.val (OpV.loadA ag_58 rfl (by first | exact Cels.blk P0 rfl | exact Cels.blk P1 rfl | exact Cels.blk P2 rfl | exact Cels.blk P3 rfl)) rfl ?_
 refine TQ.val (OpV.build (qs := #[]) (fun _ _ => by simp) (bld_56)) rfl ?_
 refine TQ.call (g := 89) rfl go_89 rfl (fun w1 k1 => blank_c Pen.zero w1) rfl ?_
 refine TQ.val (OpV.aeql rfl rfl eg_58 (eq_58 c (blank Pen.zero))) rfl ?_
 refine TQ.val (OpV.assign rfl) rfl ?_
 refine TQ.nil ?_
 refine TE.next ?_
 refine T.ret ?_
 refine TE.ret1 rfl (ResV.tmp rfl) ?_
 exact fun w1 k1 => ⟨rfl, k1.bel⟩
set_option maxRecDepth 100000 in
set_option maxHeartbeats 400000 in
theorem lvalid_c {σ : Nat → Option Obj} (x : LnA) (w : World) (L : LaidW w) (h : CsR σ x.A x.n x.c x.cells) (hs : ∀ b o, σ b = some o → w.heap[b]? = some o) : Calls Tryd.prog 82 #[.agg x.l.toArray] w (Ret (.bool (vLine x.cells)) w) := by
 have hn63 := h.2.1
 have hc63 := h.2.2.1
 have hl1 := h.1
 refine calls_T (vs := [.agg x.l.toArray]) (L0 := [(0, .agg x.l.toArray)]) Tryd.func82 rfl rfl rfl rfl (KOk.fr1 hs) ?_
 refine T.seq ?_
 refine T.region ?_
 refine TL.boxA rfl rfl ?_
 intro b1
 refine TL.val (OpV.assign rfl) rfl ?_
 refine TL.nil ?_
 refine TE.next ?_
 refine T.seq ?_
 refine T.region ?_
 refine TL.val (OpV.fieldAddr rfl fo_65_0) rfl ?_
 refine TL.val (OpV.load pl_35 rfl (by first | exact Cel.blk P0 rfl | exact Cel.blk P1 rfl | exact Cel.blk P2 rfl | exact Cel.blk P3 rfl)) rfl ?_
 refine TL.val (OpV.len Tryd.underlying35 rfl) rfl ?_
 refine TL.val (OpV.leq rfl rfl) rfl ?_
 refine TL.val (OpV.move rfl) rfl ?_
 refine TL.part (t := 7) rfl ?_ ?_
 ·
  intro hg7
  refine TL.open rfl rfl ?_
  refine TL.val (OpV.fieldAddr rfl fo_65_0) rfl ?_
  refine TL.open rfl rfl ?_
  refine TL.val (OpV.load pl_35 rfl (by first | exact Cel.blk P0 rfl | exact Cel.blk P1 rfl | exact Cel.blk P2 rfl | exact Cel.blk P3 rfl)) rfl ?_
  refine TL.open rfl rfl ?_
  refine TL.call (g := 88) rfl go_88 rfl (fun w1 k1 => crow_c w1 (L.below k1.bel) h (k1.get (e := .fr σ) (by first | exact P0 | exact P1 | exact P2 | exact P3 | exact P4))) rfl ?_
  refine TL.val ((by first | exact OpV.pick_t rfl rfl | exact OpV.pick_f rfl rfl)) rfl ?_
  refine TL.val (OpV.assign rfl) rfl ?_
  refine TL.nil ?_
  refine TE.sub (.cons (t := 2) rfl <| .nil) ?_
  refine TE.next ?_
  refine T.ret ?_
  refine TE.ret1 rfl (ResV.tmp rfl) ?_
  exact fun w1 k1 => ⟨ret_bool (by grind [vLine]), k1.bel⟩
 ·
  intro hg7
  refine TL.shut rfl rfl ?_
  refine TL.shut rfl rfl ?_
  refine TL.shut rfl rfl ?_
  refine TL.val ((by first | exact OpV.pick_t rfl rfl | exact OpV.pick_f rfl rfl)) rfl ?_
  refine TL.val (OpV.assign rfl) rfl ?_
  refine TL.nil ?_
  refine TE.sub (.cons (t := 2) rfl <| .nil) ?_
  refine TE.next ?_
  refine T.ret ?_
  refine TE.ret1 rfl (ResV.tmp rfl) ?_
  exact fun w1 k1 => ⟨ret_bool (by grind [vLine]), k1.bel⟩
set_option maxRecDepth 100000 in
set_option maxHeartbeats 400000 in
theorem columns_c (n : Int) (w : World) : Calls Tryd.prog 80 #[.int .i64 n] w (Ret (.bool (decide (0 ≤ n) && decide (n ≤ 1000))) w) := by
 refine calls_T (vs := [.int .i64 n]) (L0 := [(0, .int .i64 n)]) Tryd.func80 rfl rfl rfl rfl (KOk.none w) ?_
 refine T.seq ?_
 refine T.region ?_
 refine TL.val (OpV.assign rfl) rfl ?_
 refine TL.nil ?_
 refine TE.next ?_
 refine T.seq ?_
 refine T.region ?_
 refine TL.val (OpV.move rfl) rfl ?_
 refine TL.val (OpV.geq rfl rfl) rfl ?_
 refine TL.val (OpV.move rfl) rfl ?_
 refine TL.part (t := 5) rfl ?_ ?_
 ·
  intro hg5
  refine TL.open rfl rfl ?_
  refine TL.val (OpV.move rfl) rfl ?_
  refine TL.open rfl rfl ?_
  refine TL.val (OpV.leq rfl rfl) rfl ?_
  refine TL.val ((by first | exact OpV.pick_t rfl rfl | exact OpV.pick_f rfl rfl)) rfl ?_
  refine TL.val (OpV.assign rfl) rfl ?_
  refine TL.nil ?_
  refine TE.sub (.cons (t := 2) rfl <| .nil) ?_
  refine TE.next ?_
  refine T.ret ?_
  refine TE.ret1 rfl (ResV.tmp rfl) ?_
  exact fun w1 k1 => ⟨ret_bool (by grind), k1.bel⟩
 ·
  intro hg5
  refine TL.shut rfl rfl ?_
  refine TL.shut rfl rfl ?_
  refine TL.val ((by first | exact OpV.pick_t rfl rfl | exact OpV.pick_f rfl rfl)) rfl ?_
  refine TL.val (OpV.assign rfl) rfl ?_
  refine TL.nil ?_
  refine TE.sub (.cons (t := 2) rfl <| .nil) ?_
  refine TE.next ?_
  refine T.ret ?_
  refine TE.ret1 rfl (ResV.tmp rfl) ?_
  exact fun w1 k1 => ⟨ret_bool (by grind), k1.bel⟩
set_option maxRecDepth 100000 in
set_option maxHeartbeats 400000 in
theorem rlvalid_c {σ : Nat → Option Obj} (x : LnA) (w : World) (h : CsR σ x.A x.n x.c x.cells) (hs : ∀ b o, σ b = some o → w.heap[b]? = some o) : Calls Tryd.prog 52 #[.agg x.l.toArray] w (Ret (.bool (vLine x.cells)) w) := by
 have hn63 := h.2.1
 have hc63 := h.2.2.1
 have hl1 := h.1
 refine calls_T (vs := [.agg x.l.toArray]) (L0 := [(0, .agg x.l.toArray)]) Tryd.func52 rfl rfl rfl rfl (KOk.fr1 hs) ?_
 refine T.seq ?_
 refine T.region ?_
 refine TL.boxA rfl rfl ?_
 intro b1
 refine TL.val (OpV.assign rfl) rfl ?_
 refine TL.nil ?_
 refine TE.next ?_
 refine T.seq ?_
 refine T.region ?_
 refine TL.val (OpV.fieldAddr rfl fo_65_0) rfl ?_
 refine TL.val (OpV.load pl_35 rfl (by first | exact Cel.blk P0 rfl | exact Cel.blk P1 rfl | exact Cel.blk P2 rfl | exact Cel.blk P3 rfl)) rfl ?_
 refine TL.val (OpV.len Tryd.underlying35 rfl) rfl ?_
 refine TL.call (g := 80) rfl go_80 rfl (fun w1 k1 => columns_c _ w1) rfl ?_
 refine TL.val (OpV.move rfl) rfl ?_
 refine TL.part (t := 7) rfl ?_ ?_
 ·
  intro hg7
  refine TL.open rfl rfl ?_
  refine TL.val (OpV.fieldAddr rfl fo_65_0) rfl ?_
  refine TL.open rfl rfl ?_
  refine TL.val (OpV.load pl_35 rfl (by first | exact Cel.blk P0 rfl | exact Cel.blk P1 rfl | exact Cel.blk P2 rfl | exact Cel.blk P3 rfl)) rfl ?_
  refine TL.open rfl rfl ?_
  refine TL.call (g := 58) rfl go_58 rfl (fun w1 k1 => rrow_c w1 h (k1.get (e := .fr σ) (by first | exact P0 | exact P1 | exact P2 | exact P3 | exact P4))) rfl ?_
  refine TL.val ((by first | exact OpV.pick_t rfl rfl | exact OpV.pick_f rfl rfl)) rfl ?_
  refine TL.val (OpV.assign rfl) rfl ?_
  refine TL.nil ?_
  refine TE.sub (.cons (t := 2) rfl <| .nil) ?_
  refine TE.next ?_
  refine T.ret ?_
  refine TE.ret1 rfl (ResV.tmp rfl) ?_
  exact fun w1 k1 => ⟨ret_bool (by have h9 : decide ((0 : Int) ≤ (x.n : Int)) = true := decide_eq_true (by omega); grind [vLine]), k1.bel⟩
 ·
  intro hg7
  refine TL.shut rfl rfl ?_
  refine TL.shut rfl rfl ?_
  refine TL.shut rfl rfl ?_
  refine TL.val ((by first | exact OpV.pick_t rfl rfl | exact OpV.pick_f rfl rfl)) rfl ?_
  refine TL.val (OpV.assign rfl) rfl ?_
  refine TL.nil ?_
  refine TE.sub (.cons (t := 2) rfl <| .nil) ?_
  refine TE.next ?_
  refine T.ret ?_
  refine TE.ret1 rfl (ResV.tmp rfl) ?_
  exact fun w1 k1 => ⟨ret_bool (by have h9 : decide ((0 : Int) ≤ (x.n : Int)) = true := decide_eq_true (by omega); grind [vLine]), k1.bel⟩
set_option maxRecDepth 100000 in
set_option maxHeartbeats 400000 in
theorem uvalid_c {σ : Nat → Option Obj} {A : Option Addr} {n c : Nat} {ls : List LnA} (w : World) (L : LaidW w) (h : LsA σ A n c ls) (hs : ∀ b o, σ b = some o → w.heap[b]? = some o) : Calls Tryd.prog 60 #[.slice A n c] w (Ret (.bool (vLs (ls.map LnA.ln))) w) := by
 have hn63 := h.1.2.1
 have hc63 := h.1.2.2.1
 have hl1 := h.1.1
 have hlm : (ls.map LnA.ln).length = n := by rw [List.length_map]; exact hl1
 refine calls_T (vs := [.slice A n c]) (L0 := [(0, .slice A n c)]) Tryd.func60 rfl rfl rfl rfl (KOk.fr1 hs) ?_
 refine T.seq ?_
 refine T.region ?_
 refine TL.val (OpV.assign rfl) rfl ?_
 refine TL.nil ?_
 refine TE.next ?_
 refine T.seq ?_
 refine T.seq ?_
 refine T.region ?_
 refine TL.val (OpV.move rfl) rfl ?_
 refine TL.val (OpV.len Tryd.underlying22 rfl) rfl ?_
 refine TL.val (OpV.gtr rfl rfl) rfl ?_
 refine TL.nil ?_
 refine TE.next ?_
 refine T.cond rfl ?_ ?_
 ·
  intro ht7
  have hv := vLs_len (X := ls.map LnA.ln) (by have h9 := of_decide_eq_true ht7; omega)
  refine T.seq ?_
  refine T.region ?_
  refine TL.val (OpV.assign rfl) rfl ?_
  refine TL.nil ?_
  refine TE.next ?_
  refine T.ret ?_
  refine TE.pass_ret ?_
  refine TE.ret1 rfl (ResV.tmp rfl) ?_
  exact fun w1 k1 => ⟨ret_bool hv.symm, k1.bel⟩
 ·
  intro ht7
  have hn30 : n ≤ 1073741824 := by have h9 := of_decide_eq_false ht7; omega
  refine T.skip ?_
  refine TE.next ?_
  refine T.seq ?_
  refine T.seq ?_
  refine T.region ?_
  refine TL.val (OpV.move rfl) rfl ?_
  refine TL.val (OpV.len Tryd.underlying22 rfl) rfl ?_
  refine TL.val (OpV.move rfl) rfl ?_
  refine TL.nil ?_
  refine TE.next ?_
  refine T.block ?_
  refine T.loop (ι := Nat) (fun i => i ≤ n ∧ ((ls.map LnA.ln).take i).all (fun x => vLine x.cells) = true) (fun i => (n - i)) (fun i => [(8, .slice A n c), (9, .int .i64 (n : Int)), (10, .int .i64 (i : Int))]) (fun i => [.fr σ]) 0 ⟨Nat.zero_le _, rfl⟩ (.cons (t := 8) rfl <| .cons (t := 9) rfl <| .cons (t := 10) rfl <| .nil) (Kle.refl) ?_
  rintro i hR
  refine T.seq ?_
  refine T.region ?_
  refine TL.val (OpV.lss rfl rfl) rfl ?_
  refine TL.nil ?_
  refine TE.next ?_
  refine T.seq ?_
  refine T.cond rfl ?_ ?_
  ·
   intro ht11
   have hi : i < n := by have h9 := of_decide_eq_true ht11; omega
   obtain ⟨x, hx⟩ := get_of_lt h.1.1 (show i < n by omega)
   obtain ⟨br, or, hA6, hat6⟩ := h.1.2.2.2.2 (by omega)
   obtain ⟨_, rfl, _, hatl⟩ := hat6 _ x hx
   have hcx := h.2 x (List.mem_of_getElem? hx)
   have hX : (ls.map LnA.ln)[i]? = some x.ln := by rw [List.getElem?_map, hx]; rfl
   refine T.skip ?_
   refine TE.next ?_
   refine T.seq ?_
   refine T.block ?_
   refine T.seq ?_
   refine T.region ?_
   refine TL.val (OpV.indexAddr se_22 rfl hA6 rfl (by rfl) (by first | omega | simp)) rfl ?_
   refine TL.val (OpV.loadA ag_65 rfl (by first | exact Cels.blk P0 rfl | exact Cels.blk P1 rfl | exact Cels.blk P2 rfl | exact Cels.blk P3 rfl | exact Cels.frA hatl rfl)) rfl ?_
   refine TL.alloc zo_65 rfl ?_
   intro b4
   first
     | refine TL.storeAll rfl rfl szz_65 rfl rfl rfl (by first | exact P0 | exact P1 | exact P2 | exact P3) (by rfl) ?_
     | refine TL.store rfl rfl szz_65 rfl rfl rfl (by first | exact P0 | exact P1 | exact P2 | exact P3) (by first | exact Nat.le_of_ble_eq_true rfl | (simp; done) | (simp; omega)) (by simp only [LnA.l, putL, List.take_succ_cons, List.take_zero, List.drop_succ_cons, List.drop_zero, List.cons_append, List.nil_append, List.length_cons, List.length_nil, Nat.reduceAdd]; rfl) ?_
   refine TL.nil ?_
   refine TE.next ?_
   refine T.seq ?_
   refine T.region ?_
   refine TL.val (OpV.loadA ag_65 rfl (by first | exact Cels.blk P0 rfl | exact Cels.blk P1 rfl | exact Cels.blk P2 rfl | exact Cels.blk P3 rfl | exact Cels.frA hatl rfl)) rfl ?_
   refine TL.call (g := 82) rfl go_82 rfl (fun w1 k1 => lvalid_c x w1 (L.below k1.bel) hcx (k1.get (e := .fr σ) (by first | exact P0 | exact P1 | exact P2 | exact P3 | exact P4))) rfl ?_
   refine TL.val (OpV.not rfl) rfl ?_
   refine TL.nil ?_
   refine TE.next ?_
   refine T.cond rfl ?_ ?_
   ·
    intro ht16
    have hv := vLs_bad hX (show vLine x.cells = false by simpa using ht16)
    refine T.seq ?_
    refine T.region ?_
    refine TL.val (OpV.assign rfl) rfl ?_
    refine TL.nil ?_
    refine TE.sub (.cons (t := 2) rfl <| .nil) ?_
    refine TE.next ?_
    refine T.ret ?_
    refine TE.out_ret ?_
    refine TE.pass_ret ?_
    refine TE.pass_ret ?_
    refine TE.out_ret ?_
    refine TE.pass_ret ?_
    refine TE.ret1 rfl (ResV.tmp rfl) ?_
    exact fun w1 k1 => ⟨ret_bool hv.symm, k1.bel⟩
   ·
    intro ht16
    have hvx : vLine x.cells = true := by simpa using ht16
    refine T.skip ?_
    refine TE.out ?_
    refine TE.sub (.cons (t := 8) rfl <| .cons (t := 9) rfl <| .cons (t := 10) rfl <| .nil) ?_
    refine TE.next ?_
    refine T.region ?_
    refine TL.val (OpV.add rfl rfl (by first | exact IntWalk.i64_in _ ⟨by omega, by omega⟩ | rfl)) rfl ?_
    refine TL.val (OpV.move rfl) rfl ?_
    refine TL.nil ?_
    exact TE.meet (i + 1) ⟨⟨by omega, by rw [all_step hX, hR.2]; exact hvx⟩, by omega⟩ (.cons (t := 8) (by first | rfl | (simp [lk]; done)) <| .cons (t := 9) (by first | rfl | (simp [lk]; done)) <| .cons (t := 10) (by first | rfl | (simp [lk]; done)) <| .nil) (Perm.kle (.cons (by first | exact P0 | exact P1 | exact P2 | exact P3 | exact P4) .nil))
  ·
   intro ht11
   have hin : ¬ i < n := by have h9 := of_decide_eq_false ht11; omega
   have hall : ((ls.map LnA.ln).all fun x => vLine x.cells) = true := by have h9 := hR.2; rwa [List.take_of_length_le (by omega)] at h9
   have hv := vLs_ok (by omega) hall
   refine T.exit ?_
   refine TE.pass_exit ?_
   refine TE.pass_exit ?_
   refine TE.here ?_
   refine TE.next ?_
   refine T.seq ?_
   refine T.region ?_
   refine TL.val (OpV.assign rfl) rfl ?_
   refine TL.nil ?_
   refine TE.next ?_
   refine T.ret ?_
   refine TE.ret1 rfl (ResV.tmp rfl) ?_
   exact fun w1 k1 => ⟨ret_bool hv.symm, k1.bel⟩
set_option maxRecDepth 100000 in
set_option maxHeartbeats 400000 in
theorem ruvalid_c {σ : Nat → Option Obj} {A : Option Addr} {n c : Nat} {ls : List LnA} (w : World) (h : LsA σ A n c ls) (hs : ∀ b o, σ b = some o → w.heap[b]? = some o) : Calls Tryd.prog 16 #[.slice A n c] w (Ret (.bool (vLs (ls.map LnA.ln))) w) := by
 have hn63 := h.1.2.1
 have hc63 := h.1.2.2.1
 have hl1 := h.1.1
 have hlm : (ls.map LnA.ln).length = n := by rw [List.length_map]; exact hl1
 refine calls_T (vs := [.slice A n c]) (L0 := [(0, .slice A n c)]) Tryd.func16 rfl rfl rfl rfl (KOk.fr1 hs) ?_
 refine T.seq ?_
 refine T.region ?_
 refine TL.val (OpV.assign rfl) rfl ?_
 refine TL.nil ?_
 refine TE.next ?_
 refine T.seq ?_
 refine T.seq ?_
 refine T.region ?_
 refine TL.val (OpV.assign rfl) rfl ?_
 refine TL.nil ?_
 refine TE.next ?_
 refine T.block ?_
 refine T.loop (ι := Nat) (fun i => i ≤ n ∧ ((ls.map LnA.ln).take i).all (fun x => vLine x.cells) = true) (fun i => (n - i)) (fun i => [(0, .slice A n c), (3, .int .i64 (i : Int))]) (fun i => [.fr σ]) 0 ⟨Nat.zero_le _, rfl⟩ (.cons (t := 0) rfl <| .cons (t := 3) rfl <| .nil) (Kle.refl) ?_
 rintro i hR
 refine T.seq ?_
 refine T.seq ?_
 refine T.region ?_
 refine TL.val (OpV.move rfl) rfl ?_
 refine TL.val (OpV.move rfl) rfl ?_
 refine TL.val (OpV.len Tryd.underlying22 rfl) rfl ?_
 refine TL.val (OpV.lss rfl rfl) rfl ?_
 refine TL.nil ?_
 refine TE.next ?_
 refine T.cond rfl ?_ ?_
 ·
  intro ht7
  have hi : i < n := by have h9 := of_decide_eq_true ht7; omega
  obtain ⟨x, hx⟩ := get_of_lt h.1.1 (show i < n by omega)
  obtain ⟨br, or, hA6, hat6⟩ := h.1.2.2.2.2 (by omega)
  obtain ⟨_, rfl, _, hatl⟩ := hat6 _ x hx
  have hcx := h.2 x (List.mem_of_getElem? hx)
  have hX : (ls.map LnA.ln)[i]? = some x.ln := by rw [List.getElem?_map, hx]; rfl
  refine T.skip ?_
  refine TE.next ?_
  refine T.seq ?_
  refine T.block ?_
  refine T.seq ?_
  refine T.region ?_
  refine TL.val (OpV.move rfl) rfl ?_
  refine TL.val (OpV.move rfl) rfl ?_
  refine TL.val (OpV.indexAddr se_22 rfl hA6 rfl (by rfl) (by first | omega | simp)) rfl ?_
  refine TL.val (OpV.loadA ag_65 rfl (by first | exact Cels.blk P0 rfl | exact Cels.blk P1 rfl | exact Cels.blk P2 rfl | exact Cels.blk P3 rfl | exact Cels.frA hatl rfl)) rfl ?_
  refine TL.call (g := 52) rfl go_52 rfl (fun w1 k1 => rlvalid_c x w1 hcx (k1.get (e := .fr σ) (by first | exact P0 | exact P1 | exact P2 | exact P3 | exact P4))) rfl ?_
  refine TL.val (OpV.not rfl) rfl ?_
  refine TL.nil ?_
  refine TE.sub (.cons (t := 0) rfl <| .cons (t := 3) rfl <| .cons (t := 15) rfl <| .nil) ?_
  refine TE.next ?_
  refine T.cond rfl ?_ ?_
  ·
   intro ht15
   have hv := vLs_bad hX (show vLine x.cells = false by simpa using ht15)
   refine T.seq ?_
   refine T.region ?_
   refine TL.val (OpV.assign rfl) rfl ?_
   refine TL.nil ?_
   refine TE.next ?_
   refine T.ret ?_
   refine TE.out_ret ?_
   refine TE.pass_ret ?_
   refine TE.pass_ret ?_
   refine TE.out_ret ?_
   refine TE.pass_ret ?_
   refine TE.ret1 rfl (ResV.tmp rfl) ?_
   exact fun w1 k1 => ⟨ret_bool hv.symm, k1.bel⟩
  ·
   intro ht15
   have hvx : vLine x.cells = true := by simpa using ht15
   refine T.skip ?_
   refine TE.out ?_
   refine TE.next ?_
   refine T.region ?_
   refine TL.val (OpV.move rfl) rfl ?_
   refine TL.val (OpV.add rfl rfl (by first | exact IntWalk.i64_in _ ⟨by omega, by omega⟩ | rfl)) rfl ?_
   refine TL.val (OpV.assign rfl) rfl ?_
   refine TL.nil ?_
   exact TE.meet (i + 1) ⟨⟨by omega, by rw [all_step hX, hR.2]; exact hvx⟩, by omega⟩ (.cons (t := 0) (by first | rfl | (simp [lk]; done)) <| .cons (t := 3) (by first | rfl | (simp [lk]; done)) <| .nil) (Perm.kle (.cons (by first | exact P0 | exact P1 | exact P2 | exact P3 | exact P4) .nil))
 ·
  intro ht7
  have hin : ¬ i < n := by have h9 := of_decide_eq_false ht7; omega
  have hall : ((ls.map LnA.ln).all fun x => vLine x.cells) = true := by have h9 := hR.2; rwa [List.take_of_length_le (by omega)] at h9
  refine T.exit ?_
  refine TE.pass_exit ?_
  refine TE.pass_exit ?_
  refine TE.here ?_
  refine TE.next ?_
  refine T.seq ?_
  refine T.region ?_
  refine TL.val (OpV.move rfl) rfl ?_
  refine TL.val (OpV.len Tryd.underlying22 rfl) rfl ?_
  refine TL.val (OpV.leq rfl rfl) rfl ?_
  refine TL.val (OpV.assign rfl) rfl ?_
  refine TL.nil ?_
  refine TE.sub (.cons (t := 2) rfl <| .nil) ?_
  refine TE.next ?_
  refine T.ret ?_
  refine TE.ret1 rfl (ResV.tmp rfl) ?_
  exact fun w1 k1 => ⟨ret_bool (by rw [vLs, hall, hlm, Bool.and_true]), k1.bel⟩
set_option maxRecDepth 100000 in
set_option maxHeartbeats 1000000 in
theorem csame_c {σ τ : Nat → Option Obj} {A A2 : Option Addr} {n c n2 c2 : Nat} {xs ys : List Cl} (w : World) (h : CsR σ A n c xs) (h2 : CsR τ A2 n2 c2 ys) (hs : ∀ b o, σ b = some o → w.heap[b]? = some o) (ht : ∀ b o, τ b = some o → w.heap[b]? = some o) : Calls Tryd.prog 78 #[.slice A n c, .slice A2 n2 c2] w (Ret (.bool (decide (xs = ys))) w) := by
 have hn63 := h.2.1
 have hc63 := h.2.2.1
 have hn64 := h2.2.1
 have hc64 := h2.2.2.1
 have hl1 := h.1
 have hl2 := h2.1
 refine calls_T (vs := [.slice A n c, .slice A2 n2 c2]) (L0 := [(0, .slice A n c), (1, .slice A2 n2 c2)]) Tryd.func78 rfl rfl rfl rfl (KOk.frs hs ht) ?_
 refine T.seq ?_
 refine T.region ?_
 refine TL.val (OpV.assign rfl) rfl ?_
 refine TL.nil ?_
 refine TE.next ?_
 refine T.seq ?_
 refine T.seq ?_
 refine T.region ?_
 refine TL.val (OpV.move rfl) rfl ?_
 refine TL.val (OpV.len Tryd.underlying35 rfl) rfl ?_
 refine TL.val (OpV.move rfl) rfl ?_
 refine TL.val (OpV.len Tryd.underlying35 rfl) rfl ?_
 refine TL.val (OpV.neq rfl rfl) rfl ?_
 refine TL.nil ?_
 refine TE.next ?_
 refine T.cond rfl ?_ ?_
 ·
  intro ht10
  have hnn : n ≠ n2 := by have h9 : ((n : Int) != (n2 : Int)) = true := ht10; simp at h9; omega
  refine T.seq ?_
  refine T.region ?_
  refine TL.val (OpV.assign rfl) rfl ?_
  refine TL.nil ?_
  refine TE.sub (.cons (t := 4) rfl <| .nil) ?_
  refine TE.next ?_
  refine T.ret ?_
  refine TE.pass_ret ?_
  refine TE.ret1 rfl (ResV.tmp rfl) ?_
  exact fun w1 k1 => ⟨ret_bool (by symm; rw [decide_eq_false_iff_not]; intro e; rw [e] at hl1; omega), k1.bel⟩
 ·
  intro ht10
  have hnn : n = n2 := by have h9 : ((n : Int) != (n2 : Int)) = false := ht10; simp at h9; omega
  refine T.skip ?_
  refine TE.next ?_
  refine T.seq ?_
  refine T.seq ?_
  refine T.region ?_
  refine TL.val (OpV.assign rfl) rfl ?_
  refine TL.nil ?_
  refine TE.next ?_
  refine T.block ?_
  refine T.loop (ι := Nat) (fun i => i ≤ n ∧ xs.take i = ys.take i) (fun i => n - i) (fun i => [(0, .slice A n c), (1, .slice A2 n2 c2), (5, .int .i64 (i : Int))]) (fun i => [.fr σ, .fr τ]) 0 ⟨Nat.zero_le _, rfl⟩ (.cons (t := 0) rfl <| .cons (t := 1) rfl <| .cons (t := 5) rfl <| .nil) (Kle.refl) ?_
  rintro i hR
  refine T.seq ?_
  refine T.seq ?_
  refine T.region ?_
  refine TL.val (OpV.move rfl) rfl ?_
  refine TL.val (OpV.move rfl) rfl ?_
  refine TL.val (OpV.len Tryd.underlying35 rfl) rfl ?_
  refine TL.val (OpV.lss rfl rfl) rfl ?_
  refine TL.nil ?_
  refine TE.next ?_
  refine T.cond rfl ?_ ?_
  ·
   intro ht14
   have hi : i < n := by have h9 := of_decide_eq_true ht14; omega
   obtain ⟨x, hx⟩ := get_of_lt hl1 hi
   obtain ⟨y, hy⟩ := get_of_lt hl2 (show i < n2 by omega)
   obtain ⟨b, o, hA, hat⟩ := h.pos (by omega)
   obtain ⟨b2, o2, hA2, hat2⟩ := h2.pos (by omega)
   have hatx := hat i x hx
   have haty := hat2 i y hy
   refine T.skip ?_
   refine TE.next ?_
   refine T.seq ?_
   refine T.block ?_
   refine T.seq ?_
   refine T.quiet mix (by kernel_rfl) ?_
   refine TQ.val (OpV.move rfl) rfl ?_
   refine TQ.val (OpV.move rfl) rfl ?_
   refine TQ.val (OpV.indexAddr se_35 rfl hA rfl (by rfl) (by first | omega | simp)) rfl ?_
   refine TQ.val (OpV.loadA ag_58 rfl (by first | exact Cels.blk P0 rfl | exact Cels.blk P1 rfl | exact Cels.blk P2 rfl | exact Cels.blk P3 rfl | exact Cels.frA hatx rfl | exact Cels.frA haty rfl)) rfl ?_
   refine TQ.val (OpV.move rfl) rfl ?_
   refine TQ.val (OpV.move rfl) rfl ?_
   refine TQ.val (OpV.indexAddr se_35 rfl hA2 rfl (by rfl) (by first | omega | simp)) rfl ?_
   refine TQ.val (OpV.loadA ag_58 rfl (by first | exact Cels.blk P0 rfl | exact Cels.blk P1 rfl | exact Cels.blk P2 rfl | exact Cels.blk P3 rfl | exact Cels.frA hatx rfl | exact Cels.frA haty rfl)) rfl ?_
   refine TQ.val (OpV.aneq rfl rfl eg_58 (eq_58 _ _)) rfl ?_
   refine TQ.nil ?_
   refine TE.sub (.cons (t := 0) rfl <| .cons (t := 1) rfl <| .cons (t := 5) rfl <| .cons (t := 25) rfl <| .nil) ?_
   refine TE.next ?_
   refine T.cond rfl ?_ ?_
   ·
    intro ht25
    refine T.seq ?_
    refine T.region ?_
    refine TL.val (OpV.assign rfl) rfl ?_
    refine TL.nil ?_
    refine TE.next ?_
    refine T.ret ?_
    refine TE.out_ret ?_
    refine TE.pass_ret ?_
    refine TE.pass_ret ?_
    refine TE.out_ret ?_
    refine TE.pass_ret ?_
    refine TE.ret1 rfl (ResV.tmp rfl) ?_
    exact fun w1 k1 => ⟨ret_bool (by symm; rw [decide_eq_false_iff_not]; intro e; rw [e, hy] at hx; cases hx; simp at ht25), k1.bel⟩
   ·
    intro ht25
    refine T.skip ?_
    refine TE.out ?_
    refine TE.next ?_
    refine T.region ?_
    refine TL.val (OpV.move rfl) rfl ?_
    refine TL.val (OpV.add rfl rfl (by first | exact IntWalk.i64_in _ ⟨by omega, by omega⟩ | rfl)) rfl ?_
    refine TL.val (OpV.assign rfl) rfl ?_
    refine TL.nil ?_
    exact TE.meet (i + 1) ⟨⟨by omega, by rw [List.take_add_one, List.take_add_one, hR.2, hx, hy, show x = y by simpa using ht25]⟩, by omega⟩ (.cons (t := 0) (by first | rfl | (simp [lk]; done)) <| .cons (t := 1) (by first | rfl | (simp [lk]; done)) <| .cons (t := 5) (by first | rfl | (simp [lk]; done)) <| .nil) (Kle.refl)
  ·
   intro ht14
   have hin : i = n := by have h9 := of_decide_eq_false ht14; have h8 := hR.1; omega
   refine T.exit ?_
   refine TE.pass_exit ?_
   refine TE.pass_exit ?_
   refine TE.here ?_
   refine TE.next ?_
   refine T.seq ?_
   refine T.region ?_
   refine TL.val (OpV.assign rfl) rfl ?_
   refine TL.nil ?_
   refine TE.sub (.cons (t := 4) rfl <| .nil) ?_
   refine TE.next ?_
   refine T.ret ?_
   refine TE.ret1 rfl (ResV.tmp rfl) ?_
   exact fun w1 k1 => ⟨ret_bool (by symm; rw [decide_eq_true_eq]; have h9 := hR.2; rw [hin, List.take_of_length_le (by omega), List.take_of_length_le (by omega)] at h9; exact h9), k1.bel⟩
set_option maxRecDepth 100000 in
set_option maxHeartbeats 400000 in
theorem lsame_c {σ τ : Nat → Option Obj} (x y : LnA) (w : World) (h : CsR σ x.A x.n x.c x.cells) (h2 : CsR τ y.A y.n y.c y.cells) (hs : ∀ b o, σ b = some o → w.heap[b]? = some o) (ht : ∀ b o, τ b = some o → w.heap[b]? = some o) : Calls Tryd.prog 55 #[.agg x.l.toArray, .agg y.l.toArray] w (Ret (.bool (decide (x.ln = y.ln))) w) := by
 have hn63 := h.2.1
 have hc63 := h.2.2.1
 refine calls_T (vs := [.agg x.l.toArray, .agg y.l.toArray]) (L0 := [(0, .agg x.l.toArray), (1, .agg y.l.toArray)]) Tryd.func55 rfl rfl rfl rfl (KOk.frs hs ht) ?_
 refine T.seq ?_
 refine T.region ?_
 refine TL.boxA rfl rfl ?_
 intro b2
 refine TL.boxA rfl rfl ?_
 intro b3
 refine TL.val (OpV.assign rfl) rfl ?_
 refine TL.nil ?_
 refine TE.next ?_
 refine T.seq ?_
 refine T.region ?_
 refine TL.val (OpV.fieldAddr rfl fo_65_1) rfl ?_
 refine TL.val (OpV.load pl_4 rfl (by first | exact Cel.blk P0 rfl | exact Cel.blk P1 rfl | exact Cel.blk P2 rfl | exact Cel.blk P3 rfl)) rfl ?_
 refine TL.val (OpV.fieldAddr rfl fo_65_1) rfl ?_
 refine TL.val (OpV.load pl_4 rfl (by first | exact Cel.blk P0 rfl | exact Cel.blk P1 rfl | exact Cel.blk P2 rfl | exact Cel.blk P3 rfl)) rfl ?_
 refine TL.val (OpV.beql Tryd.underlying4 rfl rfl) rfl ?_
 refine TL.val (OpV.move rfl) rfl ?_
 refine TL.part (t := 10) rfl ?_ ?_
 ·
  intro hg10
  refine TL.open rfl rfl ?_
  refine TL.val (OpV.fieldAddr rfl fo_65_0) rfl ?_
  refine TL.open rfl rfl ?_
  refine TL.val (OpV.load pl_35 rfl (by first | exact Cel.blk P0 rfl | exact Cel.blk P1 rfl | exact Cel.blk P2 rfl | exact Cel.blk P3 rfl)) rfl ?_
  refine TL.open rfl rfl ?_
  refine TL.val (OpV.fieldAddr rfl fo_65_0) rfl ?_
  refine TL.open rfl rfl ?_
  refine TL.val (OpV.load pl_35 rfl (by first | exact Cel.blk P0 rfl | exact Cel.blk P1 rfl | exact Cel.blk P2 rfl | exact Cel.blk P3 rfl)) rfl ?_
  refine TL.open rfl rfl ?_
  refine TL.call (g := 78) rfl go_78 rfl (fun w1 k1 => csame_c w1 h h2 (k1.get (e := .fr σ) (by first | exact P0 | exact P1 | exact P2 | exact P3 | exact P4)) (k1.get (e := .fr τ) (by first | exact P0 | exact P1 | exact P2 | exact P3 | exact P4))) rfl ?_
  refine TL.val ((by first | exact OpV.pick_t rfl rfl | exact OpV.pick_f rfl rfl)) rfl ?_
  refine TL.val (OpV.assign rfl) rfl ?_
  refine TL.nil ?_
  refine TE.sub (.cons (t := 4) rfl <| .nil) ?_
  refine TE.next ?_
  refine T.ret ?_
  refine TE.ret1 rfl (ResV.tmp rfl) ?_
  exact fun w1 k1 => ⟨ret_bool (by obtain ⟨xA, xn, xc, xl, xs⟩ := x; obtain ⟨yA, yn, yc, yl, ys⟩ := y; simp only [LnA.ln, Ln.mk.injEq] at *; grind), k1.bel⟩
 ·
  intro hg10
  refine TL.shut rfl rfl ?_
  refine TL.shut rfl rfl ?_
  refine TL.shut rfl rfl ?_
  refine TL.shut rfl rfl ?_
  refine TL.shut rfl rfl ?_
  refine TL.val ((by first | exact OpV.pick_t rfl rfl | exact OpV.pick_f rfl rfl)) rfl ?_
  refine TL.val (OpV.assign rfl) rfl ?_
  refine TL.nil ?_
  refine TE.sub (.cons (t := 4) rfl <| .nil) ?_
  refine TE.next ?_
  refine T.ret ?_
  refine TE.ret1 rfl (ResV.tmp rfl) ?_
  exact fun w1 k1 => ⟨ret_bool (by obtain ⟨xA, xn, xc, xl, xs⟩ := x; obtain ⟨yA, yn, yc, yl, ys⟩ := y; simp only [LnA.ln, Ln.mk.injEq] at *; grind), k1.bel⟩
set_option maxRecDepth 100000 in
set_option maxHeartbeats 1000000 in
theorem lall_c {σ τ : Nat → Option Obj} {A A2 : Option Addr} {n c n2 c2 : Nat} {ls ms : List LnA} (w : World) (h : LsA σ A n c ls) (h2 : LsA τ A2 n2 c2 ms) (hs : ∀ b o, σ b = some o → w.heap[b]? = some o) (ht : ∀ b o, τ b = some o → w.heap[b]? = some o) : Calls Tryd.prog 20 #[.slice A n c, .slice A2 n2 c2] w (Ret (.bool (decide (ls.map LnA.ln = ms.map LnA.ln))) w) := by
 have hn63 := h.1.2.1
 have hc63 := h.1.2.2.1
 obtain ⟨g1, g2⟩ := h
 obtain ⟨f1, f2⟩ := h2
 have hl1 := g1.1
 have hl2 := f1.1
 refine calls_T (vs := [.slice A n c, .slice A2 n2 c2]) (L0 := [(0, .slice A n c), (1, .slice A2 n2 c2)]) Tryd.func20 rfl rfl rfl rfl (KOk.frs hs ht) ?_
 refine T.seq ?_
 refine T.region ?_
 refine TL.val (OpV.assign rfl) rfl ?_
 refine TL.nil ?_
 refine TE.next ?_
 refine T.seq ?_
 refine T.seq ?_
 refine T.region ?_
 refine TL.val (OpV.move rfl) rfl ?_
 refine TL.val (OpV.len Tryd.underlying22 rfl) rfl ?_
 refine TL.val (OpV.move rfl) rfl ?_
 refine TL.val (OpV.len Tryd.underlying22 rfl) rfl ?_
 refine TL.val (OpV.neq rfl rfl) rfl ?_
 refine TL.nil ?_
 refine TE.next ?_
 refine T.cond rfl ?_ ?_
 ·
  intro ht10
  have hnn : n ≠ n2 := by have h9 : ((n : Int) != (n2 : Int)) = true := ht10; simp at h9; omega
  refine T.seq ?_
  refine T.region ?_
  refine TL.val (OpV.assign rfl) rfl ?_
  refine TL.nil ?_
  refine TE.sub (.cons (t := 4) rfl <| .nil) ?_
  refine TE.next ?_
  refine T.ret ?_
  refine TE.pass_ret ?_
  refine TE.ret1 rfl (ResV.tmp rfl) ?_
  exact fun w1 k1 => ⟨ret_bool (by symm; rw [decide_eq_false_iff_not]; intro e; have h9 := congrArg List.length e; simp at h9; omega), k1.bel⟩
 ·
  intro ht10
  have hnn : n = n2 := by have h9 : ((n : Int) != (n2 : Int)) = false := ht10; simp at h9; omega
  refine T.skip ?_
  refine TE.next ?_
  refine T.seq ?_
  refine T.seq ?_
  refine T.region ?_
  refine TL.val (OpV.assign rfl) rfl ?_
  refine TL.nil ?_
  refine TE.next ?_
  refine T.block ?_
  refine T.loop (ι := Nat) (fun i => i ≤ n ∧ (ls.take i).map LnA.ln = (ms.take i).map LnA.ln) (fun i => n - i) (fun i => [(0, .slice A n c), (1, .slice A2 n2 c2), (5, .int .i64 (i : Int))]) (fun i => [.fr σ, .fr τ]) 0 ⟨Nat.zero_le _, rfl⟩ (.cons (t := 0) rfl <| .cons (t := 1) rfl <| .cons (t := 5) rfl <| .nil) (Kle.refl) ?_
  rintro i hR
  refine T.seq ?_
  refine T.seq ?_
  refine T.region ?_
  refine TL.val (OpV.move rfl) rfl ?_
  refine TL.val (OpV.move rfl) rfl ?_
  refine TL.val (OpV.len Tryd.underlying22 rfl) rfl ?_
  refine TL.val (OpV.lss rfl rfl) rfl ?_
  refine TL.nil ?_
  refine TE.next ?_
  refine T.cond rfl ?_ ?_
  ·
   intro ht14
   have hi : i < n := by have h9 := of_decide_eq_true ht14; omega
   obtain ⟨x, hx⟩ := get_of_lt hl1 hi
   obtain ⟨y, hy⟩ := get_of_lt hl2 (show i < n2 by omega)
   obtain ⟨b, o, hA, hat⟩ := g1.2.2.2.2 (by omega)
   obtain ⟨b2, o2, hA2, hat2⟩ := f1.2.2.2.2 (by omega)
   obtain ⟨_, rfl, _, hatx⟩ := hat i x hx
   obtain ⟨_, rfl, _, haty⟩ := hat2 i y hy
   have hcx := g2 x (List.mem_of_getElem? hx)
   have hcy := f2 y (List.mem_of_getElem? hy)
   refine T.skip ?_
   refine TE.next ?_
   refine T.seq ?_
   refine T.block ?_
   refine T.seq ?_
   refine T.quiet mix (by kernel_rfl) ?_
   refine TQ.val (OpV.move rfl) rfl ?_
   refine TQ.val (OpV.move rfl) rfl ?_
   refine TQ.val (OpV.indexAddr se_22 rfl hA rfl (by rfl) (by first | omega | simp)) rfl ?_
   refine TQ.val (OpV.loadA ag_65 rfl (by first | exact Cels.blk P0 rfl | exact Cels.blk P1 rfl | exact Cels.blk P2 rfl | exact Cels.blk P3 rfl | exact Cels.frA hatx rfl | exact Cels.frA haty rfl)) rfl ?_
   refine TQ.val (OpV.move rfl) rfl ?_
   refine TQ.val (OpV.move rfl) rfl ?_
   refine TQ.val (OpV.indexAddr se_22 rfl hA2 rfl (by rfl) (by first | omega | simp)) rfl ?_
   refine TQ.val (OpV.loadA ag_65 rfl (by first | exact Cels.blk P0 rfl | exact Cels.blk P1 rfl | exact Cels.blk P2 rfl | exact Cels.blk P3 rfl | exact Cels.frA hatx rfl | exact Cels.frA haty rfl)) rfl ?_
   refine TQ.call (g := 55) rfl go_55 rfl (fun w1 k1 => lsame_c x y w1 hcx hcy (k1.get (e := .fr σ) (by first | exact P0 | exact P1 | exact P2 | exact P3 | exact P4)) (k1.get (e := .fr τ) (by first | exact P0 | exact P1 | exact P2 | exact P3 | exact P4))) rfl ?_
   refine TQ.val (OpV.not rfl) rfl ?_
   refine TQ.nil ?_
   refine TE.sub (.cons (t := 0) rfl <| .cons (t := 1) rfl <| .cons (t := 5) rfl <| .cons (t := 26) rfl <| .nil) ?_
   refine TE.next ?_
   refine T.cond rfl ?_ ?_
   ·
    intro ht26
    refine T.seq ?_
    refine T.region ?_
    refine TL.val (OpV.assign rfl) rfl ?_
    refine TL.nil ?_
    refine TE.next ?_
    refine T.ret ?_
    refine TE.out_ret ?_
    refine TE.pass_ret ?_
    refine TE.pass_ret ?_
    refine TE.out_ret ?_
    refine TE.pass_ret ?_
    refine TE.ret1 rfl (ResV.tmp rfl) ?_
    exact fun w1 k1 => ⟨ret_bool (by symm; rw [decide_eq_false_iff_not]; intro e; have h9 := congrArg (fun z => z[i]?) e; simp [hx, hy] at h9; simp_all), k1.bel⟩
   ·
    intro ht26
    refine T.skip ?_
    refine TE.out ?_
    refine TE.next ?_
    refine T.region ?_
    refine TL.val (OpV.move rfl) rfl ?_
    refine TL.val (OpV.add rfl rfl (by first | exact IntWalk.i64_in _ ⟨by omega, by omega⟩ | rfl)) rfl ?_
    refine TL.val (OpV.assign rfl) rfl ?_
    refine TL.nil ?_
    exact TE.meet (i + 1) ⟨⟨by omega, by rw [take_snoc hx, take_snoc hy, List.map_append, List.map_append, hR.2]; simp_all⟩, by omega⟩ (.cons (t := 0) (by first | rfl | (simp [lk]; done)) <| .cons (t := 1) (by first | rfl | (simp [lk]; done)) <| .cons (t := 5) (by first | rfl | (simp [lk]; done)) <| .nil) (Kle.refl)
  ·
   intro ht14
   have hin : i = n := by have h9 := of_decide_eq_false ht14; have h8 := hR.1; omega
   refine T.exit ?_
   refine TE.pass_exit ?_
   refine TE.pass_exit ?_
   refine TE.here ?_
   refine TE.next ?_
   refine T.seq ?_
   refine T.region ?_
   refine TL.val (OpV.assign rfl) rfl ?_
   refine TL.nil ?_
   refine TE.sub (.cons (t := 4) rfl <| .nil) ?_
   refine TE.next ?_
   refine T.ret ?_
   refine TE.ret1 rfl (ResV.tmp rfl) ?_
   exact fun w1 k1 => ⟨ret_bool (by symm; rw [decide_eq_true_eq]; have h9 := hR.2; rw [hin, List.take_of_length_le (by omega), List.take_of_length_le (by omega)] at h9; exact h9), k1.bel⟩
set_option maxRecDepth 100000 in
set_option maxHeartbeats 400000 in
theorem kept_c {σ τ : Nat → Option Obj} (x y : LnA) (w : World) (h : CsR σ x.A x.n x.c x.cells) (h2 : CsR τ y.A y.n y.c y.cells) (hs : ∀ b o, σ b = some o → w.heap[b]? = some o) (ht : ∀ b o, τ b = some o → w.heap[b]? = some o) : Calls Tryd.prog 83 #[.agg x.l.toArray, .agg y.l.toArray] w (Ret (.slice (subA x.A (keptN x.cells y.cells) 0 16) (keptN x.cells y.cells) (keptN x.cells y.cells)) w) := by
 have hn63 := h.2.1
 have hc63 := h.2.2.1
 have hn64 := h2.2.1
 have hc64 := h2.2.2.1
 refine calls_T (vs := [.agg x.l.toArray, .agg y.l.toArray]) (L0 := [(0, .agg x.l.toArray), (1, .agg y.l.toArray)]) Tryd.func83 rfl rfl rfl rfl (KOk.frs hs ht) ?_
 refine T.seq ?_
 refine T.region ?_
 refine TL.boxA rfl rfl ?_
 intro b2
 refine TL.boxA rfl rfl ?_
 intro b3
 refine TL.val (OpV.assign rfl) rfl ?_
 refine TL.nil ?_
 refine TE.next ?_
 refine T.seq ?_
 refine T.region ?_
 refine TL.val (OpV.fieldAddr rfl fo_65_0) rfl ?_
 refine TL.val (OpV.load pl_35 rfl (by first | exact Cel.blk P0 rfl | exact Cel.blk P1 rfl | exact Cel.blk P2 rfl | exact Cel.blk P3 rfl | exact Cel.frA (hatq _ _ rfl) | exact Cel.frA (hatz _ _ rfl))) rfl ?_
 refine TL.val (OpV.len Tryd.underlying35 rfl) rfl ?_
 refine TL.val (OpV.assign rfl) rfl ?_
 refine TL.nil ?_
 refine TE.next ?_
 refine T.seq ?_
 refine T.seq ?_
 refine T.region ?_
 refine TL.val (OpV.move rfl) rfl ?_
 refine TL.val (OpV.gtr rfl rfl) rfl ?_
 refine TL.val (OpV.move rfl) rfl ?_
 refine TL.part (t := 11) rfl ?_ ?_
 ·
  intro hg11
  have h0 : 0 < x.n := by have h9 := of_decide_eq_true hg11; omega
  obtain ⟨q, hq⟩ := get_of_lt h.1 (show x.n - 1 < x.n by omega)
  obtain ⟨b, o, hA, hat⟩ := h.pos h0
  have hatq := hat _ q hq
  have hks := keptN_some (y := y.cells) (show x.cells[x.cells.length - 1]? = some q by rw [h.1]; exact hq)
  rw [h.1] at hks
  refine TL.open rfl rfl ?_
  refine TL.val (OpV.fieldAddr rfl fo_65_0) rfl ?_
  refine TL.open rfl rfl ?_
  refine TL.val (OpV.load pl_35 rfl (by first | exact Cel.blk P0 rfl | exact Cel.blk P1 rfl | exact Cel.blk P2 rfl | exact Cel.blk P3 rfl | exact Cel.frA (hatq _ _ rfl) | exact Cel.frA (hatz _ _ rfl))) rfl ?_
  refine TL.open rfl rfl ?_
  refine TL.val (OpV.move rfl) rfl ?_
  refine TL.open rfl rfl ?_
  refine TL.val (OpV.sub rfl rfl (by first | exact IntWalk.i64_in _ ⟨by omega, by omega⟩ | rfl)) rfl ?_
  refine TL.open rfl rfl ?_
  refine TL.val (OpV.indexAddr (j := (x.n - 1)) se_35 rfl hA rfl (by omega) (by omega)) rfl ?_
  refine TL.open rfl rfl ?_
  refine TL.val (OpV.loadA ag_58 rfl (by first | exact Cels.blk P0 rfl | exact Cels.blk P1 rfl | exact Cels.blk P2 rfl | exact Cels.blk P3 rfl | exact Cels.frA hatq rfl | exact Cels.frA hatz rfl)) rfl ?_
  refine TL.open rfl rfl ?_
  refine TL.call (g := 84) rfl go_84 rfl (fun w1 k1 => cempty_c q w1) rfl ?_
  refine TL.val ((by first | exact OpV.pick_t rfl rfl | exact OpV.pick_f rfl rfl)) rfl ?_
  refine TL.val (OpV.move rfl) rfl ?_
  refine TL.part (t := 20) rfl ?_ ?_
  ·
   intro hg20
   refine TL.open rfl rfl ?_
   refine TL.val (OpV.fieldAddr rfl fo_65_0) rfl ?_
   refine TL.open rfl rfl ?_
   refine TL.val (OpV.load pl_35 rfl (by first | exact Cel.blk P0 rfl | exact Cel.blk P1 rfl | exact Cel.blk P2 rfl | exact Cel.blk P3 rfl | exact Cel.frA (hatq _ _ rfl) | exact Cel.frA (hatz _ _ rfl))) rfl ?_
   refine TL.open rfl rfl ?_
   refine TL.val (OpV.len Tryd.underlying35 rfl) rfl ?_
   refine TL.open rfl rfl ?_
   refine TL.val (OpV.gtr rfl rfl) rfl ?_
   refine TL.val ((by first | exact OpV.pick_t rfl rfl | exact OpV.pick_f rfl rfl)) rfl ?_
   refine TL.val (OpV.move rfl) rfl ?_
   refine TL.part (t := 26) rfl ?_ ?_
   ·
    intro hg26
    have h0y : 0 < y.n := by have h9 := of_decide_eq_true hg26; omega
    obtain ⟨z, hz⟩ := get_of_lt h2.1 h0y
    obtain ⟨by_, oy, hAy, haty⟩ := h2.pos h0y
    have hatz := haty 0 z hz
    rw [wideH_get hz] at hks
    refine TL.open rfl rfl ?_
    refine TL.val (OpV.fieldAddr rfl fo_65_0) rfl ?_
    refine TL.open rfl rfl ?_
    refine TL.val (OpV.load pl_35 rfl (by first | exact Cel.blk P0 rfl | exact Cel.blk P1 rfl | exact Cel.blk P2 rfl | exact Cel.blk P3 rfl | exact Cel.frA (hatq _ _ rfl) | exact Cel.frA (hatz _ _ rfl))) rfl ?_
    refine TL.open rfl rfl ?_
    refine TL.val (OpV.indexAddr (j := 0) se_35 rfl hAy rfl rfl (by omega)) rfl ?_
    refine TL.open rfl rfl ?_
    refine TL.val (OpV.fieldAddr rfl fo_58_2) rfl ?_
    refine TL.open rfl rfl ?_
    refine TL.val (OpV.load pl_3 rfl (by first | exact Cel.blk P0 rfl | exact Cel.blk P1 rfl | exact Cel.blk P2 rfl | exact Cel.blk P3 rfl | exact Cel.frA (hatq _ _ rfl) | exact Cel.frA (hatz _ _ rfl))) rfl ?_
    refine TL.open rfl rfl ?_
    refine TL.val (OpV.eql rfl rfl) rfl ?_
    refine TL.val ((by first | exact OpV.pick_t rfl rfl | exact OpV.pick_f rfl rfl)) rfl ?_
    refine TL.nil ?_
    refine TE.sub (.cons (t := 2) rfl <| .cons (t := 5) rfl <| .cons (t := 33) rfl <| .nil) ?_
    refine TE.next ?_
    refine T.cond rfl ?_ ?_
    ·
     intro ht33
     rw [hg20, ht33, Bool.and_self, if_pos rfl] at hks
     refine T.region ?_
     refine TL.val (OpV.move rfl) rfl ?_
     refine TL.val (OpV.sub rfl rfl (by first | exact IntWalk.i64_in _ ⟨by omega, by omega⟩ | rfl)) rfl ?_
     refine TL.val (OpV.assign rfl) rfl ?_
     refine TL.nil ?_
     refine TE.next ?_
     refine T.seq ?_
     refine T.region ?_
     refine TL.val (OpV.fieldAddr rfl fo_65_0) rfl ?_
     refine TL.val (OpV.load pl_35 rfl (by first | exact Cel.blk P0 rfl | exact Cel.blk P1 rfl | exact Cel.blk P2 rfl | exact Cel.blk P3 rfl | exact Cel.frA (hatq _ _ rfl) | exact Cel.frA (hatz _ _ rfl))) rfl ?_
     refine TL.val (OpV.move rfl) rfl ?_
     refine TL.val (OpV.move rfl) rfl ?_
     refine TL.val (OpV.slice3 (hi := x.n - 1) se_35 rfl rfl rfl (by omega) (by omega) (by omega)) rfl ?_
     refine TL.val (OpV.assign rfl) rfl ?_
     refine TL.nil ?_
     refine TE.sub (.cons (t := 4) rfl <| .nil) ?_
     refine TE.next ?_
     refine T.ret ?_
     refine TE.ret1 rfl (ResV.tmp rfl) ?_
     exact fun w1 k1 => ⟨by rw [hks], k1.bel⟩
    ·
     intro ht33
     rw [hg20, ht33, Bool.and_false, if_neg (by decide)] at hks
     refine T.skip ?_
     refine TE.next ?_
     refine T.seq ?_
     refine T.region ?_
     refine TL.val (OpV.fieldAddr rfl fo_65_0) rfl ?_
     refine TL.val (OpV.load pl_35 rfl (by first | exact Cel.blk P0 rfl | exact Cel.blk P1 rfl | exact Cel.blk P2 rfl | exact Cel.blk P3 rfl | exact Cel.frA (hatq _ _ rfl) | exact Cel.frA (hatz _ _ rfl))) rfl ?_
     refine TL.val (OpV.move rfl) rfl ?_
     refine TL.val (OpV.move rfl) rfl ?_
     refine TL.val (OpV.slice3 (hi := x.n) se_35 rfl rfl rfl rfl rfl (by omega)) rfl ?_
     refine TL.val (OpV.assign rfl) rfl ?_
     refine TL.nil ?_
     refine TE.sub (.cons (t := 4) rfl <| .nil) ?_
     refine TE.next ?_
     refine T.ret ?_
     refine TE.ret1 rfl (ResV.tmp rfl) ?_
     exact fun w1 k1 => ⟨by rw [hks], k1.bel⟩
   ·
    intro hg26
    rw [wideH_nil (by have h9 := of_decide_eq_false hg26; have h8 := h2.1; omega), Bool.and_false, if_neg (by decide)] at hks
    refine TL.shut rfl rfl ?_
    refine TL.shut rfl rfl ?_
    refine TL.shut rfl rfl ?_
    refine TL.shut rfl rfl ?_
    refine TL.shut rfl rfl ?_
    refine TL.shut rfl rfl ?_
    refine TL.val ((by first | exact OpV.pick_t rfl rfl | exact OpV.pick_f rfl rfl)) rfl ?_
    refine TL.nil ?_
    refine TE.sub (.cons (t := 2) rfl <| .cons (t := 5) rfl <| .cons (t := 33) rfl <| .nil) ?_
    refine TE.next ?_
    refine T.no rfl ?_
    refine T.skip ?_
    refine TE.next ?_
    refine T.seq ?_
    refine T.region ?_
    refine TL.val (OpV.fieldAddr rfl fo_65_0) rfl ?_
    refine TL.val (OpV.load pl_35 rfl (by first | exact Cel.blk P0 rfl | exact Cel.blk P1 rfl | exact Cel.blk P2 rfl | exact Cel.blk P3 rfl | exact Cel.frA (hatq _ _ rfl) | exact Cel.frA (hatz _ _ rfl))) rfl ?_
    refine TL.val (OpV.move rfl) rfl ?_
    refine TL.val (OpV.move rfl) rfl ?_
    refine TL.val (OpV.slice3 (hi := x.n) se_35 rfl rfl rfl rfl rfl (by omega)) rfl ?_
    refine TL.val (OpV.assign rfl) rfl ?_
    refine TL.nil ?_
    refine TE.sub (.cons (t := 4) rfl <| .nil) ?_
    refine TE.next ?_
    refine T.ret ?_
    refine TE.ret1 rfl (ResV.tmp rfl) ?_
    exact fun w1 k1 => ⟨by rw [hks], k1.bel⟩
  ·
   intro hg20
   rw [hg20, Bool.false_and, if_neg (by decide)] at hks
   refine TL.shut rfl rfl ?_
   refine TL.shut rfl rfl ?_
   refine TL.shut rfl rfl ?_
   refine TL.shut rfl rfl ?_
   refine TL.val ((by first | exact OpV.pick_t rfl rfl | exact OpV.pick_f rfl rfl)) rfl ?_
   refine TL.val (OpV.move rfl) rfl ?_
   refine TL.shut rfl rfl ?_
   refine TL.shut rfl rfl ?_
   refine TL.shut rfl rfl ?_
   refine TL.shut rfl rfl ?_
   refine TL.shut rfl rfl ?_
   refine TL.shut rfl rfl ?_
   refine TL.val ((by first | exact OpV.pick_t rfl rfl | exact OpV.pick_f rfl rfl)) rfl ?_
   refine TL.nil ?_
   refine TE.sub (.cons (t := 2) rfl <| .cons (t := 5) rfl <| .cons (t := 33) rfl <| .nil) ?_
   refine TE.next ?_
   refine T.no rfl ?_
   refine T.skip ?_
   refine TE.next ?_
   refine T.seq ?_
   refine T.region ?_
   refine TL.val (OpV.fieldAddr rfl fo_65_0) rfl ?_
   refine TL.val (OpV.load pl_35 rfl (by first | exact Cel.blk P0 rfl | exact Cel.blk P1 rfl | exact Cel.blk P2 rfl | exact Cel.blk P3 rfl | exact Cel.frA (hatq _ _ rfl) | exact Cel.frA (hatz _ _ rfl))) rfl ?_
   refine TL.val (OpV.move rfl) rfl ?_
   refine TL.val (OpV.move rfl) rfl ?_
   refine TL.val (OpV.slice3 (hi := x.n) se_35 rfl rfl rfl rfl rfl (by omega)) rfl ?_
   refine TL.val (OpV.assign rfl) rfl ?_
   refine TL.nil ?_
   refine TE.sub (.cons (t := 4) rfl <| .nil) ?_
   refine TE.next ?_
   refine T.ret ?_
   refine TE.ret1 rfl (ResV.tmp rfl) ?_
   exact fun w1 k1 => ⟨by rw [hks], k1.bel⟩
 ·
  intro hg11
  have hks : keptN x.cells y.cells = x.n := by have h9 := of_decide_eq_false hg11; have h8 := h.1; rw [keptN_nil (by omega)]; omega
  refine TL.shut rfl rfl ?_
  refine TL.shut rfl rfl ?_
  refine TL.shut rfl rfl ?_
  refine TL.shut rfl rfl ?_
  refine TL.shut rfl rfl ?_
  refine TL.shut rfl rfl ?_
  refine TL.shut rfl rfl ?_
  refine TL.val ((by first | exact OpV.pick_t rfl rfl | exact OpV.pick_f rfl rfl)) rfl ?_
  refine TL.val (OpV.move rfl) rfl ?_
  refine TL.shut rfl rfl ?_
  refine TL.shut rfl rfl ?_
  refine TL.shut rfl rfl ?_
  refine TL.shut rfl rfl ?_
  refine TL.val ((by first | exact OpV.pick_t rfl rfl | exact OpV.pick_f rfl rfl)) rfl ?_
  refine TL.val (OpV.move rfl) rfl ?_
  refine TL.shut rfl rfl ?_
  refine TL.shut rfl rfl ?_
  refine TL.shut rfl rfl ?_
  refine TL.shut rfl rfl ?_
  refine TL.shut rfl rfl ?_
  refine TL.shut rfl rfl ?_
  refine TL.val ((by first | exact OpV.pick_t rfl rfl | exact OpV.pick_f rfl rfl)) rfl ?_
  refine TL.nil ?_
  refine TE.sub (.cons (t := 2) rfl <| .cons (t := 5) rfl <| .cons (t := 33) rfl <| .nil) ?_
  refine TE.next ?_
  refine T.no rfl ?_
  refine T.skip ?_
  refine TE.next ?_
  refine T.seq ?_
  refine T.region ?_
  refine TL.val (OpV.fieldAddr rfl fo_65_0) rfl ?_
  refine TL.val (OpV.load pl_35 rfl (by first | exact Cel.blk P0 rfl | exact Cel.blk P1 rfl | exact Cel.blk P2 rfl | exact Cel.blk P3 rfl | exact Cel.frA (hatq _ _ rfl) | exact Cel.frA (hatz _ _ rfl))) rfl ?_
  refine TL.val (OpV.move rfl) rfl ?_
  refine TL.val (OpV.move rfl) rfl ?_
  refine TL.val (OpV.slice3 (hi := x.n) se_35 rfl rfl rfl rfl rfl (by omega)) rfl ?_
  refine TL.val (OpV.assign rfl) rfl ?_
  refine TL.nil ?_
  refine TE.sub (.cons (t := 4) rfl <| .nil) ?_
  refine TE.next ?_
  refine T.ret ?_
  refine TE.ret1 rfl (ResV.tmp rfl) ?_
  exact fun w1 k1 => ⟨by rw [hks], k1.bel⟩
set_option maxRecDepth 100000 in
set_option maxHeartbeats 1000000 in
theorem rtrim_c {σ : Nat → Option Obj} {A : Option Addr} {n c : Nat} {xs : List Cl} (w : World) (h : CsR σ A n c xs) (hs : ∀ b o, σ b = some o → w.heap[b]? = some o) (hn : n ≤ 1073741824) : Calls Tryd.prog 29 #[.slice A n c] w (fun e w' => ∃ v : SV, e = .returned v.v ∧ CsR v.σ v.A v.n v.c (trimV xs) ∧ KOk w [.own v.σ] w') := by
 have hn63 := h.2.1
 have hc63 := h.2.2.1
 have hl1 := h.1
 refine calls_T (vs := [.slice A n c]) (L0 := [(0, .slice A n c)]) Tryd.func29 rfl rfl rfl rfl (KOk.fr1 hs) ?_
 refine T.seq ?_
 refine T.region ?_
 refine TL.val (OpV.assign rfl) rfl ?_
 refine TL.nil ?_
 refine TE.next ?_
 refine T.seq ?_
 refine T.region ?_
 refine TL.val (OpV.assign rfl) rfl ?_
 refine TL.nil ?_
 refine TE.next ?_
 refine T.seq ?_
 refine T.seq ?_
 refine T.region ?_
 refine TL.val (OpV.assign rfl) rfl ?_
 refine TL.nil ?_
 refine TE.next ?_
 refine T.block ?_
 refine T.loop (ι := Nat × Nat) (fun ⟨i, m⟩ => i ≤ n ∧ m ≤ i ∧ trimV (xs.take i) = xs.take m) (fun ⟨i, m⟩ => (n - i)) (fun ⟨i, m⟩ => [(0, .slice A n c), (3, .int .i64 (m : Int)), (4, .int .i64 (i : Int))]) (fun ⟨i, m⟩ => [.fr σ]) (0, 0) ⟨Nat.zero_le _, Nat.le_refl _, rfl⟩ (.cons (t := 0) rfl <| .cons (t := 3) rfl <| .cons (t := 4) rfl <| .nil) (Kle.refl) ?_
 rintro ⟨i, m⟩ hR
 refine T.seq ?_
 refine T.seq ?_
 refine T.region ?_
 refine TL.val (OpV.move rfl) rfl ?_
 refine TL.val (OpV.move rfl) rfl ?_
 refine TL.val (OpV.len Tryd.underlying35 rfl) rfl ?_
 refine TL.val (OpV.lss rfl rfl) rfl ?_
 refine TL.nil ?_
 refine TE.next ?_
 refine T.cond rfl ?_ ?_
 ·
  intro ht8
  obtain ⟨q1, q2, q3⟩ := hR
  have hi : i < n := by have h9 := of_decide_eq_true ht8; omega
  obtain ⟨x, hx⟩ := get_of_lt h.1 hi
  obtain ⟨b, o, hA, hat⟩ := h.pos (by omega)
  have hatx := hat i x hx
  have hts := trimV_snoc (xs.take i) x
  rw [← take_snoc hx] at hts
  refine T.skip ?_
  refine TE.next ?_
  refine T.seq ?_
  refine T.block ?_
  refine T.seq ?_
  refine T.region ?_
  refine TL.val (OpV.move rfl) rfl ?_
  refine TL.val (OpV.move rfl) rfl ?_
  refine TL.val (OpV.indexAddr se_35 rfl hA rfl (by rfl) (by first | omega | simp)) rfl ?_
  refine TL.val (OpV.loadA ag_58 rfl (by first | exact Cels.blk P0 rfl | exact Cels.blk P1 rfl | exact Cels.blk P2 rfl | exact Cels.blk P3 rfl | exact Cels.frA hatx rfl)) rfl ?_
  refine TL.call (g := 59) rfl go_59 rfl (fun w1 k1 => empty_c x w1) rfl ?_
  refine TL.val (OpV.not rfl) rfl ?_
  refine TL.nil ?_
  refine TE.sub (.cons (t := 0) rfl <| .cons (t := 3) rfl <| .cons (t := 4) rfl <| .cons (t := 16) rfl <| .nil) ?_
  refine TE.next ?_
  refine T.cond rfl ?_ ?_
  ·
   intro ht16
   refine T.region ?_
   refine TL.val (OpV.move rfl) rfl ?_
   refine TL.val (OpV.add rfl rfl (by first | exact IntWalk.i64_in _ ⟨by omega, by omega⟩ | rfl)) rfl ?_
   refine TL.val (OpV.assign rfl) rfl ?_
   refine TL.nil ?_
   refine TE.out ?_
   refine TE.next ?_
   refine T.region ?_
   refine TL.val (OpV.move rfl) rfl ?_
   refine TL.val (OpV.add rfl rfl (by first | exact IntWalk.i64_in _ ⟨by omega, by omega⟩ | rfl)) rfl ?_
   refine TL.val (OpV.assign rfl) rfl ?_
   refine TL.nil ?_
   exact TE.meet (i + 1, i + 1) ⟨⟨by omega, by omega, by rw [hts, if_neg (by rw [show isB x = false by simpa using ht16]; decide)]⟩, by simp only; omega⟩ (.cons (t := 0) (by first | rfl | (simp [lk]; done)) <| .cons (t := 3) (by first | rfl | (simp [lk]; done)) <| .cons (t := 4) (by first | rfl | (simp [lk]; done)) <| .nil) (Kle.refl)
  ·
   intro ht16
   refine T.skip ?_
   refine TE.out ?_
   refine TE.next ?_
   refine T.region ?_
   refine TL.val (OpV.move rfl) rfl ?_
   refine TL.val (OpV.add rfl rfl (by first | exact IntWalk.i64_in _ ⟨by omega, by omega⟩ | rfl)) rfl ?_
   refine TL.val (OpV.assign rfl) rfl ?_
   refine TL.nil ?_
   exact TE.meet (i + 1, m) ⟨⟨by omega, by omega, by rw [hts, if_pos (show isB x = true by simpa using ht16)]; exact q3⟩, by simp only; omega⟩ (.cons (t := 0) (by first | rfl | (simp [lk]; done)) <| .cons (t := 3) (by first | rfl | (simp [lk]; done)) <| .cons (t := 4) (by first | rfl | (simp [lk]; done)) <| .nil) (Kle.refl)
 ·
  intro ht8
  obtain ⟨q1, q2, q3⟩ := hR
  have hin : i = n := by have h9 := of_decide_eq_false ht8; omega
  rw [hin, List.take_of_length_le (by omega)] at q3
  have hsl : CsR σ (subA A c 0 16) m c (xs.take m) := by simpa using h.slice (lo := 0) (Nat.zero_le m) (by omega)
  refine T.exit ?_
  refine TE.pass_exit ?_
  refine TE.pass_exit ?_
  refine TE.here ?_
  refine TE.next ?_
  refine T.seq ?_
  refine T.region ?_
  refine TL.val (OpV.move rfl) rfl ?_
  refine TL.val (OpV.move rfl) rfl ?_
  refine TL.val (OpV.sliceHi (hi := m) se_35 rfl rfl rfl (by omega)) rfl ?_
  refine TL.kle (Kle.nilRow 58 16) ?_
  obtain ⟨ti22, hi22, hz22, hs22, hb22⟩ := info_parts inf_58
  refine TL.append rfl rfl Tryd.underlying35 hi22 hz22 hs22 hb22 rfl (by omega) (by first | exact P0 | exact P1 | exact P2 | exact P3) (Src.cs (by first | exact P0 | exact P1 | exact P2 | exact P3 | exact P4) hsl) (fun h9 => hsl.2.2.2.1 h9) (one_fl _) (by omega) (by omega) rfl ?_
  clear hi22 hz22 hs22 hb22 ti22
  intro A22 c22 hn22
  refine TL.val (OpV.assign rfl) rfl ?_
  refine TL.nil ?_
  refine TE.sub (.cons (t := 2) rfl <| .nil) ?_
  refine TE.next ?_
  refine T.ret ?_
  refine TE.ret1 rfl (ResV.tmp rfl) ?_
  intro wz kz
  obtain ⟨ρ, h1, k2⟩ := KOk.rowOwn (kz.pick (by first | exact P0 | exact P1 | exact P2 | exact P3 | exact P4))
  rw [Nat.zero_add, List.nil_append] at h1
  exact ⟨⟨A22, m, c22, ρ⟩, by rw [Nat.zero_add]; rfl, by rw [q3]; exact CsR.of_row h1 hsl.1, Perm.kle (.cons .here .nil) wz k2⟩
end Go.Proofs.YtdmpodpdpncobaaDoor
