/-
  The walk of Prev. No condition.
-/
import Derived.Test.YtaoepaonjeilgaaMg
namespace Go.Proofs.Ytaoepaonjeilgaa
open Go.RowKit Go.Shelf
set_option linter.unusedSimpArgs false
set_option linter.unusedVariables false
theorem go_28 : isGo Try.prog 28 = true := by kernel_rfl
theorem pl_27 : plainT Try.prog 27 = true := by kernel_rfl
theorem pl_38 : plainT Try.prog 38 = true := by kernel_rfl
theorem szz_27 : sz Try.prog 27 = some 1 := by kernel_rfl
theorem zo_27 : zOf Try.prog 27 = some [.int .i64 0] := by kernel_rfl
theorem backM_x {w0 w : World} {K : List Ent} (A : Option Addr) (n c : Nat) (k : KOk w0 K w) : Calls Try.prog 28 #[.slice A n c] w fun e w' => ∃ b : Nat, e = .returned (.func (.func 36) #[] #[.pointer (some ⟨b, 0, none⟩)]) ∧ True ∧ KOk w0 (.blk b [.slice A n c] 24 :: K) w' :=
  (backM_c A n c w).mono fun e w' ⟨h1, h2⟩ => ⟨w.heap.size, h1, trivial, by rw [h2]; exact k.alloc _ _⟩
set_option maxRecDepth 100000 in
set_option maxHeartbeats 1000000 in
theorem prev_c {σ τ : Nat → Option Obj} {bm : Nat} {xs : List Mk} {A2 : Option Addr} {n2 c2 : Nat} {ks : List Int} (line : Int) (w : World) (hm : MoR σ bm xs) (hk2 : IsR τ A2 n2 c2 ks) (hn : xs.length ≤ 1000) (hs : ∀ b o, σ b = some o → w.heap[b]? = some o) (ht : ∀ b o, τ b = some o → w.heap[b]? = some o) : Calls Try.prog 15 #[.pointer (some ⟨bm, 0, none⟩), .int .i64 line, .slice A2 n2 c2] w (Ret (.tuple #[.agg (fndV (prevO line ks xs) ks).l.toArray, .int .i64 (fndE (prevO line ks xs) ks)]) w) := by
 obtain ⟨A, c, hm1, h⟩ := hm
 have hn63 := h.2.1
 have hc63 := h.2.2.1
 obtain ⟨w0, hw0⟩ : ∃ w0, w0 = w := ⟨_, rfl⟩
 rw [← hw0] at hs ht ⊢
 refine calls_TM 6 (vs := [.pointer (some ⟨bm, 0, none⟩), .int .i64 line, .slice A2 n2 c2]) (L0 := [(0, .pointer (some ⟨bm, 0, none⟩)), (1, .int .i64 line), (2, .slice A2 n2 c2)]) Try.func15 rfl rfl rfl rfl (KOk.frs hs ht) ?_
 refine T.seq ?_
 refine T.region ?_
 refine TL.box1 rfl rfl rfl ?_
 intro b4
 refine TL.box1 rfl rfl rfl ?_
 intro b5
 refine TL.alloc zo_31 rfl ?_
 intro b6
 refine TL.alloc zo_27 rfl ?_
 intro b7
 refine TL.nil ?_
 refine TE.next ?_
 refine T.seq ?_
 refine T.seq ?_
 refine T.region ?_
 refine TL.val (OpV.move rfl) rfl ?_
 refine TL.val (OpV.load pl_38 rfl (by first | exact Cel.blk P0 rfl | exact Cel.blk P1 rfl | exact Cel.blk P2 rfl | exact Cel.blk P3 rfl | exact Cel.blk P4 rfl | exact Cel.blk P5 rfl | exact Cel.blk P6 rfl | exact Cel.frA (hm1))) rfl ?_
 refine TL.call (g := 26) rfl go_26 rfl (fun w1 k1 => check_c ⟨bm, 0, none⟩ w1 hk2 (k1.get (e := .fr τ) (by first | exact P0 | exact P1 | exact P2 | exact P3 | exact P4 | exact P5 | exact P6 | exact P7))) rfl ?_
 refine TL.val (OpV.assign rfl) rfl ?_
 refine TL.nil ?_
 refine TE.next ?_
 refine T.seq ?_
 refine T.region ?_
 refine TL.val (OpV.move rfl) rfl ?_
 refine TL.val (OpV.neq rfl rfl) rfl ?_
 refine TL.nil ?_
 refine TE.next ?_
 refine T.cond rfl ?_ ?_
 ·
  intro ht15
  try simp only [decide_eq_true_eq, decide_eq_false_iff_not, beq_iff_eq, beq_eq_false_iff_ne, bne_iff_ne, bne_eq_false_iff_eq, Bool.not_eq_true', Bool.not_eq_false', ne_eq] at ht15
  refine T.seq ?_
  refine T.region ?_
  refine TL.val (OpV.build (qs := #[]) (fun _ _ => by simp) (bld_31)) rfl ?_
  refine TL.val (OpV.move rfl) rfl ?_
  first
    | refine TL.storeAll rfl rfl szz_31 rfl rfl rfl (by first | exact P0 | exact P1 | exact P2 | exact P3 | exact P4 | exact P5 | exact P6) (by rfl) ?_
    | refine TL.store rfl rfl szz_31 rfl rfl rfl (by first | exact P0 | exact P1 | exact P2 | exact P3 | exact P4 | exact P5 | exact P6) (by first | exact Nat.le_of_ble_eq_true rfl | (simp; done) | (simp; omega)) (by simp only [Mk.l, putL, List.take_succ_cons, List.take_zero, List.drop_succ_cons, List.drop_zero, List.cons_append, List.nil_append, List.length_cons, List.length_nil, Nat.reduceAdd]; rfl) ?_
  refine TL.store rfl rfl szz_27 rfl rfl rfl (by first | exact P0 | exact P1 | exact P2 | exact P3 | exact P4 | exact P5 | exact P6) (by first | exact Nat.le_of_ble_eq_true rfl | (simp; done) | (simp; omega)) (by simp only [Mk.l, putL, List.take_succ_cons, List.take_zero, List.drop_succ_cons, List.drop_zero, List.cons_append, List.nil_append, List.length_cons, List.length_nil, Nat.reduceAdd]; rfl) ?_
  refine TL.nil ?_
  refine TE.sub (.cons (t := 6) rfl <| .cons (t := 7) rfl <| .nil) ?_
  refine TE.next ?_
  refine T.ret ?_
  refine TE.pass_ret ?_
  refine TE.retNM rfl (.cons (ResV.cellA rfl ag_31 (by first | exact Cels.blk P0 rfl | exact Cels.blk P1 rfl | exact Cels.blk P2 rfl | exact Cels.blk P3 rfl | exact Cels.blk P4 rfl | exact Cels.blk P5 rfl | exact Cels.blk P6 rfl | exact Cels.frA (hm1) rfl)) <| .cons (ResV.cell rfl pl_27 (by first | exact Cel.blk P0 rfl | exact Cel.blk P1 rfl | exact Cel.blk P2 rfl | exact Cel.blk P3 rfl | exact Cel.blk P4 rfl | exact Cel.blk P5 rfl | exact Cel.blk P6 rfl | exact Cel.frA (hm1))) <| .nil) ?_
  exact fun w1 k1 => ⟨by rw [(fnd_bad ht15).1, (fnd_bad ht15).2], k1.bel⟩
 ·
  intro ht15
  try simp only [decide_eq_true_eq, decide_eq_false_iff_not, beq_iff_eq, beq_eq_false_iff_ne, bne_iff_ne, bne_eq_false_iff_eq, Bool.not_eq_true', Bool.not_eq_false', ne_eq] at ht15
  have hck : chkE ks = 0 := by simpa using ht15
  refine T.skip ?_
  refine TE.sub (.cons (t := 0) rfl <| .cons (t := 4) rfl <| .cons (t := 5) rfl <| .cons (t := 6) rfl <| .cons (t := 7) rfl <| .nil) ?_
  refine TE.next ?_
  refine T.seq ?_
  refine T.seq ?_
  refine T.region ?_
  refine TL.val (OpV.move rfl) rfl ?_
  refine TL.val (OpV.nil rfl) rfl ?_
  refine TL.val (OpV.fieldAddr rfl fo_26_0) rfl ?_
  refine TL.val (OpV.load pl_24 rfl (by first | exact Cel.blk P0 rfl | exact Cel.blk P1 rfl | exact Cel.blk P2 rfl | exact Cel.blk P3 rfl | exact Cel.blk P4 rfl | exact Cel.blk P5 rfl | exact Cel.blk P6 rfl | exact Cel.frA (hm1))) rfl ?_
  refine TL.callx (g := 28) rfl go_28 rfl (fun wz kz => backM_x A xs.length c kz) rfl ?_
  rintro bs -
  refine TL.nil ?_
  refine TE.next ?_
  refine T.block ?_
  refine T.kle (Perm.kle (.cons (by first | exact P0 | exact P1 | exact P2 | exact P3 | exact P4 | exact P5 | exact P6) (.cons (by first | exact P0 | exact P1 | exact P2 | exact P3 | exact P4 | exact P5 | exact P6) (.cons (by first | exact P0 | exact P1 | exact P2 | exact P3 | exact P4 | exact P5 | exact P6) (.cons (by first | exact P0 | exact P1 | exact P2 | exact P3 | exact P4 | exact P5 | exact P6) (.cons (by first | exact P0 | exact P1 | exact P2 | exact P3 | exact P4 | exact P5 | exact P6) (.cons (by first | exact P0 | exact P1 | exact P2 | exact P3 | exact P4 | exact P5 | exact P6) (.cons (by first | exact P0 | exact P1 | exact P2 | exact P3 | exact P4 | exact P5 | exact P6) .nil))))))) : Kle w0 _ [.blk b6 Mk.zero.l 31, .blk b7 [.int .i64 0] 27, .blk bs [.slice A xs.length c] 24, .blk b5 [.slice A2 n2 c2] 38, .blk b4 [.int .i64 line] 3, .fr σ, .fr τ]) ?_
  intro a w9 f k9
  refine (wpIn_wide (n := 6)).1 ?_
  have hD := k9.dom
  have h09 := k9.bel.size
  obtain ⟨hr1, hr2, hr3⟩ := KOk.frw k9 (b := bs) (cs := [.slice A xs.length c]) (T := 24) (σ := σ) (.there (.there .here)) (.there (.there (.there (.there .here))))
  obtain ⟨ρ, hρ⟩ : ∃ ρ, ρ = (σ2 (σ1 bs (.cells [Value.slice A xs.length c].toArray 24 (0, 0))) σ) := ⟨_, rfl⟩
  rw [← hρ] at hr1 hr2 hr3
  have hρl : ∀ b o, ρ b = some o → b < w9.heap.size := fun b o hb => lt_of_some (hr1 b o hb)
  obtain ⟨B, hBe⟩ : ∃ B, B = w9.heap.size := ⟨_, rfl⟩
  rw [← hBe] at hD hρl h09
  refine wpIn_rangeFunc_ownH rfl (by decide) (gf := 36) (lb := #[.pointer (some ⟨bs, 0, none⟩)]) (f.ev (x := .tmp 22) rfl) trivial (enters_of Try.func36 (by kernel_rfl) rfl) (backM_stops id (bwF Mk.zero xs) 5 (by decide) bs c xs (fun _ _ => rfl) hn w9 (fun b o hb => hBe ▸ hρl b o hb) hr1 ⟨_, _, _, hr3, rfl⟩ (h.mono hr2)) (Kp.t (ρ := ρ)) (Kp.b (fun b o hb => hBe ▸ hρl b o hb)) (Below.refl _ _) (fun _ => rfl)
    (fun (pre : List (Nat × Mk)) W => KOk w0 [.blk b6 Mk.zero.l 31, .blk b7 [.int .i64 0] 27, .blk bs [.slice A xs.length c] 24, .blk b5 [.slice A2 n2 c2] 38, .blk b4 [.int .i64 line] 3, .fr σ, .fr τ] W ∧ (∀ y ∈ pre, prevP line ks y.2 = false) ∧ w9.heap.size ≤ W.heap.size)
    (fun cc (pre : List (Nat × Mk)) W => ∃ i : List (Nat × Mk) × (Nat × Mk), KOk w0 [.blk b6 i.2.2.l 31, .blk b7 [.int .i64 0] 27, .blk bs [.slice A xs.length c] 24, .blk b5 [.slice A2 n2 c2] 38, .blk b4 [.int .i64 line] 3, .fr σ, .fr τ] W ∧ (cc = .ret ∧ pre = i.1 ++ [i.2] ∧ (∀ y ∈ i.1, prevP line ks y.2 = false) ∧ prevP line ks i.2.2 = true) ∧ w9.heap.size ≤ W.heap.size)
    (own_k (fun (pre : List (Nat × Mk)) => ∀ y ∈ pre, prevP line ks y.2 = false) (hBe ▸ hD) (hBe ▸ h09)) (fun cc => own_kx (fun (i : List (Nat × Mk) × (Nat × Mk)) (pre : List (Nat × Mk)) => cc = .ret ∧ pre = i.1 ++ [i.2] ∧ (∀ y ∈ i.1, prevP line ks y.2 = false) ∧ prevP line ks i.2.2 = true) (fun i => (hBe ▸ hD : Dom w9.heap.size _).two) (hBe ▸ h09)) ⟨k9, fun y hy => (by cases hy), Nat.le_refl _⟩
    (fun (x : Nat × Mk) a W => AxB 37 w9.heap.size 31 (fun b => [(10, .pointer (some ⟨b, 0, none⟩)), (4, .pointer (some ⟨b4, 0, none⟩)), (5, .pointer (some ⟨b5, 0, none⟩)), (6, .pointer (some ⟨b6, 0, none⟩)), (7, .pointer (some ⟨b7, 0, none⟩))]) x.2.l a W) (fun x a => own_ax) ?assign ?body ?done ?stop
  case assign =>
    intro l pre x W Kt ⟨hk, hp, hz⟩ hK
    refine wpIn_region_lit (list_round (fun _ _ h9 => h9) _ rfl _ _ (wpList_box (zs := Mk.zero.l) zo_31 szz_31 rfl (f.pars (p := 23) (q := 24) rfl rfl _ _) rfl rfl rfl rfl fun a1 f1 => ?_))
    obtain ⟨g1, g2⟩ := box_grown W Mk.zero.l x.2.l 31
    refine hK _ _ (KeepsFrom.of_grownBy g1 (fun j e => by cases e)) (fun hf b o hb => ?_) ⟨hk.grown (hBe ▸ hD) (hBe ▸ h09) g1 (fun r e => by cases e), hp, Nat.le_trans hz g1.size⟩ ⟨W.heap.size, hz, g2, f1.sub (.cons rfl <| .cons rfl <| .cons rfl <| .cons rfl <| .cons rfl <| .nil)⟩
    exact (g1.block b (lt_of_some (hf b o hb)) (fun e => by cases e)).trans (hf b o hb)
  case body =>
    intro l pre x a1 W hl ⟨r, hr⟩ ⟨hk, hp, hz⟩ ⟨b10, hb10, hc10, f10⟩ hlen
    rw [← hBe] at hl hz hb10 ⊢
    have hatx : Ats (above B W) b10 0 x.2.l := fun j v hj => ⟨_, _, _, above_of hb10 hc10, by rw [Nat.zero_add, List.getElem?_toArray]; exact hj⟩
    refine (?_ : TR l 4 Try.prog 37 w0 [(10, .pointer (some ⟨b10, 0, none⟩)), (4, .pointer (some ⟨b4, 0, none⟩)), (5, .pointer (some ⟨b5, 0, none⟩)), (6, .pointer (some ⟨b6, 0, none⟩)), (7, .pointer (some ⟨b7, 0, none⟩))] (.fr (above B W) :: [.blk b6 Mk.zero.l 31, .blk b7 [.int .i64 0] 27, .blk bs [.slice A xs.length c] 24, .blk b5 [.slice A2 n2 c2] 38, .blk b4 [.int .i64 line] 3, .fr σ, .fr τ]) _ _) a1 W f10 (hk.above hD)
    refine TR.block ?_
    refine TR.seq ?_
    refine TR.region (by repeat (first | with_reducible exact NoOut.own | with_reducible apply NoOut.next | with_reducible apply NoOut.block)) rfl ?_
    refine TL.val (OpV.fieldAddr rfl fo_31_0) rfl ?_
    refine TL.val (OpV.load pl_3 rfl (by first | exact Cel.blk P0 rfl | exact Cel.blk P1 rfl | exact Cel.blk P2 rfl | exact Cel.blk P3 rfl | exact Cel.blk P4 rfl | exact Cel.blk P5 rfl | exact Cel.blk P6 rfl | exact Cel.blk P7 rfl | exact Cel.frA (hatx _ _ rfl))) rfl ?_
    refine TL.val (OpV.load pl_3 rfl (by first | exact Cel.blk P0 rfl | exact Cel.blk P1 rfl | exact Cel.blk P2 rfl | exact Cel.blk P3 rfl | exact Cel.blk P4 rfl | exact Cel.blk P5 rfl | exact Cel.blk P6 rfl | exact Cel.blk P7 rfl | exact Cel.frA (hatx _ _ rfl))) rfl ?_
    refine TL.val (OpV.lss rfl rfl) rfl ?_
    refine TL.val (OpV.move rfl) rfl ?_
    refine TL.part (t := 29) rfl ?_ ?_
    ·
     intro hg29
     try simp only [decide_eq_true_eq, decide_eq_false_iff_not, beq_iff_eq, beq_eq_false_iff_ne, bne_iff_ne, bne_eq_false_iff_eq, Bool.not_eq_true', Bool.not_eq_false', ne_eq] at hg29
     refine TL.open rfl rfl ?_
     refine TL.val (OpV.load pl_38 rfl (by first | exact Cel.blk P0 rfl | exact Cel.blk P1 rfl | exact Cel.blk P2 rfl | exact Cel.blk P3 rfl | exact Cel.blk P4 rfl | exact Cel.blk P5 rfl | exact Cel.blk P6 rfl | exact Cel.blk P7 rfl | exact Cel.frA (hatx _ _ rfl))) rfl ?_
     refine TL.open rfl rfl ?_
     refine TL.val (OpV.fieldAddr rfl fo_31_1) rfl ?_
     refine TL.open rfl rfl ?_
     refine TL.val (OpV.load pl_29 rfl (by first | exact Cel.blk P0 rfl | exact Cel.blk P1 rfl | exact Cel.blk P2 rfl | exact Cel.blk P3 rfl | exact Cel.blk P4 rfl | exact Cel.blk P5 rfl | exact Cel.blk P6 rfl | exact Cel.blk P7 rfl | exact Cel.frA (hatx _ _ rfl))) rfl ?_
     refine TL.open rfl rfl ?_
     refine TL.call (g := 27) rfl go_27 rfl (fun w1 k1 => contains_c x.2.kd w1 hk2 (k1.get (e := .fr τ) (by first | exact P0 | exact P1 | exact P2 | exact P3 | exact P4 | exact P5 | exact P6 | exact P7))) rfl ?_
     refine TL.val ((by first | exact OpV.pick_t rfl rfl | exact OpV.pick_f rfl rfl)) rfl ?_
     refine TL.nil ?_
     refine TE.sub (.cons (t := 6) rfl <| .cons (t := 7) rfl <| .cons (t := 10) rfl <| .cons (t := 34) rfl <| .nil) ?_
     refine TE.nextR ?_
     refine TR.cond rfl ?_ ?_
     ·
      intro ht34
      try simp only [decide_eq_true_eq, decide_eq_false_iff_not, beq_iff_eq, beq_eq_false_iff_ne, bne_iff_ne, bne_eq_false_iff_eq, Bool.not_eq_true', Bool.not_eq_false', ne_eq] at ht34
      have hpx : prevP line ks x.2 = true := by rw [prevP, decide_eq_true hg29, ht34]; rfl
      refine TR.seq ?_
      refine TR.region (by repeat (first | with_reducible exact NoOut.own | with_reducible apply NoOut.next | with_reducible apply NoOut.block)) rfl ?_
      refine TL.val (OpV.loadA ag_31 rfl (Cels.frA hatx rfl)) rfl ?_
      first
        | refine TL.storeAll rfl rfl szz_31 rfl rfl rfl (by first | exact P0 | exact P1 | exact P2 | exact P3 | exact P4 | exact P5 | exact P6 | exact P7) (by rfl) ?_
        | refine TL.store rfl rfl szz_31 rfl rfl rfl (by first | exact P0 | exact P1 | exact P2 | exact P3 | exact P4 | exact P5 | exact P6 | exact P7) (by first | exact Nat.le_of_ble_eq_true rfl | (simp; done) | (simp; omega)) (by simp only [Mk.l, putL, List.take_succ_cons, List.take_zero, List.drop_succ_cons, List.drop_zero, List.cons_append, List.nil_append, List.length_cons, List.length_nil, Nat.reduceAdd]; rfl) ?_
      refine TL.store rfl rfl szz_27 rfl rfl rfl (by first | exact P0 | exact P1 | exact P2 | exact P3 | exact P4 | exact P5 | exact P6 | exact P7) (by first | exact Nat.le_of_ble_eq_true rfl | (simp; done) | (simp; omega)) (by simp only [Mk.l, putL, List.take_succ_cons, List.take_zero, List.drop_succ_cons, List.drop_zero, List.cons_append, List.nil_append, List.length_cons, List.length_nil, Nat.reduceAdd]; rfl) ?_
      refine TL.nil ?_
      refine TE.nextR ?_
      refine TR.ret ?_
      refine TE.out_ret ?_
      intro a1 w1 f1 k1
      have k3 : KOk w0 (.fr (above B W) :: [.blk b6 x.2.l 31, .blk b7 [.int .i64 0] 27, .blk bs [.slice A xs.length c] 24, .blk b5 [.slice A2 n2 c2] 38, .blk b4 [.int .i64 line] 3, .fr σ, .fr τ]) w1 := Perm.kle (.cons (by first | exact P0 | exact P1 | exact P2 | exact P3 | exact P4 | exact P5 | exact P6) (.cons (by first | exact P0 | exact P1 | exact P2 | exact P3 | exact P4 | exact P5 | exact P6) (.cons (by first | exact P0 | exact P1 | exact P2 | exact P3 | exact P4 | exact P5 | exact P6) (.cons (by first | exact P0 | exact P1 | exact P2 | exact P3 | exact P4 | exact P5 | exact P6) (.cons (by first | exact P0 | exact P1 | exact P2 | exact P3 | exact P4 | exact P5 | exact P6) (.cons (by first | exact P0 | exact P1 | exact P2 | exact P3 | exact P4 | exact P5 | exact P6) (.cons (by first | exact P0 | exact P1 | exact P2 | exact P3 | exact P4 | exact P5 | exact P6) (.cons (by first | exact P0 | exact P1 | exact P2 | exact P3 | exact P4 | exact P5 | exact P6) .nil)))))))) w1 k1
      have hkp := hk.keeps k3 hl hr
      exact ⟨hkp.1, (pre, x), k3.tail, ⟨rfl, rfl, hp, hpx⟩, Nat.le_trans hz hkp.1.size⟩
     ·
      intro ht34
      try simp only [decide_eq_true_eq, decide_eq_false_iff_not, beq_iff_eq, beq_eq_false_iff_ne, bne_iff_ne, bne_eq_false_iff_eq, Bool.not_eq_true', Bool.not_eq_false', ne_eq] at ht34
      have hpx : prevP line ks x.2 = false := by rw [prevP, ht34, Bool.and_false]
      refine TR.skip ?_
      refine TE.out ?_
      intro a1 w1 f1 k1
      have hkp := hk.keeps k1 hl hr
      exact ⟨hkp.1, fun _ => (by rw [hρ]; exact (KOk.frw k1.tail (.there (.there .here)) (.there (.there (.there (.there .here))))).1), k1.tail, fun y hy => by rcases List.mem_append.1 hy with hy | hy; exact hp y hy; rw [List.mem_singleton.1 hy]; exact hpx, Nat.le_trans hz hkp.1.size⟩
    ·
     intro hg29
     try simp only [decide_eq_true_eq, decide_eq_false_iff_not, beq_iff_eq, beq_eq_false_iff_ne, bne_iff_ne, bne_eq_false_iff_eq, Bool.not_eq_true', Bool.not_eq_false', ne_eq] at hg29
     have hpx : prevP line ks x.2 = false := by rw [prevP, decide_eq_false hg29]; rfl
     refine TL.shut rfl rfl ?_
     refine TL.shut rfl rfl ?_
     refine TL.shut rfl rfl ?_
     refine TL.shut rfl rfl ?_
     refine TL.val ((by first | exact OpV.pick_t rfl rfl | exact OpV.pick_f rfl rfl)) rfl ?_
     refine TL.nil ?_
     refine TE.sub (.cons (t := 6) rfl <| .cons (t := 7) rfl <| .cons (t := 10) rfl <| .cons (t := 34) rfl <| .nil) ?_
     refine TE.nextR ?_
     refine TR.no rfl ?_
     refine TR.skip ?_
     refine TE.out ?_
     intro a1 w1 f1 k1
     have hkp := hk.keeps k1 hl hr
     exact ⟨hkp.1, fun _ => (by rw [hρ]; exact (KOk.frw k1.tail (.there (.there .here)) (.there (.there (.there (.there .here))))).1), k1.tail, fun y hy => by rcases List.mem_append.1 hy with hy | hy; exact hp y hy; rw [List.mem_singleton.1 hy]; exact hpx, Nat.le_trans hz hkp.1.size⟩
  case done =>
    intro D ys w1 hDl hys ⟨hk, hp, hz⟩ hDd
    subst hys
    rw [← hBe] at hDl hz
    have hO : prevO line ks xs = none := bw_done (F := fun (y : Nat × Mk) => y.2) (p := prevP line ks) (zs := xs.reverse) (by simp) (fun k hk => bw_rev Mk.zero xs k hk) hp
    have kD : KOk w0 (.fr (σ1 D (.deferred (some []))) :: [.blk b6 Mk.zero.l 31, .blk b7 [.int .i64 0] 27, .blk bs [.slice A xs.length c] 24, .blk b5 [.slice A2 n2 c2] 38, .blk b4 [.int .i64 line] 3, .fr σ, .fr τ]) w1 := ⟨hk.bel, fun b o hb => (by obtain ⟨rfl, rfl⟩ := σ1_some hb; exact hDd), fun e he _ y hy hy2 => (by have h9 := hD e he y hy2; have hy3 : σ1 D (.deferred (some [])) y ≠ Option.none := hy; cases hs9 : σ1 D (.deferred (some [])) y with | none => exact hy3 hs9 | some o => (obtain ⟨rfl, rfl⟩ := σ1_some hs9; omega)), hk.all⟩
    refine (?_ : TD Try.prog 37 [{ target := .collected D, args := #[] }] w0 [(6, .pointer (some ⟨b6, 0, none⟩)), (7, .pointer (some ⟨b7, 0, none⟩))] (.fr (σ1 D (.deferred (some []))) :: [.blk b6 Mk.zero.l 31, .blk b7 [.int .i64 0] 27, .blk bs [.slice A xs.length c] 24, .blk b5 [.slice A2 n2 c2] 38, .blk b4 [.int .i64 line] 3, .fr σ, .fr τ]) _ _) _ w1 (by simp [f.df]) ((f.mark _).sub (.cons rfl <| .cons rfl <| .nil)) kD
    refine TD.seq ?_
    refine TD.region ?_
    refine TLD.val (OpV.build (qs := #[]) (fun _ _ => by simp) (bld_31)) rfl ?_
    refine TLD.storeAll rfl rfl szz_31 rfl rfl rfl (by first | exact P0 | exact P1 | exact P2 | exact P3 | exact P4 | exact P5 | exact P6) (by rfl) ?_
    refine TLD.storeAll rfl rfl szz_27 rfl rfl rfl (by first | exact P0 | exact P1 | exact P2 | exact P3 | exact P4 | exact P5 | exact P6) (by rfl) ?_
    refine TLD.nil ?_
    refine TED.next ?_
    refine TD.ret ?_
    intro a2 w2 g2 f2 k2
    have k3 : KOk w0 (.fr (σ1 D (.deferred (some []))) :: [.blk b6 Mk.zero.l 31, .blk b7 [.int .i64 9] 27, .blk bs [.slice A xs.length c] 24, .blk b5 [.slice A2 n2 c2] 38, .blk b4 [.int .i64 line] 3, .fr σ, .fr τ]) w2 := Perm.kle (.cons (by first | exact P0 | exact P1 | exact P2 | exact P3 | exact P4 | exact P5 | exact P6) (.cons (by first | exact P0 | exact P1 | exact P2 | exact P3 | exact P4 | exact P5 | exact P6) (.cons (by first | exact P0 | exact P1 | exact P2 | exact P3 | exact P4 | exact P5 | exact P6) (.cons (by first | exact P0 | exact P1 | exact P2 | exact P3 | exact P4 | exact P5 | exact P6) (.cons (by first | exact P0 | exact P1 | exact P2 | exact P3 | exact P4 | exact P5 | exact P6) (.cons (by first | exact P0 | exact P1 | exact P2 | exact P3 | exact P4 | exact P5 | exact P6) (.cons (by first | exact P0 | exact P1 | exact P2 | exact P3 | exact P4 | exact P5 | exact P6) (.cons (by first | exact P0 | exact P1 | exact P2 | exact P3 | exact P4 | exact P5 | exact P6) .nil)))))))) w2 k2
    exact leave_mark (L := [(6, .pointer (some ⟨b6, 0, none⟩)), (7, .pointer (some ⟨b7, 0, none⟩))]) rfl (f2.sub (.cons rfl <| .cons rfl <| .nil)) g2 k3.tail (hD.le hDl).two (Nat.le_trans h09 hDl) (k3.all.1 D _ (σ1_self _ _)) (.cons (ResV.cellA rfl ag_31 (by first | exact Cels.blk P0 rfl | exact Cels.blk P1 rfl)) <| .cons (ResV.cell rfl pl_27 (by first | exact Cel.blk P1 rfl | exact Cel.blk P0 rfl)) <| .nil) (fun w1 k1 => ⟨by rw [hO, (fnd_none hck).1, (fnd_none hck).2], k1.bel⟩)
  case stop =>
    intro D cc pre w1 hDl ⟨kk, hkk, hpre⟩ ⟨⟨pre1, x⟩, hk, ⟨hcc, hpe, hp, hpx⟩, hz⟩ hDd
    subst hcc
    rw [← hBe] at hDl hz
    simp only at hpe hp hpx hk
    have hO : prevO line ks xs = some x.2 := bw_stop (F := fun (y : Nat × Mk) => y.2) (p := prevP line ks) (zs := xs.reverse) (fun k hk => bw_rev Mk.zero xs k hk) hkk (hpe.symm.trans hpre) hp hpx
    exact wpIn_ret (leave_mark (L := [(6, .pointer (some ⟨b6, 0, none⟩)), (7, .pointer (some ⟨b7, 0, none⟩))]) rfl ((f.mark _).sub (.cons rfl <| .cons rfl <| .nil)) (by simp [f.df]) hk (hD.le hDl).two (Nat.le_trans h09 hDl) hDd (.cons (ResV.cellA rfl ag_31 (by first | exact Cels.blk P0 rfl | exact Cels.blk P1 rfl)) <| .cons (ResV.cell rfl pl_27 (by first | exact Cel.blk P1 rfl | exact Cel.blk P0 rfl)) <| .nil) (fun w1 k1 => ⟨by rw [hO, (fnd_some hck).1, (fnd_some hck).2], k1.bel⟩))
set_option maxRecDepth 100000 in
set_option maxHeartbeats 400000 in
theorem prev_nil (line : Int) (A : Option Addr) (n c : Nat) (w : World) : Calls Try.prog 15 #[.pointer none, .int .i64 line, .slice A n c] w (Ret (.tuple #[.agg Mk.zero.l.toArray, .int .i64 1]) w) := by
 refine calls_TM 6 (vs := [.pointer none, .int .i64 line, .slice A n c]) (L0 := [(0, .pointer none), (1, .int .i64 line), (2, .slice A n c)]) Try.func15 rfl rfl rfl rfl (KOk.none w) ?_
 refine T.seq ?_
 refine T.region ?_
 refine TL.box1 rfl rfl rfl ?_
 intro b4
 refine TL.box1 rfl rfl rfl ?_
 intro b5
 refine TL.alloc zo_31 rfl ?_
 intro b6
 refine TL.alloc zo_27 rfl ?_
 intro b7
 refine TL.nil ?_
 refine TE.next ?_
 refine T.seq ?_
 refine T.seq ?_
 refine T.region ?_
 refine TL.val (OpV.move rfl) rfl ?_
 refine TL.val (OpV.load pl_38 rfl (by first | exact Cel.blk P0 rfl | exact Cel.blk P1 rfl | exact Cel.blk P2 rfl | exact Cel.blk P3 rfl | exact Cel.blk P4 rfl)) rfl ?_
 refine TL.call (g := 26) rfl go_26 rfl (fun w1 k1 => check_nil _ w1) rfl ?_
 refine TL.val (OpV.assign rfl) rfl ?_
 refine TL.nil ?_
 refine TE.next ?_
 refine T.seq ?_
 refine T.region ?_
 refine TL.val (OpV.move rfl) rfl ?_
 refine TL.val (OpV.neq rfl rfl) rfl ?_
 refine TL.said (t := 15) rfl (show _ = Value.bool true from congrArg Value.bool (rfl)) ?_
 refine TL.nil ?_
 refine TE.next ?_
 refine T.yes rfl ?_
 refine T.seq ?_
 refine T.region ?_
 refine TL.val (OpV.build (qs := #[]) (fun _ _ => by simp) (bld_31)) rfl ?_
 refine TL.val (OpV.move rfl) rfl ?_
 first
   | refine TL.storeAll rfl rfl szz_31 rfl rfl rfl (by first | exact P0 | exact P1 | exact P2 | exact P3 | exact P4) (by rfl) ?_
   | refine TL.store rfl rfl szz_31 rfl rfl rfl (by first | exact P0 | exact P1 | exact P2 | exact P3 | exact P4) (by first | exact Nat.le_of_ble_eq_true rfl | (simp; done) | (simp; omega)) (by simp only [Mk.l, putL, List.take_succ_cons, List.take_zero, List.drop_succ_cons, List.drop_zero, List.cons_append, List.nil_append, List.length_cons, List.length_nil, Nat.reduceAdd]; rfl) ?_
 refine TL.store rfl rfl szz_27 rfl rfl rfl (by first | exact P0 | exact P1 | exact P2 | exact P3 | exact P4) (by first | exact Nat.le_of_ble_eq_true rfl | (simp; done) | (simp; omega)) (by simp only [Mk.l, putL, List.take_succ_cons, List.take_zero, List.drop_succ_cons, List.drop_zero, List.cons_append, List.nil_append, List.length_cons, List.length_nil, Nat.reduceAdd]; rfl) ?_
 refine TL.nil ?_
 refine TE.sub (.cons (t := 6) rfl <| .cons (t := 7) rfl <| .nil) ?_
 refine TE.next ?_
 refine T.ret ?_
 refine TE.pass_ret ?_
 refine TE.retNM rfl (.cons (ResV.cellA rfl ag_31 (by first | exact Cels.blk P0 rfl | exact Cels.blk P1 rfl | exact Cels.blk P2 rfl | exact Cels.blk P3 rfl | exact Cels.blk P4 rfl)) <| .cons (ResV.cell rfl pl_27 (by first | exact Cel.blk P0 rfl | exact Cel.blk P1 rfl | exact Cel.blk P2 rfl | exact Cel.blk P3 rfl | exact Cel.blk P4 rfl)) <| .nil) ?_
 exact fun w1 k1 => ⟨rfl, k1.bel⟩
end Go.Proofs.Ytaoepaonjeilgaa
