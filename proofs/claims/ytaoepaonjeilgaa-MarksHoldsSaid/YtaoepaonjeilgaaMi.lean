/-
  The walk of At. No condition.
-/
import Derived.Test.YtaoepaonjeilgaaMh
namespace Go.Proofs.Ytaoepaonjeilgaa
open Go.RowKit Go.Shelf
set_option linter.unusedSimpArgs false
set_option linter.unusedVariables false
theorem go_37 : isGo Try.prog 37 = true := by kernel_rfl
theorem pl_39 : plainT Try.prog 39 = true := by kernel_rfl
theorem se_39 : sEl Try.prog 39 = some (3, 1) := by kernel_rfl
theorem szz_39 : sz Try.prog 39 = some 1 := by kernel_rfl
theorem zo_39 : zOf Try.prog 39 = some [.slice none 0 0] := by kernel_rfl
theorem backC_x {w0 w : World} {K : List Ent} (A : Option Addr) (n c : Nat) (k : KOk w0 K w) : Calls Try.prog 37 #[.slice A n c] w fun e w' => ∃ b : Nat, e = .returned (.func (.func 39) #[] #[.pointer (some ⟨b, 0, none⟩)]) ∧ True ∧ KOk w0 (.blk b [.slice A n c] 34 :: K) w' :=
  (backC_c A n c w).mono fun e w' ⟨h1, h2⟩ => ⟨w.heap.size, h1, trivial, by rw [h2]; exact k.alloc _ _⟩
theorem at_none {line : Int} {xs : List Mk} (h : ((cmdsV xs).zip (linesV xs)).reverse.find? (fun q => decide (q.2 ≤ line)) = none) : atV line xs = Cm.zero ∧ atE line xs = 9 := by
  have e : atO line (cmdsV xs) (linesV xs) = none := by rw [atO, h]; rfl
  unfold atV atE
  rw [e]
  exact ⟨rfl, rfl⟩
theorem at_some {line : Int} {xs : List Mk} {q : Cm × Int} (h : ((cmdsV xs).zip (linesV xs)).reverse.find? (fun q => decide (q.2 ≤ line)) = some q) : atV line xs = q.1 ∧ atE line xs = 0 := by
  have e : atO line (cmdsV xs) (linesV xs) = some q.1 := by rw [atO, h]; rfl
  unfold atV atE
  rw [e]
  exact ⟨rfl, rfl⟩
abbrev AtI (xs : List Mk) := { y : Nat × Cm // y.1 < (cmdsV xs).length ∨ (cmdsV xs).length = 0 }
def atF2 (xs : List Mk) : Nat → AtI xs := fun k => ⟨bwF Cm.zero (cmdsV xs) k, by show (cmdsV xs).length - 1 - k < (cmdsV xs).length ∨ (cmdsV xs).length = 0; omega⟩
def atG (xs : List Mk) (y : AtI xs) : Cm × Int := (y.1.2, ((linesV xs)[y.1.1]?).getD 0)
theorem at_rev (xs : List Mk) (k : Nat) (hk : k ≤ (cmdsV xs).length) : (upto (atF2 xs) k).map (atG xs) = ((cmdsV xs).zip (linesV xs)).reverse.take k := by
  rw [← zip_rev (d := Cm.zero) (e := 0) (xs := cmdsV xs) (zs := linesV xs) (gr_len xs).2 k hk]
  simp [upto, atF2, atG]
set_option maxRecDepth 100000 in
set_option maxHeartbeats 1000000 in
theorem at_c {σ : Nat → Option Obj} {bm : Nat} {xs : List Mk} (line : Int) (w : World) (hm : MoR σ bm xs) (hn : xs.length ≤ 1000) (hs : ∀ b o, σ b = some o → w.heap[b]? = some o) : Calls Try.prog 32 #[.pointer (some ⟨bm, 0, none⟩), .int .i64 line] w (Ret (.tuple #[.agg (atV line xs).l.toArray, .int .i64 (atE line xs)]) w) := by
 obtain ⟨w0, hw0⟩ : ∃ w0, w0 = w := ⟨_, rfl⟩
 rw [← hw0] at hs ⊢
 refine calls_TM 6 (vs := [.pointer (some ⟨bm, 0, none⟩), .int .i64 line]) (L0 := [(0, .pointer (some ⟨bm, 0, none⟩)), (1, .int .i64 line)]) Try.func32 rfl rfl rfl rfl (KOk.fr1 hs) ?_
 refine T.seq ?_
 refine T.region ?_
 refine TL.box1 rfl rfl rfl ?_
 intro b3
 refine TL.alloc zo_41 rfl ?_
 intro b4
 refine TL.alloc zo_27 rfl ?_
 intro b5
 refine TL.nil ?_
 refine TE.next ?_
 refine T.seq ?_
 refine T.seq ?_
 refine T.region ?_
 refine TL.val (OpV.move rfl) rfl ?_
 refine TL.val (OpV.peql Try.underlying23 rfl rfl) rfl ?_
 refine TL.said (t := 11) rfl (show _ = Value.bool false from congrArg Value.bool (rfl)) ?_
 refine TL.nil ?_
 refine TE.next ?_
 refine T.no rfl ?_
 refine T.skip ?_
 refine TE.next ?_
 refine T.seq ?_
 refine T.region ?_
 refine TL.val (OpV.move rfl) rfl ?_
 refine TL.callx (g := 25) rfl go_25 rfl (fun wz kz => add_x kz (cmds_c wz hm (kz.get (e := .fr σ) (by first | exact P0 | exact P1 | exact P2 | exact P3 | exact P4 | exact P5 | exact P6 | exact P7)) hn)) rfl ?_
 rintro ⟨A4, c4, A5, c5⟩ ⟨h4, h5⟩
 refine TL.val (OpV.move rfl) rfl ?_
 refine TL.val (OpV.extract rfl rfl) rfl ?_
 refine TL.val (OpV.extract rfl rfl) rfl ?_
 refine TL.alloc zo_39 rfl ?_
 intro b7
 refine TL.val (OpV.assign rfl) rfl ?_
 refine TL.store rfl rfl szz_39 rfl rfl rfl (by first | exact P0 | exact P1 | exact P2 | exact P3 | exact P4 | exact P5 | exact P6 | exact P7) (by first | exact Nat.le_of_ble_eq_true rfl | (simp; done) | (simp; omega)) (by simp only [Cm.l, putL, List.take_succ_cons, List.take_zero, List.drop_succ_cons, List.drop_zero, List.cons_append, List.nil_append, List.length_cons, List.length_nil, Nat.reduceAdd]; rfl) ?_
 refine TL.nil ?_
 refine TE.sub (.cons (t := 3) rfl <| .cons (t := 4) rfl <| .cons (t := 5) rfl <| .cons (t := 6) rfl <| .cons (t := 7) rfl <| .nil) ?_
 refine TE.next ?_
 refine T.seq ?_
 refine T.seq ?_
 refine T.ex (fun wz kz => KOk.rowOwn (kz.pick (e := .row 41 9 A4 (cmdsV xs).length c4 (cl (cmdsV xs))) (by first | exact P0 | exact P1 | exact P2 | exact P3 | exact P4 | exact P5 | exact P6 | exact P7))) ?_
 rintro σc hσc
 refine T.ex (fun wz kz => KOk.rowOwn (kz.pick (e := .row 3 1 A5 (linesV xs).length c5 (il (linesV xs))) (by first | exact P0 | exact P1 | exact P2 | exact P3 | exact P4 | exact P5 | exact P6 | exact P7))) ?_
 rintro σi hσi
 have hcs : CmR σc A4 (cmdsV xs).length c4 (cmdsV xs) := SlR.of_row Cm.l_length hσc rfl
 have his : IsR σi A5 (linesV xs).length c5 (linesV xs) := SlR.of_row iL_length hσi rfl
 have hcn : (cmdsV xs).length ≤ 1000 := Nat.le_trans (gr_len xs).1 hn
 refine T.region ?_
 refine TL.val (OpV.move rfl) rfl ?_
 refine TL.callx (g := 37) rfl go_37 rfl (fun wz kz => backC_x A4 (cmdsV xs).length c4 kz) rfl ?_
 rintro bs -
 refine TL.nil ?_
 refine TE.next ?_
 refine T.block ?_
 refine T.kle (Kle.trans (Kle.pick (e := .own σc) (by first | exact P0 | exact P1 | exact P2 | exact P3 | exact P4 | exact P5 | exact P6 | exact P7)) (Kle.trans Kle.ownFr (Kle.trans (Kle.pick (e := .own σi) (by first | exact P0 | exact P1 | exact P2 | exact P3 | exact P4 | exact P5 | exact P6 | exact P7)) (Kle.trans Kle.ownFr (Perm.kle (.cons (by first | exact P0 | exact P1 | exact P2 | exact P3 | exact P4 | exact P5 | exact P6 | exact P7 | exact P8) (.cons (by first | exact P0 | exact P1 | exact P2 | exact P3 | exact P4 | exact P5 | exact P6 | exact P7 | exact P8) (.cons (by first | exact P0 | exact P1 | exact P2 | exact P3 | exact P4 | exact P5 | exact P6 | exact P7 | exact P8) (.cons (by first | exact P0 | exact P1 | exact P2 | exact P3 | exact P4 | exact P5 | exact P6 | exact P7 | exact P8) (.cons (by first | exact P0 | exact P1 | exact P2 | exact P3 | exact P4 | exact P5 | exact P6 | exact P7 | exact P8) (.cons (by first | exact P0 | exact P1 | exact P2 | exact P3 | exact P4 | exact P5 | exact P6 | exact P7 | exact P8) (.cons (by first | exact P0 | exact P1 | exact P2 | exact P3 | exact P4 | exact P5 | exact P6 | exact P7 | exact P8) (.cons (by first | exact P0 | exact P1 | exact P2 | exact P3 | exact P4 | exact P5 | exact P6 | exact P7 | exact P8) .nil)))))))) : Kle w0 _ [.blk b4 Cm.zero.l 41, .blk b5 [.int .i64 0] 27, .blk bs [.slice A4 (cmdsV xs).length c4] 34, .fr σc, .blk b7 [.slice A5 (linesV xs).length c5] 39, .fr σi, .blk b3 [.int .i64 line] 3, .fr σ]))))) ?_
 intro a w9 f k9
 refine (wpIn_wide (n := 6)).1 ?_
 have hD := k9.dom
 have h09 := k9.bel.size
 obtain ⟨hr1, hr2, hr3⟩ := KOk.frw k9 (b := bs) (cs := [.slice A4 (cmdsV xs).length c4]) (T := 34) (σ := σc) (.there (.there .here)) (.there (.there .here))
 obtain ⟨ρ, hρ⟩ : ∃ ρ, ρ = (σ2 (σ1 bs (.cells [Value.slice A4 (cmdsV xs).length c4].toArray 34 (0, 0))) σc) := ⟨_, rfl⟩
 rw [← hρ] at hr1 hr2 hr3
 have hρl : ∀ b o, ρ b = some o → b < w9.heap.size := fun b o hb => lt_of_some (hr1 b o hb)
 obtain ⟨B, hBe⟩ : ∃ B, B = w9.heap.size := ⟨_, rfl⟩
 rw [← hBe] at hD hρl h09
 refine wpIn_rangeFunc_ownH rfl (by decide) (gf := 39) (lb := #[.pointer (some ⟨bs, 0, none⟩)]) (f.ev (x := .tmp 19) rfl) trivial (enters_of Try.func39 (by kernel_rfl) rfl) (backC_stops Subtype.val (atF2 xs) 5 (by decide) bs c4 (cmdsV xs) (fun _ _ => rfl) hcn w9 (fun b o hb => hBe ▸ hρl b o hb) hr1 ⟨_, _, _, hr3, rfl⟩ (hcs.mono hr2)) (Kp.t (ρ := ρ)) (Kp.b (fun b o hb => hBe ▸ hρl b o hb)) (Below.refl _ _) (fun _ => rfl)
   (fun (pre : List (AtI xs)) W => KOk w0 [.blk b4 Cm.zero.l 41, .blk b5 [.int .i64 0] 27, .blk bs [.slice A4 (cmdsV xs).length c4] 34, .fr σc, .blk b7 [.slice A5 (linesV xs).length c5] 39, .fr σi, .blk b3 [.int .i64 line] 3, .fr σ] W ∧ (∀ y ∈ pre, (fun q : Cm × Int => decide (q.2 ≤ line)) (atG xs y) = false) ∧ w9.heap.size ≤ W.heap.size)
   (fun cc (pre : List (AtI xs)) W => ∃ i : List (AtI xs) × AtI xs, KOk w0 [.blk b4 i.2.1.2.l 41, .blk b5 [.int .i64 0] 27, .blk bs [.slice A4 (cmdsV xs).length c4] 34, .fr σc, .blk b7 [.slice A5 (linesV xs).length c5] 39, .fr σi, .blk b3 [.int .i64 line] 3, .fr σ] W ∧ (cc = .ret ∧ pre = i.1 ++ [i.2] ∧ (∀ y ∈ i.1, (fun q : Cm × Int => decide (q.2 ≤ line)) (atG xs y) = false) ∧ decide ((atG xs i.2).2 ≤ line) = true) ∧ w9.heap.size ≤ W.heap.size)
   (own_k (fun (pre : List (AtI xs)) => ∀ y ∈ pre, (fun q : Cm × Int => decide (q.2 ≤ line)) (atG xs y) = false) (hBe ▸ hD) (hBe ▸ h09)) (fun cc => own_kx (fun (i : List (AtI xs) × AtI xs) (pre : List (AtI xs)) => cc = .ret ∧ pre = i.1 ++ [i.2] ∧ (∀ y ∈ i.1, (fun q : Cm × Int => decide (q.2 ≤ line)) (atG xs y) = false) ∧ decide ((atG xs i.2).2 ≤ line) = true) (fun i => (hBe ▸ hD : Dom w9.heap.size _).two) (hBe ▸ h09)) ⟨k9, fun y hy => (by cases hy), Nat.le_refl _⟩
   (fun (x : AtI xs) a W => AxB 30 w9.heap.size 41 (fun b => [(9, .pointer (some ⟨b, 0, none⟩)), (8, .int .i64 (x.1.1 : Int)), (3, .pointer (some ⟨b3, 0, none⟩)), (7, .pointer (some ⟨b7, 0, none⟩)), (4, .pointer (some ⟨b4, 0, none⟩)), (5, .pointer (some ⟨b5, 0, none⟩))]) x.1.2.l a W) (fun x a => own_ax) ?assign ?body ?done ?stop
 case assign =>
   intro l pre x W Kt ⟨hk, hp, hz⟩ hK
   refine wpIn_seq (wpIn_region_lit (list_round (fun _ _ h9 => h9) _ rfl _ _ (wpList_assign (f.pars (p := 20) (q := 21) rfl rfl _ _) rfl rfl fun a0 f0 => ?_)))
   refine wpIn_region_lit (list_round (fun _ _ h9 => h9) _ rfl _ _ (wpList_box (zs := Cm.zero.l) zo_41 szz_41 rfl f0 rfl rfl rfl rfl fun a1 f1 => ?_))
   obtain ⟨g1, g2⟩ := box_grown W Cm.zero.l x.1.2.l 41
   refine hK _ _ (KeepsFrom.of_grownBy g1 (fun j e => by cases e)) (fun hf b o hb => ?_) ⟨hk.grown (hBe ▸ hD) (hBe ▸ h09) g1 (fun r e => by cases e), hp, Nat.le_trans hz g1.size⟩ ⟨W.heap.size, hz, g2, f1.sub (.cons rfl <| .cons rfl <| .cons rfl <| .cons rfl <| .cons rfl <| .cons rfl <| .nil)⟩
   exact (g1.block b (lt_of_some (hf b o hb)) (fun e => by cases e)).trans (hf b o hb)
 case body =>
   intro l pre x a1 W hl ⟨r, hr⟩ ⟨hk, hp, hz⟩ ⟨b10, hb10, hc10, f10⟩ hlen
   rw [← hBe] at hl hz hb10 ⊢
   have hatx : Ats (above B W) b10 0 x.1.2.l := fun j v hj => ⟨_, _, _, above_of hb10 hc10, by rw [Nat.zero_add, List.getElem?_toArray]; exact hj⟩
   have hxl : x.1.1 < (linesV xs).length := by have h9 := x.2; have h8 : (linesV xs).length = (cmdsV xs).length := (gr_len xs).2; omega
   obtain ⟨v, hv⟩ := get_of_lt rfl hxl
   obtain ⟨bi, oi, hAi, hati⟩ := his.pos (by omega)
   have hatv := hati _ v hv
   have hgx : (atG xs x).2 = v := by rw [atG, hv]; rfl
   refine (?_ : TR l 4 Try.prog 30 w0 [(9, .pointer (some ⟨b10, 0, none⟩)), (8, .int .i64 (x.1.1 : Int)), (3, .pointer (some ⟨b3, 0, none⟩)), (7, .pointer (some ⟨b7, 0, none⟩)), (4, .pointer (some ⟨b4, 0, none⟩)), (5, .pointer (some ⟨b5, 0, none⟩))] (.fr (above B W) :: [.blk b4 Cm.zero.l 41, .blk b5 [.int .i64 0] 27, .blk bs [.slice A4 (cmdsV xs).length c4] 34, .fr σc, .blk b7 [.slice A5 (linesV xs).length c5] 39, .fr σi, .blk b3 [.int .i64 line] 3, .fr σ]) _ _) a1 W f10 (hk.above hD)
   refine TR.block ?_
   refine TR.seq ?_
   refine TR.any (.fr (above B W) :: [.blk b4 Cm.zero.l 41, .blk b5 [.int .i64 0] 27, .blk bs [.slice A4 (cmdsV xs).length c4] 34, .fr σc, .blk b7 [.slice A5 (linesV xs).length c5] 39, .fr σi, .blk b3 [.int .i64 line] 3, .fr σ]) [] (by repeat (first | with_reducible exact NoOut.own | with_reducible apply NoOut.next | with_reducible apply NoOut.block)) rfl mix rfl rfl ?_
   refine TA.take (i := 0) (ls := #[true, false, false, false, false, false]) rfl rfl rfl rfl rfl (by kernel_rfl) (by kernel_rfl) (by kernel_rfl) (by kernel_rfl) (by repeat (first | with_reducible exact PanicOk.own | with_reducible apply PanicOk.next | with_reducible apply PanicOk.block)) (.all) (OpV.load pl_39 rfl (by first | exact Cel.blk P0 rfl | exact Cel.blk P1 rfl | exact Cel.blk P2 rfl | exact Cel.blk P3 rfl | exact Cel.blk P4 rfl | exact Cel.blk P5 rfl | exact Cel.blk P6 rfl | exact Cel.blk P7 rfl | exact Cel.frA (hatx _ _ rfl) | exact Cel.frA (hatv 0 _ rfl))) rfl (by kernel_rfl) ?_
   refine TA.takeP (i := 1) (ls := #[true, true, false, false, false, false]) rfl rfl rfl rfl rfl (by kernel_rfl) (by kernel_rfl) (by kernel_rfl) (by repeat (first | with_reducible exact PanicOk.own | with_reducible apply PanicOk.next | with_reducible apply PanicOk.block)) (OpV.move rfl) rfl (by kernel_rfl) ?_
   refine TA.takeP (i := 2) (ls := #[true, true, true, false, false, false]) rfl rfl rfl rfl rfl (by kernel_rfl) (by kernel_rfl) (by kernel_rfl) (by repeat (first | with_reducible exact PanicOk.own | with_reducible apply PanicOk.next | with_reducible apply PanicOk.block)) (OpV.indexAddr (j := x.1.1) se_39 rfl hAi rfl rfl (by omega)) rfl (by kernel_rfl) ?_
   refine TA.take (i := 3) (ls := #[true, true, true, true, false, false]) rfl rfl rfl rfl rfl (by kernel_rfl) (by kernel_rfl) (by kernel_rfl) (by kernel_rfl) (by repeat (first | with_reducible exact PanicOk.own | with_reducible apply PanicOk.next | with_reducible apply PanicOk.block)) (.all) (OpV.load pl_3 rfl (by first | exact Cel.blk P0 rfl | exact Cel.blk P1 rfl | exact Cel.blk P2 rfl | exact Cel.blk P3 rfl | exact Cel.blk P4 rfl | exact Cel.blk P5 rfl | exact Cel.blk P6 rfl | exact Cel.blk P7 rfl | exact Cel.frA (hatx _ _ rfl) | exact Cel.frA (hatv 0 _ rfl))) rfl (by kernel_rfl) ?_
   refine TA.take (i := 4) (ls := #[true, true, true, true, true, false]) rfl rfl rfl rfl rfl (by kernel_rfl) (by kernel_rfl) (by kernel_rfl) (by kernel_rfl) (by repeat (first | with_reducible exact PanicOk.own | with_reducible apply PanicOk.next | with_reducible apply PanicOk.block)) (.all) (OpV.load pl_3 rfl (by first | exact Cel.blk P0 rfl | exact Cel.blk P1 rfl | exact Cel.blk P2 rfl | exact Cel.blk P3 rfl | exact Cel.blk P4 rfl | exact Cel.blk P5 rfl | exact Cel.blk P6 rfl | exact Cel.blk P7 rfl | exact Cel.frA (hatx _ _ rfl) | exact Cel.frA (hatv 0 _ rfl))) rfl (by kernel_rfl) ?_
   refine TA.takeP (i := 5) (ls := #[true, true, true, true, true, true]) rfl rfl rfl rfl rfl (by kernel_rfl) (by kernel_rfl) (by kernel_rfl) (by repeat (first | with_reducible exact PanicOk.own | with_reducible apply PanicOk.next | with_reducible apply PanicOk.block)) (OpV.leq rfl rfl) rfl (by kernel_rfl) ?_
   refine TA.done (by kernel_rfl) ?_
   refine TE.sub (.cons (t := 4) rfl <| .cons (t := 5) rfl <| .cons (t := 9) rfl <| .cons (t := 27) rfl <| .nil) ?_
   refine TE.nextR ?_
   refine TR.cond rfl ?_ ?_
   ·
    intro ht27
    try simp only [decide_eq_true_eq, decide_eq_false_iff_not, beq_iff_eq, beq_eq_false_iff_ne, bne_iff_ne, bne_eq_false_iff_eq, Bool.not_eq_true', Bool.not_eq_false', ne_eq] at ht27
    have hpx : decide ((atG xs x).2 ≤ line) = true := by rw [hgx]; exact decide_eq_true ht27
    refine TR.seq ?_
    refine TR.region (by repeat (first | with_reducible exact NoOut.own | with_reducible apply NoOut.next | with_reducible apply NoOut.block)) rfl ?_
    refine TL.val (OpV.loadA ag_41 rfl (Cels.frA hatx rfl)) rfl ?_
    first
      | refine TL.storeAll rfl rfl szz_41 rfl rfl rfl (by first | exact P0 | exact P1 | exact P2 | exact P3 | exact P4 | exact P5 | exact P6 | exact P7) (by rfl) ?_
      | refine TL.store rfl rfl szz_41 rfl rfl rfl (by first | exact P0 | exact P1 | exact P2 | exact P3 | exact P4 | exact P5 | exact P6 | exact P7) (by first | exact Nat.le_of_ble_eq_true rfl | (simp; done) | (simp; omega)) (by simp only [Cm.l, putL, List.take_succ_cons, List.take_zero, List.drop_succ_cons, List.drop_zero, List.cons_append, List.nil_append, List.length_cons, List.length_nil, Nat.reduceAdd]; rfl) ?_
    refine TL.store rfl rfl szz_27 rfl rfl rfl (by first | exact P0 | exact P1 | exact P2 | exact P3 | exact P4 | exact P5 | exact P6 | exact P7) (by first | exact Nat.le_of_ble_eq_true rfl | (simp; done) | (simp; omega)) (by simp only [Cm.l, putL, List.take_succ_cons, List.take_zero, List.drop_succ_cons, List.drop_zero, List.cons_append, List.nil_append, List.length_cons, List.length_nil, Nat.reduceAdd]; rfl) ?_
    refine TL.nil ?_
    refine TE.nextR ?_
    refine TR.ret ?_
    refine TE.out_ret ?_
    intro a1 w1 f1 k1
    have k3 : KOk w0 (.fr (above B W) :: [.blk b4 x.1.2.l 41, .blk b5 [.int .i64 0] 27, .blk bs [.slice A4 (cmdsV xs).length c4] 34, .fr σc, .blk b7 [.slice A5 (linesV xs).length c5] 39, .fr σi, .blk b3 [.int .i64 line] 3, .fr σ]) w1 := Perm.kle (.cons (by first | exact P0 | exact P1 | exact P2 | exact P3 | exact P4 | exact P5 | exact P6 | exact P7 | exact P8) (.cons (by first | exact P0 | exact P1 | exact P2 | exact P3 | exact P4 | exact P5 | exact P6 | exact P7 | exact P8) (.cons (by first | exact P0 | exact P1 | exact P2 | exact P3 | exact P4 | exact P5 | exact P6 | exact P7 | exact P8) (.cons (by first | exact P0 | exact P1 | exact P2 | exact P3 | exact P4 | exact P5 | exact P6 | exact P7 | exact P8) (.cons (by first | exact P0 | exact P1 | exact P2 | exact P3 | exact P4 | exact P5 | exact P6 | exact P7 | exact P8) (.cons (by first | exact P0 | exact P1 | exact P2 | exact P3 | exact P4 | exact P5 | exact P6 | exact P7 | exact P8) (.cons (by first | exact P0 | exact P1 | exact P2 | exact P3 | exact P4 | exact P5 | exact P6 | exact P7 | exact P8) (.cons (by first | exact P0 | exact P1 | exact P2 | exact P3 | exact P4 | exact P5 | exact P6 | exact P7 | exact P8) (.cons (by first | exact P0 | exact P1 | exact P2 | exact P3 | exact P4 | exact P5 | exact P6 | exact P7 | exact P8) .nil))))))))) w1 k1
    have hkp := hk.keeps k3 hl hr
    exact ⟨hkp.1, (pre, x), k3.tail, ⟨rfl, rfl, hp, hpx⟩, Nat.le_trans hz hkp.1.size⟩
   ·
    intro ht27
    try simp only [decide_eq_true_eq, decide_eq_false_iff_not, beq_iff_eq, beq_eq_false_iff_ne, bne_iff_ne, bne_eq_false_iff_eq, Bool.not_eq_true', Bool.not_eq_false', ne_eq] at ht27
    have hpx : decide ((atG xs x).2 ≤ line) = false := by rw [hgx]; exact decide_eq_false ht27
    refine TR.skip ?_
    refine TE.out ?_
    intro a1 w1 f1 k1
    have hkp := hk.keeps k1 hl hr
    exact ⟨hkp.1, fun _ => (by rw [hρ]; exact (KOk.frw k1.tail (.there (.there .here)) (.there (.there .here))).1), k1.tail, fun y hy => by rcases List.mem_append.1 hy with hy | hy; exact hp y hy; rw [List.mem_singleton.1 hy]; exact hpx, Nat.le_trans hz hkp.1.size⟩
 case done =>
   intro D ys w1 hDl hys ⟨hk, hp, hz⟩ hDd
   subst hys
   rw [← hBe] at hDl hz
   obtain ⟨hO1, hO2⟩ := at_none (bw_done (F := atG xs) (p := (fun q : Cm × Int => decide (q.2 ≤ line))) (by rw [List.length_reverse, List.length_zip, (show (linesV xs).length = (cmdsV xs).length from (gr_len xs).2)]; exact Nat.min_self _) (at_rev xs) hp)
   have kD : KOk w0 (.fr (σ1 D (.deferred (some []))) :: [.blk b4 Cm.zero.l 41, .blk b5 [.int .i64 0] 27, .blk bs [.slice A4 (cmdsV xs).length c4] 34, .fr σc, .blk b7 [.slice A5 (linesV xs).length c5] 39, .fr σi, .blk b3 [.int .i64 line] 3, .fr σ]) w1 := ⟨hk.bel, fun b o hb => (by obtain ⟨rfl, rfl⟩ := σ1_some hb; exact hDd), fun e he _ y hy hy2 => (by have h9 := hD e he y hy2; have hy3 : σ1 D (.deferred (some [])) y ≠ Option.none := hy; cases hs9 : σ1 D (.deferred (some [])) y with | none => exact hy3 hs9 | some o => (obtain ⟨rfl, rfl⟩ := σ1_some hs9; omega)), hk.all⟩
   refine (?_ : TD Try.prog 30 [{ target := .collected D, args := #[] }] w0 [(4, .pointer (some ⟨b4, 0, none⟩)), (5, .pointer (some ⟨b5, 0, none⟩))] (.fr (σ1 D (.deferred (some []))) :: [.blk b4 Cm.zero.l 41, .blk b5 [.int .i64 0] 27, .blk bs [.slice A4 (cmdsV xs).length c4] 34, .fr σc, .blk b7 [.slice A5 (linesV xs).length c5] 39, .fr σi, .blk b3 [.int .i64 line] 3, .fr σ]) _ _) _ w1 (by simp [f.df]) ((f.mark _).sub (.cons rfl <| .cons rfl <| .nil)) kD
   refine TD.seq ?_
   refine TD.region ?_
   refine TLD.val (OpV.build (qs := #[]) (fun _ _ => by simp) (bld_41)) rfl ?_
   refine TLD.storeAll rfl rfl szz_41 rfl rfl rfl (by first | exact P0 | exact P1 | exact P2 | exact P3 | exact P4 | exact P5 | exact P6) (by rfl) ?_
   refine TLD.storeAll rfl rfl szz_27 rfl rfl rfl (by first | exact P0 | exact P1 | exact P2 | exact P3 | exact P4 | exact P5 | exact P6) (by rfl) ?_
   refine TLD.nil ?_
   refine TED.next ?_
   refine TD.ret ?_
   intro a2 w2 g2 f2 k2
   have k3 : KOk w0 (.fr (σ1 D (.deferred (some []))) :: [.blk b4 Cm.zero.l 41, .blk b5 [.int .i64 9] 27, .blk bs [.slice A4 (cmdsV xs).length c4] 34, .fr σc, .blk b7 [.slice A5 (linesV xs).length c5] 39, .fr σi, .blk b3 [.int .i64 line] 3, .fr σ]) w2 := Perm.kle (.cons (by first | exact P0 | exact P1 | exact P2 | exact P3 | exact P4 | exact P5 | exact P6 | exact P7 | exact P8) (.cons (by first | exact P0 | exact P1 | exact P2 | exact P3 | exact P4 | exact P5 | exact P6 | exact P7 | exact P8) (.cons (by first | exact P0 | exact P1 | exact P2 | exact P3 | exact P4 | exact P5 | exact P6 | exact P7 | exact P8) (.cons (by first | exact P0 | exact P1 | exact P2 | exact P3 | exact P4 | exact P5 | exact P6 | exact P7 | exact P8) (.cons (by first | exact P0 | exact P1 | exact P2 | exact P3 | exact P4 | exact P5 | exact P6 | exact P7 | exact P8) (.cons (by first | exact P0 | exact P1 | exact P2 | exact P3 | exact P4 | exact P5 | exact P6 | exact P7 | exact P8) (.cons (by first | exact P0 | exact P1 | exact P2 | exact P3 | exact P4 | exact P5 | exact P6 | exact P7 | exact P8) (.cons (by first | exact P0 | exact P1 | exact P2 | exact P3 | exact P4 | exact P5 | exact P6 | exact P7 | exact P8) (.cons (by first | exact P0 | exact P1 | exact P2 | exact P3 | exact P4 | exact P5 | exact P6 | exact P7 | exact P8) .nil))))))))) w2 k2
   exact leave_mark (L := [(4, .pointer (some ⟨b4, 0, none⟩)), (5, .pointer (some ⟨b5, 0, none⟩))]) rfl (f2.sub (.cons rfl <| .cons rfl <| .nil)) g2 k3.tail (hD.le hDl).two (Nat.le_trans h09 hDl) (k3.all.1 D _ (σ1_self _ _)) (.cons (ResV.cellA rfl ag_41 (by first | exact Cels.blk P0 rfl | exact Cels.blk P1 rfl)) <| .cons (ResV.cell rfl pl_27 (by first | exact Cel.blk P1 rfl | exact Cel.blk P0 rfl)) <| .nil) (fun w1 k1 => ⟨by rw [hO1, hO2], k1.bel⟩)
 case stop =>
   intro D cc pre w1 hDl ⟨kk, hkk, hpre⟩ ⟨⟨pre1, x⟩, hk, ⟨hcc, hpe, hp, hpx⟩, hz⟩ hDd
   subst hcc
   rw [← hBe] at hDl hz
   simp only at hpe hp hpx hk
   obtain ⟨hO1, hO2⟩ := at_some (bw_stop (F := atG xs) (p := (fun q : Cm × Int => decide (q.2 ≤ line))) (at_rev xs) hkk (hpe.symm.trans hpre) hp hpx)
   exact wpIn_ret (leave_mark (L := [(4, .pointer (some ⟨b4, 0, none⟩)), (5, .pointer (some ⟨b5, 0, none⟩))]) rfl ((f.mark _).sub (.cons rfl <| .cons rfl <| .nil)) (by simp [f.df]) hk (hD.le hDl).two (Nat.le_trans h09 hDl) hDd (.cons (ResV.cellA rfl ag_41 (by first | exact Cels.blk P0 rfl | exact Cels.blk P1 rfl)) <| .cons (ResV.cell rfl pl_27 (by first | exact Cel.blk P1 rfl | exact Cel.blk P0 rfl)) <| .nil) (fun w1 k1 => ⟨by rw [hO1, hO2]; rfl, k1.bel⟩))
set_option maxRecDepth 100000 in
set_option maxHeartbeats 400000 in
theorem at_nil (line : Int) (w : World) : Calls Try.prog 32 #[.pointer none, .int .i64 line] w (Ret (.tuple #[.agg Cm.zero.l.toArray, .int .i64 1]) w) := by
 refine calls_TM 6 (vs := [.pointer none, .int .i64 line]) (L0 := [(0, .pointer none), (1, .int .i64 line)]) Try.func32 rfl rfl rfl rfl (KOk.none w) ?_
 refine T.seq ?_
 refine T.region ?_
 refine TL.box1 rfl rfl rfl ?_
 intro b3
 refine TL.alloc zo_41 rfl ?_
 intro b4
 refine TL.alloc zo_27 rfl ?_
 intro b5
 refine TL.nil ?_
 refine TE.next ?_
 refine T.seq ?_
 refine T.seq ?_
 refine T.region ?_
 refine TL.val (OpV.move rfl) rfl ?_
 refine TL.val (OpV.peql Try.underlying23 rfl rfl) rfl ?_
 refine TL.said (t := 11) rfl (show _ = Value.bool true from congrArg Value.bool (rfl)) ?_
 refine TL.nil ?_
 refine TE.next ?_
 refine T.yes rfl ?_
 refine T.seq ?_
 refine T.region ?_
 refine TL.val (OpV.build (qs := #[]) (fun _ _ => by simp) (bld_41)) rfl ?_
 first
   | refine TL.storeAll rfl rfl szz_41 rfl rfl rfl (by first | exact P0 | exact P1 | exact P2 | exact P3 | exact P4) (by rfl) ?_
   | refine TL.store rfl rfl szz_41 rfl rfl rfl (by first | exact P0 | exact P1 | exact P2 | exact P3 | exact P4) (by first | exact Nat.le_of_ble_eq_true rfl | (simp; done) | (simp; omega)) (by simp only [Cm.l, putL, List.take_succ_cons, List.take_zero, List.drop_succ_cons, List.drop_zero, List.cons_append, List.nil_append, List.length_cons, List.length_nil, Nat.reduceAdd]; rfl) ?_
 refine TL.store rfl rfl szz_27 rfl rfl rfl (by first | exact P0 | exact P1 | exact P2 | exact P3 | exact P4) (by first | exact Nat.le_of_ble_eq_true rfl | (simp; done) | (simp; omega)) (by simp only [Cm.l, putL, List.take_succ_cons, List.take_zero, List.drop_succ_cons, List.drop_zero, List.cons_append, List.nil_append, List.length_cons, List.length_nil, Nat.reduceAdd]; rfl) ?_
 refine TL.nil ?_
 refine TE.next ?_
 refine T.ret ?_
 refine TE.pass_ret ?_
 refine TE.retNM rfl (.cons (ResV.cellA rfl ag_41 (by first | exact Cels.blk P0 rfl | exact Cels.blk P1 rfl | exact Cels.blk P2 rfl | exact Cels.blk P3 rfl | exact Cels.blk P4 rfl)) <| .cons (ResV.cell rfl pl_27 (by first | exact Cel.blk P0 rfl | exact Cel.blk P1 rfl | exact Cel.blk P2 rfl | exact Cel.blk P3 rfl | exact Cel.blk P4 rfl)) <| .nil) ?_
 exact fun w1 k1 => ⟨rfl, k1.bel⟩
end Go.Proofs.Ytaoepaonjeilgaa
