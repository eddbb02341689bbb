/-
  The walks of the reference's Pack and Cells. Condition: the package-level tables hold what they were laid with.
-/
import Derived.Test.YtfbkoflapamicaaDoorPd
import Derived.Test.YtfbkoflapamicaaDoorPkl
namespace Go.Proofs.YtfbkoflapamicaaDoor
open Go.RowKit
set_option linter.unusedSimpArgs false
set_option linter.unusedVariables false
set_option maxRecDepth 100000 in
set_option maxHeartbeats 1000000 in
theorem rpack_c {σ : Nat → Option Obj} {A : Option Addr} {n c : Nat} {xs : List Cl} (w : World) (h : CsR σ A n c xs) (hi : ∀ c ∈ xs, InP c.pen) (hs : ∀ b o, σ b = some o → w.heap[b]? = some o) : Calls Tryd.prog 15 #[.slice A n c] w (fun e w' => ∃ v : SV, e = .returned (.tuple #[v.v, .int .i64 (packE xs)]) ∧ RsR v.σ v.A v.n v.c (packV xs) ∧ KOk w [.own v.σ] w') := by
  have hn63 := h.2.1
  have hc63 := h.2.2.1
  have hl1 := h.1
  refine calls_T (vs := [.slice A n c]) (L0 := [(0, .slice A n c)]) Tryd.func15 rfl rfl rfl rfl (KOk.fr1 hs) ?_
  refine T.seq ?_
  refine T.region ?_
  refine TL.val (OpV.assign rfl) rfl ?_
  refine TL.val (OpV.assign rfl) rfl ?_
  refine TL.nil ?_
  refine TE.next ?_
  refine T.seq ?_
  refine T.seq ?_
  refine T.region ?_
  refine TL.val (OpV.move rfl) rfl ?_
  refine TL.val (OpV.len Tryd.underlying42 rfl) rfl ?_
  refine TL.val (OpV.gtr rfl rfl) rfl ?_
  refine TL.nil ?_
  refine TE.next ?_
  refine T.cond rfl ?_ ?_
  · intro ht9
    have hpe : packE xs = 5 := by have h9 := of_decide_eq_true ht9; rw [packE, if_pos (by omega)]
    refine T.seq ?_
    refine T.region ?_
    refine TL.val (OpV.assign rfl) rfl ?_
    refine TL.val (OpV.assign rfl) rfl ?_
    refine TL.nil ?_
    refine TE.next ?_
    refine T.ret ?_
    refine TE.pass_ret ?_
    refine TE.retN rfl (.cons (ResV.tmp rfl) <| .cons (ResV.tmp rfl) <| .nil) ?_
    exact fun wz kz => ⟨⟨none, 0, 0, fun _ => none⟩, by rw [hpe]; rfl, by rw [packV, hpe]; exact SlR.nil, Perm.kle (.cons .here .nil) wz (KOk.ownNil kz)⟩
  · intro ht9
    have hn5 : n ≤ 100000 := by have h9 := of_decide_eq_false ht9; omega
    refine T.skip ?_
    refine TE.next ?_
    refine T.seq ?_
    refine T.region ?_
    refine TL.val (OpV.assign rfl) rfl ?_
    refine TL.nil ?_
    refine TE.next ?_
    refine T.seq ?_
    refine T.region ?_
    refine TL.val (OpV.assign rfl) rfl ?_
    refine TL.nil ?_
    refine TE.next ?_
    refine T.seq ?_
    refine T.block ?_
    refine T.loop (ι := Nat × List Rn × Option Addr × Nat) (fun ⟨i, out, A4, c4⟩ => i ≤ n ∧ packF (prevC xs i) out (xs.drop i) = packF none [] xs ∧ (A4 = none → c4 = 0) ∧ (xs.take i).all vCl = true ∧ out.length ≤ i ∧ (i < n → prevC xs i ≠ xs[i]?)) (fun ⟨i, out, A4, c4⟩ => (n - i)) (fun ⟨i, out, A4, c4⟩ => [(0, .slice A n c), (4, .slice A4 out.length c4), (5, .int .i64 (i : Int))]) (fun ⟨i, out, A4, c4⟩ => [.row 67 4 A4 out.length c4 (rl out), .fr σ]) (0, [], none, 0) ⟨Nat.zero_le _, rfl, fun _ => rfl, rfl, Nat.le_refl _, fun h9 e => by obtain ⟨x, hx⟩ := get_of_lt h.1 h9; rw [hx] at e; cases e⟩ (.cons (t := 0) rfl <| .cons (t := 4) rfl <| .cons (t := 5) rfl <| .nil) ((fun wz kz => Perm.kle (.cons (by first | exact P0 | exact P1 | exact P2 | exact P3 | exact P4 | exact P5) (.cons (by first | exact P0 | exact P1 | exact P2 | exact P3 | exact P4 | exact P5) .nil)) wz (Kle.nilRow 67 4 wz kz))) ?_
    rintro ⟨i, out, A4, c4⟩ hR
    refine T.seq ?_
    refine T.seq ?_
    refine T.region ?_
    refine TL.val (OpV.move rfl) rfl ?_
    refine TL.val (OpV.move rfl) rfl ?_
    refine TL.val (OpV.len Tryd.underlying42 rfl) rfl ?_
    refine TL.val (OpV.lss rfl rfl) rfl ?_
    refine TL.nil ?_
    refine TE.next ?_
    refine T.cond rfl ?_ ?_
    · intro ht13
      obtain ⟨q1, q2, q3, q4, q5, q6⟩ := hR
      have hi2 : i < n := by have h9 := of_decide_eq_true ht13; omega
      obtain ⟨x, hx⟩ := get_of_lt h.1 hi2
      obtain ⟨b, o, hA, hat⟩ := h.pos (by omega)
      have hatx := hat i x hx
      have hxi := hi x (List.mem_of_getElem? hx)
      refine T.skip ?_
      refine TE.next ?_
      refine T.block ?_
      refine T.seq ?_
      refine T.seq ?_
      refine T.region ?_
      refine TL.val (OpV.move rfl) rfl ?_
      refine TL.val (OpV.move rfl) rfl ?_
      refine TL.val (OpV.indexAddr se_42 rfl hA rfl (by rfl) (by first | omega | simp)) rfl ?_
      refine TL.val (OpV.loadA ag_30 rfl (by first | exact Cels.blk P0 rfl | exact Cels.blk P1 rfl | exact Cels.blk P2 rfl | exact Cels.blk P3 rfl | exact Cels.blk P4 rfl | exact Cels.frA hatx rfl | exact Cels.frA haty rfl)) rfl ?_
      refine TL.call (g := 9) rfl go_9 rfl (fun w1 k1 => rcvalid_c x w1) rfl ?_
      refine TL.val (OpV.not rfl) rfl ?_
      refine TL.nil ?_
      refine TE.sub (.cons (t := 0) rfl <| .cons (t := 4) rfl <| .cons (t := 5) rfl <| .cons (t := 19) rfl <| .nil) ?_
      refine TE.next ?_
      refine T.cond rfl ?_ ?_
      · intro ht19
        have hv : vCl x = false := by simpa using ht19
        have hpe : packE xs = 2 := by rw [packE, if_neg (by omega), show xs.all vCl = false by rw [List.all_eq_false]; exact ⟨x, List.mem_of_getElem? hx, by rw [hv]; decide⟩]; rfl
        refine T.seq ?_
        refine T.region ?_
        refine TL.val (OpV.assign rfl) rfl ?_
        refine TL.val (OpV.assign rfl) rfl ?_
        refine TL.nil ?_
        refine TE.next ?_
        refine T.ret ?_
        refine TE.pass_ret ?_
        refine TE.out_ret ?_
        refine TE.pass_ret ?_
        refine TE.out_ret ?_
        refine TE.pass_ret ?_
        refine TE.retN rfl (.cons (ResV.tmp rfl) <| .cons (ResV.tmp rfl) <| .nil) ?_
        exact fun wz kz => ⟨⟨none, 0, 0, fun _ => none⟩, by rw [hpe]; rfl, by rw [packV, hpe]; exact SlR.nil, Perm.kle (.cons .here .nil) wz (KOk.ownNil kz)⟩
      · intro ht19
        have hv : vCl x = true := by simpa using ht19
        refine T.skip ?_
        refine TE.next ?_
        refine T.seq ?_
        refine T.region ?_
        refine TL.val (OpV.move rfl) rfl ?_
        refine TL.val (OpV.assign rfl) rfl ?_
        refine TL.nil ?_
        refine TE.next ?_
        refine T.seq ?_
        refine T.block ?_
        refine T.loop (ι := Nat) (fun j => i ≤ j ∧ j ≤ n ∧ xs.drop i = List.replicate (j - i) x ++ xs.drop j) (fun j => (n - j)) (fun j => [(0, .slice A n c), (4, .slice A4 out.length c4), (5, .int .i64 (i : Int)), (6, .int .i64 (j : Int))]) (fun j => [.row 67 4 A4 out.length c4 (rl out), .fr σ]) i ⟨Nat.le_refl _, by omega, by simp⟩ (.cons (t := 0) rfl <| .cons (t := 4) rfl <| .cons (t := 5) rfl <| .cons (t := 6) rfl <| .nil) (Perm.kle (.cons (by first | exact P0 | exact P1 | exact P2 | exact P3 | exact P4 | exact P5) (.cons (by first | exact P0 | exact P1 | exact P2 | exact P3 | exact P4 | exact P5) .nil))) ?_
        rintro j hR1
        refine T.seq ?_
        refine T.seq ?_
        refine T.quiet mix (by kernel_rfl) ?_
        refine TQ.val (OpV.move rfl) rfl ?_
        refine TQ.val (OpV.move rfl) rfl ?_
        refine TQ.val (OpV.len Tryd.underlying42 rfl) rfl ?_
        refine TQ.val (OpV.lss rfl rfl) rfl ?_
        refine TQ.val (OpV.move rfl) rfl ?_
        refine TQ.part (t := 25) rfl ?_ ?_
        · intro hg25
          obtain ⟨p1, p2, p3⟩ := hR1
          have hjn : j < n := by have h9 := of_decide_eq_true hg25; omega
          obtain ⟨y, hy⟩ := get_of_lt h.1 hjn
          have haty := hat j y hy
          refine TQ.open rfl rfl ?_
          refine TQ.val (OpV.move rfl) rfl ?_
          refine TQ.open rfl rfl ?_
          refine TQ.val (OpV.move rfl) rfl ?_
          refine TQ.open rfl rfl ?_
          refine TQ.val (OpV.indexAddr se_42 rfl hA rfl (by rfl) (by first | omega | simp)) rfl ?_
          refine TQ.open rfl rfl ?_
          refine TQ.val (OpV.loadA ag_30 rfl (by first | exact Cels.blk P0 rfl | exact Cels.blk P1 rfl | exact Cels.blk P2 rfl | exact Cels.blk P3 rfl | exact Cels.blk P4 rfl | exact Cels.frA hatx rfl | exact Cels.frA haty rfl)) rfl ?_
          refine TQ.open rfl rfl ?_
          refine TQ.val (OpV.move rfl) rfl ?_
          refine TQ.open rfl rfl ?_
          refine TQ.val (OpV.move rfl) rfl ?_
          refine TQ.open rfl rfl ?_
          refine TQ.val (OpV.indexAddr se_42 rfl hA rfl (by rfl) (by first | omega | simp)) rfl ?_
          refine TQ.open rfl rfl ?_
          refine TQ.val (OpV.loadA ag_30 rfl (by first | exact Cels.blk P0 rfl | exact Cels.blk P1 rfl | exact Cels.blk P2 rfl | exact Cels.blk P3 rfl | exact Cels.blk P4 rfl | exact Cels.frA hatx rfl | exact Cels.frA haty rfl)) rfl ?_
          refine TQ.open rfl rfl ?_
          refine TQ.val (OpV.aeql rfl rfl eg_30 (eq_30 y x)) rfl ?_
          refine TQ.val ((by first | exact OpV.pick_t rfl rfl | exact OpV.pick_f rfl rfl)) rfl ?_
          refine TQ.nil ?_
          refine TE.sub (.cons (t := 0) rfl <| .cons (t := 4) rfl <| .cons (t := 5) rfl <| .cons (t := 6) rfl <| .cons (t := 35) rfl <| .nil) ?_
          refine TE.next ?_
          refine T.cond rfl ?_ ?_
          · intro ht35
            have hyx : y = x := of_decide_eq_true ht35
            refine T.skip ?_
            refine TE.next ?_
            refine T.block ?_
            refine T.region ?_
            refine TL.val (OpV.move rfl) rfl ?_
            refine TL.val (OpV.add rfl rfl (by first | exact IntWalk.i64_in _ ⟨by omega, by omega⟩ | rfl)) rfl ?_
            refine TL.val (OpV.assign rfl) rfl ?_
            refine TL.nil ?_
            refine TE.out ?_
            exact TE.meet (j + 1) ⟨⟨by omega, by omega, by rw [p3, drop_get hy, hyx, show j + 1 - i = (j - i) + 1 by omega, List.replicate_succ', List.append_assoc]; rfl⟩, by omega⟩ (.cons (t := 0) (by first | rfl | (simp [lk]; done)) <| .cons (t := 4) (by first | rfl | (simp [lk]; done)) <| .cons (t := 5) (by first | rfl | (simp [lk]; done)) <| .cons (t := 6) (by first | rfl | (simp [lk]; done)) <| .nil) (Perm.kle (.cons (by first | exact P0 | exact P1 | exact P2 | exact P3 | exact P4 | exact P5) (.cons (by first | exact P0 | exact P1 | exact P2 | exact P3 | exact P4 | exact P5) .nil)))
          · intro ht35
            have hend : ∀ y, xs[j]? = some y → y ≠ x := fun z hz => by rw [hy] at hz; cases hz; exact of_decide_eq_false ht35
            refine T.exit ?_
            refine TE.pass_exit ?_
            refine TE.pass_exit ?_
            refine TE.here ?_
            refine TE.next ?_
            refine T.seq ?_
            refine T.region ?_
            refine TL.val (OpV.move rfl) rfl ?_
            refine TL.val (OpV.move rfl) rfl ?_
            refine TL.val (OpV.move rfl) rfl ?_
            refine TL.val (OpV.sub rfl rfl (by first | exact IntWalk.i64_in _ ⟨by omega, by omega⟩ | rfl)) rfl ?_
            refine TL.val (OpV.move rfl) rfl ?_
            refine TL.val (OpV.move rfl) rfl ?_
            refine TL.val (OpV.indexAddr se_42 rfl hA rfl (by rfl) (by first | omega | simp)) rfl ?_
            refine TL.val (OpV.loadA ag_30 rfl (by first | exact Cels.blk P0 rfl | exact Cels.blk P1 rfl | exact Cels.blk P2 rfl | exact Cels.blk P3 rfl | exact Cels.blk P4 rfl | exact Cels.frA hatx rfl | exact Cels.frA haty rfl)) rfl ?_
            refine TL.call (g := 12) rfl go_12 rfl (fun w1 k1 => rwords_c x w1 hv hxi) rfl ?_
            refine TL.val (OpV.build (qs := #[(0, _), (1, _)]) (fun _ f => by simp only [List.map_toArray, List.map_cons, List.map_nil]; rw [f.ev (x := .tmp 41) rfl, f.ev (x := .tmp 46) rfl]) (bld_67_0_1 ((j : Int) - (i : Int)) x.words )) rfl ?_
            refine TL.slit (qs := #[(0, _)]) (fun _ f => by simp only [List.map_toArray, List.map_cons, List.map_nil]; rw [f.ev (x := .tmp 47) rfl]) (sl_43_1_0 (Rn.mk ((j : Int) - (i : Int)) x.words)) rfl ?_
            intro b48
            obtain ⟨ti49, hi49, hz49, hs49, hb49⟩ := info_parts inf_67
            refine TL.append rfl rfl Tryd.underlying43 hi49 hz49 hs49 hb49 rfl (by omega) (by first | exact P0 | exact P1 | exact P2 | exact P3 | exact P4) (by first | exact Src.nil | exact Src.blk P0 rfl | exact Src.blk P1 rfl | exact Src.blk P2 rfl | exact Src.blk P3 rfl | exact Src.blk P4 rfl | exact Src.row P0 | exact Src.row P1 | exact Src.row P2 | exact Src.row P3 | exact Src.row P4) (fun h => by cases h) rfl (by omega) (by omega) rfl ?_
            clear hi49 hz49 hs49 hb49 ti49
            intro A49 c49 hn49
            refine TL.val (OpV.assign rfl) rfl ?_
            refine TL.nil ?_
            refine TE.sub (.cons (t := 0) rfl <| .cons (t := 4) rfl <| .cons (t := 6) rfl <| .nil) ?_
            refine TE.next ?_
            refine T.region ?_
            refine TL.val (OpV.move rfl) rfl ?_
            refine TL.val (OpV.assign rfl) rfl ?_
            refine TL.nil ?_
            refine TE.out ?_
            have hij : i < j := by rcases Nat.lt_or_ge i j with h9 | h9; exact h9; exact absurd hend (by obtain rfl : j = i := (by omega); exact fun h7 => h7 x hx rfl)
            have hpx : prevC xs i ≠ some x := fun e => q6 hi2 (by rw [e, hx])
            obtain ⟨g1, g2⟩ := group_step hx hij p3 hpx q2
            have htk : xs.take j = xs.take i ++ List.replicate (j - i) x := by
              have h8 : (xs.take i ++ List.replicate (j - i) x).length = j := by rw [List.length_append, List.length_take, List.length_replicate]; omega
              have h9 := List.take_append_drop i xs
              rw [p3, ← List.append_assoc] at h9
              conv => lhs; rw [← h9]
              exact List.take_left' h8
            exact TE.meet (j, out ++ [⟨(j : Int) - (i : Int), x.words⟩], A49, c49) ⟨⟨p2, g1, hn49, by rw [htk, List.all_append, q4]; simp [hv], by simp only [List.length_append, List.length_cons, List.length_nil]; omega, fun h9 e => by obtain ⟨y, hy⟩ := get_of_lt h.1 h9; rw [hy, g2] at e; cases e; exact hend _ hy rfl⟩, by simp only; omega⟩ (.cons (t := 0) (by first | rfl | (simp [lk]; done)) <| .cons (t := 4) (by simp only [List.length_append, List.length_cons, List.length_nil]; rfl) <| .cons (t := 5) (by first | rfl | (simp [lk]; done)) <| .nil) ((by simp only [rl_snoc, List.length_append, List.length_cons, List.length_nil]; exact Perm.kle (.cons (by first | exact P0 | exact P1 | exact P2 | exact P3 | exact P4 | exact P5) (.cons (by first | exact P0 | exact P1 | exact P2 | exact P3 | exact P4 | exact P5) .nil))))
        · intro hg25
          obtain ⟨p1, p2, p3⟩ := hR1
          have hjn : ¬ j < n := by have h9 := of_decide_eq_false hg25; omega
          have hend : ∀ y, xs[j]? = some y → y ≠ x := fun y hy => absurd (List.getElem?_eq_some_iff.1 hy).1 (by omega)
          refine TQ.shut rfl rfl ?_
          refine TQ.shut rfl rfl ?_
          refine TQ.shut rfl rfl ?_
          refine TQ.shut rfl rfl ?_
          refine TQ.shut rfl rfl ?_
          refine TQ.shut rfl rfl ?_
          refine TQ.shut rfl rfl ?_
          refine TQ.shut rfl rfl ?_
          refine TQ.shut rfl rfl ?_
          refine TQ.val ((by first | exact OpV.pick_t rfl rfl | exact OpV.pick_f rfl rfl)) rfl ?_
          refine TQ.nil ?_
          refine TE.sub (.cons (t := 0) rfl <| .cons (t := 4) rfl <| .cons (t := 5) rfl <| .cons (t := 6) rfl <| .cons (t := 35) rfl <| .nil) ?_
          refine TE.next ?_
          refine T.no rfl ?_
          refine T.exit ?_
          refine TE.pass_exit ?_
          refine TE.pass_exit ?_
          refine TE.here ?_
          refine TE.next ?_
          refine T.seq ?_
          refine T.region ?_
          refine TL.val (OpV.move rfl) rfl ?_
          refine TL.val (OpV.move rfl) rfl ?_
          refine TL.val (OpV.move rfl) rfl ?_
          refine TL.val (OpV.sub rfl rfl (by first | exact IntWalk.i64_in _ ⟨by omega, by omega⟩ | rfl)) rfl ?_
          refine TL.val (OpV.move rfl) rfl ?_
          refine TL.val (OpV.move rfl) rfl ?_
          refine TL.val (OpV.indexAddr se_42 rfl hA rfl (by rfl) (by first | omega | simp)) rfl ?_
          refine TL.val (OpV.loadA ag_30 rfl (by first | exact Cels.blk P0 rfl | exact Cels.blk P1 rfl | exact Cels.blk P2 rfl | exact Cels.blk P3 rfl | exact Cels.blk P4 rfl | exact Cels.frA hatx rfl | exact Cels.frA haty rfl)) rfl ?_
          refine TL.call (g := 12) rfl go_12 rfl (fun w1 k1 => rwords_c x w1 hv hxi) rfl ?_
          refine TL.val (OpV.build (qs := #[(0, _), (1, _)]) (fun _ f => by simp only [List.map_toArray, List.map_cons, List.map_nil]; rw [f.ev (x := .tmp 41) rfl, f.ev (x := .tmp 46) rfl]) (bld_67_0_1 ((j : Int) - (i : Int)) x.words )) rfl ?_
          refine TL.slit (qs := #[(0, _)]) (fun _ f => by simp only [List.map_toArray, List.map_cons, List.map_nil]; rw [f.ev (x := .tmp 47) rfl]) (sl_43_1_0 (Rn.mk ((j : Int) - (i : Int)) x.words)) rfl ?_
          intro b48
          obtain ⟨ti49, hi49, hz49, hs49, hb49⟩ := info_parts inf_67
          refine TL.append rfl rfl Tryd.underlying43 hi49 hz49 hs49 hb49 rfl (by omega) (by first | exact P0 | exact P1 | exact P2 | exact P3 | exact P4) (by first | exact Src.nil | exact Src.blk P0 rfl | exact Src.blk P1 rfl | exact Src.blk P2 rfl | exact Src.blk P3 rfl | exact Src.blk P4 rfl | exact Src.row P0 | exact Src.row P1 | exact Src.row P2 | exact Src.row P3 | exact Src.row P4) (fun h => by cases h) rfl (by omega) (by omega) rfl ?_
          clear hi49 hz49 hs49 hb49 ti49
          intro A49 c49 hn49
          refine TL.val (OpV.assign rfl) rfl ?_
          refine TL.nil ?_
          refine TE.sub (.cons (t := 0) rfl <| .cons (t := 4) rfl <| .cons (t := 6) rfl <| .nil) ?_
          refine TE.next ?_
          refine T.region ?_
          refine TL.val (OpV.move rfl) rfl ?_
          refine TL.val (OpV.assign rfl) rfl ?_
          refine TL.nil ?_
          refine TE.out ?_
          have hij : i < j := by rcases Nat.lt_or_ge i j with h9 | h9; exact h9; exact absurd hend (by obtain rfl : j = i := (by omega); exact fun h7 => h7 x hx rfl)
          have hpx : prevC xs i ≠ some x := fun e => q6 hi2 (by rw [e, hx])
          obtain ⟨g1, g2⟩ := group_step hx hij p3 hpx q2
          have htk : xs.take j = xs.take i ++ List.replicate (j - i) x := by
            have h8 : (xs.take i ++ List.replicate (j - i) x).length = j := by rw [List.length_append, List.length_take, List.length_replicate]; omega
            have h9 := List.take_append_drop i xs
            rw [p3, ← List.append_assoc] at h9
            conv => lhs; rw [← h9]
            exact List.take_left' h8
          exact TE.meet (j, out ++ [⟨(j : Int) - (i : Int), x.words⟩], A49, c49) ⟨⟨p2, g1, hn49, by rw [htk, List.all_append, q4]; simp [hv], by simp only [List.length_append, List.length_cons, List.length_nil]; omega, fun h9 e => by obtain ⟨y, hy⟩ := get_of_lt h.1 h9; rw [hy, g2] at e; cases e; exact hend _ hy rfl⟩, by simp only; omega⟩ (.cons (t := 0) (by first | rfl | (simp [lk]; done)) <| .cons (t := 4) (by simp only [List.length_append, List.length_cons, List.length_nil]; rfl) <| .cons (t := 5) (by first | rfl | (simp [lk]; done)) <| .nil) ((by simp only [rl_snoc, List.length_append, List.length_cons, List.length_nil]; exact Perm.kle (.cons (by first | exact P0 | exact P1 | exact P2 | exact P3 | exact P4 | exact P5) (.cons (by first | exact P0 | exact P1 | exact P2 | exact P3 | exact P4 | exact P5) .nil))))
    · intro ht13
      obtain ⟨q1, q2, q3, q4, q5, q6⟩ := hR
      have hin : ¬ i < n := by have h9 := of_decide_eq_false ht13; omega
      rw [List.drop_of_length_le (by omega), packF] at q2
      rw [List.take_of_length_le (by omega)] at q4
      have hpe : packE xs = 0 := by rw [packE, if_neg (by omega), q4]; rfl
      refine T.exit ?_
      refine TE.pass_exit ?_
      refine TE.pass_exit ?_
      refine TE.here ?_
      refine TE.next ?_
      refine T.seq ?_
      refine T.region ?_
      refine TL.val (OpV.move rfl) rfl ?_
      refine TL.val (OpV.assign rfl) rfl ?_
      refine TL.val (OpV.assign rfl) rfl ?_
      refine TL.nil ?_
      refine TE.sub (.cons (t := 2) rfl <| .cons (t := 3) rfl <| .nil) ?_
      refine TE.next ?_
      refine T.ret ?_
      refine TE.retN rfl (.cons (ResV.tmp rfl) <| .cons (ResV.tmp rfl) <| .nil) ?_
      intro wz kz
      obtain ⟨ρ, h1, k2⟩ := KOk.rowOwn (kz.pick (e := .row 67 4 A4 out.length c4 (rl out)) (by first | exact P0 | exact P1 | exact P2 | exact P3 | exact P4 | exact P5))
      exact ⟨⟨A4, out.length, c4, ρ⟩, by rw [hpe]; rfl, by rw [packV, hpe, if_pos rfl, ← q2]; exact SlR.of_row Rn.l_length h1 rfl, Perm.kle (.cons .here .nil) wz k2⟩
set_option maxRecDepth 100000 in
set_option maxHeartbeats 1000000 in
theorem rcells_c {σ : Nat → Option Obj} {A : Option Addr} {n c : Nat} {rs : List Rn} (w : World) (h : RsR σ A n c rs) (hw : InR rs) (hs : ∀ b o, σ b = some o → w.heap[b]? = some o) : Calls Tryd.prog 19 #[.slice A n c] w (fun e w' => ∃ v : SV, e = .returned (.tuple #[v.v, .bool (vR rs)]) ∧ CsR v.σ v.A v.n v.c (unpackV rs) ∧ KOk w [.own v.σ] w') := by
  have hn63 := h.2.1
  have hc63 := h.2.2.1
  have hl1 := h.1
  refine calls_T (vs := [.slice A n c]) (L0 := [(0, .slice A n c)]) Tryd.func19 rfl rfl rfl rfl (KOk.fr1 hs) ?_
  refine T.seq ?_
  refine T.region ?_
  refine TL.val (OpV.assign rfl) rfl ?_
  refine TL.val (OpV.assign rfl) rfl ?_
  refine TL.nil ?_
  refine TE.next ?_
  refine T.seq ?_
  refine T.region ?_
  refine TL.val (OpV.assign rfl) rfl ?_
  refine TL.nil ?_
  refine TE.next ?_
  refine T.seq ?_
  refine T.seq ?_
  refine T.region ?_
  refine TL.val (OpV.assign rfl) rfl ?_
  refine TL.nil ?_
  refine TE.next ?_
  refine T.block ?_
  refine T.loop (ι := Nat × List Cl × Option Addr × Nat) (fun ⟨i, out, A4, c4⟩ => i ≤ n ∧ out = flatR (rs.take i) ∧ (A4 = none → c4 = 0) ∧ vRf (sumR (rs.take i)) (prevW rs i) (rs.drop i) = vR rs ∧ (out.length : Int) = sumR (rs.take i) ∧ sumR (rs.take i) ≤ 100000) (fun ⟨i, out, A4, c4⟩ => (n - i)) (fun ⟨i, out, A4, c4⟩ => [(0, .slice A n c), (4, .slice A4 out.length c4), (5, .int .i64 (i : Int))]) (fun ⟨i, out, A4, c4⟩ => [.row 30 16 A4 out.length c4 (fl out), .fr σ]) (0, [], none, 0) ⟨Nat.zero_le _, rfl, fun _ => rfl, rfl, rfl, show (0 : Int) ≤ 100000 by decide⟩ (.cons (t := 0) rfl <| .cons (t := 4) rfl <| .cons (t := 5) rfl <| .nil) ((fun wz kz => Perm.kle (.cons (by first | exact P0 | exact P1 | exact P2 | exact P3 | exact P4 | exact P5) (.cons (by first | exact P0 | exact P1 | exact P2 | exact P3 | exact P4 | exact P5) .nil)) wz (Kle.nilRow 30 16 wz kz))) ?_
  rintro ⟨i, out, A4, c4⟩ hR
  refine T.seq ?_
  refine T.seq ?_
  refine T.region ?_
  refine TL.val (OpV.move rfl) rfl ?_
  refine TL.val (OpV.move rfl) rfl ?_
  refine TL.val (OpV.len Tryd.underlying43 rfl) rfl ?_
  refine TL.val (OpV.lss rfl rfl) rfl ?_
  refine TL.nil ?_
  refine TE.next ?_
  refine T.cond rfl ?_ ?_
  · intro ht12
    obtain ⟨q1, q2, q3, q4, q5, q6⟩ := hR
    have hi : i < n := by have h9 := of_decide_eq_true ht12; omega
    obtain ⟨x, hx⟩ := get_of_lt h.1 hi
    obtain ⟨b, o, hA, hat0⟩ := h.2.2.2.2 (by omega)
    obtain ⟨_, rfl, _, hatx⟩ := hat0 i x hx
    have hxw := hw x (List.mem_of_getElem? hx)
    have hss := sumR_snoc (rs.take i) x
    rw [← take_snoc hx] at hss
    have hfs := flatR_snoc (rs.take i) x
    rw [← take_snoc hx] at hfs
    refine T.skip ?_
    refine TE.next ?_
    refine T.seq ?_
    refine T.block ?_
    refine T.seq ?_
    refine T.region ?_
    refine TL.val (OpV.move rfl) rfl ?_
    refine TL.val (OpV.move rfl) rfl ?_
    refine TL.val (OpV.indexAddr se_43 rfl hA rfl (by rfl) (by first | omega | simp)) rfl ?_
    refine TL.val (OpV.fieldAddr rfl fo_67_1) rfl ?_
    refine TL.val (OpV.loadA ag_34 rfl (Cels.fr (cs := x.w.l) (by first | exact P0 | exact P1 | exact P2 | exact P3 | exact P4 | exact P5) (hatx.part [] x.w.l 1 rfl) rfl)) rfl ?_
    refine TL.call (g := 14) rfl go_14 rfl (fun w1 k1 => rcell_c x.w w1 hxw) rfl ?_
    refine TL.val (OpV.move rfl) rfl ?_
    refine TL.val (OpV.extract rfl rfl) rfl ?_
    refine TL.val (OpV.extract rfl rfl) rfl ?_
    refine TL.alloc zo_30 rfl ?_
    intro b6
    first
      | refine TL.storeAll rfl rfl szz_30 rfl rfl rfl (by first | exact P0 | exact P1 | exact P2 | exact P3 | exact P4 | exact P5) (by rfl) ?_
      | refine TL.store rfl rfl szz_30 rfl rfl rfl (by first | exact P0 | exact P1 | exact P2 | exact P3 | exact P4 | exact P5) (by first | exact Nat.le_of_ble_eq_true rfl | (simp; done) | (simp; omega)) (by simp only [Rn.l, putL, List.take_succ_cons, List.take_zero, List.drop_succ_cons, List.drop_zero, List.cons_append, List.nil_append, List.length_cons, List.length_nil, Nat.reduceAdd]; rfl) ?_
    refine TL.val (OpV.assign rfl) rfl ?_
    refine TL.nil ?_
    refine TE.sub (.cons (t := 0) rfl <| .cons (t := 4) rfl <| .cons (t := 5) rfl <| .cons (t := 6) rfl <| .cons (t := 7) rfl <| .nil) ?_
    refine TE.next ?_
    refine T.seq ?_
    refine T.seq ?_
    refine T.region ?_
    refine TL.val (OpV.move rfl) rfl ?_
    refine TL.val (OpV.not rfl) rfl ?_
    refine TL.val (OpV.move rfl) rfl ?_
    refine TL.part (t := 26) rfl ?_ ?_
    · intro hg26
      have hvr : vR rs = false := by rw [← q4, drop_get hx, vRf]; rw [show okW x.w = false by simpa using hg26, Bool.false_and, Bool.and_false, Bool.and_false]
      refine TL.shut rfl rfl ?_
      refine TL.shut rfl rfl ?_
      refine TL.shut rfl rfl ?_
      refine TL.shut rfl rfl ?_
      refine TL.shut rfl rfl ?_
      refine TL.shut rfl rfl ?_
      refine TL.val ((by first | exact OpV.pick_t rfl rfl | exact OpV.pick_f rfl rfl)) rfl ?_
      refine TL.val (OpV.move rfl) rfl ?_
      refine TL.shut rfl rfl ?_
      refine TL.shut rfl rfl ?_
      refine TL.shut rfl rfl ?_
      refine TL.shut rfl rfl ?_
      refine TL.shut rfl rfl ?_
      refine TL.shut rfl rfl ?_
      refine TL.shut rfl rfl ?_
      refine TL.shut rfl rfl ?_
      refine TL.shut rfl rfl ?_
      refine TL.val ((by first | exact OpV.pick_t rfl rfl | exact OpV.pick_f rfl rfl)) rfl ?_
      refine TL.nil ?_
      refine TE.sub (.cons (t := 0) rfl <| .cons (t := 4) rfl <| .cons (t := 5) rfl <| .cons (t := 6) rfl <| .cons (t := 44) rfl <| .nil) ?_
      refine TE.next ?_
      refine T.yes rfl ?_
      refine T.seq ?_
      refine T.region ?_
      refine TL.val (OpV.assign rfl) rfl ?_
      refine TL.val (OpV.assign rfl) rfl ?_
      refine TL.nil ?_
      refine TE.next ?_
      refine T.ret ?_
      refine TE.pass_ret ?_
      refine TE.out_ret ?_
      refine TE.pass_ret ?_
      refine TE.pass_ret ?_
      refine TE.out_ret ?_
      refine TE.pass_ret ?_
      refine TE.retN rfl (.cons (ResV.tmp rfl) <| .cons (ResV.tmp rfl) <| .nil) ?_
      exact fun wz kz => ⟨⟨none, 0, 0, fun _ => none⟩, by rw [hvr]; rfl, by rw [unpackV, hvr]; exact SlR.nil, Perm.kle (.cons .here .nil) wz (KOk.ownNil kz)⟩
    · intro hg26
      have hk : okW x.w = true := by simpa using hg26
      have hre : rcellV x.w = cellOf x.w := by rw [rcellV, if_pos]; rw [earlyW, (okW_parts hk).1, decide_eq_true (okW_parts hk).2.1]; rfl
      refine TL.open rfl rfl ?_
      refine TL.val (OpV.move rfl) rfl ?_
      refine TL.open rfl rfl ?_
      refine TL.val (OpV.move rfl) rfl ?_
      refine TL.open rfl rfl ?_
      refine TL.val (OpV.indexAddr se_43 rfl hA rfl (by rfl) (by first | omega | simp)) rfl ?_
      refine TL.open rfl rfl ?_
      refine TL.val (OpV.fieldAddr rfl fo_67_0) rfl ?_
      refine TL.open rfl rfl ?_
      refine TL.val (OpV.load pl_3 rfl (by first | exact Cel.blk P0 rfl | exact Cel.blk P1 rfl | exact Cel.blk P2 rfl | exact Cel.blk P3 rfl | exact Cel.blk P4 rfl | exact Cel.blk P5 rfl | exact Cel.frA (hatx _ _ rfl))) rfl ?_
      refine TL.open rfl rfl ?_
      refine TL.val (OpV.lss rfl rfl) rfl ?_
      refine TL.val ((by first | exact OpV.pick_t rfl rfl | exact OpV.pick_f rfl rfl)) rfl ?_
      refine TL.val (OpV.move rfl) rfl ?_
      refine TL.part (t := 34) rfl ?_ ?_
      · intro hg34
        have hvr : vR rs = false := by rw [← q4, drop_get hx, vRf]; rw [decide_eq_false (by have h9 := of_decide_eq_true hg34; omega), Bool.false_and]
        refine TL.shut rfl rfl ?_
        refine TL.shut rfl rfl ?_
        refine TL.shut rfl rfl ?_
        refine TL.shut rfl rfl ?_
        refine TL.shut rfl rfl ?_
        refine TL.shut rfl rfl ?_
        refine TL.shut rfl rfl ?_
        refine TL.shut rfl rfl ?_
        refine TL.shut rfl rfl ?_
        refine TL.val ((by first | exact OpV.pick_t rfl rfl | exact OpV.pick_f rfl rfl)) rfl ?_
        refine TL.nil ?_
        refine TE.sub (.cons (t := 0) rfl <| .cons (t := 4) rfl <| .cons (t := 5) rfl <| .cons (t := 6) rfl <| .cons (t := 44) rfl <| .nil) ?_
        refine TE.next ?_
        refine T.yes rfl ?_
        refine T.seq ?_
        refine T.region ?_
        refine TL.val (OpV.assign rfl) rfl ?_
        refine TL.val (OpV.assign rfl) rfl ?_
        refine TL.nil ?_
        refine TE.next ?_
        refine T.ret ?_
        refine TE.pass_ret ?_
        refine TE.out_ret ?_
        refine TE.pass_ret ?_
        refine TE.pass_ret ?_
        refine TE.out_ret ?_
        refine TE.pass_ret ?_
        refine TE.retN rfl (.cons (ResV.tmp rfl) <| .cons (ResV.tmp rfl) <| .nil) ?_
        exact fun wz kz => ⟨⟨none, 0, 0, fun _ => none⟩, by rw [hvr]; rfl, by rw [unpackV, hvr]; exact SlR.nil, Perm.kle (.cons .here .nil) wz (KOk.ownNil kz)⟩
      · intro hg34
        have hc1 : 1 ≤ x.cnt := by have h9 := of_decide_eq_false hg34; omega
        refine TL.open rfl rfl ?_
        refine TL.val (OpV.move rfl) rfl ?_
        refine TL.open rfl rfl ?_
        refine TL.val (OpV.move rfl) rfl ?_
        refine TL.open rfl rfl ?_
        refine TL.val (OpV.indexAddr se_43 rfl hA rfl (by rfl) (by first | omega | simp)) rfl ?_
        refine TL.open rfl rfl ?_
        refine TL.val (OpV.fieldAddr rfl fo_67_0) rfl ?_
        refine TL.open rfl rfl ?_
        refine TL.val (OpV.load pl_3 rfl (by first | exact Cel.blk P0 rfl | exact Cel.blk P1 rfl | exact Cel.blk P2 rfl | exact Cel.blk P3 rfl | exact Cel.blk P4 rfl | exact Cel.blk P5 rfl | exact Cel.frA (hatx _ _ rfl))) rfl ?_
        refine TL.open rfl rfl ?_
        refine TL.val (OpV.move rfl) rfl ?_
        refine TL.open rfl rfl ?_
        refine TL.val (OpV.len Tryd.underlying42 rfl) rfl ?_
        refine TL.open rfl rfl ?_
        refine TL.val (OpV.sub rfl rfl (by first | exact IntWalk.i64_in _ ⟨by omega, by omega⟩ | rfl)) rfl ?_
        refine TL.open rfl rfl ?_
        refine TL.val (OpV.gtr rfl rfl) rfl ?_
        refine TL.val ((by first | exact OpV.pick_t rfl rfl | exact OpV.pick_f rfl rfl)) rfl ?_
        refine TL.nil ?_
        refine TE.sub (.cons (t := 0) rfl <| .cons (t := 4) rfl <| .cons (t := 5) rfl <| .cons (t := 6) rfl <| .cons (t := 44) rfl <| .nil) ?_
        refine TE.next ?_
        refine T.cond rfl ?_ ?_
        · intro ht44
          have hvr : vR rs = false := by rw [← q4, drop_get hx, vRf]; rw [decide_eq_false (show ¬ (sumR (rs.take i) + x.cnt ≤ 100000) by have h9 := of_decide_eq_true ht44; omega), Bool.false_and, Bool.and_false, Bool.and_false, Bool.and_false]
          refine T.seq ?_
          refine T.region ?_
          refine TL.val (OpV.assign rfl) rfl ?_
          refine TL.val (OpV.assign rfl) rfl ?_
          refine TL.nil ?_
          refine TE.next ?_
          refine T.ret ?_
          refine TE.pass_ret ?_
          refine TE.out_ret ?_
          refine TE.pass_ret ?_
          refine TE.pass_ret ?_
          refine TE.out_ret ?_
          refine TE.pass_ret ?_
          refine TE.retN rfl (.cons (ResV.tmp rfl) <| .cons (ResV.tmp rfl) <| .nil) ?_
          exact fun wz kz => ⟨⟨none, 0, 0, fun _ => none⟩, by rw [hvr]; rfl, by rw [unpackV, hvr]; exact SlR.nil, Perm.kle (.cons .here .nil) wz (KOk.ownNil kz)⟩
        · intro ht44
          have hsm : sumR (rs.take i) + x.cnt ≤ 100000 := by have h9 := of_decide_eq_false ht44; omega
          have hcx : 1 ≤ x.cnt ∧ x.cnt ≤ 100000 := by omega
          obtain ⟨m, hm⟩ : ∃ m : Nat, x.cnt = (m : Int) := ⟨x.cnt.toNat, by omega⟩
          rw [hm, Int.toNat_natCast] at hfs
          refine T.skip ?_
          refine TE.next ?_
          refine T.seq ?_
          refine T.seq ?_
          refine T.quiet mix (by kernel_rfl) ?_
          refine TQ.val (OpV.move rfl) rfl ?_
          refine TQ.val (OpV.gtr rfl rfl) rfl ?_
          refine TQ.val (OpV.move rfl) rfl ?_
          refine TQ.part (t := 47) rfl ?_ ?_
          · intro hg47
            have h0 : 0 < i := by have h9 := of_decide_eq_true hg47; omega
            obtain ⟨y, hy⟩ := get_of_lt h.1 (show i - 1 < n by omega)
            obtain ⟨_, rfl, _, haty⟩ := hat0 (i - 1) y hy
            have hpv : prevW rs i = some y.w := by rw [prevW, if_pos h0, hy]; rfl
            refine TQ.open rfl rfl ?_
            refine TQ.val (OpV.move rfl) rfl ?_
            refine TQ.open rfl rfl ?_
            refine TQ.val (OpV.move rfl) rfl ?_
            refine TQ.open rfl rfl ?_
            refine TQ.val (OpV.indexAddr se_43 rfl hA rfl (by rfl) (by first | omega | simp)) rfl ?_
            refine TQ.open rfl rfl ?_
            refine TQ.val (OpV.fieldAddr rfl fo_67_1) rfl ?_
            refine TQ.open rfl rfl ?_
            refine TQ.val (OpV.loadA ag_34 rfl (Cels.fr (cs := x.w.l) (by first | exact P0 | exact P1 | exact P2 | exact P3 | exact P4 | exact P5) (hatx.part [] x.w.l 1 rfl) rfl)) rfl ?_
            refine TQ.open rfl rfl ?_
            refine TQ.val (OpV.move rfl) rfl ?_
            refine TQ.open rfl rfl ?_
            refine TQ.val (OpV.move rfl) rfl ?_
            refine TQ.open rfl rfl ?_
            refine TQ.val (OpV.sub rfl rfl (by first | exact IntWalk.i64_in _ ⟨by omega, by omega⟩ | rfl)) rfl ?_
            refine TQ.open rfl rfl ?_
            refine TQ.val (OpV.indexAddr (j := (i - 1)) se_43 rfl hA rfl (by omega) (by omega)) rfl ?_
            refine TQ.open rfl rfl ?_
            refine TQ.val (OpV.fieldAddr rfl fo_67_1) rfl ?_
            refine TQ.open rfl rfl ?_
            refine TQ.val (OpV.loadA ag_34 rfl (Cels.fr (cs := y.w.l) (by first | exact P0 | exact P1 | exact P2 | exact P3 | exact P4 | exact P5) (haty.part [] y.w.l 1 rfl) rfl)) rfl ?_
            refine TQ.open rfl rfl ?_
            refine TQ.val (OpV.aeql rfl rfl eg_34 (eq_34 x.w y.w)) rfl ?_
            refine TQ.val ((by first | exact OpV.pick_t rfl rfl | exact OpV.pick_f rfl rfl)) rfl ?_
            refine TQ.nil ?_
            refine TE.sub (.cons (t := 0) rfl <| .cons (t := 4) rfl <| .cons (t := 5) rfl <| .cons (t := 6) rfl <| .cons (t := 60) rfl <| .nil) ?_
            refine TE.next ?_
            refine T.cond rfl ?_ ?_
            · intro ht60
              have hvr : vR rs = false := by rw [← q4, drop_get hx, vRf]; rw [hpv, show decide (some y.w ≠ some x.w) = false by have h9 : x.w = y.w := of_decide_eq_true ht60; rw [h9]; simp, Bool.false_and, Bool.and_false]
              refine T.seq ?_
              refine T.region ?_
              refine TL.val (OpV.assign rfl) rfl ?_
              refine TL.val (OpV.assign rfl) rfl ?_
              refine TL.nil ?_
              refine TE.next ?_
              refine T.ret ?_
              refine TE.pass_ret ?_
              refine TE.out_ret ?_
              refine TE.pass_ret ?_
              refine TE.pass_ret ?_
              refine TE.out_ret ?_
              refine TE.pass_ret ?_
              refine TE.retN rfl (.cons (ResV.tmp rfl) <| .cons (ResV.tmp rfl) <| .nil) ?_
              exact fun wz kz => ⟨⟨none, 0, 0, fun _ => none⟩, by rw [hvr]; rfl, by rw [unpackV, hvr]; exact SlR.nil, Perm.kle (.cons .here .nil) wz (KOk.ownNil kz)⟩
            · intro ht60
              have hne : prevW rs i ≠ some x.w := by have h9 : ¬ x.w = y.w := of_decide_eq_false ht60; rw [hpv]; intro e; exact h9 (Option.some.inj e).symm
              refine T.skip ?_
              refine TE.next ?_
              refine T.seq ?_
              refine T.region ?_
              refine TL.val (OpV.assign rfl) rfl ?_
              refine TL.nil ?_
              refine TE.next ?_
              refine T.block ?_
              refine T.loop (ι := Nat × List Cl × Option Addr × Nat) (fun ⟨k, out2, A4b, c4b⟩ => k ≤ m ∧ out2 = flatR (rs.take i) ++ List.replicate k (cellOf x.w) ∧ (A4b = none → c4b = 0)) (fun ⟨k, out2, A4b, c4b⟩ => (m - k)) (fun ⟨k, out2, A4b, c4b⟩ => [(0, .slice A n c), (4, .slice A4b out2.length c4b), (5, .int .i64 (i : Int)), (6, .pointer (some ⟨b6, 0, none⟩)), (8, .int .i64 (k : Int))]) (fun ⟨k, out2, A4b, c4b⟩ => [.row 30 16 A4b out2.length c4b (fl out2), .blk b6 (rcellV x.w).l 30, .fr σ]) (0, out, A4, c4) ⟨Nat.zero_le _, by simp [q2], q3⟩ (.cons (t := 0) rfl <| .cons (t := 4) rfl <| .cons (t := 5) rfl <| .cons (t := 6) rfl <| .cons (t := 8) rfl <| .nil) (Perm.kle (.cons (by first | exact P0 | exact P1 | exact P2 | exact P3 | exact P4 | exact P5) (.cons (by first | exact P0 | exact P1 | exact P2 | exact P3 | exact P4 | exact P5) (.cons (by first | exact P0 | exact P1 | exact P2 | exact P3 | exact P4 | exact P5) .nil)))) ?_
              rintro ⟨k, out2, A4b, c4b⟩ hR1
              refine T.seq ?_
              refine T.seq ?_
              refine T.region ?_
              refine TL.val (OpV.move rfl) rfl ?_
              refine TL.val (OpV.move rfl) rfl ?_
              refine TL.val (OpV.move rfl) rfl ?_
              refine TL.val (OpV.indexAddr se_43 rfl hA rfl (by rfl) (by first | omega | simp)) rfl ?_
              refine TL.val (OpV.fieldAddr rfl fo_67_0) rfl ?_
              refine TL.val (OpV.load pl_3 rfl (by first | exact Cel.blk P0 rfl | exact Cel.blk P1 rfl | exact Cel.blk P2 rfl | exact Cel.blk P3 rfl | exact Cel.blk P4 rfl | exact Cel.blk P5 rfl | exact Cel.frA (hatx _ _ rfl))) rfl ?_
              refine TL.val (OpV.lss rfl rfl) rfl ?_
              refine TL.nil ?_
              refine TE.next ?_
              refine T.cond rfl ?_ ?_
              · intro ht67
                obtain ⟨p1, p2, p3⟩ := hR1
                have hkm : k < m := by have h9 := of_decide_eq_true ht67; omega
                have hol : out2.length = (flatR (rs.take i)).length + k := by rw [p2]; simp
                have hol2 := congrArg List.length q2
                refine T.skip ?_
                refine TE.sub (.cons (t := 0) rfl <| .cons (t := 4) rfl <| .cons (t := 5) rfl <| .cons (t := 6) rfl <| .cons (t := 8) rfl <| .nil) ?_
                refine TE.next ?_
                refine T.seq ?_
                refine T.block ?_
                refine T.region ?_
                refine TL.val (OpV.move rfl) rfl ?_
                refine TL.val (OpV.loadA ag_30 rfl (Cels.blkAt (rcellV x.w).l (by first | exact P0 | exact P1 | exact P2 | exact P3 | exact P4) rfl rfl)) rfl ?_
                refine TL.said (t := 71) rfl (show _ = Value.agg (cellOf x.w).l.toArray by rw [hre]) ?_
                refine TL.slit (qs := #[(0, _)]) (fun _ f => by simp only [List.map_toArray, List.map_cons, List.map_nil]; rw [f.ev (x := .tmp 71) rfl]) (sl_42_1_0 (cellOf x.w)) rfl ?_
                intro b72
                obtain ⟨ti73, hi73, hz73, hs73, hb73⟩ := info_parts inf_30
                refine TL.append rfl rfl Tryd.underlying42 hi73 hz73 hs73 hb73 rfl (by omega) (by first | exact P0 | exact P1 | exact P2 | exact P3 | exact P4 | exact P5) (by first | exact Src.nil | exact Src.blk P0 rfl | exact Src.blk P1 rfl | exact Src.blk P2 rfl | exact Src.blk P3 rfl | exact Src.blk P4 rfl | exact Src.blk P5 rfl | exact Src.row P0 | exact Src.row P1 | exact Src.row P2 | exact Src.row P3 | exact Src.row P4 | exact Src.row P5) (fun h => by cases h) rfl (by omega) (by omega) rfl ?_
                clear hi73 hz73 hs73 hb73 ti73
                intro A73 c73 hn73
                refine TL.val (OpV.assign rfl) rfl ?_
                refine TL.nil ?_
                refine TE.out ?_
                refine TE.next ?_
                refine T.region ?_
                refine TL.val (OpV.move rfl) rfl ?_
                refine TL.val (OpV.add rfl rfl (by first | exact IntWalk.i64_in _ ⟨by omega, by omega⟩ | rfl)) rfl ?_
                refine TL.val (OpV.assign rfl) rfl ?_
                refine TL.nil ?_
                exact TE.meet (k + 1, out2 ++ [cellOf x.w], A73, c73) ⟨⟨by omega, by rw [p2, List.append_assoc, ← List.replicate_succ'], hn73⟩, by simp only; omega⟩ (.cons (t := 0) (by first | rfl | (simp [lk]; done)) <| .cons (t := 4) (by simp only [List.length_append, List.length_cons, List.length_nil]; rfl) <| .cons (t := 5) (by first | rfl | (simp [lk]; done)) <| .cons (t := 6) (by first | rfl | (simp [lk]; done)) <| .cons (t := 8) (by first | rfl | (simp [lk]; done)) <| .nil) ((by simp only [fl_snoc, List.length_append, List.length_cons, List.length_nil]; exact Perm.kle (.cons (by first | exact P0 | exact P1 | exact P2 | exact P3 | exact P4 | exact P5) (.cons (by first | exact P0 | exact P1 | exact P2 | exact P3 | exact P4 | exact P5) (.cons (by first | exact P0 | exact P1 | exact P2 | exact P3 | exact P4 | exact P5) .nil)))))
              · intro ht67
                obtain ⟨p1, p2, p3⟩ := hR1
                have hkm : k = m := by have h9 := of_decide_eq_false ht67; omega
                have hol : out2.length = (flatR (rs.take i)).length + k := by rw [p2]; simp
                have hol2 := congrArg List.length q2
                refine T.exit ?_
                refine TE.pass_exit ?_
                refine TE.pass_exit ?_
                refine TE.here ?_
                refine TE.out ?_
                refine TE.sub (.cons (t := 0) rfl <| .cons (t := 4) rfl <| .cons (t := 5) rfl <| .cons (t := 6) rfl <| .cons (t := 8) rfl <| .nil) ?_
                refine TE.next ?_
                refine T.region ?_
                refine TL.val (OpV.move rfl) rfl ?_
                refine TL.val (OpV.add rfl rfl (by first | exact IntWalk.i64_in _ ⟨by omega, by omega⟩ | rfl)) rfl ?_
                refine TL.val (OpV.assign rfl) rfl ?_
                refine TL.nil ?_
                exact TE.meet (i + 1, out2, A4b, c4b) ⟨⟨by omega, by rw [p2, hkm, hfs], p3, by rw [← q4, drop_get hx, vRf, decide_eq_true hcx, decide_eq_true hne, hk, decide_eq_true hsm, hss, prevW_succ hx]; rfl, by rw [hss]; omega, by rw [hss]; omega⟩, by simp only; omega⟩ (.cons (t := 0) (by first | rfl | (simp [lk]; done)) <| .cons (t := 4) (by first | rfl | (simp [lk]; done)) <| .cons (t := 5) (by first | rfl | (simp [lk]; done)) <| .nil) (Perm.kle (.cons (by first | exact P0 | exact P1 | exact P2 | exact P3 | exact P4 | exact P5) (.cons (by first | exact P0 | exact P1 | exact P2 | exact P3 | exact P4 | exact P5) .nil)))
          · intro hg47
            have hne : prevW rs i ≠ some x.w := by have h9 := of_decide_eq_false hg47; rw [prevW, if_neg (by omega)]; simp
            refine TQ.shut rfl rfl ?_
            refine TQ.shut rfl rfl ?_
            refine TQ.shut rfl rfl ?_
            refine TQ.shut rfl rfl ?_
            refine TQ.shut rfl rfl ?_
            refine TQ.shut rfl rfl ?_
            refine TQ.shut rfl rfl ?_
            refine TQ.shut rfl rfl ?_
            refine TQ.shut rfl rfl ?_
            refine TQ.shut rfl rfl ?_
            refine TQ.shut rfl rfl ?_
            refine TQ.shut rfl rfl ?_
            refine TQ.val ((by first | exact OpV.pick_t rfl rfl | exact OpV.pick_f rfl rfl)) rfl ?_
            refine TQ.nil ?_
            refine TE.sub (.cons (t := 0) rfl <| .cons (t := 4) rfl <| .cons (t := 5) rfl <| .cons (t := 6) rfl <| .cons (t := 60) rfl <| .nil) ?_
            refine TE.next ?_
            refine T.no rfl ?_
            refine T.skip ?_
            refine TE.next ?_
            refine T.seq ?_
            refine T.region ?_
            refine TL.val (OpV.assign rfl) rfl ?_
            refine TL.nil ?_
            refine TE.next ?_
            refine T.block ?_
            refine T.loop (ι := Nat × List Cl × Option Addr × Nat) (fun ⟨k, out2, A4b, c4b⟩ => k ≤ m ∧ out2 = flatR (rs.take i) ++ List.replicate k (cellOf x.w) ∧ (A4b = none → c4b = 0)) (fun ⟨k, out2, A4b, c4b⟩ => (m - k)) (fun ⟨k, out2, A4b, c4b⟩ => [(0, .slice A n c), (4, .slice A4b out2.length c4b), (5, .int .i64 (i : Int)), (6, .pointer (some ⟨b6, 0, none⟩)), (8, .int .i64 (k : Int))]) (fun ⟨k, out2, A4b, c4b⟩ => [.row 30 16 A4b out2.length c4b (fl out2), .blk b6 (rcellV x.w).l 30, .fr σ]) (0, out, A4, c4) ⟨Nat.zero_le _, by simp [q2], q3⟩ (.cons (t := 0) rfl <| .cons (t := 4) rfl <| .cons (t := 5) rfl <| .cons (t := 6) rfl <| .cons (t := 8) rfl <| .nil) (Perm.kle (.cons (by first | exact P0 | exact P1 | exact P2 | exact P3 | exact P4 | exact P5) (.cons (by first | exact P0 | exact P1 | exact P2 | exact P3 | exact P4 | exact P5) (.cons (by first | exact P0 | exact P1 | exact P2 | exact P3 | exact P4 | exact P5) .nil)))) ?_
            rintro ⟨k, out2, A4b, c4b⟩ hR1
            refine T.seq ?_
            refine T.seq ?_
            refine T.region ?_
            refine TL.val (OpV.move rfl) rfl ?_
            refine TL.val (OpV.move rfl) rfl ?_
            refine TL.val (OpV.move rfl) rfl ?_
            refine TL.val (OpV.indexAddr se_43 rfl hA rfl (by rfl) (by first | omega | simp)) rfl ?_
            refine TL.val (OpV.fieldAddr rfl fo_67_0) rfl ?_
            refine TL.val (OpV.load pl_3 rfl (by first | exact Cel.blk P0 rfl | exact Cel.blk P1 rfl | exact Cel.blk P2 rfl | exact Cel.blk P3 rfl | exact Cel.blk P4 rfl | exact Cel.blk P5 rfl | exact Cel.frA (hatx _ _ rfl))) rfl ?_
            refine TL.val (OpV.lss rfl rfl) rfl ?_
            refine TL.nil ?_
            refine TE.next ?_
            refine T.cond rfl ?_ ?_
            · intro ht67
              obtain ⟨p1, p2, p3⟩ := hR1
              have hkm : k < m := by have h9 := of_decide_eq_true ht67; omega
              have hol : out2.length = (flatR (rs.take i)).length + k := by rw [p2]; simp
              have hol2 := congrArg List.length q2
              refine T.skip ?_
              refine TE.sub (.cons (t := 0) rfl <| .cons (t := 4) rfl <| .cons (t := 5) rfl <| .cons (t := 6) rfl <| .cons (t := 8) rfl <| .nil) ?_
              refine TE.next ?_
              refine T.seq ?_
              refine T.block ?_
              refine T.region ?_
              refine TL.val (OpV.move rfl) rfl ?_
              refine TL.val (OpV.loadA ag_30 rfl (Cels.blkAt (rcellV x.w).l (by first | exact P0 | exact P1 | exact P2 | exact P3 | exact P4) rfl rfl)) rfl ?_
              refine TL.said (t := 71) rfl (show _ = Value.agg (cellOf x.w).l.toArray by rw [hre]) ?_
              refine TL.slit (qs := #[(0, _)]) (fun _ f => by simp only [List.map_toArray, List.map_cons, List.map_nil]; rw [f.ev (x := .tmp 71) rfl]) (sl_42_1_0 (cellOf x.w)) rfl ?_
              intro b72
              obtain ⟨ti73, hi73, hz73, hs73, hb73⟩ := info_parts inf_30
              refine TL.append rfl rfl Tryd.underlying42 hi73 hz73 hs73 hb73 rfl (by omega) (by first | exact P0 | exact P1 | exact P2 | exact P3 | exact P4 | exact P5) (by first | exact Src.nil | exact Src.blk P0 rfl | exact Src.blk P1 rfl | exact Src.blk P2 rfl | exact Src.blk P3 rfl | exact Src.blk P4 rfl | exact Src.blk P5 rfl | exact Src.row P0 | exact Src.row P1 | exact Src.row P2 | exact Src.row P3 | exact Src.row P4 | exact Src.row P5) (fun h => by cases h) rfl (by omega) (by omega) rfl ?_
              clear hi73 hz73 hs73 hb73 ti73
              intro A73 c73 hn73
              refine TL.val (OpV.assign rfl) rfl ?_
              refine TL.nil ?_
              refine TE.out ?_
              refine TE.next ?_
              refine T.region ?_
              refine TL.val (OpV.move rfl) rfl ?_
              refine TL.val (OpV.add rfl rfl (by first | exact IntWalk.i64_in _ ⟨by omega, by omega⟩ | rfl)) rfl ?_
              refine TL.val (OpV.assign rfl) rfl ?_
              refine TL.nil ?_
              exact TE.meet (k + 1, out2 ++ [cellOf x.w], A73, c73) ⟨⟨by omega, by rw [p2, List.append_assoc, ← List.replicate_succ'], hn73⟩, by simp only; omega⟩ (.cons (t := 0) (by first | rfl | (simp [lk]; done)) <| .cons (t := 4) (by simp only [List.length_append, List.length_cons, List.length_nil]; rfl) <| .cons (t := 5) (by first | rfl | (simp [lk]; done)) <| .cons (t := 6) (by first | rfl | (simp [lk]; done)) <| .cons (t := 8) (by first | rfl | (simp [lk]; done)) <| .nil) ((by simp only [fl_snoc, List.length_append, List.length_cons, List.length_nil]; exact Perm.kle (.cons (by first | exact P0 | exact P1 | exact P2 | exact P3 | exact P4 | exact P5) (.cons (by first | exact P0 | exact P1 | exact P2 | exact P3 | exact P4 | exact P5) (.cons (by first | exact P0 | exact P1 | exact P2 | exact P3 | exact P4 | exact P5) .nil)))))
            · intro ht67
              obtain ⟨p1, p2, p3⟩ := hR1
              have hkm : k = m := by have h9 := of_decide_eq_false ht67; omega
              have hol : out2.length = (flatR (rs.take i)).length + k := by rw [p2]; simp
              have hol2 := congrArg List.length q2
              refine T.exit ?_
              refine TE.pass_exit ?_
              refine TE.pass_exit ?_
              refine TE.here ?_
              refine TE.out ?_
              refine TE.sub (.cons (t := 0) rfl <| .cons (t := 4) rfl <| .cons (t := 5) rfl <| .cons (t := 6) rfl <| .cons (t := 8) rfl <| .nil) ?_
              refine TE.next ?_
              refine T.region ?_
              refine TL.val (OpV.move rfl) rfl ?_
              refine TL.val (OpV.add rfl rfl (by first | exact IntWalk.i64_in _ ⟨by omega, by omega⟩ | rfl)) rfl ?_
              refine TL.val (OpV.assign rfl) rfl ?_
              refine TL.nil ?_
              exact TE.meet (i + 1, out2, A4b, c4b) ⟨⟨by omega, by rw [p2, hkm, hfs], p3, by rw [← q4, drop_get hx, vRf, decide_eq_true hcx, decide_eq_true hne, hk, decide_eq_true hsm, hss, prevW_succ hx]; rfl, by rw [hss]; omega, by rw [hss]; omega⟩, by simp only; omega⟩ (.cons (t := 0) (by first | rfl | (simp [lk]; done)) <| .cons (t := 4) (by first | rfl | (simp [lk]; done)) <| .cons (t := 5) (by first | rfl | (simp [lk]; done)) <| .nil) (Perm.kle (.cons (by first | exact P0 | exact P1 | exact P2 | exact P3 | exact P4 | exact P5) (.cons (by first | exact P0 | exact P1 | exact P2 | exact P3 | exact P4 | exact P5) .nil)))
  · intro ht12
    obtain ⟨q1, q2, q3, q4, q5, q6⟩ := hR
    have hin : ¬ i < n := by have h9 := of_decide_eq_false ht12; omega
    have hvr : vR rs = true := by rw [← q4, List.drop_of_length_le (by omega), vRf]
    rw [List.take_of_length_le (by omega)] at q2
    refine T.exit ?_
    refine TE.pass_exit ?_
    refine TE.pass_exit ?_
    refine TE.here ?_
    refine TE.next ?_
    refine T.seq ?_
    refine T.region ?_
    refine TL.val (OpV.move rfl) rfl ?_
    refine TL.val (OpV.assign rfl) rfl ?_
    refine TL.val (OpV.assign rfl) rfl ?_
    refine TL.nil ?_
    refine TE.sub (.cons (t := 2) rfl <| .cons (t := 3) rfl <| .nil) ?_
    refine TE.next ?_
    refine T.ret ?_
    refine TE.retN rfl (.cons (ResV.tmp rfl) <| .cons (ResV.tmp rfl) <| .nil) ?_
    intro wz kz
    obtain ⟨ρ, h1, k2⟩ := KOk.rowOwn (kz.pick (e := .row 30 16 A4 out.length c4 (fl out)) (by first | exact P0 | exact P1 | exact P2 | exact P3 | exact P4 | exact P5))
    exact ⟨⟨A4, out.length, c4, ρ⟩, by rw [hvr]; rfl, by rw [unpackV, hvr, if_pos rfl, ← q2]; exact CsR.of_row h1 rfl, Perm.kle (.cons .here .nil) wz k2⟩
set_option maxRecDepth 100000 in
set_option maxHeartbeats 1000000 in
theorem few5_c {σ : Nat → Option Obj} {A : Option Addr} {n c : Nat} {rs : List Rn} (w : World) (h : RsR σ A n c rs) (hw : InR rs) (hs : ∀ b o, σ b = some o → w.heap[b]? = some o) : Calls Tryd.prog 18 #[.slice A n c] w (Ret (.bool (fewR rs)) w) := by
  have hn63 := h.2.1
  have hc63 := h.2.2.1
  have hl1 := h.1
  refine calls_T (vs := [.slice A n c]) (L0 := [(0, .slice A n c)]) Tryd.func18 rfl rfl rfl rfl (KOk.fr1 hs) ?_
  refine T.seq ?_
  refine T.region ?_
  refine TL.val (OpV.assign rfl) rfl ?_
  refine TL.nil ?_
  refine TE.next ?_
  refine T.seq ?_
  refine T.seq ?_
  refine T.region ?_
  refine TL.val (OpV.assign rfl) rfl ?_
  refine TL.nil ?_
  refine TE.next ?_
  refine T.block ?_
  refine T.loop (ι := Nat) (fun i => i ≤ n ∧ i ≤ 11 ∧ (rs.take i).all (fun x => !fewB x) = true) (fun i => (n - i)) (fun i => [(0, .slice A n c), (3, .int .i64 (i : Int))]) (fun i => [.fr σ]) 0 ⟨Nat.zero_le _, Nat.zero_le _, rfl⟩ (.cons (t := 0) rfl <| .cons (t := 3) rfl <| .nil) (Kle.refl) ?_
  rintro i hR
  refine T.seq ?_
  refine T.seq ?_
  refine T.region ?_
  refine TL.val (OpV.move rfl) rfl ?_
  refine TL.val (OpV.move rfl) rfl ?_
  refine TL.val (OpV.len Tryd.underlying43 rfl) rfl ?_
  refine TL.val (OpV.lss rfl rfl) rfl ?_
  refine TL.val (OpV.move rfl) rfl ?_
  refine TL.part (t := 8) rfl ?_ ?_
  · intro hg8
    obtain ⟨q1, q2, q3⟩ := hR
    have hi : i < n := by have h9 := of_decide_eq_true hg8; omega
    obtain ⟨x, hx⟩ := get_of_lt h.1 hi
    obtain ⟨b, o, hA, hat0⟩ := h.2.2.2.2 (by omega)
    obtain ⟨_, rfl, _, hatx⟩ := hat0 i x hx
    refine TL.open rfl rfl ?_
    refine TL.val (OpV.move rfl) rfl ?_
    refine TL.open rfl rfl ?_
    refine TL.val (OpV.lss rfl rfl) rfl ?_
    refine TL.val ((by first | exact OpV.pick_t rfl rfl | exact OpV.pick_f rfl rfl)) rfl ?_
    refine TL.nil ?_
    refine TE.sub (.cons (t := 0) rfl <| .cons (t := 3) rfl <| .cons (t := 11) rfl <| .nil) ?_
    refine TE.next ?_
    refine T.cond rfl ?_ ?_
    · intro ht11
      have hi11 : i < 11 := by have h9 := of_decide_eq_true ht11; omega
      refine T.skip ?_
      refine TE.next ?_
      refine T.seq ?_
      refine T.block ?_
      refine T.seq ?_
      refine T.region ?_
      refine TL.val (OpV.move rfl) rfl ?_
      refine TL.val (OpV.move rfl) rfl ?_
      refine TL.val (OpV.indexAddr se_43 rfl hA rfl (by rfl) (by first | omega | simp)) rfl ?_
      refine TL.val (OpV.fieldAddr rfl fo_67_0) rfl ?_
      refine TL.val (OpV.load pl_3 rfl (by first | exact Cel.blk P0 rfl | exact Cel.blk P1 rfl | exact Cel.blk P2 rfl | exact Cel.frA (hatx _ _ rfl))) rfl ?_
      refine TL.val (OpV.gtr rfl rfl) rfl ?_
      refine TL.val (OpV.move rfl) rfl ?_
      refine TL.part (t := 20) rfl ?_ ?_
      · intro hg20
        have hg1 : 60 < x.cnt := by have h9 := of_decide_eq_true hg20; omega
        refine TL.open rfl rfl ?_
        refine TL.val (OpV.move rfl) rfl ?_
        refine TL.open rfl rfl ?_
        refine TL.val (OpV.move rfl) rfl ?_
        refine TL.open rfl rfl ?_
        refine TL.val (OpV.indexAddr se_43 rfl hA rfl (by rfl) (by first | omega | simp)) rfl ?_
        refine TL.open rfl rfl ?_
        refine TL.val (OpV.fieldAddr rfl fo_67_0) rfl ?_
        refine TL.open rfl rfl ?_
        refine TL.val (OpV.load pl_3 rfl (by first | exact Cel.blk P0 rfl | exact Cel.blk P1 rfl | exact Cel.blk P2 rfl | exact Cel.frA (hatx _ _ rfl))) rfl ?_
        refine TL.open rfl rfl ?_
        refine TL.val (OpV.lss rfl rfl) rfl ?_
        refine TL.val ((by first | exact OpV.pick_t rfl rfl | exact OpV.pick_f rfl rfl)) rfl ?_
        refine TL.nil ?_
        refine TE.sub (.cons (t := 0) rfl <| .cons (t := 3) rfl <| .cons (t := 27) rfl <| .nil) ?_
        refine TE.next ?_
        refine T.cond rfl ?_ ?_
        · intro ht27
          have hfr : fewR rs = false := by rw [fewR, show (rs.take 11).all (fun x => !fewB x) = false by rw [List.all_eq_false]; exact ⟨x, List.mem_of_getElem? (show (rs.take 11)[i]? = some x by rw [List.getElem?_take, if_pos hi11]; exact hx), by rw [fewB, decide_eq_true hg1, decide_eq_true (by have h9 := of_decide_eq_true ht27; omega)]; decide⟩, Bool.false_and]
          refine T.seq ?_
          refine T.region ?_
          refine TL.val (OpV.assign rfl) rfl ?_
          refine TL.nil ?_
          refine TE.next ?_
          refine T.ret ?_
          refine TE.out_ret ?_
          refine TE.pass_ret ?_
          refine TE.pass_ret ?_
          refine TE.out_ret ?_
          refine TE.pass_ret ?_
          refine TE.ret1 rfl (ResV.tmp rfl) ?_
          exact fun w1 k1 => ⟨ret_bool hfr.symm, k1.bel⟩
        · intro ht27
          have hfx : fewB x = false := by rw [fewB, decide_eq_false (show ¬ x.cnt < 99990 by have h9 := of_decide_eq_false ht27; omega), Bool.and_false]
          refine T.skip ?_
          refine TE.out ?_
          refine TE.next ?_
          refine T.region ?_
          refine TL.val (OpV.move rfl) rfl ?_
          refine TL.val (OpV.add rfl rfl (by first | exact IntWalk.i64_in _ ⟨by omega, by omega⟩ | rfl)) rfl ?_
          refine TL.val (OpV.assign rfl) rfl ?_
          refine TL.nil ?_
          exact TE.meet (i + 1) ⟨⟨by omega, by omega, by rw [take_snoc hx, List.all_append, q3]; simp [hfx]⟩, by omega⟩ (.cons (t := 0) (by first | rfl | (simp [lk]; done)) <| .cons (t := 3) (by first | rfl | (simp [lk]; done)) <| .nil) (Perm.kle (.cons (by first | exact P0 | exact P1 | exact P2 | exact P3 | exact P4 | exact P5) .nil))
      · intro hg20
        have hfx : fewB x = false := by rw [fewB, decide_eq_false (by have h9 := of_decide_eq_false hg20; omega), Bool.false_and]
        refine TL.shut rfl rfl ?_
        refine TL.shut rfl rfl ?_
        refine TL.shut rfl rfl ?_
        refine TL.shut rfl rfl ?_
        refine TL.shut rfl rfl ?_
        refine TL.shut rfl rfl ?_
        refine TL.val ((by first | exact OpV.pick_t rfl rfl | exact OpV.pick_f rfl rfl)) rfl ?_
        refine TL.nil ?_
        refine TE.sub (.cons (t := 0) rfl <| .cons (t := 3) rfl <| .cons (t := 27) rfl <| .nil) ?_
        refine TE.next ?_
        refine T.no rfl ?_
        refine T.skip ?_
        refine TE.out ?_
        refine TE.next ?_
        refine T.region ?_
        refine TL.val (OpV.move rfl) rfl ?_
        refine TL.val (OpV.add rfl rfl (by first | exact IntWalk.i64_in _ ⟨by omega, by omega⟩ | rfl)) rfl ?_
        refine TL.val (OpV.assign rfl) rfl ?_
        refine TL.nil ?_
        exact TE.meet (i + 1) ⟨⟨by omega, by omega, by rw [take_snoc hx, List.all_append, q3]; simp [hfx]⟩, by omega⟩ (.cons (t := 0) (by first | rfl | (simp [lk]; done)) <| .cons (t := 3) (by first | rfl | (simp [lk]; done)) <| .nil) (Perm.kle (.cons (by first | exact P0 | exact P1 | exact P2 | exact P3 | exact P4 | exact P5) .nil))
    · intro ht11
      have hi11 : i = 11 := by have h9 := of_decide_eq_false ht11; omega
      have hall : (rs.take 11).all (fun x => !fewB x) = true := by rw [hi11] at q3; exact q3
      refine T.exit ?_
      refine TE.pass_exit ?_
      refine TE.pass_exit ?_
      refine TE.here ?_
      refine TE.next ?_
      refine T.seq ?_
      refine T.region ?_
      refine TL.val (OpV.move rfl) rfl ?_
      refine TL.val (OpV.len Tryd.underlying43 rfl) rfl ?_
      refine TL.val (OpV.leq rfl rfl) rfl ?_
      refine TL.val (OpV.assign rfl) rfl ?_
      refine TL.nil ?_
      refine TE.next ?_
      refine T.ret ?_
      refine TE.ret1 rfl (ResV.tmp rfl) ?_
      exact fun w1 k1 => ⟨ret_bool (by rw [fewR, hall, Bool.true_and, decide_eq_decide]; omega), k1.bel⟩
  · intro hg8
    obtain ⟨q1, q2, q3⟩ := hR
    have hi : i = n := by have h9 := of_decide_eq_false hg8; omega
    have hall : (rs.take 11).all (fun x => !fewB x) = true := by rw [List.take_of_length_le (by omega)] at q3 ⊢; exact q3
    refine TL.shut rfl rfl ?_
    refine TL.shut rfl rfl ?_
    refine TL.val ((by first | exact OpV.pick_t rfl rfl | exact OpV.pick_f rfl rfl)) rfl ?_
    refine TL.nil ?_
    refine TE.sub (.cons (t := 0) rfl <| .cons (t := 3) rfl <| .cons (t := 11) rfl <| .nil) ?_
    refine TE.next ?_
    refine T.no rfl ?_
    refine T.exit ?_
    refine TE.pass_exit ?_
    refine TE.pass_exit ?_
    refine TE.here ?_
    refine TE.next ?_
    refine T.seq ?_
    refine T.region ?_
    refine TL.val (OpV.move rfl) rfl ?_
    refine TL.val (OpV.len Tryd.underlying43 rfl) rfl ?_
    refine TL.val (OpV.leq rfl rfl) rfl ?_
    refine TL.val (OpV.assign rfl) rfl ?_
    refine TL.nil ?_
    refine TE.next ?_
    refine T.ret ?_
    refine TE.ret1 rfl (ResV.tmp rfl) ?_
    exact fun w1 k1 => ⟨ret_bool (by rw [fewR, hall, Bool.true_and, decide_eq_decide]; omega), k1.bel⟩
end Go.Proofs.YtfbkoflapamicaaDoor
