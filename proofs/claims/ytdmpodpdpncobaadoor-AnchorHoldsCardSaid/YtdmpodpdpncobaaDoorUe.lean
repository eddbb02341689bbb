/-
  The walks of the helpers of chapter 29. Condition: the package-level tables hold what they were laid with.
-/
import Derived.Test.YtdmpodpdpncobaaDoorUd
namespace Go.Proofs.YtdmpodpdpncobaaDoor
open Go.RowKit
set_option linter.unusedSimpArgs false
set_option linter.unusedVariables false
set_option maxRecDepth 100000 in
set_option maxHeartbeats 1000000 in
theorem of28_law (s : ByteArray) (w : World) (hs : s.size ≤ 900) : Calls Tryd.prog 79 #[.string s] w (fun e w' => ∃ v : SV, e = .returned v.v ∧ CsR v.σ v.A v.n v.c (ofL s.data.toList) ∧ KOk w [.own v.σ] w') := by
  refine calls_T (vs := [.string s]) (L0 := [(0, .string s)]) Tryd.func79 rfl rfl rfl rfl (KOk.none w) ?_
  refine T.seq ?_
  refine T.region ?_
  refine TL.val (OpV.assign rfl) rfl ?_
  refine TL.nil ?_
  refine TE.next ?_
  refine T.seq ?_
  refine T.region ?_
  refine TL.val (OpV.assign rfl) rfl ?_
  refine TL.nil ?_
  refine TE.next ?_
  refine T.seq ?_
  refine T.seq ?_
  refine T.region ?_
  refine TL.val (OpV.assign rfl) rfl ?_
  refine TL.nil ?_
  refine TE.next ?_
  refine T.block ?_
  refine T.loop (ι := Nat × Option Addr × Nat × List Cl) (fun ⟨i, A, c, xs⟩ => i ≤ s.size ∧ xs = ofL (s.data.toList.take i) ∧ (A = none → c = 0) ∧ xs.length ≤ 2000) (fun ⟨i, A, c, xs⟩ => (s.size - i)) (fun ⟨i, A, c, xs⟩ => [(0, .string s), (3, .slice A xs.length c), (4, .int .i64 (i : Int))]) (fun ⟨i, A, c, xs⟩ => [.row 58 16 A xs.length c (fl xs)]) (0, none, 0, []) ⟨Nat.zero_le _, rfl, fun _ => rfl, Nat.zero_le _⟩ (.cons (t := 0) rfl <| .cons (t := 3) rfl <| .cons (t := 4) rfl <| .nil) ((Kle.nilRow 58 16)) ?_
  rintro ⟨i, A, c, xs⟩ hR
  refine T.seq ?_
  refine T.seq ?_
  refine T.region ?_
  refine TL.val (OpV.move rfl) rfl ?_
  refine TL.val (OpV.move rfl) rfl ?_
  refine TL.val (OpV.lenS Tryd.underlying9 rfl) rfl ?_
  refine TL.val (OpV.lss rfl rfl) rfl ?_
  refine TL.nil ?_
  refine TE.next ?_
  refine T.cond rfl ?_ ?_
  · intro ht8
    obtain ⟨q1, q2, q3, q4⟩ := hR
    have hi : i < s.size := by have h9 := of_decide_eq_true ht8; omega
    have hu : s[i]? = some s[i] := getElem?_pos s i hi
    have e9 : s.data.toList.take (i + 1) = s.data.toList.take i ++ [s[i]] := by rw [List.take_add_one, Array.getElem?_toList, show s.data[i]? = some s[i] from Array.getElem?_eq_getElem hi]; rfl
    have hlb : xs.length ≤ 2 * i := by rw [q2]; have h9 := length_ofL (s.data.toList.take i); rw [List.length_take] at h9; omega
    generalize s[i] = u at hu e9
    refine T.skip ?_
    refine TE.next ?_
    refine T.seq ?_
    refine T.block ?_
    refine T.seq ?_
    refine T.region ?_
    refine TL.val (OpV.move rfl) rfl ?_
    refine TL.val (OpV.move rfl) rfl ?_
    refine TL.val (OpV.indexStr (j := i) Tryd.underlying9 rfl rfl rfl hu) rfl ?_
    refine TL.nil ?_
    refine TE.next ?_
    refine T.block ?_
    refine T.seq ?_
    refine T.region ?_
    refine TL.val (OpV.eql rfl rfl) rfl ?_
    refine TL.val (OpV.assign rfl) rfl ?_
    refine TL.nil ?_
    refine TE.sub (.cons (t := 0) rfl <| .cons (t := 3) rfl <| .cons (t := 4) rfl <| .cons (t := 13) rfl <| .cons (t := 22) rfl <| .nil) ?_
    refine TE.next ?_
    refine T.cond rfl ?_ ?_
    · intro ht22
      have hb1 : u.toNat = 87 := by have h9 := eq_of_beq ht22; omega
      refine T.region ?_
      refine TL.val (OpV.move rfl) rfl ?_
      refine TL.val (OpV.build (qs := #[(0, _), (2, _)]) (fun _ f => by simp only [List.map_toArray, List.map_cons, List.map_nil]; rw [f.ev (x := .const (.int .i32 19968)) rfl, f.ev (x := .const (.int .i64 2)) rfl]) (bld_58_0_2 19968 2 )) rfl ?_
      refine TL.val (OpV.build (qs := #[]) (fun _ _ => by simp) (bld_58)) rfl ?_
      refine TL.slit (qs := #[(0, _), (1, _)]) (fun _ f => by simp only [List.map_toArray, List.map_cons, List.map_nil]; rw [f.ev (x := .tmp 25) rfl]; (try rw [f.ev (x := .tmp 26) rfl])) (sl_35_2_0_1 (Cl.mk 19968 0 0 0 2 Pen.zero) Cl.zero) rfl ?_
      intro b27
      obtain ⟨ti28, hi28, hz28, hs28, hb28⟩ := info_parts inf_58
      refine TL.append rfl rfl Tryd.underlying35 hi28 hz28 hs28 hb28 rfl (by omega) (by first | exact P0 | exact P1 | exact P2 | exact P3 | exact P4 | exact P5) (by first | exact Src.nil | exact Src.blk P0 rfl | exact Src.blk P1 rfl | exact Src.blk P2 rfl | exact Src.blk P3 rfl | exact Src.blk P4 rfl | exact Src.blk P5 rfl | exact Src.row P0 | exact Src.row P1 | exact Src.row P2 | exact Src.row P3 | exact Src.row P4 | exact Src.row P5) (fun h => by cases h) rfl (by omega) (by omega) rfl ?_
      clear hi28 hz28 hs28 hb28 ti28
      intro A28 c28 hn28
      refine TL.val (OpV.assign rfl) rfl ?_
      refine TL.nil ?_
      refine TE.out ?_
      refine TE.out ?_
      refine TE.sub (.cons (t := 0) rfl <| .cons (t := 3) rfl <| .cons (t := 4) rfl <| .nil) ?_
      refine TE.next ?_
      refine T.region ?_
      refine TL.val (OpV.move rfl) rfl ?_
      refine TL.val (OpV.add rfl rfl (by first | exact IntWalk.i64_in _ ⟨by omega, by omega⟩ | rfl)) rfl ?_
      refine TL.val (OpV.assign rfl) rfl ?_
      refine TL.nil ?_
      exact TE.meet (i + 1, A28, c28, xs ++ [⟨19968, 0, 0, 0, 2, Pen.zero⟩, Cl.zero]) ⟨⟨by omega, by rw [e9, ofL_snoc, ← q2, ofB, if_pos hb1], hn28, by simp only [List.length_append, List.length_cons, List.length_nil]; omega⟩, by simp only; omega⟩ (.cons (t := 0) (by first | rfl | (simp [lk]; done)) <| .cons (t := 3) (by simp only [List.length_append, List.length_cons, List.length_nil]; rfl) <| .cons (t := 4) (by first | rfl | (simp [lk]; done)) <| .nil) ((by simp only [fl_append, List.length_append, List.length_cons, List.length_nil]; exact Perm.kle (.cons (by first | exact P0 | exact P1 | exact P2 | exact P3 | exact P4 | exact P5 | exact P6 | exact P7) .nil)))
    · intro ht22
      have hb1 : ¬ u.toNat = 87 := by intro e; have h9 := beq_eq_false_iff_ne.1 ht22; omega
      refine T.seq ?_
      refine T.region ?_
      refine TL.val (OpV.eql rfl rfl) rfl ?_
      refine TL.val (OpV.assign rfl) rfl ?_
      refine TL.nil ?_
      refine TE.next ?_
      refine T.cond rfl ?_ ?_
      · intro ht29
        have hb2 : u.toNat = 95 := by have h9 := eq_of_beq ht29; omega
        refine T.region ?_
        refine TL.val (OpV.move rfl) rfl ?_
        refine TL.val (OpV.build (qs := #[(2, _)]) (fun _ f => by simp only [List.map_toArray, List.map_cons, List.map_nil]; rw [f.ev (x := .const (.int .i64 1)) rfl]) (bld_58_2 1 )) rfl ?_
        refine TL.slit (qs := #[(0, _)]) (fun _ f => by simp only [List.map_toArray, List.map_cons, List.map_nil]; rw [f.ev (x := .tmp 32) rfl]) (sl_35_1_0 (Cl.mk 0 0 0 0 1 Pen.zero)) rfl ?_
        intro b33
        obtain ⟨ti34, hi34, hz34, hs34, hb34⟩ := info_parts inf_58
        refine TL.append rfl rfl Tryd.underlying35 hi34 hz34 hs34 hb34 rfl (by omega) (by first | exact P0 | exact P1 | exact P2 | exact P3 | exact P4 | exact P5) (by first | exact Src.nil | exact Src.blk P0 rfl | exact Src.blk P1 rfl | exact Src.blk P2 rfl | exact Src.blk P3 rfl | exact Src.blk P4 rfl | exact Src.blk P5 rfl | exact Src.row P0 | exact Src.row P1 | exact Src.row P2 | exact Src.row P3 | exact Src.row P4 | exact Src.row P5) (fun h => by cases h) rfl (by omega) (by omega) rfl ?_
        clear hi34 hz34 hs34 hb34 ti34
        intro A34 c34 hn34
        refine TL.val (OpV.assign rfl) rfl ?_
        refine TL.nil ?_
        refine TE.out ?_
        refine TE.out ?_
        refine TE.sub (.cons (t := 0) rfl <| .cons (t := 3) rfl <| .cons (t := 4) rfl <| .nil) ?_
        refine TE.next ?_
        refine T.region ?_
        refine TL.val (OpV.move rfl) rfl ?_
        refine TL.val (OpV.add rfl rfl (by first | exact IntWalk.i64_in _ ⟨by omega, by omega⟩ | rfl)) rfl ?_
        refine TL.val (OpV.assign rfl) rfl ?_
        refine TL.nil ?_
        exact TE.meet (i + 1, A34, c34, xs ++ [blank Pen.zero]) ⟨⟨by omega, by rw [e9, ofL_snoc, ← q2, ofB, if_neg hb1, if_pos hb2], hn34, by simp only [List.length_append, List.length_cons, List.length_nil]; omega⟩, by simp only; omega⟩ (.cons (t := 0) (by first | rfl | (simp [lk]; done)) <| .cons (t := 3) (by simp only [List.length_append, List.length_cons, List.length_nil]; rfl) <| .cons (t := 4) (by first | rfl | (simp [lk]; done)) <| .nil) ((by simp only [fl_append, List.length_append, List.length_cons, List.length_nil]; exact Perm.kle (.cons (by first | exact P0 | exact P1 | exact P2 | exact P3 | exact P4 | exact P5 | exact P6 | exact P7) .nil)))
      · intro ht29
        have hb2 : ¬ u.toNat = 95 := by intro e; have h9 := beq_eq_false_iff_ne.1 ht29; omega
        refine T.region ?_
        refine TL.val (OpV.move rfl) rfl ?_
        refine TL.val (OpV.move rfl) rfl ?_
        refine TL.val (OpV.move rfl) rfl ?_
        refine TL.val (OpV.indexStr (j := i) Tryd.underlying9 rfl rfl rfl hu) rfl ?_
        refine TL.val (OpV.conv Tryd.underlying5 Tryd.underlying21 rfl (by first | exact IntWalk.i32_in _ ⟨by omega, by have h9 := u.toNat_lt; omega⟩ | rfl)) rfl ?_
        refine TL.val (OpV.build (qs := #[(0, _), (2, _)]) (fun _ f => by simp only [List.map_toArray, List.map_cons, List.map_nil]; rw [f.ev (x := .tmp 18) rfl, f.ev (x := .const (.int .i64 1)) rfl]) (bld_58_0_2 u.toNat 1 )) rfl ?_
        refine TL.slit (qs := #[(0, _)]) (fun _ f => by simp only [List.map_toArray, List.map_cons, List.map_nil]; rw [f.ev (x := .tmp 19) rfl]) (sl_35_1_0 (Cl.mk u.toNat 0 0 0 1 Pen.zero)) rfl ?_
        intro b20
        obtain ⟨ti21, hi21, hz21, hs21, hb21⟩ := info_parts inf_58
        refine TL.append rfl rfl Tryd.underlying35 hi21 hz21 hs21 hb21 rfl (by omega) (by first | exact P0 | exact P1 | exact P2 | exact P3 | exact P4 | exact P5) (by first | exact Src.nil | exact Src.blk P0 rfl | exact Src.blk P1 rfl | exact Src.blk P2 rfl | exact Src.blk P3 rfl | exact Src.blk P4 rfl | exact Src.blk P5 rfl | exact Src.row P0 | exact Src.row P1 | exact Src.row P2 | exact Src.row P3 | exact Src.row P4 | exact Src.row P5) (fun h => by cases h) rfl (by omega) (by omega) rfl ?_
        clear hi21 hz21 hs21 hb21 ti21
        intro A21 c21 hn21
        refine TL.val (OpV.assign rfl) rfl ?_
        refine TL.nil ?_
        refine TE.out ?_
        refine TE.out ?_
        refine TE.sub (.cons (t := 0) rfl <| .cons (t := 3) rfl <| .cons (t := 4) rfl <| .nil) ?_
        refine TE.next ?_
        refine T.region ?_
        refine TL.val (OpV.move rfl) rfl ?_
        refine TL.val (OpV.add rfl rfl (by first | exact IntWalk.i64_in _ ⟨by omega, by omega⟩ | rfl)) rfl ?_
        refine TL.val (OpV.assign rfl) rfl ?_
        refine TL.nil ?_
        exact TE.meet (i + 1, A21, c21, xs ++ [⟨u.toNat, 0, 0, 0, 1, Pen.zero⟩]) ⟨⟨by omega, by rw [e9, ofL_snoc, ← q2, ofB, if_neg hb1, if_neg hb2], hn21, by simp only [List.length_append, List.length_cons, List.length_nil]; omega⟩, by simp only; omega⟩ (.cons (t := 0) (by first | rfl | (simp [lk]; done)) <| .cons (t := 3) (by simp only [List.length_append, List.length_cons, List.length_nil]; rfl) <| .cons (t := 4) (by first | rfl | (simp [lk]; done)) <| .nil) ((by simp only [fl_append, List.length_append, List.length_cons, List.length_nil]; exact Perm.kle (.cons (by first | exact P0 | exact P1 | exact P2 | exact P3 | exact P4 | exact P5 | exact P6 | exact P7) .nil)))
  · intro ht8
    obtain ⟨q1, q2, q3, q4⟩ := hR
    have hin : i = s.size := by have h9 := of_decide_eq_false ht8; omega
    rw [hin, List.take_of_length_le (Nat.le_of_eq (by simp))] at q2
    refine T.exit ?_
    refine TE.pass_exit ?_
    refine TE.pass_exit ?_
    refine TE.here ?_
    refine TE.next ?_
    refine T.seq ?_
    refine T.region ?_
    refine TL.val (OpV.move rfl) rfl ?_
    refine TL.val (OpV.assign rfl) rfl ?_
    refine TL.nil ?_
    refine TE.sub (.cons (t := 2) rfl <| .nil) ?_
    refine TE.next ?_
    refine T.ret ?_
    refine TE.ret1 rfl (ResV.tmp rfl) ?_
    intro wz kz
    obtain ⟨ρ, h1, k2⟩ := KOk.rowOwn (kz.pick (e := .row 58 16 A xs.length c (fl xs)) (by first | exact P0 | exact P1 | exact P2 | exact P3 | exact P4 | exact P5 | exact P6 | exact P7))
    exact ⟨⟨A, xs.length, c, ρ⟩, rfl, by rw [← q2]; exact CsR.of_row h1 rfl, Perm.kle (.cons .here .nil) wz k2⟩
set_option maxRecDepth 100000 in
set_option maxHeartbeats 1000000 in
theorem rows_law {σ : Nat → Option Obj} {A : Option Addr} {n c : Nat} {ss : List ByteArray} (w : World) (h : SsR σ A n c ss) (hs : ∀ b o, σ b = some o → w.heap[b]? = some o) (hn : n ≤ 1000) (hb : ∀ s ∈ ss, s.size ≤ 900) : Calls Tryd.prog 51 #[.slice A n c] w (fun e w' => ∃ v : SV, e = .returned v.v ∧ LsR v.σ v.A v.n v.c (ss.map rowB) ∧ KOk w [.own v.σ] w') := by
  have hn63 := h.2.1
  have hc63 := h.2.2.1
  have hl1 := h.1
  refine calls_T (vs := [.slice A n c]) (L0 := [(0, .slice A n c)]) Tryd.func51 rfl rfl rfl rfl (KOk.fr1 hs) ?_
  refine T.seq ?_
  refine T.region ?_
  refine TL.val (OpV.assign rfl) rfl ?_
  refine TL.nil ?_
  refine TE.next ?_
  refine T.seq ?_
  refine T.region ?_
  refine TL.val (OpV.assign rfl) rfl ?_
  refine TL.nil ?_
  refine TE.next ?_
  refine T.seq ?_
  refine T.seq ?_
  refine T.region ?_
  refine TL.val (OpV.assign rfl) rfl ?_
  refine TL.nil ?_
  refine TE.next ?_
  refine T.block ?_
  refine T.loop (ι := Nat × List LnA × Option Addr × Nat × (Nat → Option Obj)) (fun ⟨i, cs, A3, c3, τ⟩ => i ≤ n ∧ cs.map LnA.ln = (ss.take i).map rowB ∧ (∀ l ∈ cs, CsR τ l.A l.n l.c l.cells) ∧ (A3 = none → c3 = 0)) (fun ⟨i, cs, A3, c3, τ⟩ => (n - i)) (fun ⟨i, cs, A3, c3, τ⟩ => [(0, .slice A n c), (3, .slice A3 cs.length c3), (4, .int .i64 (i : Int))]) (fun ⟨i, cs, A3, c3, τ⟩ => [.row 65 2 A3 cs.length c3 (fll cs), .own τ, .fr σ]) (0, [], none, 0, fun _ => none) ⟨Nat.zero_le _, rfl, (fun l hl => by cases hl), fun _ => rfl⟩ (.cons (t := 0) rfl <| .cons (t := 3) rfl <| .cons (t := 4) rfl <| .nil) ((fun wz kz => Perm.kle (.cons (by first | exact P0 | exact P1 | exact P2 | exact P3 | exact P4 | exact P5 | exact P6 | exact P7) (.cons (by first | exact P0 | exact P1 | exact P2 | exact P3 | exact P4 | exact P5 | exact P6 | exact P7) (.cons (by first | exact P0 | exact P1 | exact P2 | exact P3 | exact P4 | exact P5 | exact P6 | exact P7) .nil))) wz (Kle.nilRow 65 2 wz (KOk.ownNil kz)))) ?_
  rintro ⟨i, cs, A3, c3, τ⟩ hR
  have hcl : cs.length = i := by have h9 := congrArg List.length hR.2.1; have h8 := hR.1; have h7 := h.1; simp at h9; omega
  refine T.seq ?_
  refine T.seq ?_
  refine T.region ?_
  refine TL.val (OpV.move rfl) rfl ?_
  refine TL.val (OpV.move rfl) rfl ?_
  refine TL.val (OpV.len Tryd.underlying125 rfl) rfl ?_
  refine TL.val (OpV.lss rfl rfl) rfl ?_
  refine TL.nil ?_
  refine TE.next ?_
  refine T.cond rfl ?_ ?_
  · intro ht10
    obtain ⟨q1, q2, q3, q4⟩ := hR
    have hi : i < n := by have h9 := of_decide_eq_true ht10; omega
    obtain ⟨s, hs5⟩ := get_of_lt h.1 hi
    obtain ⟨b, o, hA, hat⟩ := h.2.2.2.2 (by omega)
    obtain ⟨_, rfl, _, hats⟩ := hat i s hs5
    have hsz := hb s (List.mem_of_getElem? hs5)
    refine T.skip ?_
    refine TE.next ?_
    refine T.seq ?_
    refine T.block ?_
    refine T.seq ?_
    refine T.region ?_
    refine TL.val (OpV.move rfl) rfl ?_
    refine TL.val (OpV.move rfl) rfl ?_
    refine TL.val (OpV.indexAddr se_125 rfl hA rfl (by rfl) (by first | omega | simp)) rfl ?_
    refine TL.val (OpV.load pl_9 rfl (by first | exact Cel.blk P0 rfl | exact Cel.blk P1 rfl | exact Cel.blk P2 rfl | exact Cel.blk P3 rfl | exact Cel.blk P4 rfl | exact Cel.blk P5 rfl | exact Cel.frA (hats 0 _ rfl))) rfl ?_
    refine TL.val (OpV.assign rfl) rfl ?_
    refine TL.nil ?_
    refine TE.sub (.cons (t := 0) rfl <| .cons (t := 3) rfl <| .cons (t := 4) rfl <| .cons (t := 5) rfl <| .nil) ?_
    refine TE.next ?_
    refine T.seq ?_
    refine T.region ?_
    refine TL.val (OpV.move rfl) rfl ?_
    refine TL.val (OpV.lenS Tryd.underlying9 rfl) rfl ?_
    refine TL.val (OpV.gtr rfl rfl) rfl ?_
    refine TL.val (OpV.move rfl) rfl ?_
    refine TL.part (t := 20) rfl ?_ ?_
    · intro hg20
      have h0 : 0 < s.size := by have h9 := of_decide_eq_true hg20; omega
      obtain ⟨u, hu⟩ : ∃ u, s[s.size - 1]? = some u := ⟨_, getElem?_pos s (s.size - 1) (by omega)⟩
      refine TL.open rfl rfl ?_
      refine TL.val (OpV.move rfl) rfl ?_
      refine TL.open rfl rfl ?_
      refine TL.val (OpV.move rfl) rfl ?_
      refine TL.open rfl rfl ?_
      refine TL.val (OpV.lenS Tryd.underlying9 rfl) rfl ?_
      refine TL.open rfl rfl ?_
      refine TL.val (OpV.sub rfl rfl (by first | exact IntWalk.i64_in _ ⟨by omega, by omega⟩ | rfl)) rfl ?_
      refine TL.open rfl rfl ?_
      refine TL.val (OpV.indexStr (j := s.size - 1) Tryd.underlying9 rfl rfl (by omega) hu) rfl ?_
      refine TL.open rfl rfl ?_
      refine TL.val (OpV.eql rfl rfl) rfl ?_
      refine TL.val ((by first | exact OpV.pick_t rfl rfl | exact OpV.pick_f rfl rfl)) rfl ?_
      refine TL.val (OpV.assign rfl) rfl ?_
      refine TL.nil ?_
      refine TE.sub (.cons (t := 0) rfl <| .cons (t := 3) rfl <| .cons (t := 4) rfl <| .cons (t := 5) rfl <| .cons (t := 6) rfl <| .nil) ?_
      refine TE.next ?_
      refine T.seq ?_
      refine T.seq ?_
      refine T.region ?_
      refine TL.val (OpV.move rfl) rfl ?_
      refine TL.nil ?_
      refine TE.next ?_
      refine T.cond rfl ?_ ?_
      · intro ht28
        have hu45 : u = 45 := by have h9 := eq_of_beq ht28; apply UInt8.toNat_inj.1; have h8 : u.toNat = 45 := (by omega); exact h8
        have hrb : rowB s = ⟨ofL (s.extract 0 (s.size - 1)).data.toList, true⟩ := rowB_yes (by rw [hu, hu45])
        refine T.region ?_
        refine TL.val (OpV.move rfl) rfl ?_
        refine TL.val (OpV.move rfl) rfl ?_
        refine TL.val (OpV.lenS Tryd.underlying9 rfl) rfl ?_
        refine TL.val (OpV.sub rfl rfl (by first | exact IntWalk.i64_in _ ⟨by omega, by omega⟩ | rfl)) rfl ?_
        refine TL.val (OpV.sliceStrHi (hi := s.size - 1) Tryd.underlying9 rfl rfl (by omega) (by omega)) rfl ?_
        refine TL.val (OpV.assign rfl) rfl ?_
        refine TL.nil ?_
        refine TE.next ?_
        refine T.region ?_
        refine TL.val (OpV.move rfl) rfl ?_
        refine TL.val (OpV.move rfl) rfl ?_
        refine TL.callx (g := 79) rfl go_79 rfl (fun wz k1 => own_x k1 (of28_law (s.extract 0 (s.size - 1)) wz (by rw [ByteArray.size_extract]; omega))) rfl ?_
        rintro ⟨Ao, no, co, ρo⟩ ho
        replace ho : CsR ρo Ao no co (ofL (s.extract 0 (s.size - 1)).data.toList) := ho
        refine TL.said (t := 36) rfl (show SV.v ⟨Ao, no, co, ρo⟩ = Value.slice Ao no co from rfl) ?_
        refine TL.val (OpV.move rfl) rfl ?_
        refine TL.said (t := 37) rfl (show _ = Value.bool true from congrArg Value.bool ht28) ?_
        refine TL.val (OpV.build (qs := #[(0, _), (1, _)]) (fun _ f => by simp only [List.map_toArray, List.map_cons, List.map_nil]; rw [f.ev (x := .tmp 36) rfl, f.ev (x := .tmp 37) rfl]) (bld_65_0_1 (LnA.mk Ao no co (ofL (s.extract 0 (s.size - 1)).data.toList) true) )) rfl ?_
        refine TL.slit (qs := #[(0, _)]) (fun _ f => by simp only [List.map_toArray, List.map_cons, List.map_nil]; rw [f.ev (x := .tmp 38) rfl]) (sl_22_1_0 (LnA.mk Ao no co (ofL (s.extract 0 (s.size - 1)).data.toList) true)) rfl ?_
        intro b39
        obtain ⟨ti40, hi40, hz40, hs40, hb40⟩ := info_parts inf_65
        refine TL.append rfl rfl Tryd.underlying22 hi40 hz40 hs40 hb40 rfl (by omega) (by first | exact P0 | exact P1 | exact P2 | exact P3 | exact P4 | exact P5) (by first | exact Src.nil | exact Src.blk P0 rfl | exact Src.blk P1 rfl | exact Src.blk P2 rfl | exact Src.blk P3 rfl | exact Src.blk P4 rfl | exact Src.blk P5 rfl | exact Src.row P0 | exact Src.row P1 | exact Src.row P2 | exact Src.row P3 | exact Src.row P4 | exact Src.row P5) (fun h => by cases h) rfl (by omega) (by omega) rfl ?_
        clear hi40 hz40 hs40 hb40 ti40
        intro A40 c40 hn40
        refine TL.val (OpV.assign rfl) rfl ?_
        refine TL.nil ?_
        refine TE.out ?_
        refine TE.sub (.cons (t := 0) rfl <| .cons (t := 3) rfl <| .cons (t := 4) rfl <| .nil) ?_
        refine TE.next ?_
        refine T.ex (ι := Nat → Option Obj) (R := fun ρ => (∀ b o, ρo b = some o → ρ b = some o) ∧ (∀ b o, τ b = some o → ρ b = some o)) (K2 := fun ρ => [.own ρ, .row 65 2 A40 (cs.length + 1) c40 (fll cs ++ (LnA.mk Ao no co (ofL (s.extract 0 (s.size - 1)).data.toList) true).l), .fr σ]) (fun wz kz => ?_) ?_
        · skip
          obtain ⟨ρ, h9, k2⟩ := KOk.own2 ((kz.pick (e := .own τ) (by first | exact P0 | exact P1 | exact P2 | exact P3 | exact P4 | exact P5 | exact P6 | exact P7)).pick (e := .own ρo) (by first | exact P0 | exact P1 | exact P2 | exact P3 | exact P4 | exact P5 | exact P6 | exact P7))
          exact ⟨ρ, h9, Perm.kle (.cons (by first | exact P0 | exact P1 | exact P2 | exact P3 | exact P4 | exact P5 | exact P6 | exact P7) (.cons (by first | exact P0 | exact P1 | exact P2 | exact P3 | exact P4 | exact P5 | exact P6 | exact P7) (.cons (by first | exact P0 | exact P1 | exact P2 | exact P3 | exact P4 | exact P5 | exact P6 | exact P7) .nil))) wz k2⟩
        rintro ρ ⟨e1, e2⟩
        refine T.region ?_
        refine TL.val (OpV.move rfl) rfl ?_
        refine TL.val (OpV.add rfl rfl (by first | exact IntWalk.i64_in _ ⟨by omega, by omega⟩ | rfl)) rfl ?_
        refine TL.val (OpV.assign rfl) rfl ?_
        refine TL.nil ?_
        exact TE.meet (i + 1, cs ++ [(LnA.mk Ao no co (ofL (s.extract 0 (s.size - 1)).data.toList) true)], A40, c40, ρ) ⟨⟨by omega, by rw [List.map_append, q2, take_snoc hs5, List.map_append, List.map_singleton, List.map_singleton, hrb]; rfl, (fun l hl => by rcases List.mem_append.1 hl with hl | hl; exact (q3 l hl).mono e2; obtain rfl := List.mem_singleton.1 hl; exact ho.mono e1), hn40⟩, by simp only; omega⟩ (.cons (t := 0) (by first | rfl | (simp [lk]; done)) <| .cons (t := 3) (by simp only [List.length_append, List.length_cons, List.length_nil]; rfl) <| .cons (t := 4) (by first | rfl | (simp [lk]; done)) <| .nil) ((by simp only [fll_snoc, List.length_append, List.length_cons, List.length_nil]; exact Perm.kle (.cons (by first | exact P0 | exact P1 | exact P2 | exact P3 | exact P4 | exact P5 | exact P6 | exact P7) (.cons (by first | exact P0 | exact P1 | exact P2 | exact P3 | exact P4 | exact P5 | exact P6 | exact P7) (.cons (by first | exact P0 | exact P1 | exact P2 | exact P3 | exact P4 | exact P5 | exact P6 | exact P7) .nil)))))
      · intro ht28
        have hrb : rowB s = ⟨ofL s.data.toList, false⟩ := rowB_no (fun v hv e => by rw [hu] at hv; cases hv; rw [e] at ht28; simp at ht28)
        refine T.skip ?_
        refine TE.next ?_
        refine T.region ?_
        refine TL.val (OpV.move rfl) rfl ?_
        refine TL.val (OpV.move rfl) rfl ?_
        refine TL.callx (g := 79) rfl go_79 rfl (fun wz k1 => own_x k1 (of28_law s wz (by omega))) rfl ?_
        rintro ⟨Ao, no, co, ρo⟩ ho
        replace ho : CsR ρo Ao no co (ofL s.data.toList) := ho
        refine TL.said (t := 36) rfl (show SV.v ⟨Ao, no, co, ρo⟩ = Value.slice Ao no co from rfl) ?_
        refine TL.val (OpV.move rfl) rfl ?_
        refine TL.said (t := 37) rfl (show _ = Value.bool false from congrArg Value.bool ht28) ?_
        refine TL.val (OpV.build (qs := #[(0, _), (1, _)]) (fun _ f => by simp only [List.map_toArray, List.map_cons, List.map_nil]; rw [f.ev (x := .tmp 36) rfl, f.ev (x := .tmp 37) rfl]) (bld_65_0_1 (LnA.mk Ao no co (ofL s.data.toList) false) )) rfl ?_
        refine TL.slit (qs := #[(0, _)]) (fun _ f => by simp only [List.map_toArray, List.map_cons, List.map_nil]; rw [f.ev (x := .tmp 38) rfl]) (sl_22_1_0 (LnA.mk Ao no co (ofL s.data.toList) false)) rfl ?_
        intro b39
        obtain ⟨ti40, hi40, hz40, hs40, hb40⟩ := info_parts inf_65
        refine TL.append rfl rfl Tryd.underlying22 hi40 hz40 hs40 hb40 rfl (by omega) (by first | exact P0 | exact P1 | exact P2 | exact P3 | exact P4 | exact P5) (by first | exact Src.nil | exact Src.blk P0 rfl | exact Src.blk P1 rfl | exact Src.blk P2 rfl | exact Src.blk P3 rfl | exact Src.blk P4 rfl | exact Src.blk P5 rfl | exact Src.row P0 | exact Src.row P1 | exact Src.row P2 | exact Src.row P3 | exact Src.row P4 | exact Src.row P5) (fun h => by cases h) rfl (by omega) (by omega) rfl ?_
        clear hi40 hz40 hs40 hb40 ti40
        intro A40 c40 hn40
        refine TL.val (OpV.assign rfl) rfl ?_
        refine TL.nil ?_
        refine TE.out ?_
        refine TE.sub (.cons (t := 0) rfl <| .cons (t := 3) rfl <| .cons (t := 4) rfl <| .nil) ?_
        refine TE.next ?_
        refine T.ex (ι := Nat → Option Obj) (R := fun ρ => (∀ b o, ρo b = some o → ρ b = some o) ∧ (∀ b o, τ b = some o → ρ b = some o)) (K2 := fun ρ => [.own ρ, .row 65 2 A40 (cs.length + 1) c40 (fll cs ++ (LnA.mk Ao no co (ofL s.data.toList) false).l), .fr σ]) (fun wz kz => ?_) ?_
        · skip
          obtain ⟨ρ, h9, k2⟩ := KOk.own2 ((kz.pick (e := .own τ) (by first | exact P0 | exact P1 | exact P2 | exact P3 | exact P4 | exact P5 | exact P6 | exact P7)).pick (e := .own ρo) (by first | exact P0 | exact P1 | exact P2 | exact P3 | exact P4 | exact P5 | exact P6 | exact P7))
          exact ⟨ρ, h9, Perm.kle (.cons (by first | exact P0 | exact P1 | exact P2 | exact P3 | exact P4 | exact P5 | exact P6 | exact P7) (.cons (by first | exact P0 | exact P1 | exact P2 | exact P3 | exact P4 | exact P5 | exact P6 | exact P7) (.cons (by first | exact P0 | exact P1 | exact P2 | exact P3 | exact P4 | exact P5 | exact P6 | exact P7) .nil))) wz k2⟩
        rintro ρ ⟨e1, e2⟩
        refine T.region ?_
        refine TL.val (OpV.move rfl) rfl ?_
        refine TL.val (OpV.add rfl rfl (by first | exact IntWalk.i64_in _ ⟨by omega, by omega⟩ | rfl)) rfl ?_
        refine TL.val (OpV.assign rfl) rfl ?_
        refine TL.nil ?_
        exact TE.meet (i + 1, cs ++ [(LnA.mk Ao no co (ofL s.data.toList) false)], A40, c40, ρ) ⟨⟨by omega, by rw [List.map_append, q2, take_snoc hs5, List.map_append, List.map_singleton, List.map_singleton, hrb]; rfl, (fun l hl => by rcases List.mem_append.1 hl with hl | hl; exact (q3 l hl).mono e2; obtain rfl := List.mem_singleton.1 hl; exact ho.mono e1), hn40⟩, by simp only; omega⟩ (.cons (t := 0) (by first | rfl | (simp [lk]; done)) <| .cons (t := 3) (by simp only [List.length_append, List.length_cons, List.length_nil]; rfl) <| .cons (t := 4) (by first | rfl | (simp [lk]; done)) <| .nil) ((by simp only [fll_snoc, List.length_append, List.length_cons, List.length_nil]; exact Perm.kle (.cons (by first | exact P0 | exact P1 | exact P2 | exact P3 | exact P4 | exact P5 | exact P6 | exact P7) (.cons (by first | exact P0 | exact P1 | exact P2 | exact P3 | exact P4 | exact P5 | exact P6 | exact P7) (.cons (by first | exact P0 | exact P1 | exact P2 | exact P3 | exact P4 | exact P5 | exact P6 | exact P7) .nil)))))
    · intro hg20
      have hrb : rowB s = ⟨ofL s.data.toList, false⟩ := rowB_no (fun u hu => by have h9 := of_decide_eq_false hg20; have h8 : s.size = 0 := (by omega); have h7 : s[s.size - 1]? = none := (by rw [getElem?_eq_none_iff]; omega); rw [h7] at hu; cases hu)
      refine TL.shut rfl rfl ?_
      refine TL.shut rfl rfl ?_
      refine TL.shut rfl rfl ?_
      refine TL.shut rfl rfl ?_
      refine TL.shut rfl rfl ?_
      refine TL.shut rfl rfl ?_
      refine TL.val ((by first | exact OpV.pick_t rfl rfl | exact OpV.pick_f rfl rfl)) rfl ?_
      refine TL.val (OpV.assign rfl) rfl ?_
      refine TL.nil ?_
      refine TE.sub (.cons (t := 0) rfl <| .cons (t := 3) rfl <| .cons (t := 4) rfl <| .cons (t := 5) rfl <| .cons (t := 6) rfl <| .nil) ?_
      refine TE.next ?_
      refine T.seq ?_
      refine T.seq ?_
      refine T.region ?_
      refine TL.val (OpV.move rfl) rfl ?_
      refine TL.nil ?_
      refine TE.next ?_
      refine T.no rfl ?_
      refine T.skip ?_
      refine TE.next ?_
      refine T.region ?_
      refine TL.val (OpV.move rfl) rfl ?_
      refine TL.val (OpV.move rfl) rfl ?_
      refine TL.callx (g := 79) rfl go_79 rfl (fun wz k1 => own_x k1 (of28_law s wz (by omega))) rfl ?_
      rintro ⟨Ao, no, co, ρo⟩ ho
      replace ho : CsR ρo Ao no co (ofL s.data.toList) := ho
      refine TL.said (t := 36) rfl (show SV.v ⟨Ao, no, co, ρo⟩ = Value.slice Ao no co from rfl) ?_
      refine TL.val (OpV.move rfl) rfl ?_
      refine TL.val (OpV.build (qs := #[(0, _), (1, _)]) (fun _ f => by simp only [List.map_toArray, List.map_cons, List.map_nil]; rw [f.ev (x := .tmp 36) rfl, f.ev (x := .tmp 37) rfl]) (bld_65_0_1 (LnA.mk Ao no co (ofL s.data.toList) false) )) rfl ?_
      refine TL.slit (qs := #[(0, _)]) (fun _ f => by simp only [List.map_toArray, List.map_cons, List.map_nil]; rw [f.ev (x := .tmp 38) rfl]) (sl_22_1_0 (LnA.mk Ao no co (ofL s.data.toList) false)) rfl ?_
      intro b39
      obtain ⟨ti40, hi40, hz40, hs40, hb40⟩ := info_parts inf_65
      refine TL.append rfl rfl Tryd.underlying22 hi40 hz40 hs40 hb40 rfl (by omega) (by first | exact P0 | exact P1 | exact P2 | exact P3 | exact P4 | exact P5) (by first | exact Src.nil | exact Src.blk P0 rfl | exact Src.blk P1 rfl | exact Src.blk P2 rfl | exact Src.blk P3 rfl | exact Src.blk P4 rfl | exact Src.blk P5 rfl | exact Src.row P0 | exact Src.row P1 | exact Src.row P2 | exact Src.row P3 | exact Src.row P4 | exact Src.row P5) (fun h => by cases h) rfl (by omega) (by omega) rfl ?_
      clear hi40 hz40 hs40 hb40 ti40
      intro A40 c40 hn40
      refine TL.val (OpV.assign rfl) rfl ?_
      refine TL.nil ?_
      refine TE.out ?_
      refine TE.sub (.cons (t := 0) rfl <| .cons (t := 3) rfl <| .cons (t := 4) rfl <| .nil) ?_
      refine TE.next ?_
      refine T.ex (ι := Nat → Option Obj) (R := fun ρ => (∀ b o, ρo b = some o → ρ b = some o) ∧ (∀ b o, τ b = some o → ρ b = some o)) (K2 := fun ρ => [.own ρ, .row 65 2 A40 (cs.length + 1) c40 (fll cs ++ (LnA.mk Ao no co (ofL s.data.toList) false).l), .fr σ]) (fun wz kz => ?_) ?_
      · skip
        obtain ⟨ρ, h9, k2⟩ := KOk.own2 ((kz.pick (e := .own τ) (by first | exact P0 | exact P1 | exact P2 | exact P3 | exact P4 | exact P5 | exact P6 | exact P7)).pick (e := .own ρo) (by first | exact P0 | exact P1 | exact P2 | exact P3 | exact P4 | exact P5 | exact P6 | exact P7))
        exact ⟨ρ, h9, Perm.kle (.cons (by first | exact P0 | exact P1 | exact P2 | exact P3 | exact P4 | exact P5 | exact P6 | exact P7) (.cons (by first | exact P0 | exact P1 | exact P2 | exact P3 | exact P4 | exact P5 | exact P6 | exact P7) (.cons (by first | exact P0 | exact P1 | exact P2 | exact P3 | exact P4 | exact P5 | exact P6 | exact P7) .nil))) wz k2⟩
      rintro ρ ⟨e1, e2⟩
      refine T.region ?_
      refine TL.val (OpV.move rfl) rfl ?_
      refine TL.val (OpV.add rfl rfl (by first | exact IntWalk.i64_in _ ⟨by omega, by omega⟩ | rfl)) rfl ?_
      refine TL.val (OpV.assign rfl) rfl ?_
      refine TL.nil ?_
      exact TE.meet (i + 1, cs ++ [(LnA.mk Ao no co (ofL s.data.toList) false)], A40, c40, ρ) ⟨⟨by omega, by rw [List.map_append, q2, take_snoc hs5, List.map_append, List.map_singleton, List.map_singleton, hrb]; rfl, (fun l hl => by rcases List.mem_append.1 hl with hl | hl; exact (q3 l hl).mono e2; obtain rfl := List.mem_singleton.1 hl; exact ho.mono e1), hn40⟩, by simp only; omega⟩ (.cons (t := 0) (by first | rfl | (simp [lk]; done)) <| .cons (t := 3) (by simp only [List.length_append, List.length_cons, List.length_nil]; rfl) <| .cons (t := 4) (by first | rfl | (simp [lk]; done)) <| .nil) ((by simp only [fll_snoc, List.length_append, List.length_cons, List.length_nil]; exact Perm.kle (.cons (by first | exact P0 | exact P1 | exact P2 | exact P3 | exact P4 | exact P5 | exact P6 | exact P7) (.cons (by first | exact P0 | exact P1 | exact P2 | exact P3 | exact P4 | exact P5 | exact P6 | exact P7) (.cons (by first | exact P0 | exact P1 | exact P2 | exact P3 | exact P4 | exact P5 | exact P6 | exact P7) .nil)))))
  · intro ht10
    obtain ⟨q1, q2, q3, q4⟩ := hR
    have hin : ¬ i < n := by have h9 := of_decide_eq_false ht10; omega
    rw [List.take_of_length_le (by omega)] at q2
    refine T.exit ?_
    refine TE.pass_exit ?_
    refine TE.pass_exit ?_
    refine TE.here ?_
    refine TE.next ?_
    refine T.seq ?_
    refine T.region ?_
    refine TL.val (OpV.move rfl) rfl ?_
    refine TL.val (OpV.assign rfl) rfl ?_
    refine TL.nil ?_
    refine TE.sub (.cons (t := 2) rfl <| .nil) ?_
    refine TE.next ?_
    refine T.ret ?_
    refine TE.ret1 rfl (ResV.tmp rfl) ?_
    intro wz kz
    obtain ⟨ρ, ⟨r2, r3⟩, k2⟩ := KOk.rowInto (e := 65) (z := 2) (A := A3) (m := cs.length) (c := c3) (xs := fll cs) (τ := τ) kz (by first | exact P0 | exact P1 | exact P2 | exact P3 | exact P4 | exact P5 | exact P6 | exact P7) (by first | exact P0 | exact P1 | exact P2 | exact P3 | exact P4 | exact P5 | exact P6 | exact P7)
    exact ⟨⟨A3, cs.length, c3, ρ⟩, rfl, ⟨cs, ⟨SlR.of_row LnA.l_length r2 rfl, fun l hl => (q3 l hl).mono r3⟩, q2⟩, Perm.kle (.cons .here .nil) wz k2⟩
end Go.Proofs.YtdmpodpdpncobaaDoor
