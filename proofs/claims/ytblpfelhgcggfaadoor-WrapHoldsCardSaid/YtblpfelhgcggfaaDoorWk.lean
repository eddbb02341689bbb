/-
  The walks of the laws' helpers. Condition: the package-level tables hold what they were laid with.
-/
import Derived.Test.YtblpfelhgcggfaaDoorWj
namespace Go.Proofs.YtblpfelhgcggfaaDoor
open Go.RowKit
set_option linter.unusedSimpArgs false
set_option linter.unusedVariables false
theorem ag_34 : aggT Tryd.prog 34 = some 2 := by kernel_rfl
theorem eg_37 : Tryd.prog.eqGuardType Tryd.prog.depth 37 = false := by kernel_rfl
theorem go_17 : isGo Tryd.prog 17 = true := by kernel_rfl
theorem go_27 : isGo Tryd.prog 27 = true := by kernel_rfl
theorem go_28 : isGo Tryd.prog 28 = true := by kernel_rfl
theorem go_41 : isGo Tryd.prog 41 = true := by kernel_rfl
theorem go_43 : isGo Tryd.prog 43 = true := by kernel_rfl
theorem szz_34 : sz Tryd.prog 34 = some 2 := by kernel_rfl
theorem zo_34 : zOf Tryd.prog 34 = some [.slice none 0 0, .bool false] := by kernel_rfl

theorem sl_22_2_0_1 (c d : Cl) (w : World) : (Instr.buildSlice 22 2 #[(0, .agg c.l.toArray), (1, .agg d.l.toArray)]).run Tryd.prog w = .ok (.slice (some ⟨w.heap.size, 0, none⟩) 2 2) (w.alloc (.cells (fl [c, d]).toArray 59)) := by kernel_rfl
theorem eq_37 (a b c d : Int) (w : World) : (Op.equal 37 (.agg (anL a b).toArray) (.agg (anL c d).toArray)).run Tryd.prog w = .ok (a == c && b == d) w := by
  show (Op.equalIn (9998 + 2) _ _ _).run _ _ = _
  cases h1 : a == c <;> cases h2 : b == d <;> simp [go_sem, part, anL, h1, h2]
set_option maxRecDepth 100000 in
set_option maxHeartbeats 1000000 in
theorem of_law (s : ByteArray) (w : World) (hs : s.size ≤ 900) : Calls Tryd.prog 43 #[.string s] w (fun e w' => ∃ v : SV, e = .returned v.v ∧ CsR v.σ v.A v.n v.c (ofL s.data.toList) ∧ KOk w [.own v.σ] w') := by
  refine calls_T (vs := [.string s]) (L0 := [(0, .string s)]) Tryd.func43 rfl rfl rfl rfl (KOk.none w) ?_
  refine T.seq ?_
  refine T.region ?_
  refine TL.val (OpV.assign rfl) rfl ?_
  refine TL.nil ?_
  refine TE.next ?_
  refine T.seq ?_
  refine T.region ?_
  refine TL.val (OpV.assign rfl) rfl ?_
  refine TL.nil ?_
  refine TE.next ?_
  refine T.seq ?_
  refine T.seq ?_
  refine T.region ?_
  refine TL.val (OpV.assign rfl) rfl ?_
  refine TL.nil ?_
  refine TE.next ?_
  refine T.block ?_
  refine T.loop (ι := Nat × Option Addr × Nat × List Cl) (fun ⟨i, A, c, xs⟩ => i ≤ s.size ∧ xs = ofL (s.data.toList.take i) ∧ (A = none → c = 0) ∧ xs.length ≤ 2000) (fun ⟨i, A, c, xs⟩ => (s.size - i)) (fun ⟨i, A, c, xs⟩ => [(0, .string s), (3, .slice A xs.length c), (4, .int .i64 (i : Int))]) (fun ⟨i, A, c, xs⟩ => [.row 59 16 A xs.length c (fl xs)]) (0, none, 0, []) ⟨Nat.zero_le _, rfl, fun _ => rfl, Nat.zero_le _⟩ (.cons (t := 0) rfl <| .cons (t := 3) rfl <| .cons (t := 4) rfl <| .nil) ((Kle.nilRow 59 16)) ?_
  rintro ⟨i, A, c, xs⟩ hR
  refine T.seq ?_
  refine T.seq ?_
  refine T.region ?_
  refine TL.val (OpV.move rfl) rfl ?_
  refine TL.val (OpV.move rfl) rfl ?_
  refine TL.val (OpV.lenS Tryd.underlying9 rfl) rfl ?_
  refine TL.val (OpV.lss rfl rfl) rfl ?_
  refine TL.nil ?_
  refine TE.next ?_
  refine T.cond rfl ?_ ?_
  · intro ht8
    obtain ⟨q1, q2, q3, q4⟩ := hR
    have hi : i < s.size := by have h9 := of_decide_eq_true ht8; omega
    have hu : s[i]? = some s[i] := getElem?_pos s i hi
    have e9 : s.data.toList.take (i + 1) = s.data.toList.take i ++ [s[i]] := by rw [List.take_add_one, Array.getElem?_toList, show s.data[i]? = some s[i] from Array.getElem?_eq_getElem hi]; rfl
    have hlb : xs.length ≤ 2 * i := by rw [q2]; have h9 := length_ofL (s.data.toList.take i); rw [List.length_take] at h9; omega
    generalize s[i] = u at hu e9
    refine T.skip ?_
    refine TE.next ?_
    refine T.seq ?_
    refine T.block ?_
    refine T.seq ?_
    refine T.region ?_
    refine TL.val (OpV.move rfl) rfl ?_
    refine TL.val (OpV.move rfl) rfl ?_
    refine TL.val (OpV.indexStr (j := i) Tryd.underlying9 rfl rfl rfl hu) rfl ?_
    refine TL.nil ?_
    refine TE.next ?_
    refine T.block ?_
    refine T.seq ?_
    refine T.region ?_
    refine TL.val (OpV.eql rfl rfl) rfl ?_
    refine TL.val (OpV.assign rfl) rfl ?_
    refine TL.nil ?_
    refine TE.sub (.cons (t := 0) rfl <| .cons (t := 3) rfl <| .cons (t := 4) rfl <| .cons (t := 13) rfl <| .cons (t := 22) rfl <| .nil) ?_
    refine TE.next ?_
    refine T.cond rfl ?_ ?_
    · intro ht22
      have hb1 : u.toNat = 87 := by have h9 := eq_of_beq ht22; omega
      refine T.region ?_
      refine TL.val (OpV.move rfl) rfl ?_
      refine TL.val (OpV.build (qs := #[(0, _), (2, _)]) (fun _ f => by simp only [List.map_toArray, List.map_cons, List.map_nil]; rw [f.ev (x := .const (.int .i32 19968)) rfl, f.ev (x := .const (.int .i64 2)) rfl]) (bld_59_0_2 19968 2 )) rfl ?_
      refine TL.val (OpV.build (qs := #[]) (fun _ _ => by simp) (bld_59)) rfl ?_
      refine TL.slit (qs := #[(0, _), (1, _)]) (fun _ f => by simp only [List.map_toArray, List.map_cons, List.map_nil]; rw [f.ev (x := .tmp 25) rfl, f.ev (x := .tmp 26) rfl]) (sl_22_2_0_1 (Cl.mk 19968 0 0 0 2 Pen.zero) Cl.zero) rfl ?_
      intro b27
      obtain ⟨ti28, hi28, hz28, hs28, hb28⟩ := info_parts inf_59
      refine TL.append rfl rfl Tryd.underlying22 hi28 hz28 hs28 hb28 rfl (by omega) (by first | exact .here | exact (.there .here) | exact (.there (.there .here)) | exact (.there (.there (.there .here))) | exact (.there (.there (.there (.there .here)))) | exact (.there (.there (.there (.there (.there .here)))))) (by first | exact Src.nil | exact Src.blk .here rfl | exact Src.blk (.there .here) rfl | exact Src.blk (.there (.there .here)) rfl | exact Src.blk (.there (.there (.there .here))) rfl | exact Src.blk (.there (.there (.there (.there .here)))) rfl | exact Src.blk (.there (.there (.there (.there (.there .here))))) rfl | exact Src.row .here | exact Src.row (.there .here) | exact Src.row (.there (.there .here)) | exact Src.row (.there (.there (.there .here))) | exact Src.row (.there (.there (.there (.there .here)))) | exact Src.row (.there (.there (.there (.there (.there .here)))))) (fun h => by cases h) rfl (by omega) (by omega) rfl ?_
      clear hi28 hz28 hs28 hb28 ti28
      intro A28 c28 hn28
      refine TL.val (OpV.assign rfl) rfl ?_
      refine TL.nil ?_
      refine TE.out ?_
      refine TE.out ?_
      refine TE.sub (.cons (t := 0) rfl <| .cons (t := 3) rfl <| .cons (t := 4) rfl <| .nil) ?_
      refine TE.next ?_
      refine T.region ?_
      refine TL.val (OpV.move rfl) rfl ?_
      refine TL.val (OpV.add rfl rfl (by first | exact IntWalk.i64_in _ ⟨by omega, by omega⟩ | rfl)) rfl ?_
      refine TL.val (OpV.assign rfl) rfl ?_
      refine TL.nil ?_
      exact TE.meet (i + 1, A28, c28, xs ++ [⟨19968, 0, 0, 0, 2, Pen.zero⟩, Cl.zero]) ⟨⟨by omega, by rw [e9, ofL_snoc, ← q2, ofB, if_pos hb1], hn28, by simp only [List.length_append, List.length_cons, List.length_nil]; omega⟩, by simp only; omega⟩ (.cons (t := 0) (by first | rfl | (simp [lk]; done)) <| .cons (t := 3) (by simp only [List.length_append, List.length_cons, List.length_nil]; rfl) <| .cons (t := 4) (by first | rfl | (simp [lk]; done)) <| .nil) ((by simp only [fl_append, List.length_append, List.length_cons, List.length_nil]; exact Perm.kle (.cons (by first | exact .here | exact (.there .here) | exact (.there (.there .here)) | exact (.there (.there (.there .here))) | exact (.there (.there (.there (.there .here)))) | exact (.there (.there (.there (.there (.there .here))))) | exact (.there (.there (.there (.there (.there (.there .here)))))) | exact (.there (.there (.there (.there (.there (.there (.there .here)))))))) .nil)))
    · intro ht22
      have hb1 : ¬ u.toNat = 87 := by intro e; have h9 := beq_eq_false_iff_ne.1 ht22; omega
      refine T.seq ?_
      refine T.region ?_
      refine TL.val (OpV.eql rfl rfl) rfl ?_
      refine TL.val (OpV.assign rfl) rfl ?_
      refine TL.nil ?_
      refine TE.next ?_
      refine T.cond rfl ?_ ?_
      · intro ht29
        have hb2 : u.toNat = 95 := by have h9 := eq_of_beq ht29; omega
        refine T.region ?_
        refine TL.val (OpV.move rfl) rfl ?_
        refine TL.val (OpV.build (qs := #[(2, _)]) (fun _ f => by simp only [List.map_toArray, List.map_cons, List.map_nil]; rw [f.ev (x := .const (.int .i64 1)) rfl]) (bld_59_2 1 )) rfl ?_
        refine TL.slit (qs := #[(0, _)]) (fun _ f => by simp only [List.map_toArray, List.map_cons, List.map_nil]; rw [f.ev (x := .tmp 32) rfl]) (sl_22_1_0 (Cl.mk 0 0 0 0 1 Pen.zero)) rfl ?_
        intro b33
        obtain ⟨ti34, hi34, hz34, hs34, hb34⟩ := info_parts inf_59
        refine TL.append rfl rfl Tryd.underlying22 hi34 hz34 hs34 hb34 rfl (by omega) (by first | exact .here | exact (.there .here) | exact (.there (.there .here)) | exact (.there (.there (.there .here))) | exact (.there (.there (.there (.there .here)))) | exact (.there (.there (.there (.there (.there .here)))))) (by first | exact Src.nil | exact Src.blk .here rfl | exact Src.blk (.there .here) rfl | exact Src.blk (.there (.there .here)) rfl | exact Src.blk (.there (.there (.there .here))) rfl | exact Src.blk (.there (.there (.there (.there .here)))) rfl | exact Src.blk (.there (.there (.there (.there (.there .here))))) rfl | exact Src.row .here | exact Src.row (.there .here) | exact Src.row (.there (.there .here)) | exact Src.row (.there (.there (.there .here))) | exact Src.row (.there (.there (.there (.there .here)))) | exact Src.row (.there (.there (.there (.there (.there .here)))))) (fun h => by cases h) rfl (by omega) (by omega) rfl ?_
        clear hi34 hz34 hs34 hb34 ti34
        intro A34 c34 hn34
        refine TL.val (OpV.assign rfl) rfl ?_
        refine TL.nil ?_
        refine TE.out ?_
        refine TE.out ?_
        refine TE.sub (.cons (t := 0) rfl <| .cons (t := 3) rfl <| .cons (t := 4) rfl <| .nil) ?_
        refine TE.next ?_
        refine T.region ?_
        refine TL.val (OpV.move rfl) rfl ?_
        refine TL.val (OpV.add rfl rfl (by first | exact IntWalk.i64_in _ ⟨by omega, by omega⟩ | rfl)) rfl ?_
        refine TL.val (OpV.assign rfl) rfl ?_
        refine TL.nil ?_
        exact TE.meet (i + 1, A34, c34, xs ++ [blank Pen.zero]) ⟨⟨by omega, by rw [e9, ofL_snoc, ← q2, ofB, if_neg hb1, if_pos hb2], hn34, by simp only [List.length_append, List.length_cons, List.length_nil]; omega⟩, by simp only; omega⟩ (.cons (t := 0) (by first | rfl | (simp [lk]; done)) <| .cons (t := 3) (by simp only [List.length_append, List.length_cons, List.length_nil]; rfl) <| .cons (t := 4) (by first | rfl | (simp [lk]; done)) <| .nil) ((by simp only [fl_append, List.length_append, List.length_cons, List.length_nil]; exact Perm.kle (.cons (by first | exact .here | exact (.there .here) | exact (.there (.there .here)) | exact (.there (.there (.there .here))) | exact (.there (.there (.there (.there .here)))) | exact (.there (.there (.there (.there (.there .here))))) | exact (.there (.there (.there (.there (.there (.there .here)))))) | exact (.there (.there (.there (.there (.there (.there (.there .here)))))))) .nil)))
      · intro ht29
        have hb2 : ¬ u.toNat = 95 := by intro e; have h9 := beq_eq_false_iff_ne.1 ht29; omega
        refine T.region ?_
        refine TL.val (OpV.move rfl) rfl ?_
        refine TL.val (OpV.move rfl) rfl ?_
        refine TL.val (OpV.move rfl) rfl ?_
        refine TL.val (OpV.indexStr (j := i) Tryd.underlying9 rfl rfl rfl hu) rfl ?_
        refine TL.val (OpV.conv Tryd.underlying5 Tryd.underlying21 rfl (by first | exact IntWalk.i32_in _ ⟨by omega, by have h9 := u.toNat_lt; omega⟩ | rfl)) rfl ?_
        refine TL.val (OpV.build (qs := #[(0, _), (2, _)]) (fun _ f => by simp only [List.map_toArray, List.map_cons, List.map_nil]; rw [f.ev (x := .tmp 18) rfl, f.ev (x := .const (.int .i64 1)) rfl]) (bld_59_0_2 u.toNat 1 )) rfl ?_
        refine TL.slit (qs := #[(0, _)]) (fun _ f => by simp only [List.map_toArray, List.map_cons, List.map_nil]; rw [f.ev (x := .tmp 19) rfl]) (sl_22_1_0 (Cl.mk u.toNat 0 0 0 1 Pen.zero)) rfl ?_
        intro b20
        obtain ⟨ti21, hi21, hz21, hs21, hb21⟩ := info_parts inf_59
        refine TL.append rfl rfl Tryd.underlying22 hi21 hz21 hs21 hb21 rfl (by omega) (by first | exact .here | exact (.there .here) | exact (.there (.there .here)) | exact (.there (.there (.there .here))) | exact (.there (.there (.there (.there .here)))) | exact (.there (.there (.there (.there (.there .here)))))) (by first | exact Src.nil | exact Src.blk .here rfl | exact Src.blk (.there .here) rfl | exact Src.blk (.there (.there .here)) rfl | exact Src.blk (.there (.there (.there .here))) rfl | exact Src.blk (.there (.there (.there (.there .here)))) rfl | exact Src.blk (.there (.there (.there (.there (.there .here))))) rfl | exact Src.row .here | exact Src.row (.there .here) | exact Src.row (.there (.there .here)) | exact Src.row (.there (.there (.there .here))) | exact Src.row (.there (.there (.there (.there .here)))) | exact Src.row (.there (.there (.there (.there (.there .here)))))) (fun h => by cases h) rfl (by omega) (by omega) rfl ?_
        clear hi21 hz21 hs21 hb21 ti21
        intro A21 c21 hn21
        refine TL.val (OpV.assign rfl) rfl ?_
        refine TL.nil ?_
        refine TE.out ?_
        refine TE.out ?_
        refine TE.sub (.cons (t := 0) rfl <| .cons (t := 3) rfl <| .cons (t := 4) rfl <| .nil) ?_
        refine TE.next ?_
        refine T.region ?_
        refine TL.val (OpV.move rfl) rfl ?_
        refine TL.val (OpV.add rfl rfl (by first | exact IntWalk.i64_in _ ⟨by omega, by omega⟩ | rfl)) rfl ?_
        refine TL.val (OpV.assign rfl) rfl ?_
        refine TL.nil ?_
        exact TE.meet (i + 1, A21, c21, xs ++ [⟨u.toNat, 0, 0, 0, 1, Pen.zero⟩]) ⟨⟨by omega, by rw [e9, ofL_snoc, ← q2, ofB, if_neg hb1, if_neg hb2], hn21, by simp only [List.length_append, List.length_cons, List.length_nil]; omega⟩, by simp only; omega⟩ (.cons (t := 0) (by first | rfl | (simp [lk]; done)) <| .cons (t := 3) (by simp only [List.length_append, List.length_cons, List.length_nil]; rfl) <| .cons (t := 4) (by first | rfl | (simp [lk]; done)) <| .nil) ((by simp only [fl_append, List.length_append, List.length_cons, List.length_nil]; exact Perm.kle (.cons (by first | exact .here | exact (.there .here) | exact (.there (.there .here)) | exact (.there (.there (.there .here))) | exact (.there (.there (.there (.there .here)))) | exact (.there (.there (.there (.there (.there .here))))) | exact (.there (.there (.there (.there (.there (.there .here)))))) | exact (.there (.there (.there (.there (.there (.there (.there .here)))))))) .nil)))
  · intro ht8
    obtain ⟨q1, q2, q3, q4⟩ := hR
    have hin : i = s.size := by have h9 := of_decide_eq_false ht8; omega
    rw [hin, List.take_of_length_le (Nat.le_of_eq (by simp))] at q2
    refine T.exit ?_
    refine TE.pass_exit ?_
    refine TE.pass_exit ?_
    refine TE.here ?_
    refine TE.next ?_
    refine T.seq ?_
    refine T.region ?_
    refine TL.val (OpV.move rfl) rfl ?_
    refine TL.val (OpV.assign rfl) rfl ?_
    refine TL.nil ?_
    refine TE.sub (.cons (t := 2) rfl <| .nil) ?_
    refine TE.next ?_
    refine T.ret ?_
    refine TE.ret1 rfl (ResV.tmp rfl) ?_
    intro wz kz
    obtain ⟨ρ, h1, k2⟩ := KOk.rowOwn (kz.pick (e := .row 59 16 A xs.length c (fl xs)) (by first | exact .here | exact (.there .here) | exact (.there (.there .here)) | exact (.there (.there (.there .here))) | exact (.there (.there (.there (.there .here)))) | exact (.there (.there (.there (.there (.there .here))))) | exact (.there (.there (.there (.there (.there (.there .here)))))) | exact (.there (.there (.there (.there (.there (.there (.there .here)))))))))
    exact ⟨⟨A, xs.length, c, ρ⟩, rfl, by rw [← q2]; exact CsR.of_row h1 rfl, Perm.kle (.cons .here .nil) wz k2⟩
set_option maxRecDepth 100000 in
set_option maxHeartbeats 400000 in
theorem row_law (s : ByteArray) (soft : Bool) (w : World) (hs : s.size ≤ 900) : Calls Tryd.prog 44 #[.string s, .bool soft] w (fun e w' => ∃ v : SV, e = .returned (.agg (LnA.mk v.A v.n v.c (ofL s.data.toList) soft).l.toArray) ∧ CsR v.σ v.A v.n v.c (ofL s.data.toList) ∧ KOk w [.own v.σ] w') := by
  refine calls_T (vs := [.string s, .bool soft]) (L0 := [(0, .string s), (1, .bool soft)]) Tryd.func44 rfl rfl rfl rfl (KOk.none w) ?_
  refine T.seq ?_
  refine T.region ?_
  refine TL.alloc zo_34 rfl ?_
  intro b4
  refine TL.nil ?_
  refine TE.next ?_
  refine T.seq ?_
  refine T.region ?_
  refine TL.val (OpV.move rfl) rfl ?_
  refine TL.callx (g := 43) rfl go_43 rfl (fun wz kz => own_x kz (of_law s wz hs)) rfl ?_
  rintro ⟨A, n, c, ρ⟩ hv
  refine TL.said (t := 6) rfl (show SV.v ⟨A, n, c, ρ⟩ = Value.slice A n c from rfl) ?_
  refine TL.val (OpV.move rfl) rfl ?_
  refine TL.val (OpV.build (qs := #[(0, _), (1, _)]) (fun _ f => by simp only [List.map_toArray, List.map_cons, List.map_nil]; rw [f.ev (x := .tmp 6) rfl, f.ev (x := .tmp 7) rfl]) (bld_34_0_1 ⟨A, n, c, ofL s.data.toList, soft⟩ )) rfl ?_
  first
    | refine TL.storeAll rfl rfl szz_34 rfl rfl rfl (by first | exact .here | exact (.there .here) | exact (.there (.there .here)) | exact (.there (.there (.there .here))) | exact (.there (.there (.there (.there .here)))) | exact (.there (.there (.there (.there (.there .here)))))) (by rfl) ?_
    | refine TL.store rfl rfl szz_34 rfl rfl rfl (by first | exact .here | exact (.there .here) | exact (.there (.there .here)) | exact (.there (.there (.there .here))) | exact (.there (.there (.there (.there .here)))) | exact (.there (.there (.there (.there (.there .here)))))) (by first | exact Nat.le_of_ble_eq_true rfl | (simp; done) | (simp; omega)) (by simp only [putL, List.take_succ_cons, List.take_zero, List.drop_succ_cons, List.drop_zero, List.cons_append, List.nil_append, List.length_cons, List.length_nil, Nat.reduceAdd]; rfl) ?_
  refine TL.nil ?_
  refine TE.next ?_
  refine T.ret ?_
  refine TE.ret1 rfl (ResV.cellA rfl ag_34 (by first | exact Cels.blk .here rfl | exact Cels.blk (.there .here) rfl | exact Cels.blk (.there (.there .here)) rfl | exact Cels.blk (.there (.there (.there .here))) rfl | exact Cels.blk (.there (.there (.there (.there .here)))) rfl | exact Cels.blk (.there (.there (.there (.there (.there .here))))) rfl)) ?_
  intro wz kz
  exact ⟨⟨A, n, c, ρ⟩, rfl, hv, Perm.kle (.cons (by first | exact .here | exact (.there .here) | exact (.there (.there .here)) | exact (.there (.there (.there .here))) | exact (.there (.there (.there (.there .here)))) | exact (.there (.there (.there (.there (.there .here))))) | exact (.there (.there (.there (.there (.there (.there .here)))))) | exact (.there (.there (.there (.there (.there (.there (.there .here)))))))) .nil) wz kz⟩
set_option maxRecDepth 100000 in
set_option maxHeartbeats 400000 in
theorem at_law (r k : Int) (w : World) : Calls Tryd.prog 21 #[.int .i64 r, .int .i64 k] w (Ret (.agg (anL r k).toArray) w) := by
  refine calls_T (vs := [.int .i64 r, .int .i64 k]) (L0 := [(0, .int .i64 r), (1, .int .i64 k)]) Tryd.func21 rfl rfl rfl rfl (KOk.none w) ?_
  refine T.seq ?_
  refine T.region ?_
  refine TL.alloc zo_37 rfl ?_
  intro b4
  refine TL.nil ?_
  refine TE.next ?_
  refine T.seq ?_
  refine T.region ?_
  refine TL.val (OpV.move rfl) rfl ?_
  refine TL.val (OpV.move rfl) rfl ?_
  refine TL.val (OpV.build (qs := #[(0, _), (1, _)]) (fun _ f => by simp only [List.map_toArray, List.map_cons, List.map_nil]; rw [f.ev (x := .tmp 5) rfl, f.ev (x := .tmp 6) rfl]) (bld_37_0_1 r k )) rfl ?_
  first
    | refine TL.storeAll rfl rfl szz_37 rfl rfl rfl (by first | exact .here | exact (.there .here) | exact (.there (.there .here)) | exact (.there (.there (.there .here)))) (by rfl) ?_
    | refine TL.store rfl rfl szz_37 rfl rfl rfl (by first | exact .here | exact (.there .here) | exact (.there (.there .here)) | exact (.there (.there (.there .here)))) (by first | exact Nat.le_of_ble_eq_true rfl | (simp; done) | (simp; omega)) (by simp only [putL, List.take_succ_cons, List.take_zero, List.drop_succ_cons, List.drop_zero, List.cons_append, List.nil_append, List.length_cons, List.length_nil, Nat.reduceAdd]; rfl) ?_
  refine TL.nil ?_
  refine TE.next ?_
  refine T.ret ?_
  refine TE.ret1 rfl (ResV.cellA rfl ag_37 (by first | exact Cels.blk .here rfl | exact Cels.blk (.there .here) rfl | exact Cels.blk (.there (.there .here)) rfl | exact Cels.blk (.there (.there (.there .here))) rfl)) ?_
  exact fun w1 k1 => ⟨rfl, k1.bel⟩
set_option maxRecDepth 100000 in
set_option maxHeartbeats 1000000 in
theorem placed_law {σ : Nat → Option Obj} {A : Option Addr} {n c : Nat} {xs : List Cl} (w : World) (cols p a1 a2 no : Int) (L : LaidW w) (h : CsR σ A n c xs) (hs : ∀ b o, σ b = some o → w.heap[b]? = some o) : Calls Tryd.prog 20 #[.slice A n c, .int .i64 cols, .int .i64 p, .agg (anL a1 a2).toArray, .int .i64 no] w (Ret (.bool (placedV xs cols p (a1, a2) no)) w) := by
  refine calls_T (vs := [.slice A n c, .int .i64 cols, .int .i64 p, .agg (anL a1 a2).toArray, .int .i64 no]) (L0 := [(0, .slice A n c), (1, .int .i64 cols), (2, .int .i64 p), (3, .agg (anL a1 a2).toArray), (4, .int .i64 no)]) Tryd.func20 rfl rfl rfl rfl (KOk.fr1 hs) ?_
  refine T.seq ?_
  refine T.region ?_
  refine TL.boxA rfl rfl ?_
  intro b8
  refine TL.val (OpV.assign rfl) rfl ?_
  refine TL.nil ?_
  refine TE.next ?_
  refine T.seq ?_
  refine T.region ?_
  refine TL.val (OpV.move rfl) rfl ?_
  refine TL.val (OpV.move rfl) rfl ?_
  refine TL.val (OpV.move rfl) rfl ?_
  refine TL.call (g := 27) rfl go_27 rfl (fun w1 k1 => place_c w1 cols p (L.below k1.bel) h (k1.get (e := .fr σ) (by first | exact .here | exact (.there .here) | exact (.there (.there .here)) | exact (.there (.there (.there .here))) | exact (.there (.there (.there (.there .here))))))) rfl ?_
  refine TL.val (OpV.move rfl) rfl ?_
  refine TL.val (OpV.extract rfl rfl) rfl ?_
  refine TL.val (OpV.extract rfl rfl) rfl ?_
  refine TL.alloc zo_37 rfl ?_
  intro b11
  first
    | refine TL.storeAll rfl rfl szz_37 rfl rfl rfl (by first | exact .here | exact (.there .here) | exact (.there (.there .here)) | exact (.there (.there (.there .here))) | exact (.there (.there (.there (.there .here)))) | exact (.there (.there (.there (.there (.there .here)))))) (by rfl) ?_
    | refine TL.store rfl rfl szz_37 rfl rfl rfl (by first | exact .here | exact (.there .here) | exact (.there (.there .here)) | exact (.there (.there (.there .here))) | exact (.there (.there (.there (.there .here)))) | exact (.there (.there (.there (.there (.there .here)))))) (by first | exact Nat.le_of_ble_eq_true rfl | (simp; done) | (simp; omega)) (by simp only [anL, putL, List.take_succ_cons, List.take_zero, List.drop_succ_cons, List.drop_zero, List.cons_append, List.nil_append, List.length_cons, List.length_nil, Nat.reduceAdd]; rfl) ?_
  refine TL.val (OpV.assign rfl) rfl ?_
  refine TL.nil ?_
  refine TE.sub (.cons (t := 4) rfl <| .cons (t := 8) rfl <| .cons (t := 11) rfl <| .cons (t := 12) rfl <| .nil) ?_
  refine TE.next ?_
  refine T.seq ?_
  refine T.region ?_
  refine TL.val (OpV.loadA ag_37 rfl (by first | exact Cels.blk .here rfl | exact Cels.blk (.there .here) rfl | exact Cels.blk (.there (.there .here)) rfl | exact Cels.blk (.there (.there (.there .here))) rfl | exact Cels.blk (.there (.there (.there (.there .here)))) rfl | exact Cels.blk (.there (.there (.there (.there (.there .here))))) rfl)) rfl ?_
  refine TL.val (OpV.loadA ag_37 rfl (by first | exact Cels.blk .here rfl | exact Cels.blk (.there .here) rfl | exact Cels.blk (.there (.there .here)) rfl | exact Cels.blk (.there (.there (.there .here))) rfl | exact Cels.blk (.there (.there (.there (.there .here)))) rfl | exact Cels.blk (.there (.there (.there (.there (.there .here))))) rfl)) rfl ?_
  refine TL.val (OpV.aeql rfl rfl eg_37 (eq_37 _ _ _ _)) rfl ?_
  refine TL.val (OpV.move rfl) rfl ?_
  refine TL.part (t := 23) rfl ?_ ?_
  · intro hg23
    refine TL.open rfl rfl ?_
    refine TL.val (OpV.move rfl) rfl ?_
    refine TL.open rfl rfl ?_
    refine TL.val (OpV.move rfl) rfl ?_
    refine TL.open rfl rfl ?_
    refine TL.val (OpV.eql rfl rfl) rfl ?_
    refine TL.val ((by first | exact OpV.pick_t rfl rfl | exact OpV.pick_f rfl rfl)) rfl ?_
    refine TL.val (OpV.assign rfl) rfl ?_
    refine TL.nil ?_
    refine TE.sub (.cons (t := 10) rfl <| .nil) ?_
    refine TE.next ?_
    refine T.ret ?_
    refine TE.ret1 rfl (ResV.tmp rfl) ?_
    exact fun w1 k1 => ⟨ret_bool (by simp only [placedV]; grind), k1.bel⟩
  · intro hg23
    refine TL.shut rfl rfl ?_
    refine TL.shut rfl rfl ?_
    refine TL.shut rfl rfl ?_
    refine TL.val ((by first | exact OpV.pick_t rfl rfl | exact OpV.pick_f rfl rfl)) rfl ?_
    refine TL.val (OpV.assign rfl) rfl ?_
    refine TL.nil ?_
    refine TE.sub (.cons (t := 10) rfl <| .nil) ?_
    refine TE.next ?_
    refine T.ret ?_
    refine TE.ret1 rfl (ResV.tmp rfl) ?_
    exact fun w1 k1 => ⟨ret_bool (by simp only [placedV]; grind), k1.bel⟩
set_option maxRecDepth 100000 in
set_option maxHeartbeats 1000000 in
theorem indexed_law {σ : Nat → Option Obj} {A : Option Addr} {n c : Nat} {xs : List Cl} (w : World) (cols a1 a2 want no : Int) (L : LaidW w) (h : CsR σ A n c xs) (hs : ∀ b o, σ b = some o → w.heap[b]? = some o) : Calls Tryd.prog 22 #[.slice A n c, .int .i64 cols, .agg (anL a1 a2).toArray, .int .i64 want, .int .i64 no] w (Ret (.bool (indexedV xs cols (a1, a2) want no)) w) := by
  refine calls_T (vs := [.slice A n c, .int .i64 cols, .agg (anL a1 a2).toArray, .int .i64 want, .int .i64 no]) (L0 := [(0, .slice A n c), (1, .int .i64 cols), (2, .agg (anL a1 a2).toArray), (3, .int .i64 want), (4, .int .i64 no)]) Tryd.func22 rfl rfl rfl rfl (KOk.fr1 hs) ?_
  refine T.seq ?_
  refine T.region ?_
  refine TL.boxA rfl rfl ?_
  intro b7
  refine TL.val (OpV.assign rfl) rfl ?_
  refine TL.nil ?_
  refine TE.next ?_
  refine T.seq ?_
  refine T.region ?_
  refine TL.val (OpV.move rfl) rfl ?_
  refine TL.val (OpV.move rfl) rfl ?_
  refine TL.val (OpV.loadA ag_37 rfl (by first | exact Cels.blk .here rfl | exact Cels.blk (.there .here) rfl | exact Cels.blk (.there (.there .here)) rfl | exact Cels.blk (.there (.there (.there .here))) rfl | exact Cels.blk (.there (.there (.there (.there .here)))) rfl | exact Cels.blk (.there (.there (.there (.there (.there .here))))) rfl)) rfl ?_
  refine TL.call (g := 28) rfl go_28 rfl (fun w1 k1 => index_c w1 cols a1 a2 (L.below k1.bel) h (k1.get (e := .fr σ) (by first | exact .here | exact (.there .here) | exact (.there (.there .here)) | exact (.there (.there (.there .here))) | exact (.there (.there (.there (.there .here))))))) rfl ?_
  refine TL.val (OpV.move rfl) rfl ?_
  refine TL.val (OpV.extract rfl rfl) rfl ?_
  refine TL.val (OpV.extract rfl rfl) rfl ?_
  refine TL.val (OpV.assign rfl) rfl ?_
  refine TL.val (OpV.assign rfl) rfl ?_
  refine TL.nil ?_
  refine TE.sub (.cons (t := 3) rfl <| .cons (t := 4) rfl <| .cons (t := 11) rfl <| .cons (t := 12) rfl <| .nil) ?_
  refine TE.next ?_
  refine T.seq ?_
  refine T.region ?_
  refine TL.val (OpV.move rfl) rfl ?_
  refine TL.val (OpV.move rfl) rfl ?_
  refine TL.val (OpV.eql rfl rfl) rfl ?_
  refine TL.val (OpV.move rfl) rfl ?_
  refine TL.part (t := 23) rfl ?_ ?_
  · intro hg23
    refine TL.open rfl rfl ?_
    refine TL.val (OpV.move rfl) rfl ?_
    refine TL.open rfl rfl ?_
    refine TL.val (OpV.move rfl) rfl ?_
    refine TL.open rfl rfl ?_
    refine TL.val (OpV.eql rfl rfl) rfl ?_
    refine TL.val ((by first | exact OpV.pick_t rfl rfl | exact OpV.pick_f rfl rfl)) rfl ?_
    refine TL.val (OpV.assign rfl) rfl ?_
    refine TL.nil ?_
    refine TE.sub (.cons (t := 10) rfl <| .nil) ?_
    refine TE.next ?_
    refine T.ret ?_
    refine TE.ret1 rfl (ResV.tmp rfl) ?_
    exact fun w1 k1 => ⟨ret_bool (by simp only [indexedV]; grind), k1.bel⟩
  · intro hg23
    refine TL.shut rfl rfl ?_
    refine TL.shut rfl rfl ?_
    refine TL.shut rfl rfl ?_
    refine TL.val ((by first | exact OpV.pick_t rfl rfl | exact OpV.pick_f rfl rfl)) rfl ?_
    refine TL.val (OpV.assign rfl) rfl ?_
    refine TL.nil ?_
    refine TE.sub (.cons (t := 10) rfl <| .nil) ?_
    refine TE.next ?_
    refine T.ret ?_
    refine TE.ret1 rfl (ResV.tmp rfl) ?_
    exact fun w1 k1 => ⟨ret_bool (by simp only [indexedV]; grind), k1.bel⟩
set_option maxRecDepth 100000 in
set_option maxHeartbeats 1000000 in
theorem wraps_law {σ τ : Nat → Option Obj} {A A2 : Option Addr} {n c n2 c2 : Nat} {xs : List Cl} {ms : List LnA} (w : World) (cols no : Int) (L : LaidW w) (h : CsR σ A n c xs) (h2 : LsA τ A2 n2 c2 ms) (hs : ∀ b o, σ b = some o → w.heap[b]? = some o) (ht : ∀ b o, τ b = some o → w.heap[b]? = some o) : Calls Tryd.prog 15 #[.slice A n c, .int .i64 cols, .int .i64 no, .slice A2 n2 c2] w (Ret (.bool (wrapsV xs cols no (ms.map LnA.ln))) w) := by
  have hml := h2.1.1
  refine calls_T (vs := [.slice A n c, .int .i64 cols, .int .i64 no, .slice A2 n2 c2]) (L0 := [(0, .slice A n c), (1, .int .i64 cols), (2, .int .i64 no), (3, .slice A2 n2 c2)]) Tryd.func15 rfl rfl rfl rfl (KOk.frs hs ht) ?_
  refine T.seq ?_
  refine T.region ?_
  refine TL.val (OpV.assign rfl) rfl ?_
  refine TL.nil ?_
  refine TE.next ?_
  refine T.seq ?_
  refine T.region ?_
  refine TL.val (OpV.move rfl) rfl ?_
  refine TL.val (OpV.move rfl) rfl ?_
  refine TL.callx (g := 17) rfl go_17 rfl (fun w1 k1 => own_x k1 (wrap_c w1 cols (L.below k1.bel) h (k1.get (e := .fr σ) (by first | exact .here | exact (.there .here) | exact (.there (.there .here)) | exact (.there (.there (.there .here))) | exact (.there (.there (.there (.there .here)))))))) rfl ?_
  rintro ⟨R1, n1, c1, ρ⟩ ⟨ls, hls, hlv⟩
  simp only at hls hlv
  refine TL.val (OpV.move rfl) rfl ?_
  refine TL.val (OpV.extract rfl rfl) rfl ?_
  refine TL.val (OpV.extract rfl rfl) rfl ?_
  refine TL.val (OpV.assign rfl) rfl ?_
  refine TL.val (OpV.assign rfl) rfl ?_
  refine TL.nil ?_
  refine TE.sub (.cons (t := 0) rfl <| .cons (t := 1) rfl <| .cons (t := 2) rfl <| .cons (t := 3) rfl <| .cons (t := 9) rfl <| .cons (t := 10) rfl <| .nil) ?_
  refine TE.next ?_
  refine T.seq ?_
  refine T.region ?_
  refine TL.val (OpV.move rfl) rfl ?_
  refine TL.val (OpV.move rfl) rfl ?_
  refine TL.call (g := 45) rfl go_45 rfl (fun w1 k1 => rows_c w1 cols (L.below k1.bel) h (k1.get (e := .fr σ) (by first | exact .here | exact (.there .here) | exact (.there (.there .here)) | exact (.there (.there (.there .here))) | exact (.there (.there (.there (.there .here))))))) rfl ?_
  refine TL.val (OpV.move rfl) rfl ?_
  refine TL.val (OpV.extract rfl rfl) rfl ?_
  refine TL.val (OpV.extract rfl rfl) rfl ?_
  refine TL.val (OpV.assign rfl) rfl ?_
  refine TL.val (OpV.assign rfl) rfl ?_
  refine TL.nil ?_
  refine TE.sub (.cons (t := 2) rfl <| .cons (t := 3) rfl <| .cons (t := 9) rfl <| .cons (t := 10) rfl <| .cons (t := 11) rfl <| .cons (t := 12) rfl <| .nil) ?_
  refine TE.next ?_
  refine T.seq ?_
  refine T.region ?_
  refine TL.val (OpV.move rfl) rfl ?_
  refine TL.val (OpV.move rfl) rfl ?_
  refine TL.call (g := 41) rfl go_41 rfl (fun w1 k1 => same_c w1 hls h2 (fun b o hb => (k1.get (e := .own ρ) (by first | exact .here | exact (.there .here) | exact (.there (.there .here)) | exact (.there (.there (.there .here))) | exact (.there (.there (.there (.there .here))))) b o hb).2) (k1.get (e := .fr τ) (by first | exact .here | exact (.there .here) | exact (.there (.there .here)) | exact (.there (.there (.there .here))) | exact (.there (.there (.there (.there .here))))))) rfl ?_
  refine TL.val (OpV.move rfl) rfl ?_
  refine TL.part (t := 28) rfl ?_ ?_
  · intro hg28
    refine TL.open rfl rfl ?_
    refine TL.val (OpV.move rfl) rfl ?_
    refine TL.open rfl rfl ?_
    refine TL.val (OpV.move rfl) rfl ?_
    refine TL.open rfl rfl ?_
    refine TL.val (OpV.len Tryd.underlying28 rfl) rfl ?_
    refine TL.open rfl rfl ?_
    refine TL.val (OpV.eql rfl rfl) rfl ?_
    refine TL.val ((by first | exact OpV.pick_t rfl rfl | exact OpV.pick_f rfl rfl)) rfl ?_
    refine TL.val (OpV.move rfl) rfl ?_
    refine TL.part (t := 34) rfl ?_ ?_
    · intro hg34
      refine TL.open rfl rfl ?_
      refine TL.val (OpV.move rfl) rfl ?_
      refine TL.open rfl rfl ?_
      refine TL.val (OpV.move rfl) rfl ?_
      refine TL.open rfl rfl ?_
      refine TL.val (OpV.eql rfl rfl) rfl ?_
      refine TL.val ((by first | exact OpV.pick_t rfl rfl | exact OpV.pick_f rfl rfl)) rfl ?_
      refine TL.val (OpV.move rfl) rfl ?_
      refine TL.part (t := 39) rfl ?_ ?_
      · intro hg39
        refine TL.open rfl rfl ?_
        refine TL.val (OpV.move rfl) rfl ?_
        refine TL.open rfl rfl ?_
        refine TL.val (OpV.move rfl) rfl ?_
        refine TL.open rfl rfl ?_
        refine TL.val (OpV.eql rfl rfl) rfl ?_
        refine TL.val ((by first | exact OpV.pick_t rfl rfl | exact OpV.pick_f rfl rfl)) rfl ?_
        refine TL.val (OpV.assign rfl) rfl ?_
        refine TL.nil ?_
        refine TE.sub (.cons (t := 8) rfl <| .nil) ?_
        refine TE.next ?_
        refine T.ret ?_
        refine TE.ret1 rfl (ResV.tmp rfl) ?_
        exact fun w1 k1 => ⟨ret_bool (by rw [hlv] at *; simp only [wrapsV, List.length_map, hml]; grind), k1.bel⟩
      · intro hg39
        refine TL.shut rfl rfl ?_
        refine TL.shut rfl rfl ?_
        refine TL.shut rfl rfl ?_
        refine TL.val ((by first | exact OpV.pick_t rfl rfl | exact OpV.pick_f rfl rfl)) rfl ?_
        refine TL.val (OpV.assign rfl) rfl ?_
        refine TL.nil ?_
        refine TE.sub (.cons (t := 8) rfl <| .nil) ?_
        refine TE.next ?_
        refine T.ret ?_
        refine TE.ret1 rfl (ResV.tmp rfl) ?_
        exact fun w1 k1 => ⟨ret_bool (by rw [hlv] at *; simp only [wrapsV, List.length_map, hml]; grind), k1.bel⟩
    · intro hg34
      refine TL.shut rfl rfl ?_
      refine TL.shut rfl rfl ?_
      refine TL.shut rfl rfl ?_
      refine TL.val ((by first | exact OpV.pick_t rfl rfl | exact OpV.pick_f rfl rfl)) rfl ?_
      refine TL.val (OpV.move rfl) rfl ?_
      refine TL.shut rfl rfl ?_
      refine TL.shut rfl rfl ?_
      refine TL.shut rfl rfl ?_
      refine TL.val ((by first | exact OpV.pick_t rfl rfl | exact OpV.pick_f rfl rfl)) rfl ?_
      refine TL.val (OpV.assign rfl) rfl ?_
      refine TL.nil ?_
      refine TE.sub (.cons (t := 8) rfl <| .nil) ?_
      refine TE.next ?_
      refine T.ret ?_
      refine TE.ret1 rfl (ResV.tmp rfl) ?_
      exact fun w1 k1 => ⟨ret_bool (by rw [hlv] at *; simp only [wrapsV, List.length_map, hml]; grind), k1.bel⟩
  · intro hg28
    refine TL.shut rfl rfl ?_
    refine TL.shut rfl rfl ?_
    refine TL.shut rfl rfl ?_
    refine TL.shut rfl rfl ?_
    refine TL.val ((by first | exact OpV.pick_t rfl rfl | exact OpV.pick_f rfl rfl)) rfl ?_
    refine TL.val (OpV.move rfl) rfl ?_
    refine TL.shut rfl rfl ?_
    refine TL.shut rfl rfl ?_
    refine TL.shut rfl rfl ?_
    refine TL.val ((by first | exact OpV.pick_t rfl rfl | exact OpV.pick_f rfl rfl)) rfl ?_
    refine TL.val (OpV.move rfl) rfl ?_
    refine TL.shut rfl rfl ?_
    refine TL.shut rfl rfl ?_
    refine TL.shut rfl rfl ?_
    refine TL.val ((by first | exact OpV.pick_t rfl rfl | exact OpV.pick_f rfl rfl)) rfl ?_
    refine TL.val (OpV.assign rfl) rfl ?_
    refine TL.nil ?_
    refine TE.sub (.cons (t := 8) rfl <| .nil) ?_
    refine TE.next ?_
    refine T.ret ?_
    refine TE.ret1 rfl (ResV.tmp rfl) ?_
    exact fun w1 k1 => ⟨ret_bool (by rw [hlv] at *; simp only [wrapsV, List.length_map, hml]; grind), k1.bel⟩
end Go.Proofs.YtblpfelhgcggfaaDoor
