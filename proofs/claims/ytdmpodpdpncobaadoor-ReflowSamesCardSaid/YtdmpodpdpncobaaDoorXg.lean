/-
  The walks of the laws' helpers. Condition: the package-level tables hold what they were laid with.
-/
import Derived.Test.YtdmpodpdpncobaaDoorXa
import Derived.Test.YtdmpodpdpncobaaDoorXb
import Derived.Test.YtdmpodpdpncobaaDoorXd
import Derived.Test.YtdmpodpdpncobaaDoorVe
import Derived.Test.YtdmpodpdpncobaaDoorWt
namespace Go.Proofs.YtdmpodpdpncobaaDoor
open Go.RowKit
set_option linter.unusedSimpArgs false
set_option linter.unusedVariables false
theorem go_38 : isGo Tryd.prog 38 = true := by kernel_rfl
theorem go_39 : isGo Tryd.prog 39 = true := by kernel_rfl
theorem go_90 : isGo Tryd.prog 90 = true := by kernel_rfl
set_option maxRecDepth 100000 in
set_option maxHeartbeats 1000000 in
theorem of28_law (s : ByteArray) (w : World) (hs : s.size ≤ 900) : Calls Tryd.prog 90 #[.string s] w (fun e w' => ∃ v : SV, e = .returned v.v ∧ CsR v.σ v.A v.n v.c (ofL s.data.toList) ∧ KOk w [.own v.σ] w') := by
 refine calls_T (vs := [.string s]) (L0 := [(0, .string s)]) Tryd.func90 rfl rfl rfl rfl (KOk.none w) ?_
 refine T.seq ?_
 refine T.region ?_
 refine TL.val (OpV.assign rfl) rfl ?_
 refine TL.nil ?_
 refine TE.next ?_
 refine T.seq ?_
 refine T.region ?_
 refine TL.val (OpV.assign rfl) rfl ?_
 refine TL.nil ?_
 refine TE.next ?_
 refine T.seq ?_
 refine T.seq ?_
 refine T.region ?_
 refine TL.val (OpV.assign rfl) rfl ?_
 refine TL.nil ?_
 refine TE.next ?_
 refine T.block ?_
 refine T.loop (ι := Nat × Option Addr × Nat × List Cl) (fun ⟨i, A, c, xs⟩ => i ≤ s.size ∧ xs = ofL (s.data.toList.take i) ∧ (A = none → c = 0) ∧ xs.length ≤ 2000) (fun ⟨i, A, c, xs⟩ => (s.size - i)) (fun ⟨i, A, c, xs⟩ => [(0, .string s), (3, .slice A xs.length c), (4, .int .i64 (i : Int))]) (fun ⟨i, A, c, xs⟩ => [.row 58 16 A xs.length c (fl xs)]) (0, none, 0, []) ⟨Nat.zero_le _, rfl, fun _ => rfl, Nat.zero_le _⟩ (.cons (t := 0) rfl <| .cons (t := 3) rfl <| .cons (t := 4) rfl <| .nil) ((Kle.nilRow 58 16)) ?_
 rintro ⟨i, A, c, xs⟩ hR
 refine T.seq ?_
 refine T.seq ?_
 refine T.region ?_
 refine TL.val (OpV.move rfl) rfl ?_
 refine TL.val (OpV.move rfl) rfl ?_
 refine TL.val (OpV.lenS Tryd.underlying9 rfl) rfl ?_
 refine TL.val (OpV.lss rfl rfl) rfl ?_
 refine TL.nil ?_
 refine TE.next ?_
 refine T.cond rfl ?_ ?_
 ·
  intro ht8
  obtain ⟨q1, q2, q3, q4⟩ := hR
  have hi : i < s.size := by have h9 := of_decide_eq_true ht8; omega
  have hu : s[i]? = some s[i] := getElem?_pos s i hi
  have e9 : s.data.toList.take (i + 1) = s.data.toList.take i ++ [s[i]] := by rw [List.take_add_one, Array.getElem?_toList, show s.data[i]? = some s[i] from Array.getElem?_eq_getElem hi]; rfl
  have hlb : xs.length ≤ 2 * i := by rw [q2]; have h9 := length_ofL (s.data.toList.take i); rw [List.length_take] at h9; omega
  generalize s[i] = u at hu e9
  refine T.skip ?_
  refine TE.next ?_
  refine T.seq ?_
  refine T.block ?_
  refine T.seq ?_
  refine T.region ?_
  refine TL.val (OpV.move rfl) rfl ?_
  refine TL.val (OpV.move rfl) rfl ?_
  refine TL.val (OpV.indexStr (j := i) Tryd.underlying9 rfl rfl rfl hu) rfl ?_
  refine TL.nil ?_
  refine TE.next ?_
  refine T.block ?_
  refine T.seq ?_
  refine T.region ?_
  refine TL.val (OpV.eql rfl rfl) rfl ?_
  refine TL.val (OpV.assign rfl) rfl ?_
  refine TL.nil ?_
  refine TE.sub (.cons (t := 0) rfl <| .cons (t := 3) rfl <| .cons (t := 4) rfl <| .cons (t := 13) rfl <| .cons (t := 22) rfl <| .nil) ?_
  refine TE.next ?_
  refine T.cond rfl ?_ ?_
  ·
   intro ht22
   have hb1 : u.toNat = 87 := by have h9 := eq_of_beq ht22; omega
   refine T.region ?_
   refine TL.val (OpV.move rfl) rfl ?_
   refine TL.val (OpV.build (qs := #[(0, _), (2, _)]) (fun _ f => by simp only [List.map_toArray, List.map_cons, List.map_nil]; rw [f.ev (x := .const (.int .i32 19968)) rfl, f.ev (x := .const (.int .i64 2)) rfl]) (bld_58_0_2 19968 2 )) rfl ?_
   refine TL.val (OpV.build (qs := #[]) (fun _ _ => by simp) (bld_58)) rfl ?_
   refine TL.slit (qs := #[(0, _), (1, _)]) (fun _ f => by simp only [List.map_toArray, List.map_cons, List.map_nil]; rw [f.ev (x := .tmp 25) rfl]; (try rw [f.ev (x := .tmp 26) rfl])) (sl_35_2_0_1 (Cl.mk 19968 0 0 0 2 Pen.zero) Cl.zero) rfl ?_
   intro b27
   obtain ⟨ti28, hi28, hz28, hs28, hb28⟩ := info_parts inf_58
   refine TL.append rfl rfl Tryd.underlying35 hi28 hz28 hs28 hb28 rfl (by omega) (by first | exact P0 | exact P1 | exact P2 | exact P3 | exact P4 | exact P5) (by first | exact Src.nil | exact Src.blk P0 rfl | exact Src.blk P1 rfl | exact Src.blk P2 rfl | exact Src.blk P3 rfl | exact Src.blk P4 rfl | exact Src.blk P5 rfl | exact Src.row P0 | exact Src.row P1 | exact Src.row P2 | exact Src.row P3 | exact Src.row P4 | exact Src.row P5) (fun h => by cases h) rfl (by omega) (by omega) rfl ?_
   clear hi28 hz28 hs28 hb28 ti28
   intro A28 c28 hn28
   refine TL.val (OpV.assign rfl) rfl ?_
   refine TL.nil ?_
   refine TE.out ?_
   refine TE.out ?_
   refine TE.sub (.cons (t := 0) rfl <| .cons (t := 3) rfl <| .cons (t := 4) rfl <| .nil) ?_
   refine TE.next ?_
   refine T.region ?_
   refine TL.val (OpV.move rfl) rfl ?_
   refine TL.val (OpV.add rfl rfl (by first | exact IntWalk.i64_in _ ⟨by omega, by omega⟩ | rfl)) rfl ?_
   refine TL.val (OpV.assign rfl) rfl ?_
   refine TL.nil ?_
   exact TE.meet (i + 1, A28, c28, xs ++ [⟨19968, 0, 0, 0, 2, Pen.zero⟩, Cl.zero]) ⟨⟨by omega, by rw [e9, ofL_snoc, ← q2, ofB, if_pos hb1], hn28, by simp only [List.length_append, List.length_cons, List.length_nil]; omega⟩, by simp only; omega⟩ (.cons (t := 0) (by first | rfl | (simp [lk]; done)) <| .cons (t := 3) (by simp only [List.length_append, List.length_cons, List.length_nil]; rfl) <| .cons (t := 4) (by first | rfl | (simp [lk]; done)) <| .nil) ((by simp only [fl_append, List.length_append, List.length_cons, List.length_nil]; exact Perm.kle (.cons (by first | exact P0 | exact P1 | exact P2 | exact P3 | exact P4 | exact P5 | exact P6 | exact P7) .nil)))
  ·
   intro ht22
   have hb1 : ¬ u.toNat = 87 := by intro e; have h9 := beq_eq_false_iff_ne.1 ht22; omega
   refine T.seq ?_
   refine T.region ?_
   refine TL.val (OpV.eql rfl rfl) rfl ?_
   refine TL.val (OpV.assign rfl) rfl ?_
   refine TL.nil ?_
   refine TE.next ?_
   refine T.cond rfl ?_ ?_
   ·
    intro ht29
    have hb2 : u.toNat = 95 := by have h9 := eq_of_beq ht29; omega
    refine T.region ?_
    refine TL.val (OpV.move rfl) rfl ?_
    refine TL.val (OpV.build (qs := #[(2, _)]) (fun _ f => by simp only [List.map_toArray, List.map_cons, List.map_nil]; rw [f.ev (x := .const (.int .i64 1)) rfl]) (bld_58_2 1 )) rfl ?_
    refine TL.slit (qs := #[(0, _)]) (fun _ f => by simp only [List.map_toArray, List.map_cons, List.map_nil]; rw [f.ev (x := .tmp 32) rfl]) (sl_35_1_0 (Cl.mk 0 0 0 0 1 Pen.zero)) rfl ?_
    intro b33
    obtain ⟨ti34, hi34, hz34, hs34, hb34⟩ := info_parts inf_58
    refine TL.append rfl rfl Tryd.underlying35 hi34 hz34 hs34 hb34 rfl (by omega) (by first | exact P0 | exact P1 | exact P2 | exact P3 | exact P4 | exact P5) (by first | exact Src.nil | exact Src.blk P0 rfl | exact Src.blk P1 rfl | exact Src.blk P2 rfl | exact Src.blk P3 rfl | exact Src.blk P4 rfl | exact Src.blk P5 rfl | exact Src.row P0 | exact Src.row P1 | exact Src.row P2 | exact Src.row P3 | exact Src.row P4 | exact Src.row P5) (fun h => by cases h) rfl (by omega) (by omega) rfl ?_
    clear hi34 hz34 hs34 hb34 ti34
    intro A34 c34 hn34
    refine TL.val (OpV.assign rfl) rfl ?_
    refine TL.nil ?_
    refine TE.out ?_
    refine TE.out ?_
    refine TE.sub (.cons (t := 0) rfl <| .cons (t := 3) rfl <| .cons (t := 4) rfl <| .nil) ?_
    refine TE.next ?_
    refine T.region ?_
    refine TL.val (OpV.move rfl) rfl ?_
    refine TL.val (OpV.add rfl rfl (by first | exact IntWalk.i64_in _ ⟨by omega, by omega⟩ | rfl)) rfl ?_
    refine TL.val (OpV.assign rfl) rfl ?_
    refine TL.nil ?_
    exact TE.meet (i + 1, A34, c34, xs ++ [blank Pen.zero]) ⟨⟨by omega, by rw [e9, ofL_snoc, ← q2, ofB, if_neg hb1, if_pos hb2], hn34, by simp only [List.length_append, List.length_cons, List.length_nil]; omega⟩, by simp only; omega⟩ (.cons (t := 0) (by first | rfl | (simp [lk]; done)) <| .cons (t := 3) (by simp only [List.length_append, List.length_cons, List.length_nil]; rfl) <| .cons (t := 4) (by first | rfl | (simp [lk]; done)) <| .nil) ((by simp only [fl_append, List.length_append, List.length_cons, List.length_nil]; exact Perm.kle (.cons (by first | exact P0 | exact P1 | exact P2 | exact P3 | exact P4 | exact P5 | exact P6 | exact P7) .nil)))
   ·
    intro ht29
    have hb2 : ¬ u.toNat = 95 := by intro e; have h9 := beq_eq_false_iff_ne.1 ht29; omega
    refine T.region ?_
    refine TL.val (OpV.move rfl) rfl ?_
    refine TL.val (OpV.move rfl) rfl ?_
    refine TL.val (OpV.move rfl) rfl ?_
    refine TL.val (OpV.indexStr (j := i) Tryd.underlying9 rfl rfl rfl hu) rfl ?_
    refine TL.val (OpV.conv Tryd.underlying5 Tryd.underlying21 rfl (by first | exact IntWalk.i32_in _ ⟨by omega, by have h9 := u.toNat_lt; omega⟩ | rfl)) rfl ?_
    refine TL.val (OpV.build (qs := #[(0, _), (2, _)]) (fun _ f => by simp only [List.map_toArray, List.map_cons, List.map_nil]; rw [f.ev (x := .tmp 18) rfl, f.ev (x := .const (.int .i64 1)) rfl]) (bld_58_0_2 u.toNat 1 )) rfl ?_
    refine TL.slit (qs := #[(0, _)]) (fun _ f => by simp only [List.map_toArray, List.map_cons, List.map_nil]; rw [f.ev (x := .tmp 19) rfl]) (sl_35_1_0 (Cl.mk u.toNat 0 0 0 1 Pen.zero)) rfl ?_
    intro b20
    obtain ⟨ti21, hi21, hz21, hs21, hb21⟩ := info_parts inf_58
    refine TL.append rfl rfl Tryd.underlying35 hi21 hz21 hs21 hb21 rfl (by omega) (by first | exact P0 | exact P1 | exact P2 | exact P3 | exact P4 | exact P5) (by first | exact Src.nil | exact Src.blk P0 rfl | exact Src.blk P1 rfl | exact Src.blk P2 rfl | exact Src.blk P3 rfl | exact Src.blk P4 rfl | exact Src.blk P5 rfl | exact Src.row P0 | exact Src.row P1 | exact Src.row P2 | exact Src.row P3 | exact Src.row P4 | exact Src.row P5) (fun h => by cases h) rfl (by omega) (by omega) rfl ?_
    clear hi21 hz21 hs21 hb21 ti21
    intro A21 c21 hn21
    refine TL.val (OpV.assign rfl) rfl ?_
    refine TL.nil ?_
    refine TE.out ?_
    refine TE.out ?_
    refine TE.sub (.cons (t := 0) rfl <| .cons (t := 3) rfl <| .cons (t := 4) rfl <| .nil) ?_
    refine TE.next ?_
    refine T.region ?_
    refine TL.val (OpV.move rfl) rfl ?_
    refine TL.val (OpV.add rfl rfl (by first | exact IntWalk.i64_in _ ⟨by omega, by omega⟩ | rfl)) rfl ?_
    refine TL.val (OpV.assign rfl) rfl ?_
    refine TL.nil ?_
    exact TE.meet (i + 1, A21, c21, xs ++ [⟨u.toNat, 0, 0, 0, 1, Pen.zero⟩]) ⟨⟨by omega, by rw [e9, ofL_snoc, ← q2, ofB, if_neg hb1, if_neg hb2], hn21, by simp only [List.length_append, List.length_cons, List.length_nil]; omega⟩, by simp only; omega⟩ (.cons (t := 0) (by first | rfl | (simp [lk]; done)) <| .cons (t := 3) (by simp only [List.length_append, List.length_cons, List.length_nil]; rfl) <| .cons (t := 4) (by first | rfl | (simp [lk]; done)) <| .nil) ((by simp only [fl_append, List.length_append, List.length_cons, List.length_nil]; exact Perm.kle (.cons (by first | exact P0 | exact P1 | exact P2 | exact P3 | exact P4 | exact P5 | exact P6 | exact P7) .nil)))
 ·
  intro ht8
  obtain ⟨q1, q2, q3, q4⟩ := hR
  have hin : i = s.size := by have h9 := of_decide_eq_false ht8; omega
  rw [hin, List.take_of_length_le (Nat.le_of_eq (by simp))] at q2
  refine T.exit ?_
  refine TE.pass_exit ?_
  refine TE.pass_exit ?_
  refine TE.here ?_
  refine TE.next ?_
  refine T.seq ?_
  refine T.region ?_
  refine TL.val (OpV.move rfl) rfl ?_
  refine TL.val (OpV.assign rfl) rfl ?_
  refine TL.nil ?_
  refine TE.sub (.cons (t := 2) rfl <| .nil) ?_
  refine TE.next ?_
  refine T.ret ?_
  refine TE.ret1 rfl (ResV.tmp rfl) ?_
  intro wz kz
  obtain ⟨ρ, h1, k2⟩ := KOk.rowOwn (kz.pick (e := .row 58 16 A xs.length c (fl xs)) (by first | exact P0 | exact P1 | exact P2 | exact P3 | exact P4 | exact P5 | exact P6 | exact P7))
  exact ⟨⟨A, xs.length, c, ρ⟩, rfl, by rw [← q2]; exact CsR.of_row h1 rfl, Perm.kle (.cons .here .nil) wz k2⟩
set_option maxRecDepth 100000 in
set_option maxHeartbeats 1000000 in
theorem rows_law {σ : Nat → Option Obj} {A : Option Addr} {n c : Nat} {ss : List ByteArray} (w : World) (h : SsR σ A n c ss) (hs : ∀ b o, σ b = some o → w.heap[b]? = some o) (hn : n ≤ 1000) (hb : ∀ s ∈ ss, s.size ≤ 900) : Calls Tryd.prog 69 #[.slice A n c] w (fun e w' => ∃ v : SV, e = .returned v.v ∧ LsR v.σ v.A v.n v.c (ss.map rowB) ∧ KOk w [.own v.σ] w') := by
 have hn63 := h.2.1
 have hc63 := h.2.2.1
 have hl1 := h.1
 refine calls_T (vs := [.slice A n c]) (L0 := [(0, .slice A n c)]) Tryd.func69 rfl rfl rfl rfl (KOk.fr1 hs) ?_
 refine T.seq ?_
 refine T.region ?_
 refine TL.val (OpV.assign rfl) rfl ?_
 refine TL.nil ?_
 refine TE.next ?_
 refine T.seq ?_
 refine T.region ?_
 refine TL.val (OpV.assign rfl) rfl ?_
 refine TL.nil ?_
 refine TE.next ?_
 refine T.seq ?_
 refine T.seq ?_
 refine T.region ?_
 refine TL.val (OpV.assign rfl) rfl ?_
 refine TL.nil ?_
 refine TE.next ?_
 refine T.block ?_
 refine T.loop (ι := Nat × List LnA × Option Addr × Nat × (Nat → Option Obj)) (fun ⟨i, cs, A3, c3, τ⟩ => i ≤ n ∧ cs.map LnA.ln = (ss.take i).map rowB ∧ (∀ l ∈ cs, CsR τ l.A l.n l.c l.cells) ∧ (A3 = none → c3 = 0)) (fun ⟨i, cs, A3, c3, τ⟩ => (n - i)) (fun ⟨i, cs, A3, c3, τ⟩ => [(0, .slice A n c), (3, .slice A3 cs.length c3), (4, .int .i64 (i : Int))]) (fun ⟨i, cs, A3, c3, τ⟩ => [.row 65 2 A3 cs.length c3 (fll cs), .own τ, .fr σ]) (0, [], none, 0, fun _ => none) ⟨Nat.zero_le _, rfl, (fun l hl => by cases hl), fun _ => rfl⟩ (.cons (t := 0) rfl <| .cons (t := 3) rfl <| .cons (t := 4) rfl <| .nil) ((fun wz kz => Perm.kle (.cons (by first | exact P0 | exact P1 | exact P2 | exact P3 | exact P4 | exact P5 | exact P6 | exact P7) (.cons (by first | exact P0 | exact P1 | exact P2 | exact P3 | exact P4 | exact P5 | exact P6 | exact P7) (.cons (by first | exact P0 | exact P1 | exact P2 | exact P3 | exact P4 | exact P5 | exact P6 | exact P7) .nil))) wz (Kle.nilRow 65 2 wz (KOk.ownNil kz)))) ?_
 rintro ⟨i, cs, A3, c3, τ⟩ hR
 have hcl : cs.length = i := by have h9 := congrArg List.length hR.2.1; have h8 := hR.1; have h7 := h.1; simp at h9; omega
 refine T.seq ?_
 refine T.seq ?_
 refine T.region ?_
 refine TL.val (OpV.move rfl) rfl ?_
 refine TL.val (OpV.move rfl) rfl ?_
 refine TL.val (OpV.len Tryd.underlying125 rfl) rfl ?_
 refine TL.val (OpV.lss rfl rfl) rfl ?_
 refine TL.nil ?_
 refine TE.next ?_
 refine T.cond rfl ?_ ?_
 ·
  intro ht10
  obtain ⟨q1, q2, q3, q4⟩ := hR
  have hi : i < n := by have h9 := of_decide_eq_true ht10; omega
  obtain ⟨s, hs5⟩ := get_of_lt h.1 hi
  obtain ⟨b, o, hA, hat⟩ := h.2.2.2.2 (by omega)
  obtain ⟨_, rfl, _, hats⟩ := hat i s hs5
  have hsz := hb s (List.mem_of_getElem? hs5)
  refine T.skip ?_
  refine TE.next ?_
  refine T.seq ?_
  refine T.block ?_
  refine T.seq ?_
  refine T.region ?_
  refine TL.val (OpV.move rfl) rfl ?_
  refine TL.val (OpV.move rfl) rfl ?_
  refine TL.val (OpV.indexAddr se_125 rfl hA rfl (by rfl) (by first | omega | simp)) rfl ?_
  refine TL.val (OpV.load pl_9 rfl (by first | exact Cel.blk P0 rfl | exact Cel.blk P1 rfl | exact Cel.blk P2 rfl | exact Cel.blk P3 rfl | exact Cel.blk P4 rfl | exact Cel.blk P5 rfl | exact Cel.frA (hats 0 _ rfl))) rfl ?_
  refine TL.val (OpV.assign rfl) rfl ?_
  refine TL.nil ?_
  refine TE.sub (.cons (t := 0) rfl <| .cons (t := 3) rfl <| .cons (t := 4) rfl <| .cons (t := 5) rfl <| .nil) ?_
  refine TE.next ?_
  refine T.seq ?_
  refine T.region ?_
  refine TL.val (OpV.move rfl) rfl ?_
  refine TL.val (OpV.lenS Tryd.underlying9 rfl) rfl ?_
  refine TL.val (OpV.gtr rfl rfl) rfl ?_
  refine TL.val (OpV.move rfl) rfl ?_
  refine TL.part (t := 20) rfl ?_ ?_
  ·
   intro hg20
   have h0 : 0 < s.size := by have h9 := of_decide_eq_true hg20; omega
   obtain ⟨u, hu⟩ : ∃ u, s[s.size - 1]? = some u := ⟨_, getElem?_pos s (s.size - 1) (by omega)⟩
   refine TL.open rfl rfl ?_
   refine TL.val (OpV.move rfl) rfl ?_
   refine TL.open rfl rfl ?_
   refine TL.val (OpV.move rfl) rfl ?_
   refine TL.open rfl rfl ?_
   refine TL.val (OpV.lenS Tryd.underlying9 rfl) rfl ?_
   refine TL.open rfl rfl ?_
   refine TL.val (OpV.sub rfl rfl (by first | exact IntWalk.i64_in _ ⟨by omega, by omega⟩ | rfl)) rfl ?_
   refine TL.open rfl rfl ?_
   refine TL.val (OpV.indexStr (j := s.size - 1) Tryd.underlying9 rfl rfl (by omega) hu) rfl ?_
   refine TL.open rfl rfl ?_
   refine TL.val (OpV.eql rfl rfl) rfl ?_
   refine TL.val ((by first | exact OpV.pick_t rfl rfl | exact OpV.pick_f rfl rfl)) rfl ?_
   refine TL.val (OpV.assign rfl) rfl ?_
   refine TL.nil ?_
   refine TE.sub (.cons (t := 0) rfl <| .cons (t := 3) rfl <| .cons (t := 4) rfl <| .cons (t := 5) rfl <| .cons (t := 6) rfl <| .nil) ?_
   refine TE.next ?_
   refine T.seq ?_
   refine T.seq ?_
   refine T.region ?_
   refine TL.val (OpV.move rfl) rfl ?_
   refine TL.nil ?_
   refine TE.next ?_
   refine T.cond rfl ?_ ?_
   ·
    intro ht28
    have hu45 : u = 45 := by have h9 := eq_of_beq ht28; apply UInt8.toNat_inj.1; have h8 : u.toNat = 45 := (by omega); exact h8
    have hrb : rowB s = ⟨ofL (s.extract 0 (s.size - 1)).data.toList, true⟩ := rowB_yes (by rw [hu, hu45])
    refine T.region ?_
    refine TL.val (OpV.move rfl) rfl ?_
    refine TL.val (OpV.move rfl) rfl ?_
    refine TL.val (OpV.lenS Tryd.underlying9 rfl) rfl ?_
    refine TL.val (OpV.sub rfl rfl (by first | exact IntWalk.i64_in _ ⟨by omega, by omega⟩ | rfl)) rfl ?_
    refine TL.val (OpV.sliceStrHi (hi := s.size - 1) Tryd.underlying9 rfl rfl (by omega) (by omega)) rfl ?_
    refine TL.val (OpV.assign rfl) rfl ?_
    refine TL.nil ?_
    refine TE.next ?_
    refine T.region ?_
    refine TL.val (OpV.move rfl) rfl ?_
    refine TL.val (OpV.move rfl) rfl ?_
    refine TL.callx (g := 90) rfl go_90 rfl (fun wz k1 => own_x k1 (of28_law (s.extract 0 (s.size - 1)) wz (by rw [ByteArray.size_extract]; omega))) rfl ?_
    rintro ⟨Ao, no, co, ρo⟩ ho
    replace ho : CsR ρo Ao no co (ofL (s.extract 0 (s.size - 1)).data.toList) := ho
    refine TL.said (t := 36) rfl (show SV.v ⟨Ao, no, co, ρo⟩ = Value.slice Ao no co from rfl) ?_
    refine TL.val (OpV.move rfl) rfl ?_
    refine TL.said (t := 37) rfl (show _ = Value.bool true from congrArg Value.bool ht28) ?_
    refine TL.val (OpV.build (qs := #[(0, _), (1, _)]) (fun _ f => by simp only [List.map_toArray, List.map_cons, List.map_nil]; rw [f.ev (x := .tmp 36) rfl, f.ev (x := .tmp 37) rfl]) (bld_65_0_1 (LnA.mk Ao no co (ofL (s.extract 0 (s.size - 1)).data.toList) true) )) rfl ?_
    refine TL.slit (qs := #[(0, _)]) (fun _ f => by simp only [List.map_toArray, List.map_cons, List.map_nil]; rw [f.ev (x := .tmp 38) rfl]) (sl_22_1_0 (LnA.mk Ao no co (ofL (s.extract 0 (s.size - 1)).data.toList) true)) rfl ?_
    intro b39
    obtain ⟨ti40, hi40, hz40, hs40, hb40⟩ := info_parts inf_65
    refine TL.append rfl rfl Tryd.underlying22 hi40 hz40 hs40 hb40 rfl (by omega) (by first | exact P0 | exact P1 | exact P2 | exact P3 | exact P4 | exact P5) (by first | exact Src.nil | exact Src.blk P0 rfl | exact Src.blk P1 rfl | exact Src.blk P2 rfl | exact Src.blk P3 rfl | exact Src.blk P4 rfl | exact Src.blk P5 rfl | exact Src.row P0 | exact Src.row P1 | exact Src.row P2 | exact Src.row P3 | exact Src.row P4 | exact Src.row P5) (fun h => by cases h) rfl (by omega) (by omega) rfl ?_
    clear hi40 hz40 hs40 hb40 ti40
    intro A40 c40 hn40
    refine TL.val (OpV.assign rfl) rfl ?_
    refine TL.nil ?_
    refine TE.out ?_
    refine TE.sub (.cons (t := 0) rfl <| .cons (t := 3) rfl <| .cons (t := 4) rfl <| .nil) ?_
    refine TE.next ?_
    refine T.ex (ι := Nat → Option Obj) (R := fun ρ => (∀ b o, ρo b = some o → ρ b = some o) ∧ (∀ b o, τ b = some o → ρ b = some o)) (K2 := fun ρ => [.own ρ, .row 65 2 A40 (cs.length + 1) c40 (fll cs ++ (LnA.mk Ao no co (ofL (s.extract 0 (s.size - 1)).data.toList) true).l), .fr σ]) (fun wz kz => ?_) ?_
    · skip
      obtain ⟨ρ, h9, k2⟩ := KOk.own2 ((kz.pick (e := .own τ) (by first | exact P0 | exact P1 | exact P2 | exact P3 | exact P4 | exact P5 | exact P6 | exact P7)).pick (e := .own ρo) (by first | exact P0 | exact P1 | exact P2 | exact P3 | exact P4 | exact P5 | exact P6 | exact P7))
      exact ⟨ρ, h9, Perm.kle (.cons (by first | exact P0 | exact P1 | exact P2 | exact P3 | exact P4 | exact P5 | exact P6 | exact P7) (.cons (by first | exact P0 | exact P1 | exact P2 | exact P3 | exact P4 | exact P5 | exact P6 | exact P7) (.cons (by first | exact P0 | exact P1 | exact P2 | exact P3 | exact P4 | exact P5 | exact P6 | exact P7) .nil))) wz k2⟩
    rintro ρ ⟨e1, e2⟩
    refine T.region ?_
    refine TL.val (OpV.move rfl) rfl ?_
    refine TL.val (OpV.add rfl rfl (by first | exact IntWalk.i64_in _ ⟨by omega, by omega⟩ | rfl)) rfl ?_
    refine TL.val (OpV.assign rfl) rfl ?_
    refine TL.nil ?_
    exact TE.meet (i + 1, cs ++ [(LnA.mk Ao no co (ofL (s.extract 0 (s.size - 1)).data.toList) true)], A40, c40, ρ) ⟨⟨by omega, by rw [List.map_append, q2, take_snoc hs5, List.map_append, List.map_singleton, List.map_singleton, hrb]; rfl, (fun l hl => by rcases List.mem_append.1 hl with hl | hl; exact (q3 l hl).mono e2; obtain rfl := List.mem_singleton.1 hl; exact ho.mono e1), hn40⟩, by simp only; omega⟩ (.cons (t := 0) (by first | rfl | (simp [lk]; done)) <| .cons (t := 3) (by simp only [List.length_append, List.length_cons, List.length_nil]; rfl) <| .cons (t := 4) (by first | rfl | (simp [lk]; done)) <| .nil) ((by simp only [fll_snoc, List.length_append, List.length_cons, List.length_nil]; exact Perm.kle (.cons (by first | exact P0 | exact P1 | exact P2 | exact P3 | exact P4 | exact P5 | exact P6 | exact P7) (.cons (by first | exact P0 | exact P1 | exact P2 | exact P3 | exact P4 | exact P5 | exact P6 | exact P7) (.cons (by first | exact P0 | exact P1 | exact P2 | exact P3 | exact P4 | exact P5 | exact P6 | exact P7) .nil)))))
   ·
    intro ht28
    have hrb : rowB s = ⟨ofL s.data.toList, false⟩ := rowB_no (fun v hv e => by rw [hu] at hv; cases hv; rw [e] at ht28; simp at ht28)
    refine T.skip ?_
    refine TE.next ?_
    refine T.region ?_
    refine TL.val (OpV.move rfl) rfl ?_
    refine TL.val (OpV.move rfl) rfl ?_
    refine TL.callx (g := 90) rfl go_90 rfl (fun wz k1 => own_x k1 (of28_law s wz (by omega))) rfl ?_
    rintro ⟨Ao, no, co, ρo⟩ ho
    replace ho : CsR ρo Ao no co (ofL s.data.toList) := ho
    refine TL.said (t := 36) rfl (show SV.v ⟨Ao, no, co, ρo⟩ = Value.slice Ao no co from rfl) ?_
    refine TL.val (OpV.move rfl) rfl ?_
    refine TL.said (t := 37) rfl (show _ = Value.bool false from congrArg Value.bool ht28) ?_
    refine TL.val (OpV.build (qs := #[(0, _), (1, _)]) (fun _ f => by simp only [List.map_toArray, List.map_cons, List.map_nil]; rw [f.ev (x := .tmp 36) rfl, f.ev (x := .tmp 37) rfl]) (bld_65_0_1 (LnA.mk Ao no co (ofL s.data.toList) false) )) rfl ?_
    refine TL.slit (qs := #[(0, _)]) (fun _ f => by simp only [List.map_toArray, List.map_cons, List.map_nil]; rw [f.ev (x := .tmp 38) rfl]) (sl_22_1_0 (LnA.mk Ao no co (ofL s.data.toList) false)) rfl ?_
    intro b39
    obtain ⟨ti40, hi40, hz40, hs40, hb40⟩ := info_parts inf_65
    refine TL.append rfl rfl Tryd.underlying22 hi40 hz40 hs40 hb40 rfl (by omega) (by first | exact P0 | exact P1 | exact P2 | exact P3 | exact P4 | exact P5) (by first | exact Src.nil | exact Src.blk P0 rfl | exact Src.blk P1 rfl | exact Src.blk P2 rfl | exact Src.blk P3 rfl | exact Src.blk P4 rfl | exact Src.blk P5 rfl | exact Src.row P0 | exact Src.row P1 | exact Src.row P2 | exact Src.row P3 | exact Src.row P4 | exact Src.row P5) (fun h => by cases h) rfl (by omega) (by omega) rfl ?_
    clear hi40 hz40 hs40 hb40 ti40
    intro A40 c40 hn40
    refine TL.val (OpV.assign rfl) rfl ?_
    refine TL.nil ?_
    refine TE.out ?_
    refine TE.sub (.cons (t := 0) rfl <| .cons (t := 3) rfl <| .cons (t := 4) rfl <| .nil) ?_
    refine TE.next ?_
    refine T.ex (ι := Nat → Option Obj) (R := fun ρ => (∀ b o, ρo b = some o → ρ b = some o) ∧ (∀ b o, τ b = some o → ρ b = some o)) (K2 := fun ρ => [.own ρ, .row 65 2 A40 (cs.length + 1) c40 (fll cs ++ (LnA.mk Ao no co (ofL s.data.toList) false).l), .fr σ]) (fun wz kz => ?_) ?_
    · skip
      obtain ⟨ρ, h9, k2⟩ := KOk.own2 ((kz.pick (e := .own τ) (by first | exact P0 | exact P1 | exact P2 | exact P3 | exact P4 | exact P5 | exact P6 | exact P7)).pick (e := .own ρo) (by first | exact P0 | exact P1 | exact P2 | exact P3 | exact P4 | exact P5 | exact P6 | exact P7))
      exact ⟨ρ, h9, Perm.kle (.cons (by first | exact P0 | exact P1 | exact P2 | exact P3 | exact P4 | exact P5 | exact P6 | exact P7) (.cons (by first | exact P0 | exact P1 | exact P2 | exact P3 | exact P4 | exact P5 | exact P6 | exact P7) (.cons (by first | exact P0 | exact P1 | exact P2 | exact P3 | exact P4 | exact P5 | exact P6 | exact P7) .nil))) wz k2⟩
    rintro ρ ⟨e1, e2⟩
    refine T.region ?_
    refine TL.val (OpV.move rfl) rfl ?_
    refine TL.val (OpV.add rfl rfl (by first | exact IntWalk.i64_in _ ⟨by omega, by omega⟩ | rfl)) rfl ?_
    refine TL.val (OpV.assign rfl) rfl ?_
    refine TL.nil ?_
    exact TE.meet (i + 1, cs ++ [(LnA.mk Ao no co (ofL s.data.toList) false)], A40, c40, ρ) ⟨⟨by omega, by rw [List.map_append, q2, take_snoc hs5, List.map_append, List.map_singleton, List.map_singleton, hrb]; rfl, (fun l hl => by rcases List.mem_append.1 hl with hl | hl; exact (q3 l hl).mono e2; obtain rfl := List.mem_singleton.1 hl; exact ho.mono e1), hn40⟩, by simp only; omega⟩ (.cons (t := 0) (by first | rfl | (simp [lk]; done)) <| .cons (t := 3) (by simp only [List.length_append, List.length_cons, List.length_nil]; rfl) <| .cons (t := 4) (by first | rfl | (simp [lk]; done)) <| .nil) ((by simp only [fll_snoc, List.length_append, List.length_cons, List.length_nil]; exact Perm.kle (.cons (by first | exact P0 | exact P1 | exact P2 | exact P3 | exact P4 | exact P5 | exact P6 | exact P7) (.cons (by first | exact P0 | exact P1 | exact P2 | exact P3 | exact P4 | exact P5 | exact P6 | exact P7) (.cons (by first | exact P0 | exact P1 | exact P2 | exact P3 | exact P4 | exact P5 | exact P6 | exact P7) .nil)))))
  ·
   intro hg20
   have hrb : rowB s = ⟨ofL s.data.toList, false⟩ := rowB_no (fun u hu => by have h9 := of_decide_eq_false hg20; have h8 : s.size = 0 := (by omega); have h7 : s[s.size - 1]? = none := (by rw [getElem?_eq_none_iff]; omega); rw [h7] at hu; cases hu)
   refine TL.shut rfl rfl ?_
   refine TL.shut rfl rfl ?_
   refine TL.shut rfl rfl ?_
   refine TL.shut rfl rfl ?_
   refine TL.shut rfl rfl ?_
   refine TL.shut rfl rfl ?_
   refine TL.val ((by first | exact OpV.pick_t rfl rfl | exact OpV.pick_f rfl rfl)) rfl ?_
   refine TL.val (OpV.assign rfl) rfl ?_
   refine TL.nil ?_
   refine TE.sub (.cons (t := 0) rfl <| .cons (t := 3) rfl <| .cons (t := 4) rfl <| .cons (t := 5) rfl <| .cons (t := 6) rfl <| .nil) ?_
   refine TE.next ?_
   refine T.seq ?_
   refine T.seq ?_
   refine T.region ?_
   refine TL.val (OpV.move rfl) rfl ?_
   refine TL.nil ?_
   refine TE.next ?_
   refine T.no rfl ?_
   refine T.skip ?_
   refine TE.next ?_
   refine T.region ?_
   refine TL.val (OpV.move rfl) rfl ?_
   refine TL.val (OpV.move rfl) rfl ?_
   refine TL.callx (g := 90) rfl go_90 rfl (fun wz k1 => own_x k1 (of28_law s wz (by omega))) rfl ?_
   rintro ⟨Ao, no, co, ρo⟩ ho
   replace ho : CsR ρo Ao no co (ofL s.data.toList) := ho
   refine TL.said (t := 36) rfl (show SV.v ⟨Ao, no, co, ρo⟩ = Value.slice Ao no co from rfl) ?_
   refine TL.val (OpV.move rfl) rfl ?_
   refine TL.val (OpV.build (qs := #[(0, _), (1, _)]) (fun _ f => by simp only [List.map_toArray, List.map_cons, List.map_nil]; rw [f.ev (x := .tmp 36) rfl, f.ev (x := .tmp 37) rfl]) (bld_65_0_1 (LnA.mk Ao no co (ofL s.data.toList) false) )) rfl ?_
   refine TL.slit (qs := #[(0, _)]) (fun _ f => by simp only [List.map_toArray, List.map_cons, List.map_nil]; rw [f.ev (x := .tmp 38) rfl]) (sl_22_1_0 (LnA.mk Ao no co (ofL s.data.toList) false)) rfl ?_
   intro b39
   obtain ⟨ti40, hi40, hz40, hs40, hb40⟩ := info_parts inf_65
   refine TL.append rfl rfl Tryd.underlying22 hi40 hz40 hs40 hb40 rfl (by omega) (by first | exact P0 | exact P1 | exact P2 | exact P3 | exact P4 | exact P5) (by first | exact Src.nil | exact Src.blk P0 rfl | exact Src.blk P1 rfl | exact Src.blk P2 rfl | exact Src.blk P3 rfl | exact Src.blk P4 rfl | exact Src.blk P5 rfl | exact Src.row P0 | exact Src.row P1 | exact Src.row P2 | exact Src.row P3 | exact Src.row P4 | exact Src.row P5) (fun h => by cases h) rfl (by omega) (by omega) rfl ?_
   clear hi40 hz40 hs40 hb40 ti40
   intro A40 c40 hn40
   refine TL.val (OpV.assign rfl) rfl ?_
   refine TL.nil ?_
   refine TE.out ?_
   refine TE.sub (.cons (t := 0) rfl <| .cons (t := 3) rfl <| .cons (t := 4) rfl <| .nil) ?_
   refine TE.next ?_
   refine T.ex (ι := Nat → Option Obj) (R := fun ρ => (∀ b o, ρo b = some o → ρ b = some o) ∧ (∀ b o, τ b = some o → ρ b = some o)) (K2 := fun ρ => [.own ρ, .row 65 2 A40 (cs.length + 1) c40 (fll cs ++ (LnA.mk Ao no co (ofL s.data.toList) false).l), .fr σ]) (fun wz kz => ?_) ?_
   · skip
     obtain ⟨ρ, h9, k2⟩ := KOk.own2 ((kz.pick (e := .own τ) (by first | exact P0 | exact P1 | exact P2 | exact P3 | exact P4 | exact P5 | exact P6 | exact P7)).pick (e := .own ρo) (by first | exact P0 | exact P1 | exact P2 | exact P3 | exact P4 | exact P5 | exact P6 | exact P7))
     exact ⟨ρ, h9, Perm.kle (.cons (by first | exact P0 | exact P1 | exact P2 | exact P3 | exact P4 | exact P5 | exact P6 | exact P7) (.cons (by first | exact P0 | exact P1 | exact P2 | exact P3 | exact P4 | exact P5 | exact P6 | exact P7) (.cons (by first | exact P0 | exact P1 | exact P2 | exact P3 | exact P4 | exact P5 | exact P6 | exact P7) .nil))) wz k2⟩
   rintro ρ ⟨e1, e2⟩
   refine T.region ?_
   refine TL.val (OpV.move rfl) rfl ?_
   refine TL.val (OpV.add rfl rfl (by first | exact IntWalk.i64_in _ ⟨by omega, by omega⟩ | rfl)) rfl ?_
   refine TL.val (OpV.assign rfl) rfl ?_
   refine TL.nil ?_
   exact TE.meet (i + 1, cs ++ [(LnA.mk Ao no co (ofL s.data.toList) false)], A40, c40, ρ) ⟨⟨by omega, by rw [List.map_append, q2, take_snoc hs5, List.map_append, List.map_singleton, List.map_singleton, hrb]; rfl, (fun l hl => by rcases List.mem_append.1 hl with hl | hl; exact (q3 l hl).mono e2; obtain rfl := List.mem_singleton.1 hl; exact ho.mono e1), hn40⟩, by simp only; omega⟩ (.cons (t := 0) (by first | rfl | (simp [lk]; done)) <| .cons (t := 3) (by simp only [List.length_append, List.length_cons, List.length_nil]; rfl) <| .cons (t := 4) (by first | rfl | (simp [lk]; done)) <| .nil) ((by simp only [fll_snoc, List.length_append, List.length_cons, List.length_nil]; exact Perm.kle (.cons (by first | exact P0 | exact P1 | exact P2 | exact P3 | exact P4 | exact P5 | exact P6 | exact P7) (.cons (by first | exact P0 | exact P1 | exact P2 | exact P3 | exact P4 | exact P5 | exact P6 | exact P7) (.cons (by first | exact P0 | exact P1 | exact P2 | exact P3 | exact P4 | exact P5 | exact P6 | exact P7) .nil)))))
 ·
  intro ht10
  obtain ⟨q1, q2, q3, q4⟩ := hR
  have hin : ¬ i < n := by have h9 := of_decide_eq_false ht10; omega
  rw [List.take_of_length_le (by omega)] at q2
  refine T.exit ?_
  refine TE.pass_exit ?_
  refine TE.pass_exit ?_
  refine TE.here ?_
  refine TE.next ?_
  refine T.seq ?_
  refine T.region ?_
  refine TL.val (OpV.move rfl) rfl ?_
  refine TL.val (OpV.assign rfl) rfl ?_
  refine TL.nil ?_
  refine TE.sub (.cons (t := 2) rfl <| .nil) ?_
  refine TE.next ?_
  refine T.ret ?_
  refine TE.ret1 rfl (ResV.tmp rfl) ?_
  intro wz kz
  obtain ⟨ρ, ⟨r2, r3⟩, k2⟩ := KOk.rowInto (e := 65) (z := 2) (A := A3) (m := cs.length) (c := c3) (xs := fll cs) (τ := τ) kz (by first | exact P0 | exact P1 | exact P2 | exact P3 | exact P4 | exact P5 | exact P6 | exact P7) (by first | exact P0 | exact P1 | exact P2 | exact P3 | exact P4 | exact P5 | exact P6 | exact P7)
  exact ⟨⟨A3, cs.length, c3, ρ⟩, rfl, ⟨cs, ⟨SlR.of_row LnA.l_length r2 rfl, fun l hl => (q3 l hl).mono r3⟩, q2⟩, Perm.kle (.cons .here .nil) wz k2⟩
set_option maxRecDepth 100000 in
set_option maxHeartbeats 400000 in
theorem at29_c (a b : Int) (w : World) : Calls Tryd.prog 70 #[.int .i64 a, .int .i64 b] w (Ret (.agg (aL (a, b)).toArray) w) := by
 refine calls_T (vs := [.int .i64 a, .int .i64 b]) (L0 := [(0, .int .i64 a), (1, .int .i64 b)]) Tryd.func70 rfl rfl rfl rfl (KOk.none w) ?_
 refine T.seq ?_
 refine T.region ?_
 refine TL.alloc zo_24 rfl ?_
 intro b4
 refine TL.nil ?_
 refine TE.next ?_
 refine T.seq ?_
 refine T.region ?_
 refine TL.val (OpV.move rfl) rfl ?_
 refine TL.val (OpV.move rfl) rfl ?_
 refine TL.val (OpV.build (qs := #[(0, _), (1, _)]) (fun _ f => by simp only [List.map_toArray, List.map_cons, List.map_nil]; rw [f.ev (x := .tmp 5) rfl, f.ev (x := .tmp 6) rfl]) (bld_24_0_1 a b )) rfl ?_
 first
   | refine TL.storeAll rfl rfl szz_24 rfl rfl rfl (by first | exact P0 | exact P1 | exact P2 | exact P3 | exact P4) (by rfl) ?_
   | refine TL.store rfl rfl szz_24 rfl rfl rfl (by first | exact P0 | exact P1 | exact P2 | exact P3 | exact P4) (by first | exact Nat.le_of_ble_eq_true rfl | (simp; done) | (simp; omega)) (by simp only [putL, List.take_succ_cons, List.take_zero, List.drop_succ_cons, List.drop_zero, List.cons_append, List.nil_append, List.length_cons, List.length_nil, Nat.reduceAdd]; rfl) ?_
 refine TL.nil ?_
 refine TE.next ?_
 refine T.ret ?_
 refine TE.ret1 rfl (ResV.cellA rfl ag_24 (by first | exact Cels.blk P0 rfl | exact Cels.blk P1 rfl | exact Cels.blk P2 rfl | exact Cels.blk P3 rfl | exact Cels.blk P4 rfl)) ?_
 exact fun w1 k1 => ⟨rfl, k1.bel⟩
set_option maxRecDepth 100000 in
set_option maxHeartbeats 1000000 in
theorem few29_c {σ : Nat → Option Obj} {A : Option Addr} {n c : Nat} {ls : List LnA} (w : World) (h : LsA σ A n c ls) (hs : ∀ b o, σ b = some o → w.heap[b]? = some o) : Calls Tryd.prog 40 #[.slice A n c] w (Ret (.bool (few29V (ls.map LnA.ln))) w) := by
 have hn63 := h.1.2.1
 have hc63 := h.1.2.2.1
 have hl1 := h.1.1
 refine calls_T (vs := [.slice A n c]) (L0 := [(0, .slice A n c)]) Tryd.func40 rfl rfl rfl rfl (KOk.fr1 hs) ?_
 refine T.seq ?_
 refine T.region ?_
 refine TL.val (OpV.assign rfl) rfl ?_
 refine TL.nil ?_
 refine TE.next ?_
 refine T.seq ?_
 refine T.seq ?_
 refine T.region ?_
 refine TL.val (OpV.assign rfl) rfl ?_
 refine TL.nil ?_
 refine TE.next ?_
 refine T.block ?_
 refine T.loop (ι := Nat) (fun i => i ≤ n ∧ i ≤ 13 ∧ ((ls.map LnA.ln).take i).all (fun x => decide ((x.cells.length : Int) ≤ 16)) = true) (fun i => (n - i)) (fun i => [(0, .slice A n c), (3, .int .i64 (i : Int))]) (fun i => [.fr σ]) 0 ⟨Nat.zero_le _, Nat.zero_le _, rfl⟩ (.cons (t := 0) rfl <| .cons (t := 3) rfl <| .nil) (Kle.refl) ?_
 rintro i hR
 refine T.seq ?_
 refine T.seq ?_
 refine T.region ?_
 refine TL.val (OpV.move rfl) rfl ?_
 refine TL.val (OpV.move rfl) rfl ?_
 refine TL.val (OpV.len Tryd.underlying22 rfl) rfl ?_
 refine TL.val (OpV.lss rfl rfl) rfl ?_
 refine TL.val (OpV.move rfl) rfl ?_
 refine TL.part (t := 8) rfl ?_ ?_
 ·
  intro hg8
  obtain ⟨q1, q2, q3⟩ := hR
  have hi : i < n := by have h9 := of_decide_eq_true hg8; omega
  obtain ⟨x, hx⟩ := get_of_lt h.1.1 hi
  obtain ⟨b, o, hA, hat0⟩ := h.1.2.2.2.2 (by omega)
  obtain ⟨_, rfl, _, hatx⟩ := hat0 i x hx
  have hcx := h.2 x (List.mem_of_getElem? hx)
  have hX : (ls.map LnA.ln)[i]? = some x.ln := by simp [hx]
  have hlx : x.ln.cells.length = x.n := hcx.1
  refine TL.open rfl rfl ?_
  refine TL.val (OpV.move rfl) rfl ?_
  refine TL.open rfl rfl ?_
  refine TL.val (OpV.lss rfl rfl) rfl ?_
  refine TL.val ((by first | exact OpV.pick_t rfl rfl | exact OpV.pick_f rfl rfl)) rfl ?_
  refine TL.nil ?_
  refine TE.sub (.cons (t := 0) rfl <| .cons (t := 3) rfl <| .cons (t := 11) rfl <| .nil) ?_
  refine TE.next ?_
  refine T.cond rfl ?_ ?_
  ·
   intro ht11
   have hi13 : i < 13 := by have h9 := of_decide_eq_true ht11; omega
   refine T.skip ?_
   refine TE.next ?_
   refine T.seq ?_
   refine T.block ?_
   refine T.seq ?_
   refine T.region ?_
   refine TL.val (OpV.move rfl) rfl ?_
   refine TL.val (OpV.move rfl) rfl ?_
   refine TL.val (OpV.indexAddr se_22 rfl hA rfl (by rfl) (by first | omega | simp)) rfl ?_
   refine TL.val (OpV.fieldAddr rfl fo_65_0) rfl ?_
   refine TL.val (OpV.load pl_35 rfl (by first | exact Cel.blk P0 rfl | exact Cel.blk P1 rfl | exact Cel.blk P2 rfl | exact Cel.frA (hatx _ _ rfl))) rfl ?_
   refine TL.val (OpV.len Tryd.underlying35 rfl) rfl ?_
   refine TL.val (OpV.gtr rfl rfl) rfl ?_
   refine TL.nil ?_
   refine TE.sub (.cons (t := 0) rfl <| .cons (t := 3) rfl <| .cons (t := 20) rfl <| .nil) ?_
   refine TE.next ?_
   refine T.cond rfl ?_ ?_
   ·
    intro ht20
    have hfr : few29V (ls.map LnA.ln) = false := by rw [few29V, show ((ls.map LnA.ln).take 13).all (fun x => decide ((x.cells.length : Int) ≤ 16)) = false by rw [List.all_eq_false]; exact ⟨x.ln, List.mem_of_getElem? (show ((ls.map LnA.ln).take 13)[i]? = some x.ln by rw [List.getElem?_take, if_pos hi13]; exact hX), by rw [hlx, decide_eq_false (by have h9 := of_decide_eq_true ht20; omega)]; decide⟩, Bool.false_and]
    refine T.seq ?_
    refine T.region ?_
    refine TL.val (OpV.assign rfl) rfl ?_
    refine TL.nil ?_
    refine TE.next ?_
    refine T.ret ?_
    refine TE.out_ret ?_
    refine TE.pass_ret ?_
    refine TE.pass_ret ?_
    refine TE.out_ret ?_
    refine TE.pass_ret ?_
    refine TE.ret1 rfl (ResV.tmp rfl) ?_
    exact fun w1 k1 => ⟨ret_bool hfr.symm, k1.bel⟩
   ·
    intro ht20
    have hfx : decide ((x.ln.cells.length : Int) ≤ 16) = true := decide_eq_true (by rw [hlx]; have h9 := of_decide_eq_false ht20; omega)
    refine T.skip ?_
    refine TE.out ?_
    refine TE.next ?_
    refine T.region ?_
    refine TL.val (OpV.move rfl) rfl ?_
    refine TL.val (OpV.add rfl rfl (by first | exact IntWalk.i64_in _ ⟨by omega, by omega⟩ | rfl)) rfl ?_
    refine TL.val (OpV.assign rfl) rfl ?_
    refine TL.nil ?_
    exact TE.meet (i + 1) ⟨⟨by omega, by omega, by rw [take_snoc hX, List.all_append, q3]; simp only [List.all_cons, List.all_nil, hfx]; rfl⟩, by omega⟩ (.cons (t := 0) (by first | rfl | (simp [lk]; done)) <| .cons (t := 3) (by first | rfl | (simp [lk]; done)) <| .nil) (Perm.kle (.cons (by first | exact P0 | exact P1 | exact P2 | exact P3 | exact P4 | exact P5 | exact P6 | exact P7) .nil))
  ·
   intro ht11
   have hi13 : i = 13 := by have h9 := of_decide_eq_false ht11; omega
   have hall : ((ls.map LnA.ln).take 13).all (fun x => decide ((x.cells.length : Int) ≤ 16)) = true := by rw [hi13] at q3; exact q3
   refine T.exit ?_
   refine TE.pass_exit ?_
   refine TE.pass_exit ?_
   refine TE.here ?_
   refine TE.next ?_
   refine T.seq ?_
   refine T.region ?_
   refine TL.val (OpV.move rfl) rfl ?_
   refine TL.val (OpV.len Tryd.underlying22 rfl) rfl ?_
   refine TL.val (OpV.leq rfl rfl) rfl ?_
   refine TL.val (OpV.assign rfl) rfl ?_
   refine TL.nil ?_
   refine TE.next ?_
   refine T.ret ?_
   refine TE.ret1 rfl (ResV.tmp rfl) ?_
   exact fun w1 k1 => ⟨ret_bool (by rw [few29V, hall, Bool.true_and, List.length_map, hl1]), k1.bel⟩
 ·
  intro hg8
  obtain ⟨q1, q2, q3⟩ := hR
  have hi : i = n := by have h9 := of_decide_eq_false hg8; omega
  have hall : ((ls.map LnA.ln).take 13).all (fun x => decide ((x.cells.length : Int) ≤ 16)) = true := by rw [List.take_of_length_le (by rw [List.length_map, hl1]; omega)] at q3 ⊢; exact q3
  refine TL.shut rfl rfl ?_
  refine TL.shut rfl rfl ?_
  refine TL.val ((by first | exact OpV.pick_t rfl rfl | exact OpV.pick_f rfl rfl)) rfl ?_
  refine TL.nil ?_
  refine TE.sub (.cons (t := 0) rfl <| .cons (t := 3) rfl <| .cons (t := 11) rfl <| .nil) ?_
  refine TE.next ?_
  refine T.no rfl ?_
  refine T.exit ?_
  refine TE.pass_exit ?_
  refine TE.pass_exit ?_
  refine TE.here ?_
  refine TE.next ?_
  refine T.seq ?_
  refine T.region ?_
  refine TL.val (OpV.move rfl) rfl ?_
  refine TL.val (OpV.len Tryd.underlying22 rfl) rfl ?_
  refine TL.val (OpV.leq rfl rfl) rfl ?_
  refine TL.val (OpV.assign rfl) rfl ?_
  refine TL.nil ?_
  refine TE.next ?_
  refine T.ret ?_
  refine TE.ret1 rfl (ResV.tmp rfl) ?_
  exact fun w1 k1 => ⟨ret_bool (by rw [few29V, hall, Bool.true_and, List.length_map, hl1]), k1.bel⟩

theorem GsR.mono {σ τ : Nat → Option Obj} {A : Option Addr} {n c : Nat} {X : List Lg} (h : GsR σ A n c X) (hs : ∀ b o, σ b = some o → τ b = some o) : GsR τ A n c X := by
  obtain ⟨ls, h1, h2⟩ := h
  exact ⟨ls, ⟨SlR.mono h1.1 hs, fun l hl => (h1.2 l hl).mono hs⟩, h2⟩
set_option maxRecDepth 100000 in
set_option maxHeartbeats 1000000 in
theorem flows_c {σ υ τ ω : Nat → Option Obj} {A A3 A4 A5 : Option Addr} {n c n3 c3 n4 c4 n5 c5 : Nat} {ls ms : List LnA} {as_ bs : List (Int × Int)} (cols no : Int) (w : World) (L : LaidW w) (h : LsA σ A n c ls) (h3 : AsR υ A3 n3 c3 as_) (h4 : LsA τ A4 n4 c4 ms) (h5 : AsR ω A5 n5 c5 bs) (hn : n ≤ 20000) (hn3 : n3 ≤ 131072) (hs : ∀ b o, σ b = some o → w.heap[b]? = some o) (hu : ∀ b o, υ b = some o → w.heap[b]? = some o) (ht : ∀ b o, τ b = some o → w.heap[b]? = some o) (ho : ∀ b o, ω b = some o → w.heap[b]? = some o) : Calls Tryd.prog 44 #[.slice A n c, .int .i64 cols, .slice A3 n3 c3, .slice A4 n4 c4, .slice A5 n5 c5, .int .i64 no] w (Ret (.bool (flowsV (ls.map LnA.ln) cols as_ (ms.map LnA.ln) bs no)) w) := by
 have hn63 := h.1.2.1
 have hc63 := h.1.2.2.1
 have hl1 := h.1.1
 refine calls_T (vs := [.slice A n c, .int .i64 cols, .slice A3 n3 c3, .slice A4 n4 c4, .slice A5 n5 c5, .int .i64 no]) (L0 := [(0, .slice A n c), (1, .int .i64 cols), (2, .slice A3 n3 c3), (3, .slice A4 n4 c4), (4, .slice A5 n5 c5), (5, .int .i64 no)]) Tryd.func44 rfl rfl rfl rfl (KOk.frs4 hs hu ht ho) ?_
 refine T.seq ?_
 refine T.region ?_
 refine TL.val (OpV.assign rfl) rfl ?_
 refine TL.nil ?_
 refine TE.next ?_
 refine T.seq ?_
 refine T.region ?_
 refine TL.val (OpV.move rfl) rfl ?_
 refine TL.val (OpV.move rfl) rfl ?_
 refine TL.val (OpV.move rfl) rfl ?_
 refine TL.callx (g := 38) rfl go_38 rfl (fun wz k1 => own_x k1 (rfl_c cols wz (L.below k1.bel) h h3 hn hn3 (k1.get (e := .fr σ) (by first | exact P0 | exact P1 | exact P2 | exact P3 | exact P4 | exact P5 | exact P6 | exact P7)) (k1.get (e := .fr υ) (by first | exact P0 | exact P1 | exact P2 | exact P3 | exact P4 | exact P5 | exact P6 | exact P7)))) rfl ?_
 rintro ⟨A6, n6, c6, A9, n9, c9, ρ⟩ ⟨⟨l6, h6, h6e⟩, h9⟩
 replace h6 : LsW 58 ρ cols.toNat A6 n6 c6 l6 := h6
 replace h9 : AsR ρ A9 n9 c9 (carV (ls.map LnA.ln) cols as_) := h9
 refine TL.said (t := 20) rfl (show _ = Value.tuple #[.slice A6 n6 c6, .slice A9 n9 c9, .int .i64 (carE (ls.map LnA.ln) cols as_)] from rfl) ?_
 refine TL.val (OpV.move rfl) rfl ?_
 refine TL.val (OpV.extract rfl rfl) rfl ?_
 refine TL.val (OpV.extract rfl rfl) rfl ?_
 refine TL.val (OpV.extract rfl rfl) rfl ?_
 refine TL.val (OpV.assign rfl) rfl ?_
 refine TL.val (OpV.assign rfl) rfl ?_
 refine TL.val (OpV.assign rfl) rfl ?_
 refine TL.nil ?_
 refine TE.sub (.cons (t := 3) rfl <| .cons (t := 4) rfl <| .cons (t := 5) rfl <| .cons (t := 13) rfl <| .cons (t := 14) rfl <| .cons (t := 15) rfl <| .nil) ?_
 refine TE.next ?_
 refine T.seq ?_
 refine T.region ?_
 refine TL.val (OpV.move rfl) rfl ?_
 refine TL.val (OpV.move rfl) rfl ?_
 refine TL.call (g := 20) rfl go_20 rfl (fun w1 k1 => lall_c w1 h6.lsA h4 (fun b o hb => (k1.get (e := .own ρ) (by first | exact P0 | exact P1 | exact P2 | exact P3 | exact P4 | exact P5 | exact P6 | exact P7) b o hb).2) (k1.get (e := .fr τ) (by first | exact P0 | exact P1 | exact P2 | exact P3 | exact P4 | exact P5 | exact P6 | exact P7))) rfl ?_
 refine TL.said (t := 26) rfl (show _ = Value.bool (decide (reflV (ls.map LnA.ln) cols as_ = (ms.map LnA.ln))) by rw [h6e]) ?_
 refine TL.val (OpV.move rfl) rfl ?_
 refine TL.part (t := 27) rfl ?_ ?_
 ·
  intro hg27
  refine TL.open rfl rfl ?_
  refine TL.val (OpV.move rfl) rfl ?_
  refine TL.open rfl rfl ?_
  refine TL.val (OpV.move rfl) rfl ?_
  refine TL.open rfl rfl ?_
  refine TL.call (g := 27) rfl go_27 rfl (fun w1 k1 => asame_c w1 h9 h5 (fun b o hb => (k1.get (e := .own ρ) (by first | exact P0 | exact P1 | exact P2 | exact P3 | exact P4 | exact P5 | exact P6 | exact P7) b o hb).2) (k1.get (e := .fr ω) (by first | exact P0 | exact P1 | exact P2 | exact P3 | exact P4 | exact P5 | exact P6 | exact P7))) rfl ?_
  refine TL.val ((by first | exact OpV.pick_t rfl rfl | exact OpV.pick_f rfl rfl)) rfl ?_
  refine TL.val (OpV.move rfl) rfl ?_
  refine TL.part (t := 32) rfl ?_ ?_
  ·
   intro hg32
   refine TL.open rfl rfl ?_
   refine TL.val (OpV.move rfl) rfl ?_
   refine TL.open rfl rfl ?_
   refine TL.val (OpV.move rfl) rfl ?_
   refine TL.open rfl rfl ?_
   refine TL.val (OpV.eql rfl rfl) rfl ?_
   refine TL.val ((by first | exact OpV.pick_t rfl rfl | exact OpV.pick_f rfl rfl)) rfl ?_
   refine TL.val (OpV.assign rfl) rfl ?_
   refine TL.nil ?_
   refine TE.sub (.cons (t := 12) rfl <| .nil) ?_
   refine TE.next ?_
   refine T.ret ?_
   refine TE.ret1 rfl (ResV.tmp rfl) ?_
   exact fun w1 k1 => ⟨ret_bool (by rw [flowsV]; grind), k1.bel⟩
  ·
   intro hg32
   refine TL.shut rfl rfl ?_
   refine TL.shut rfl rfl ?_
   refine TL.shut rfl rfl ?_
   refine TL.val ((by first | exact OpV.pick_t rfl rfl | exact OpV.pick_f rfl rfl)) rfl ?_
   refine TL.val (OpV.assign rfl) rfl ?_
   refine TL.nil ?_
   refine TE.sub (.cons (t := 12) rfl <| .nil) ?_
   refine TE.next ?_
   refine T.ret ?_
   refine TE.ret1 rfl (ResV.tmp rfl) ?_
   exact fun w1 k1 => ⟨ret_bool (by rw [flowsV]; grind), k1.bel⟩
 ·
  intro hg27
  refine TL.shut rfl rfl ?_
  refine TL.shut rfl rfl ?_
  refine TL.shut rfl rfl ?_
  refine TL.val ((by first | exact OpV.pick_t rfl rfl | exact OpV.pick_f rfl rfl)) rfl ?_
  refine TL.val (OpV.move rfl) rfl ?_
  refine TL.shut rfl rfl ?_
  refine TL.shut rfl rfl ?_
  refine TL.shut rfl rfl ?_
  refine TL.val ((by first | exact OpV.pick_t rfl rfl | exact OpV.pick_f rfl rfl)) rfl ?_
  refine TL.val (OpV.assign rfl) rfl ?_
  refine TL.nil ?_
  refine TE.sub (.cons (t := 12) rfl <| .nil) ?_
  refine TE.next ?_
  refine T.ret ?_
  refine TE.ret1 rfl (ResV.tmp rfl) ?_
  exact fun w1 k1 => ⟨ret_bool (by rw [flowsV]; grind), k1.bel⟩
set_option maxRecDepth 100000 in
set_option maxHeartbeats 1000000 in
theorem parts_c {σ τ : Nat → Option Obj} {A A4 : Option Addr} {n c n4 c4 : Nat} {ls ms : List LnA} (rows must top no : Int) (w : World) (L : LaidW w) (h : LsA σ A n c ls) (h4 : LsA τ A4 n4 c4 ms) (hn : n ≤ 131072) (hs : ∀ b o, σ b = some o → w.heap[b]? = some o) (ht : ∀ b o, τ b = some o → w.heap[b]? = some o) : Calls Tryd.prog 49 #[.slice A n c, .int .i64 rows, .int .i64 must, .int .i64 top, .slice A4 n4 c4, .int .i64 no] w (Ret (.bool (partsV (ls.map LnA.ln) rows must top (ms.map LnA.ln) no)) w) := by
 have hn63 := h.1.2.1
 have hc63 := h.1.2.2.1
 have hl1 := h.1.1
 refine calls_T (vs := [.slice A n c, .int .i64 rows, .int .i64 must, .int .i64 top, .slice A4 n4 c4, .int .i64 no]) (L0 := [(0, .slice A n c), (1, .int .i64 rows), (2, .int .i64 must), (3, .int .i64 top), (4, .slice A4 n4 c4), (5, .int .i64 no)]) Tryd.func49 rfl rfl rfl rfl (KOk.frs hs ht) ?_
 refine T.seq ?_
 refine T.region ?_
 refine TL.val (OpV.assign rfl) rfl ?_
 refine TL.nil ?_
 refine TE.next ?_
 refine T.seq ?_
 refine T.region ?_
 refine TL.val (OpV.move rfl) rfl ?_
 refine TL.val (OpV.move rfl) rfl ?_
 refine TL.val (OpV.move rfl) rfl ?_
 refine TL.callx (g := 39) rfl go_39 rfl (fun wz k1 => own_x k1 (scr_c rows must wz (L.below k1.bel) h (k1.get (e := .fr σ) (by first | exact P0 | exact P1 | exact P2 | exact P3 | exact P4 | exact P5 | exact P6 | exact P7)) hn)) rfl ?_
 rintro ⟨A6, n6, c6, ρ⟩ ⟨l6, h6, h6e⟩
 replace h6 : LsO 58 ρ (hdN (ls.map LnA.ln)) A6 n6 c6 l6 := h6
 refine TL.said (t := 20) rfl (show _ = Value.tuple #[.int .i64 (scrT (ls.map LnA.ln) rows must), .slice A6 n6 c6, .int .i64 (scrE (ls.map LnA.ln) rows must)] from rfl) ?_
 refine TL.val (OpV.move rfl) rfl ?_
 refine TL.val (OpV.extract rfl rfl) rfl ?_
 refine TL.val (OpV.extract rfl rfl) rfl ?_
 refine TL.val (OpV.extract rfl rfl) rfl ?_
 refine TL.val (OpV.assign rfl) rfl ?_
 refine TL.val (OpV.assign rfl) rfl ?_
 refine TL.val (OpV.assign rfl) rfl ?_
 refine TL.nil ?_
 refine TE.sub (.cons (t := 3) rfl <| .cons (t := 4) rfl <| .cons (t := 5) rfl <| .cons (t := 13) rfl <| .cons (t := 14) rfl <| .cons (t := 15) rfl <| .nil) ?_
 refine TE.next ?_
 refine T.seq ?_
 refine T.region ?_
 refine TL.val (OpV.move rfl) rfl ?_
 refine TL.val (OpV.move rfl) rfl ?_
 refine TL.val (OpV.eql rfl rfl) rfl ?_
 refine TL.val (OpV.move rfl) rfl ?_
 refine TL.part (t := 27) rfl ?_ ?_
 ·
  intro hg27
  refine TL.open rfl rfl ?_
  refine TL.val (OpV.move rfl) rfl ?_
  refine TL.open rfl rfl ?_
  refine TL.val (OpV.move rfl) rfl ?_
  refine TL.open rfl rfl ?_
  refine TL.call (g := 20) rfl go_20 rfl (fun w1 k1 => lall_c w1 h6.1 h4 (fun b o hb => (k1.get (e := .own ρ) (by first | exact P0 | exact P1 | exact P2 | exact P3 | exact P4 | exact P5 | exact P6 | exact P7) b o hb).2) (k1.get (e := .fr τ) (by first | exact P0 | exact P1 | exact P2 | exact P3 | exact P4 | exact P5 | exact P6 | exact P7))) rfl ?_
  refine TL.said (t := 30) rfl (show _ = Value.bool (decide (scrV (ls.map LnA.ln) rows must = (ms.map LnA.ln))) by rw [h6e]) ?_
  refine TL.val ((by first | exact OpV.pick_t rfl rfl | exact OpV.pick_f rfl rfl)) rfl ?_
  refine TL.val (OpV.move rfl) rfl ?_
  refine TL.part (t := 32) rfl ?_ ?_
  ·
   intro hg32
   refine TL.open rfl rfl ?_
   refine TL.val (OpV.move rfl) rfl ?_
   refine TL.open rfl rfl ?_
   refine TL.val (OpV.move rfl) rfl ?_
   refine TL.open rfl rfl ?_
   refine TL.val (OpV.eql rfl rfl) rfl ?_
   refine TL.val ((by first | exact OpV.pick_t rfl rfl | exact OpV.pick_f rfl rfl)) rfl ?_
   refine TL.val (OpV.assign rfl) rfl ?_
   refine TL.nil ?_
   refine TE.sub (.cons (t := 12) rfl <| .nil) ?_
   refine TE.next ?_
   refine T.ret ?_
   refine TE.ret1 rfl (ResV.tmp rfl) ?_
   exact fun w1 k1 => ⟨ret_bool (by rw [partsV]; grind), k1.bel⟩
  ·
   intro hg32
   refine TL.shut rfl rfl ?_
   refine TL.shut rfl rfl ?_
   refine TL.shut rfl rfl ?_
   refine TL.val ((by first | exact OpV.pick_t rfl rfl | exact OpV.pick_f rfl rfl)) rfl ?_
   refine TL.val (OpV.assign rfl) rfl ?_
   refine TL.nil ?_
   refine TE.sub (.cons (t := 12) rfl <| .nil) ?_
   refine TE.next ?_
   refine T.ret ?_
   refine TE.ret1 rfl (ResV.tmp rfl) ?_
   exact fun w1 k1 => ⟨ret_bool (by rw [partsV]; grind), k1.bel⟩
 ·
  intro hg27
  refine TL.shut rfl rfl ?_
  refine TL.shut rfl rfl ?_
  refine TL.shut rfl rfl ?_
  refine TL.val ((by first | exact OpV.pick_t rfl rfl | exact OpV.pick_f rfl rfl)) rfl ?_
  refine TL.val (OpV.move rfl) rfl ?_
  refine TL.shut rfl rfl ?_
  refine TL.shut rfl rfl ?_
  refine TL.shut rfl rfl ?_
  refine TL.val ((by first | exact OpV.pick_t rfl rfl | exact OpV.pick_f rfl rfl)) rfl ?_
  refine TL.val (OpV.assign rfl) rfl ?_
  refine TL.nil ?_
  refine TE.sub (.cons (t := 12) rfl <| .nil) ?_
  refine TE.next ?_
  refine T.ret ?_
  refine TE.ret1 rfl (ResV.tmp rfl) ?_
  exact fun w1 k1 => ⟨ret_bool (by rw [partsV]; grind), k1.bel⟩

theorem flows_r {σ υ τ ω : Nat → Option Obj} {A A3 A4 A5 : Option Addr} {n c n3 c3 n4 c4 n5 c5 : Nat} {X Y : List Ln} {as_ bs : List (Int × Int)} (cols no : Int) (w : World) (L : LaidW w) (h : LsR σ A n c X) (h3 : AsR υ A3 n3 c3 as_) (h4 : LsR τ A4 n4 c4 Y) (h5 : AsR ω A5 n5 c5 bs) (hn : n ≤ 20000) (hn3 : n3 ≤ 131072) (hs : ∀ b o, σ b = some o → w.heap[b]? = some o) (hu : ∀ b o, υ b = some o → w.heap[b]? = some o) (ht : ∀ b o, τ b = some o → w.heap[b]? = some o) (ho : ∀ b o, ω b = some o → w.heap[b]? = some o) : Calls Tryd.prog 44 #[.slice A n c, .int .i64 cols, .slice A3 n3 c3, .slice A4 n4 c4, .slice A5 n5 c5, .int .i64 no] w (Ret (.bool (flowsV X cols as_ Y bs no)) w) := by
  obtain ⟨ls, hl, rfl⟩ := h
  obtain ⟨ms, hm, rfl⟩ := h4
  exact flows_c cols no w L hl h3 hm h5 hn hn3 hs hu ht ho
theorem parts_r {σ τ : Nat → Option Obj} {A A4 : Option Addr} {n c n4 c4 : Nat} {X Y : List Ln} (rows must top no : Int) (w : World) (L : LaidW w) (h : LsR σ A n c X) (h4 : LsR τ A4 n4 c4 Y) (hn : n ≤ 131072) (hs : ∀ b o, σ b = some o → w.heap[b]? = some o) (ht : ∀ b o, τ b = some o → w.heap[b]? = some o) : Calls Tryd.prog 49 #[.slice A n c, .int .i64 rows, .int .i64 must, .int .i64 top, .slice A4 n4 c4, .int .i64 no] w (Ret (.bool (partsV X rows must top Y no)) w) := by
  obtain ⟨ls, hl, rfl⟩ := h
  obtain ⟨ms, hm, rfl⟩ := h4
  exact parts_c rows must top no w L hl hm hn hs ht
theorem same30_r {σ τ : Nat → Option Obj} {A A2 : Option Addr} {n c n2 c2 : Nat} {X Y : List Ln} (w : World) (L : LaidW w) (h : LsR σ A n c X) (h2 : LsR τ A2 n2 c2 Y) (hn : n ≤ 131072) (hn2 : n2 ≤ 131072) (hs : ∀ b o, σ b = some o → w.heap[b]? = some o) (ht : ∀ b o, τ b = some o → w.heap[b]? = some o) : Calls Tryd.prog 42 #[.slice A n c, .slice A2 n2 c2] w (Ret (.bool (sameV X Y)) w) := by
  obtain ⟨ls, hl, rfl⟩ := h
  obtain ⟨ms, hm, rfl⟩ := h2
  exact same30_c w L hl hm hn hn2 hs ht
set_option maxRecDepth 100000 in
set_option maxHeartbeats 400000 in
theorem stain0_c {A : Option Addr} {c : Nat} (w : World) : Calls Tryd.prog 46 #[.slice A 0 c] w (Ret (.tuple #[]) w) := by
 refine calls_T (vs := [.slice A 0 c]) (L0 := [(0, .slice A 0 c)]) Tryd.func46 rfl rfl rfl rfl (KOk.none w) ?_
 refine T.seq ?_
 refine T.region ?_
 refine TL.val (OpV.assign rfl) rfl ?_
 refine TL.nil ?_
 refine TE.next ?_
 refine T.block ?_
 refine T.rounds 0 ?_
 refine T.seq ?_
 refine T.seq ?_
 refine T.region ?_
 refine TL.val (OpV.move rfl) rfl ?_
 refine TL.val (OpV.move rfl) rfl ?_
 refine TL.val (OpV.len Tryd.underlying35 rfl) rfl ?_
 refine TL.val (OpV.lss rfl rfl) rfl ?_
 refine TL.nil ?_
 refine TE.next ?_
 refine T.no rfl ?_
 refine T.exit ?_
 refine TE.pass_exit ?_
 refine TE.pass_exit ?_
 refine TE.here ?_
 refine TE.end0 rfl ?_
 exact fun w1 k1 => ⟨rfl, k1.bel⟩

theorem stainw_c {w0 : World} {K : List Ent} {τ : Nat → Option Obj} {m n c : Nat} {A : Option Addr} {ls : List LnA} {i : Nat} {l : LnA} (w : World) (k : KOk w0 (.own τ :: K) w) (h : LsO 58 τ m A n c ls) (hl : ls[i]? = some l) :
    Calls Tryd.prog 46 #[.slice l.A l.n l.c] w (fun e w' => ∃ v : List LnA × (Nat → Option Obj), e = .returned (.tuple #[]) ∧ LsO 58 v.2 m A n c v.1 ∧ KOk w0 (.own v.2 :: K) w') := by
  have hlm := h.2.1 l (List.mem_of_getElem? hl)
  rcases Nat.eq_zero_or_pos m with h0 | h0
  · rw [hlm, h0]
    exact (stain0_c w).mono fun e w' ⟨he, hb⟩ => ⟨⟨ls, τ⟩, he, h0 ▸ h, k.below hb⟩
  · have hW := h.2.2 h0
    obtain ⟨b, cs, hA, hn, hc, hτ, hcs⟩ := hW.2.1.get hl
    obtain ⟨_, _, _, _, hlc, hlc2, _⟩ := hW.2.1.1 l (List.mem_of_getElem? hl)
    rw [hA]
    refine (stain_c (b := b) (n := l.n) (c := l.c) w (Kle.carve hτ w k) (by rw [hc, hn]) (by omega) hcs).mono fun e w' ⟨⟨cs2, ys⟩, he, ⟨hy1, hy2⟩, k2⟩ => ?_
    exact ⟨⟨ls.set i { l with cells := ys }, upd (del τ b) b (.cells cs2.toArray 58 (0, 0))⟩, he, (hW.setRow hl hA hy2 (by rw [hy1, hn])).lsO, Kle.uncarve w' k2⟩
theorem rsame30_r {σ τ : Nat → Option Obj} {A A2 : Option Addr} {n c n2 c2 : Nat} {X Y : List Ln} (w : World) (h : LsR σ A n c X) (h2 : LsR τ A2 n2 c2 Y) (hn : n ≤ 131072) (hn2 : n2 ≤ 131072) (hs : ∀ b o, σ b = some o → w.heap[b]? = some o) (ht : ∀ b o, τ b = some o → w.heap[b]? = some o) : Calls Tryd.prog 47 #[.slice A n c, .slice A2 n2 c2] w (Ret (.bool (sameV X Y)) w) := by
  obtain ⟨ls, hl, rfl⟩ := h
  obtain ⟨ms, hm, rfl⟩ := h2
  exact rsame30_c w hl hm hn hn2 hs ht
end Go.Proofs.YtdmpodpdpncobaaDoor
