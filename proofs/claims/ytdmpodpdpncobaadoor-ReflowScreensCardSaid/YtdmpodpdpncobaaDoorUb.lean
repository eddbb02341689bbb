/-
  The walks of what joins rows. No condition.
-/
import Derived.Test.YtdmpodpdpncobaaDoorUnm
namespace Go.Proofs.YtdmpodpdpncobaaDoor
open Go.RowKit
set_option linter.unusedSimpArgs false
set_option linter.unusedVariables false
set_option maxRecDepth 100000 in
set_option maxHeartbeats 1000000 in
theorem rall_c {σ : Nat → Option Obj} {A : Option Addr} {n c : Nat} {ls : List LnA} (w : World) (h : LsA σ A n c ls) (hs : ∀ b o, σ b = some o → w.heap[b]? = some o) (hn : n ≤ 131072) (hb : ∀ x ∈ ls.map LnA.cells, x.length ≤ 1000) : Calls Tryd.prog 54 #[.slice A n c] w (fun e w' => ∃ v : SV, e = .returned v.v ∧ CsR v.σ v.A v.n v.c (allV (ls.map LnA.cells)) ∧ KOk w [.own v.σ] w') := by
 have hn63 := h.1.2.1
 have hc63 := h.1.2.2.1
 have hl1 := h.1.1
 have hXl : (ls.map LnA.cells).length = n := by rw [List.length_map]; exact hl1
 refine calls_T (vs := [.slice A n c]) (L0 := [(0, .slice A n c)]) Tryd.func54 rfl rfl rfl rfl (KOk.fr1 hs) ?_
 refine T.seq ?_
 refine T.region ?_
 refine TL.val (OpV.assign rfl) rfl ?_
 refine TL.nil ?_
 refine TE.next ?_
 refine T.seq ?_
 refine T.region ?_
 refine TL.val (OpV.assign rfl) rfl ?_
 refine TL.nil ?_
 refine TE.next ?_
 refine T.seq ?_
 refine T.seq ?_
 refine T.region ?_
 refine TL.val (OpV.assign rfl) rfl ?_
 refine TL.nil ?_
 refine TE.next ?_
 refine T.block ?_
 refine T.loop (ι := Nat × Option Addr × Nat × List Cl) (fun ⟨i, A3, c3, out⟩ => i ≤ n ∧ out ++ allV ((ls.map LnA.cells).drop i) = allV (ls.map LnA.cells) ∧ (A3 = none → c3 = 0) ∧ out.length ≤ i * 1000) (fun ⟨i, A3, c3, out⟩ => (n - i)) (fun ⟨i, A3, c3, out⟩ => [(0, .slice A n c), (3, .slice A3 out.length c3), (4, .int .i64 (i : Int))]) (fun ⟨i, A3, c3, out⟩ => [.row 58 16 A3 out.length c3 (fl out), .fr σ]) (0, none, 0, []) ⟨Nat.zero_le _, rfl, fun _ => rfl, Nat.zero_le _⟩ (.cons (t := 0) rfl <| .cons (t := 3) rfl <| .cons (t := 4) rfl <| .nil) ((fun wz kz => Perm.kle (.cons (by first | exact P0 | exact P1 | exact P2 | exact P3 | exact P4 | exact P5) (.cons (by first | exact P0 | exact P1 | exact P2 | exact P3 | exact P4 | exact P5) .nil)) wz (Kle.nilRow 58 16 wz kz))) ?_
 rintro ⟨i, A3, c3, out⟩ hR
 refine T.seq ?_
 refine T.seq ?_
 refine T.region ?_
 refine TL.val (OpV.move rfl) rfl ?_
 refine TL.val (OpV.move rfl) rfl ?_
 refine TL.val (OpV.len Tryd.underlying22 rfl) rfl ?_
 refine TL.val (OpV.lss rfl rfl) rfl ?_
 refine TL.nil ?_
 refine TE.next ?_
 refine T.cond rfl ?_ ?_
 ·
  intro ht10
  obtain ⟨q1, q2, q3, q4⟩ := hR
  have hi : i < n := by have h9 := of_decide_eq_true ht10; omega
  obtain ⟨x, hx⟩ := get_of_lt h.1.1 (show i < n by omega)
  obtain ⟨br, or, hA6, hat6⟩ := h.1.2.2.2.2 (by omega)
  obtain ⟨_, rfl, _, hatl⟩ := hat6 _ x hx
  have hcx := h.2 x (List.mem_of_getElem? hx)
  have hX : (ls.map LnA.cells)[i]? = some x.cells := by rw [List.getElem?_map, hx]; rfl
  have hxb := hb _ (List.mem_of_getElem? hX)
  have hxl := hcx.1
  have hxc := hcx.2.1
  have hxd := hcx.2.2.1
  obtain ⟨kn, hk1, hk2, hk3, hk4, hk5⟩ := kept1_take x.cells ((ls.map LnA.cells).drop (i + 1))
  have hdr := drop_get hX
  rw [hdr, allV] at q2
  refine T.skip ?_
  refine TE.next ?_
  refine T.seq ?_
  refine T.block ?_
  refine T.seq ?_
  refine T.region ?_
  refine TL.val (OpV.assign rfl) rfl ?_
  refine TL.nil ?_
  refine TE.next ?_
  refine T.block ?_
  refine T.loop (ι := Nat × Option Addr × Nat × List Cl) (fun ⟨k, A3b, c3b, out2⟩ => k ≤ x.n ∧ out2 = out ++ (kept1 x.cells ((ls.map LnA.cells).drop (i + 1))).take k ∧ (A3b = none → c3b = 0)) (fun ⟨k, A3b, c3b, out2⟩ => (x.n - k)) (fun ⟨k, A3b, c3b, out2⟩ => [(0, .slice A n c), (3, .slice A3b out2.length c3b), (4, .int .i64 (i : Int)), (5, .int .i64 (k : Int))]) (fun ⟨k, A3b, c3b, out2⟩ => [.row 58 16 A3b out2.length c3b (fl out2), .fr σ]) (0, A3, c3, out) ⟨Nat.zero_le _, by simp, q3⟩ (.cons (t := 0) rfl <| .cons (t := 3) rfl <| .cons (t := 4) rfl <| .cons (t := 5) rfl <| .nil) (Perm.kle (.cons (by first | exact P0 | exact P1 | exact P2 | exact P3 | exact P4 | exact P5) (.cons (by first | exact P0 | exact P1 | exact P2 | exact P3 | exact P4 | exact P5) .nil))) ?_
  rintro ⟨k, A3b, c3b, out2⟩ hR1
  refine T.seq ?_
  refine T.seq ?_
  refine T.region ?_
  refine TL.val (OpV.move rfl) rfl ?_
  refine TL.val (OpV.move rfl) rfl ?_
  refine TL.val (OpV.move rfl) rfl ?_
  refine TL.val (OpV.indexAddr se_22 rfl hA6 rfl (by rfl) (by first | omega | simp)) rfl ?_
  refine TL.val (OpV.fieldAddr rfl fo_65_0) rfl ?_
  refine TL.val (OpV.load pl_35 rfl (by first | exact Cel.blk P0 rfl | exact Cel.blk P1 rfl | exact Cel.blk P2 rfl | exact Cel.blk P3 rfl | exact Cel.blk P4 rfl | exact Cel.frA (hatl _ _ rfl) | exact Cel.frA (hatl2 _ _ rfl) | exact Cel.frA (hatq _ _ rfl) | exact Cel.frA (hatz _ _ rfl))) rfl ?_
  refine TL.val (OpV.len Tryd.underlying35 rfl) rfl ?_
  refine TL.val (OpV.lss rfl rfl) rfl ?_
  refine TL.nil ?_
  refine TE.sub (.cons (t := 0) rfl <| .cons (t := 3) rfl <| .cons (t := 4) rfl <| .cons (t := 5) rfl <| .cons (t := 20) rfl <| .nil) ?_
  refine TE.next ?_
  refine T.cond rfl ?_ ?_
  ·
   intro ht20
   obtain ⟨p1, p2, p3⟩ := hR1
   have hk : k < x.n := by have h9 := of_decide_eq_true ht20; omega
   obtain ⟨q, hq⟩ := get_of_lt hcx.1 hk
   obtain ⟨bq, oq, hAq, hatq0⟩ := hcx.pos (by omega)
   have hatq := hatq0 k q hq
   have hol : out2.length ≤ out.length + k := by rw [p2, List.length_append, List.length_take]; omega
   refine T.skip ?_
   refine TE.next ?_
   refine T.seq ?_
   refine T.block ?_
   refine T.seq ?_
   refine T.region ?_
   refine TL.val (OpV.move rfl) rfl ?_
   refine TL.val (OpV.add rfl rfl (by first | exact IntWalk.i64_in _ ⟨by omega, by omega⟩ | rfl)) rfl ?_
   refine TL.val (OpV.move rfl) rfl ?_
   refine TL.val (OpV.len Tryd.underlying22 rfl) rfl ?_
   refine TL.val (OpV.lss rfl rfl) rfl ?_
   refine TL.val (OpV.move rfl) rfl ?_
   refine TL.part (t := 28) rfl ?_ ?_
   ·
    intro hg28
    have hi2 : i + 1 < n := by have h9 := of_decide_eq_true hg28; omega
    obtain ⟨x2, hx2⟩ := get_of_lt h.1.1 (show (i + 1) < n by omega)
    obtain ⟨br2, or2, hA62, hat62⟩ := h.1.2.2.2.2 (by omega)
    obtain ⟨_, rfl, _, hatl2⟩ := hat62 _ x2 hx2
    have hcx2 := h.2 x2 (List.mem_of_getElem? hx2)
    have hX2 : (ls.map LnA.cells)[i + 1]? = some x2.cells := by rw [List.getElem?_map, hx2]; rfl
    have hkn := hk5 _ _ (drop_get hX2)
    refine TL.open rfl rfl ?_
    refine TL.val (OpV.move rfl) rfl ?_
    refine TL.open rfl rfl ?_
    refine TL.val (OpV.move rfl) rfl ?_
    refine TL.open rfl rfl ?_
    refine TL.val (OpV.move rfl) rfl ?_
    refine TL.open rfl rfl ?_
    refine TL.val (OpV.indexAddr se_22 rfl hA6 rfl (by rfl) (by first | omega | simp)) rfl ?_
    refine TL.open rfl rfl ?_
    refine TL.val (OpV.fieldAddr rfl fo_65_0) rfl ?_
    refine TL.open rfl rfl ?_
    refine TL.val (OpV.load pl_35 rfl (by first | exact Cel.blk P0 rfl | exact Cel.blk P1 rfl | exact Cel.blk P2 rfl | exact Cel.blk P3 rfl | exact Cel.blk P4 rfl | exact Cel.frA (hatl _ _ rfl) | exact Cel.frA (hatl2 _ _ rfl) | exact Cel.frA (hatq _ _ rfl) | exact Cel.frA (hatz _ _ rfl))) rfl ?_
    refine TL.open rfl rfl ?_
    refine TL.val (OpV.len Tryd.underlying35 rfl) rfl ?_
    refine TL.open rfl rfl ?_
    refine TL.val (OpV.sub rfl rfl (by first | exact IntWalk.i64_in _ ⟨by omega, by omega⟩ | rfl)) rfl ?_
    refine TL.open rfl rfl ?_
    refine TL.val (OpV.eql rfl rfl) rfl ?_
    refine TL.val ((by first | exact OpV.pick_t rfl rfl | exact OpV.pick_f rfl rfl)) rfl ?_
    refine TL.val (OpV.move rfl) rfl ?_
    refine TL.part (t := 39) rfl ?_ ?_
    ·
     intro hg39
     have hkl : k + 1 = x.n := by have h9 := eq_of_beq hg39; omega
     rw [keptN_some (show x.cells[x.cells.length - 1]? = some q by rw [show x.cells.length - 1 = k by omega]; exact hq)] at hkn
     refine TL.open rfl rfl ?_
     refine TL.val (OpV.move rfl) rfl ?_
     refine TL.open rfl rfl ?_
     refine TL.val (OpV.move rfl) rfl ?_
     refine TL.open rfl rfl ?_
     refine TL.val (OpV.indexAddr se_22 rfl hA6 rfl (by rfl) (by first | omega | simp)) rfl ?_
     refine TL.open rfl rfl ?_
     refine TL.val (OpV.fieldAddr rfl fo_65_0) rfl ?_
     refine TL.open rfl rfl ?_
     refine TL.val (OpV.load pl_35 rfl (by first | exact Cel.blk P0 rfl | exact Cel.blk P1 rfl | exact Cel.blk P2 rfl | exact Cel.blk P3 rfl | exact Cel.blk P4 rfl | exact Cel.frA (hatl _ _ rfl) | exact Cel.frA (hatl2 _ _ rfl) | exact Cel.frA (hatq _ _ rfl) | exact Cel.frA (hatz _ _ rfl))) rfl ?_
     refine TL.open rfl rfl ?_
     refine TL.val (OpV.move rfl) rfl ?_
     refine TL.open rfl rfl ?_
     refine TL.val (OpV.indexAddr se_35 rfl hAq rfl (by rfl) (by first | omega | simp)) rfl ?_
     refine TL.open rfl rfl ?_
     refine TL.val (OpV.loadA ag_58 rfl (by first | exact Cels.blk P0 rfl | exact Cels.blk P1 rfl | exact Cels.blk P2 rfl | exact Cels.blk P3 rfl | exact Cels.blk P4 rfl | exact Cels.frA hatl rfl | exact Cels.frA hatl2 rfl | exact Cels.frA hatq rfl | exact Cels.frA hatz rfl)) rfl ?_
     refine TL.open rfl rfl ?_
     refine TL.call (g := 59) rfl go_59 rfl (fun w1 k1 => empty_c q w1) rfl ?_
     refine TL.val ((by first | exact OpV.pick_t rfl rfl | exact OpV.pick_f rfl rfl)) rfl ?_
     refine TL.val (OpV.move rfl) rfl ?_
     refine TL.part (t := 50) rfl ?_ ?_
     ·
      intro hg50
      refine TL.open rfl rfl ?_
      refine TL.val (OpV.move rfl) rfl ?_
      refine TL.open rfl rfl ?_
      refine TL.val (OpV.move rfl) rfl ?_
      refine TL.open rfl rfl ?_
      refine TL.val (OpV.add rfl rfl (by first | exact IntWalk.i64_in _ ⟨by omega, by omega⟩ | rfl)) rfl ?_
      refine TL.open rfl rfl ?_
      refine TL.val (OpV.indexAddr (j := (i + 1)) se_22 rfl hA62 rfl (by omega) (by omega)) rfl ?_
      refine TL.open rfl rfl ?_
      refine TL.val (OpV.fieldAddr rfl fo_65_0) rfl ?_
      refine TL.open rfl rfl ?_
      refine TL.val (OpV.load pl_35 rfl (by first | exact Cel.blk P0 rfl | exact Cel.blk P1 rfl | exact Cel.blk P2 rfl | exact Cel.blk P3 rfl | exact Cel.blk P4 rfl | exact Cel.frA (hatl _ _ rfl) | exact Cel.frA (hatl2 _ _ rfl) | exact Cel.frA (hatq _ _ rfl) | exact Cel.frA (hatz _ _ rfl))) rfl ?_
      refine TL.open rfl rfl ?_
      refine TL.val (OpV.len Tryd.underlying35 rfl) rfl ?_
      refine TL.open rfl rfl ?_
      refine TL.val (OpV.gtr rfl rfl) rfl ?_
      refine TL.val ((by first | exact OpV.pick_t rfl rfl | exact OpV.pick_f rfl rfl)) rfl ?_
      refine TL.val (OpV.move rfl) rfl ?_
      refine TL.part (t := 60) rfl ?_ ?_
      ·
       intro hg60
       have h0y : 0 < x2.n := by have h9 := of_decide_eq_true hg60; omega
       obtain ⟨z, hz⟩ := get_of_lt hcx2.1 h0y
       obtain ⟨bz, oz, hAz, hatz0⟩ := hcx2.pos h0y
       have hatz := hatz0 0 z hz
       rw [wideH_get hz, hg50, Bool.true_and] at hkn
       refine TL.open rfl rfl ?_
       refine TL.val (OpV.move rfl) rfl ?_
       refine TL.open rfl rfl ?_
       refine TL.val (OpV.move rfl) rfl ?_
       refine TL.open rfl rfl ?_
       refine TL.val (OpV.add rfl rfl (by first | exact IntWalk.i64_in _ ⟨by omega, by omega⟩ | rfl)) rfl ?_
       refine TL.open rfl rfl ?_
       refine TL.val (OpV.indexAddr (j := (i + 1)) se_22 rfl hA62 rfl (by omega) (by omega)) rfl ?_
       refine TL.open rfl rfl ?_
       refine TL.val (OpV.fieldAddr rfl fo_65_0) rfl ?_
       refine TL.open rfl rfl ?_
       refine TL.val (OpV.load pl_35 rfl (by first | exact Cel.blk P0 rfl | exact Cel.blk P1 rfl | exact Cel.blk P2 rfl | exact Cel.blk P3 rfl | exact Cel.blk P4 rfl | exact Cel.frA (hatl _ _ rfl) | exact Cel.frA (hatl2 _ _ rfl) | exact Cel.frA (hatq _ _ rfl) | exact Cel.frA (hatz _ _ rfl))) rfl ?_
       refine TL.open rfl rfl ?_
       refine TL.val (OpV.indexAddr (j := 0) se_35 rfl hAz rfl rfl (by omega)) rfl ?_
       refine TL.open rfl rfl ?_
       refine TL.val (OpV.fieldAddr rfl fo_58_2) rfl ?_
       refine TL.open rfl rfl ?_
       refine TL.val (OpV.load pl_3 rfl (by first | exact Cel.blk P0 rfl | exact Cel.blk P1 rfl | exact Cel.blk P2 rfl | exact Cel.blk P3 rfl | exact Cel.blk P4 rfl | exact Cel.frA (hatl _ _ rfl) | exact Cel.frA (hatl2 _ _ rfl) | exact Cel.frA (hatq _ _ rfl) | exact Cel.frA (hatz _ _ rfl))) rfl ?_
       refine TL.open rfl rfl ?_
       refine TL.val (OpV.eql rfl rfl) rfl ?_
       refine TL.val ((by first | exact OpV.pick_t rfl rfl | exact OpV.pick_f rfl rfl)) rfl ?_
       refine TL.val (OpV.assign rfl) rfl ?_
       refine TL.nil ?_
       refine TE.sub (.cons (t := 0) rfl <| .cons (t := 3) rfl <| .cons (t := 4) rfl <| .cons (t := 5) rfl <| .cons (t := 6) rfl <| .nil) ?_
       refine TE.next ?_
       refine T.seq ?_
       refine T.region ?_
       refine TL.val (OpV.move rfl) rfl ?_
       refine TL.val (OpV.not rfl) rfl ?_
       refine TL.nil ?_
       refine TE.next ?_
       refine T.cond rfl ?_ ?_
       ·
        intro ht73
        rw [show (z.w == 2) = false by simpa using ht73, if_neg (by decide)] at hkn
        have hlt : k < kn := by omega
        refine T.region ?_
        refine TL.val (OpV.move rfl) rfl ?_
        refine TL.val (OpV.move rfl) rfl ?_
        refine TL.val (OpV.move rfl) rfl ?_
        refine TL.val (OpV.indexAddr se_22 rfl hA6 rfl (by rfl) (by first | omega | simp)) rfl ?_
        refine TL.val (OpV.fieldAddr rfl fo_65_0) rfl ?_
        refine TL.val (OpV.load pl_35 rfl (by first | exact Cel.blk P0 rfl | exact Cel.blk P1 rfl | exact Cel.blk P2 rfl | exact Cel.blk P3 rfl | exact Cel.blk P4 rfl | exact Cel.frA (hatl _ _ rfl) | exact Cel.frA (hatl2 _ _ rfl) | exact Cel.frA (hatq _ _ rfl) | exact Cel.frA (hatz _ _ rfl))) rfl ?_
        refine TL.val (OpV.move rfl) rfl ?_
        refine TL.val (OpV.indexAddr se_35 rfl hAq rfl (by rfl) (by first | omega | simp)) rfl ?_
        refine TL.val (OpV.loadA ag_58 rfl (by first | exact Cels.blk P0 rfl | exact Cels.blk P1 rfl | exact Cels.blk P2 rfl | exact Cels.blk P3 rfl | exact Cels.blk P4 rfl | exact Cels.frA hatl rfl | exact Cels.frA hatl2 rfl | exact Cels.frA hatq rfl | exact Cels.frA hatz rfl)) rfl ?_
        refine TL.slit (qs := #[(0, _)]) (fun _ f => by simp only [List.map_toArray, List.map_cons, List.map_nil]; rw [f.ev (x := .tmp 82) rfl]) (sl_35_1_0 q) rfl ?_
        intro b83
        obtain ⟨ti84, hi84, hz84, hs84, hb84⟩ := info_parts inf_58
        refine TL.append rfl rfl Tryd.underlying35 hi84 hz84 hs84 hb84 rfl (by omega) (by first | exact P0 | exact P1 | exact P2 | exact P3 | exact P4) (by first | exact Src.nil | exact Src.blk P0 rfl | exact Src.blk P1 rfl | exact Src.blk P2 rfl | exact Src.blk P3 rfl | exact Src.blk P4 rfl | exact Src.row P0 | exact Src.row P1 | exact Src.row P2 | exact Src.row P3 | exact Src.row P4) (fun h => by cases h) rfl (by omega) (by omega) rfl ?_
        clear hi84 hz84 hs84 hb84 ti84
        intro A84 c84 hn84
        refine TL.val (OpV.assign rfl) rfl ?_
        refine TL.nil ?_
        refine TE.out ?_
        refine TE.sub (.cons (t := 0) rfl <| .cons (t := 3) rfl <| .cons (t := 4) rfl <| .cons (t := 5) rfl <| .nil) ?_
        refine TE.next ?_
        refine T.region ?_
        refine TL.val (OpV.move rfl) rfl ?_
        refine TL.val (OpV.add rfl rfl (by first | exact IntWalk.i64_in _ ⟨by omega, by omega⟩ | rfl)) rfl ?_
        refine TL.val (OpV.assign rfl) rfl ?_
        refine TL.nil ?_
        exact TE.meet (k + 1, A84, c84, out2 ++ [q]) ⟨⟨by omega, by rw [p2, List.append_assoc, hk3, take_snoc (l := x.cells.take kn) (i := k) (x := q) (by rw [List.getElem?_take, if_pos hlt]; exact hq)], hn84⟩, by simp only; omega⟩ (.cons (t := 0) (by first | rfl | (simp [lk]; done)) <| .cons (t := 3) (by simp only [List.length_append, List.length_cons, List.length_nil]; rfl) <| .cons (t := 4) (by first | rfl | (simp [lk]; done)) <| .cons (t := 5) (by first | rfl | (simp [lk]; done)) <| .nil) ((by simp only [fl_append, List.length_append, List.length_cons, List.length_nil]; exact Perm.kle (.cons (by first | exact P0 | exact P1 | exact P2 | exact P3 | exact P4 | exact P5) (.cons (by first | exact P0 | exact P1 | exact P2 | exact P3 | exact P4 | exact P5) .nil))))
       ·
        intro ht73
        rw [show (z.w == 2) = true by simpa using ht73, if_pos rfl] at hkn
        have heq : kn = k := by omega
        refine T.skip ?_
        refine TE.out ?_
        refine TE.next ?_
        refine T.region ?_
        refine TL.val (OpV.move rfl) rfl ?_
        refine TL.val (OpV.add rfl rfl (by first | exact IntWalk.i64_in _ ⟨by omega, by omega⟩ | rfl)) rfl ?_
        refine TL.val (OpV.assign rfl) rfl ?_
        refine TL.nil ?_
        exact TE.meet (k + 1, A3b, c3b, out2) ⟨⟨by omega, by rw [p2, hk3, heq, List.take_take, List.take_take, Nat.min_self, Nat.min_eq_right (by omega)], p3⟩, by simp only; omega⟩ (.cons (t := 0) (by first | rfl | (simp [lk]; done)) <| .cons (t := 3) (by first | rfl | (simp [lk]; done)) <| .cons (t := 4) (by first | rfl | (simp [lk]; done)) <| .cons (t := 5) (by first | rfl | (simp [lk]; done)) <| .nil) (Perm.kle (.cons (by first | exact P0 | exact P1 | exact P2 | exact P3 | exact P4 | exact P5) (.cons (by first | exact P0 | exact P1 | exact P2 | exact P3 | exact P4 | exact P5) .nil)))
      ·
       intro hg60
       rw [wideH_nil (by have h9 := of_decide_eq_false hg60; have h8 := hcx2.1; omega), Bool.and_false, if_neg (by decide)] at hkn
       have hlt : k < kn := by omega
       refine TL.shut rfl rfl ?_
       refine TL.shut rfl rfl ?_
       refine TL.shut rfl rfl ?_
       refine TL.shut rfl rfl ?_
       refine TL.shut rfl rfl ?_
       refine TL.shut rfl rfl ?_
       refine TL.shut rfl rfl ?_
       refine TL.shut rfl rfl ?_
       refine TL.shut rfl rfl ?_
       refine TL.shut rfl rfl ?_
       refine TL.val ((by first | exact OpV.pick_t rfl rfl | exact OpV.pick_f rfl rfl)) rfl ?_
       refine TL.val (OpV.assign rfl) rfl ?_
       refine TL.nil ?_
       refine TE.sub (.cons (t := 0) rfl <| .cons (t := 3) rfl <| .cons (t := 4) rfl <| .cons (t := 5) rfl <| .cons (t := 6) rfl <| .nil) ?_
       refine TE.next ?_
       refine T.seq ?_
       refine T.region ?_
       refine TL.val (OpV.move rfl) rfl ?_
       refine TL.val (OpV.not rfl) rfl ?_
       refine TL.nil ?_
       refine TE.next ?_
       refine T.yes rfl ?_
       refine T.region ?_
       refine TL.val (OpV.move rfl) rfl ?_
       refine TL.val (OpV.move rfl) rfl ?_
       refine TL.val (OpV.move rfl) rfl ?_
       refine TL.val (OpV.indexAddr se_22 rfl hA6 rfl (by rfl) (by first | omega | simp)) rfl ?_
       refine TL.val (OpV.fieldAddr rfl fo_65_0) rfl ?_
       refine TL.val (OpV.load pl_35 rfl (by first | exact Cel.blk P0 rfl | exact Cel.blk P1 rfl | exact Cel.blk P2 rfl | exact Cel.blk P3 rfl | exact Cel.blk P4 rfl | exact Cel.frA (hatl _ _ rfl) | exact Cel.frA (hatl2 _ _ rfl) | exact Cel.frA (hatq _ _ rfl) | exact Cel.frA (hatz _ _ rfl))) rfl ?_
       refine TL.val (OpV.move rfl) rfl ?_
       refine TL.val (OpV.indexAddr se_35 rfl hAq rfl (by rfl) (by first | omega | simp)) rfl ?_
       refine TL.val (OpV.loadA ag_58 rfl (by first | exact Cels.blk P0 rfl | exact Cels.blk P1 rfl | exact Cels.blk P2 rfl | exact Cels.blk P3 rfl | exact Cels.blk P4 rfl | exact Cels.frA hatl rfl | exact Cels.frA hatl2 rfl | exact Cels.frA hatq rfl | exact Cels.frA hatz rfl)) rfl ?_
       refine TL.slit (qs := #[(0, _)]) (fun _ f => by simp only [List.map_toArray, List.map_cons, List.map_nil]; rw [f.ev (x := .tmp 82) rfl]) (sl_35_1_0 q) rfl ?_
       intro b83
       obtain ⟨ti84, hi84, hz84, hs84, hb84⟩ := info_parts inf_58
       refine TL.append rfl rfl Tryd.underlying35 hi84 hz84 hs84 hb84 rfl (by omega) (by first | exact P0 | exact P1 | exact P2 | exact P3 | exact P4) (by first | exact Src.nil | exact Src.blk P0 rfl | exact Src.blk P1 rfl | exact Src.blk P2 rfl | exact Src.blk P3 rfl | exact Src.blk P4 rfl | exact Src.row P0 | exact Src.row P1 | exact Src.row P2 | exact Src.row P3 | exact Src.row P4) (fun h => by cases h) rfl (by omega) (by omega) rfl ?_
       clear hi84 hz84 hs84 hb84 ti84
       intro A84 c84 hn84
       refine TL.val (OpV.assign rfl) rfl ?_
       refine TL.nil ?_
       refine TE.out ?_
       refine TE.sub (.cons (t := 0) rfl <| .cons (t := 3) rfl <| .cons (t := 4) rfl <| .cons (t := 5) rfl <| .nil) ?_
       refine TE.next ?_
       refine T.region ?_
       refine TL.val (OpV.move rfl) rfl ?_
       refine TL.val (OpV.add rfl rfl (by first | exact IntWalk.i64_in _ ⟨by omega, by omega⟩ | rfl)) rfl ?_
       refine TL.val (OpV.assign rfl) rfl ?_
       refine TL.nil ?_
       exact TE.meet (k + 1, A84, c84, out2 ++ [q]) ⟨⟨by omega, by rw [p2, List.append_assoc, hk3, take_snoc (l := x.cells.take kn) (i := k) (x := q) (by rw [List.getElem?_take, if_pos hlt]; exact hq)], hn84⟩, by simp only; omega⟩ (.cons (t := 0) (by first | rfl | (simp [lk]; done)) <| .cons (t := 3) (by simp only [List.length_append, List.length_cons, List.length_nil]; rfl) <| .cons (t := 4) (by first | rfl | (simp [lk]; done)) <| .cons (t := 5) (by first | rfl | (simp [lk]; done)) <| .nil) ((by simp only [fl_append, List.length_append, List.length_cons, List.length_nil]; exact Perm.kle (.cons (by first | exact P0 | exact P1 | exact P2 | exact P3 | exact P4 | exact P5) (.cons (by first | exact P0 | exact P1 | exact P2 | exact P3 | exact P4 | exact P5) .nil))))
     ·
      intro hg50
      rw [hg50, Bool.false_and, if_neg (by decide)] at hkn
      have hlt : k < kn := by omega
      refine TL.shut rfl rfl ?_
      refine TL.shut rfl rfl ?_
      refine TL.shut rfl rfl ?_
      refine TL.shut rfl rfl ?_
      refine TL.shut rfl rfl ?_
      refine TL.shut rfl rfl ?_
      refine TL.shut rfl rfl ?_
      refine TL.shut rfl rfl ?_
      refine TL.val ((by first | exact OpV.pick_t rfl rfl | exact OpV.pick_f rfl rfl)) rfl ?_
      refine TL.val (OpV.move rfl) rfl ?_
      refine TL.shut rfl rfl ?_
      refine TL.shut rfl rfl ?_
      refine TL.shut rfl rfl ?_
      refine TL.shut rfl rfl ?_
      refine TL.shut rfl rfl ?_
      refine TL.shut rfl rfl ?_
      refine TL.shut rfl rfl ?_
      refine TL.shut rfl rfl ?_
      refine TL.shut rfl rfl ?_
      refine TL.shut rfl rfl ?_
      refine TL.val ((by first | exact OpV.pick_t rfl rfl | exact OpV.pick_f rfl rfl)) rfl ?_
      refine TL.val (OpV.assign rfl) rfl ?_
      refine TL.nil ?_
      refine TE.sub (.cons (t := 0) rfl <| .cons (t := 3) rfl <| .cons (t := 4) rfl <| .cons (t := 5) rfl <| .cons (t := 6) rfl <| .nil) ?_
      refine TE.next ?_
      refine T.seq ?_
      refine T.region ?_
      refine TL.val (OpV.move rfl) rfl ?_
      refine TL.val (OpV.not rfl) rfl ?_
      refine TL.nil ?_
      refine TE.next ?_
      refine T.yes rfl ?_
      refine T.region ?_
      refine TL.val (OpV.move rfl) rfl ?_
      refine TL.val (OpV.move rfl) rfl ?_
      refine TL.val (OpV.move rfl) rfl ?_
      refine TL.val (OpV.indexAddr se_22 rfl hA6 rfl (by rfl) (by first | omega | simp)) rfl ?_
      refine TL.val (OpV.fieldAddr rfl fo_65_0) rfl ?_
      refine TL.val (OpV.load pl_35 rfl (by first | exact Cel.blk P0 rfl | exact Cel.blk P1 rfl | exact Cel.blk P2 rfl | exact Cel.blk P3 rfl | exact Cel.blk P4 rfl | exact Cel.frA (hatl _ _ rfl) | exact Cel.frA (hatl2 _ _ rfl) | exact Cel.frA (hatq _ _ rfl) | exact Cel.frA (hatz _ _ rfl))) rfl ?_
      refine TL.val (OpV.move rfl) rfl ?_
      refine TL.val (OpV.indexAddr se_35 rfl hAq rfl (by rfl) (by first | omega | simp)) rfl ?_
      refine TL.val (OpV.loadA ag_58 rfl (by first | exact Cels.blk P0 rfl | exact Cels.blk P1 rfl | exact Cels.blk P2 rfl | exact Cels.blk P3 rfl | exact Cels.blk P4 rfl | exact Cels.frA hatl rfl | exact Cels.frA hatl2 rfl | exact Cels.frA hatq rfl | exact Cels.frA hatz rfl)) rfl ?_
      refine TL.slit (qs := #[(0, _)]) (fun _ f => by simp only [List.map_toArray, List.map_cons, List.map_nil]; rw [f.ev (x := .tmp 82) rfl]) (sl_35_1_0 q) rfl ?_
      intro b83
      obtain ⟨ti84, hi84, hz84, hs84, hb84⟩ := info_parts inf_58
      refine TL.append rfl rfl Tryd.underlying35 hi84 hz84 hs84 hb84 rfl (by omega) (by first | exact P0 | exact P1 | exact P2 | exact P3 | exact P4) (by first | exact Src.nil | exact Src.blk P0 rfl | exact Src.blk P1 rfl | exact Src.blk P2 rfl | exact Src.blk P3 rfl | exact Src.blk P4 rfl | exact Src.row P0 | exact Src.row P1 | exact Src.row P2 | exact Src.row P3 | exact Src.row P4) (fun h => by cases h) rfl (by omega) (by omega) rfl ?_
      clear hi84 hz84 hs84 hb84 ti84
      intro A84 c84 hn84
      refine TL.val (OpV.assign rfl) rfl ?_
      refine TL.nil ?_
      refine TE.out ?_
      refine TE.sub (.cons (t := 0) rfl <| .cons (t := 3) rfl <| .cons (t := 4) rfl <| .cons (t := 5) rfl <| .nil) ?_
      refine TE.next ?_
      refine T.region ?_
      refine TL.val (OpV.move rfl) rfl ?_
      refine TL.val (OpV.add rfl rfl (by first | exact IntWalk.i64_in _ ⟨by omega, by omega⟩ | rfl)) rfl ?_
      refine TL.val (OpV.assign rfl) rfl ?_
      refine TL.nil ?_
      exact TE.meet (k + 1, A84, c84, out2 ++ [q]) ⟨⟨by omega, by rw [p2, List.append_assoc, hk3, take_snoc (l := x.cells.take kn) (i := k) (x := q) (by rw [List.getElem?_take, if_pos hlt]; exact hq)], hn84⟩, by simp only; omega⟩ (.cons (t := 0) (by first | rfl | (simp [lk]; done)) <| .cons (t := 3) (by simp only [List.length_append, List.length_cons, List.length_nil]; rfl) <| .cons (t := 4) (by first | rfl | (simp [lk]; done)) <| .cons (t := 5) (by first | rfl | (simp [lk]; done)) <| .nil) ((by simp only [fl_append, List.length_append, List.length_cons, List.length_nil]; exact Perm.kle (.cons (by first | exact P0 | exact P1 | exact P2 | exact P3 | exact P4 | exact P5) (.cons (by first | exact P0 | exact P1 | exact P2 | exact P3 | exact P4 | exact P5) .nil))))
    ·
     intro hg39
     have hlt : k < kn := by have h9 := beq_eq_false_iff_ne.1 hg39; omega
     refine TL.shut rfl rfl ?_
     refine TL.shut rfl rfl ?_
     refine TL.shut rfl rfl ?_
     refine TL.shut rfl rfl ?_
     refine TL.shut rfl rfl ?_
     refine TL.shut rfl rfl ?_
     refine TL.shut rfl rfl ?_
     refine TL.shut rfl rfl ?_
     refine TL.shut rfl rfl ?_
     refine TL.val ((by first | exact OpV.pick_t rfl rfl | exact OpV.pick_f rfl rfl)) rfl ?_
     refine TL.val (OpV.move rfl) rfl ?_
     refine TL.shut rfl rfl ?_
     refine TL.shut rfl rfl ?_
     refine TL.shut rfl rfl ?_
     refine TL.shut rfl rfl ?_
     refine TL.shut rfl rfl ?_
     refine TL.shut rfl rfl ?_
     refine TL.shut rfl rfl ?_
     refine TL.shut rfl rfl ?_
     refine TL.val ((by first | exact OpV.pick_t rfl rfl | exact OpV.pick_f rfl rfl)) rfl ?_
     refine TL.val (OpV.move rfl) rfl ?_
     refine TL.shut rfl rfl ?_
     refine TL.shut rfl rfl ?_
     refine TL.shut rfl rfl ?_
     refine TL.shut rfl rfl ?_
     refine TL.shut rfl rfl ?_
     refine TL.shut rfl rfl ?_
     refine TL.shut rfl rfl ?_
     refine TL.shut rfl rfl ?_
     refine TL.shut rfl rfl ?_
     refine TL.shut rfl rfl ?_
     refine TL.val ((by first | exact OpV.pick_t rfl rfl | exact OpV.pick_f rfl rfl)) rfl ?_
     refine TL.val (OpV.assign rfl) rfl ?_
     refine TL.nil ?_
     refine TE.sub (.cons (t := 0) rfl <| .cons (t := 3) rfl <| .cons (t := 4) rfl <| .cons (t := 5) rfl <| .cons (t := 6) rfl <| .nil) ?_
     refine TE.next ?_
     refine T.seq ?_
     refine T.region ?_
     refine TL.val (OpV.move rfl) rfl ?_
     refine TL.val (OpV.not rfl) rfl ?_
     refine TL.nil ?_
     refine TE.next ?_
     refine T.yes rfl ?_
     refine T.region ?_
     refine TL.val (OpV.move rfl) rfl ?_
     refine TL.val (OpV.move rfl) rfl ?_
     refine TL.val (OpV.move rfl) rfl ?_
     refine TL.val (OpV.indexAddr se_22 rfl hA6 rfl (by rfl) (by first | omega | simp)) rfl ?_
     refine TL.val (OpV.fieldAddr rfl fo_65_0) rfl ?_
     refine TL.val (OpV.load pl_35 rfl (by first | exact Cel.blk P0 rfl | exact Cel.blk P1 rfl | exact Cel.blk P2 rfl | exact Cel.blk P3 rfl | exact Cel.blk P4 rfl | exact Cel.frA (hatl _ _ rfl) | exact Cel.frA (hatl2 _ _ rfl) | exact Cel.frA (hatq _ _ rfl) | exact Cel.frA (hatz _ _ rfl))) rfl ?_
     refine TL.val (OpV.move rfl) rfl ?_
     refine TL.val (OpV.indexAddr se_35 rfl hAq rfl (by rfl) (by first | omega | simp)) rfl ?_
     refine TL.val (OpV.loadA ag_58 rfl (by first | exact Cels.blk P0 rfl | exact Cels.blk P1 rfl | exact Cels.blk P2 rfl | exact Cels.blk P3 rfl | exact Cels.blk P4 rfl | exact Cels.frA hatl rfl | exact Cels.frA hatl2 rfl | exact Cels.frA hatq rfl | exact Cels.frA hatz rfl)) rfl ?_
     refine TL.slit (qs := #[(0, _)]) (fun _ f => by simp only [List.map_toArray, List.map_cons, List.map_nil]; rw [f.ev (x := .tmp 82) rfl]) (sl_35_1_0 q) rfl ?_
     intro b83
     obtain ⟨ti84, hi84, hz84, hs84, hb84⟩ := info_parts inf_58
     refine TL.append rfl rfl Tryd.underlying35 hi84 hz84 hs84 hb84 rfl (by omega) (by first | exact P0 | exact P1 | exact P2 | exact P3 | exact P4) (by first | exact Src.nil | exact Src.blk P0 rfl | exact Src.blk P1 rfl | exact Src.blk P2 rfl | exact Src.blk P3 rfl | exact Src.blk P4 rfl | exact Src.row P0 | exact Src.row P1 | exact Src.row P2 | exact Src.row P3 | exact Src.row P4) (fun h => by cases h) rfl (by omega) (by omega) rfl ?_
     clear hi84 hz84 hs84 hb84 ti84
     intro A84 c84 hn84
     refine TL.val (OpV.assign rfl) rfl ?_
     refine TL.nil ?_
     refine TE.out ?_
     refine TE.sub (.cons (t := 0) rfl <| .cons (t := 3) rfl <| .cons (t := 4) rfl <| .cons (t := 5) rfl <| .nil) ?_
     refine TE.next ?_
     refine T.region ?_
     refine TL.val (OpV.move rfl) rfl ?_
     refine TL.val (OpV.add rfl rfl (by first | exact IntWalk.i64_in _ ⟨by omega, by omega⟩ | rfl)) rfl ?_
     refine TL.val (OpV.assign rfl) rfl ?_
     refine TL.nil ?_
     exact TE.meet (k + 1, A84, c84, out2 ++ [q]) ⟨⟨by omega, by rw [p2, List.append_assoc, hk3, take_snoc (l := x.cells.take kn) (i := k) (x := q) (by rw [List.getElem?_take, if_pos hlt]; exact hq)], hn84⟩, by simp only; omega⟩ (.cons (t := 0) (by first | rfl | (simp [lk]; done)) <| .cons (t := 3) (by simp only [List.length_append, List.length_cons, List.length_nil]; rfl) <| .cons (t := 4) (by first | rfl | (simp [lk]; done)) <| .cons (t := 5) (by first | rfl | (simp [lk]; done)) <| .nil) ((by simp only [fl_append, List.length_append, List.length_cons, List.length_nil]; exact Perm.kle (.cons (by first | exact P0 | exact P1 | exact P2 | exact P3 | exact P4 | exact P5) (.cons (by first | exact P0 | exact P1 | exact P2 | exact P3 | exact P4 | exact P5) .nil))))
   ·
    intro hg28
    have hlt : k < kn := by have h9 := of_decide_eq_false hg28; rw [hk4 (by rw [List.drop_eq_nil_iff]; omega)]; omega
    refine TL.shut rfl rfl ?_
    refine TL.shut rfl rfl ?_
    refine TL.shut rfl rfl ?_
    refine TL.shut rfl rfl ?_
    refine TL.shut rfl rfl ?_
    refine TL.shut rfl rfl ?_
    refine TL.shut rfl rfl ?_
    refine TL.shut rfl rfl ?_
    refine TL.shut rfl rfl ?_
    refine TL.val ((by first | exact OpV.pick_t rfl rfl | exact OpV.pick_f rfl rfl)) rfl ?_
    refine TL.val (OpV.move rfl) rfl ?_
    refine TL.shut rfl rfl ?_
    refine TL.shut rfl rfl ?_
    refine TL.shut rfl rfl ?_
    refine TL.shut rfl rfl ?_
    refine TL.shut rfl rfl ?_
    refine TL.shut rfl rfl ?_
    refine TL.shut rfl rfl ?_
    refine TL.shut rfl rfl ?_
    refine TL.shut rfl rfl ?_
    refine TL.val ((by first | exact OpV.pick_t rfl rfl | exact OpV.pick_f rfl rfl)) rfl ?_
    refine TL.val (OpV.move rfl) rfl ?_
    refine TL.shut rfl rfl ?_
    refine TL.shut rfl rfl ?_
    refine TL.shut rfl rfl ?_
    refine TL.shut rfl rfl ?_
    refine TL.shut rfl rfl ?_
    refine TL.shut rfl rfl ?_
    refine TL.shut rfl rfl ?_
    refine TL.shut rfl rfl ?_
    refine TL.val ((by first | exact OpV.pick_t rfl rfl | exact OpV.pick_f rfl rfl)) rfl ?_
    refine TL.val (OpV.move rfl) rfl ?_
    refine TL.shut rfl rfl ?_
    refine TL.shut rfl rfl ?_
    refine TL.shut rfl rfl ?_
    refine TL.shut rfl rfl ?_
    refine TL.shut rfl rfl ?_
    refine TL.shut rfl rfl ?_
    refine TL.shut rfl rfl ?_
    refine TL.shut rfl rfl ?_
    refine TL.shut rfl rfl ?_
    refine TL.shut rfl rfl ?_
    refine TL.val ((by first | exact OpV.pick_t rfl rfl | exact OpV.pick_f rfl rfl)) rfl ?_
    refine TL.val (OpV.assign rfl) rfl ?_
    refine TL.nil ?_
    refine TE.sub (.cons (t := 0) rfl <| .cons (t := 3) rfl <| .cons (t := 4) rfl <| .cons (t := 5) rfl <| .cons (t := 6) rfl <| .nil) ?_
    refine TE.next ?_
    refine T.seq ?_
    refine T.region ?_
    refine TL.val (OpV.move rfl) rfl ?_
    refine TL.val (OpV.not rfl) rfl ?_
    refine TL.nil ?_
    refine TE.next ?_
    refine T.yes rfl ?_
    refine T.region ?_
    refine TL.val (OpV.move rfl) rfl ?_
    refine TL.val (OpV.move rfl) rfl ?_
    refine TL.val (OpV.move rfl) rfl ?_
    refine TL.val (OpV.indexAddr se_22 rfl hA6 rfl (by rfl) (by first | omega | simp)) rfl ?_
    refine TL.val (OpV.fieldAddr rfl fo_65_0) rfl ?_
    refine TL.val (OpV.load pl_35 rfl (by first | exact Cel.blk P0 rfl | exact Cel.blk P1 rfl | exact Cel.blk P2 rfl | exact Cel.blk P3 rfl | exact Cel.blk P4 rfl | exact Cel.frA (hatl _ _ rfl) | exact Cel.frA (hatl2 _ _ rfl) | exact Cel.frA (hatq _ _ rfl) | exact Cel.frA (hatz _ _ rfl))) rfl ?_
    refine TL.val (OpV.move rfl) rfl ?_
    refine TL.val (OpV.indexAddr se_35 rfl hAq rfl (by rfl) (by first | omega | simp)) rfl ?_
    refine TL.val (OpV.loadA ag_58 rfl (by first | exact Cels.blk P0 rfl | exact Cels.blk P1 rfl | exact Cels.blk P2 rfl | exact Cels.blk P3 rfl | exact Cels.blk P4 rfl | exact Cels.frA hatl rfl | exact Cels.frA hatl2 rfl | exact Cels.frA hatq rfl | exact Cels.frA hatz rfl)) rfl ?_
    refine TL.slit (qs := #[(0, _)]) (fun _ f => by simp only [List.map_toArray, List.map_cons, List.map_nil]; rw [f.ev (x := .tmp 82) rfl]) (sl_35_1_0 q) rfl ?_
    intro b83
    obtain ⟨ti84, hi84, hz84, hs84, hb84⟩ := info_parts inf_58
    refine TL.append rfl rfl Tryd.underlying35 hi84 hz84 hs84 hb84 rfl (by omega) (by first | exact P0 | exact P1 | exact P2 | exact P3 | exact P4) (by first | exact Src.nil | exact Src.blk P0 rfl | exact Src.blk P1 rfl | exact Src.blk P2 rfl | exact Src.blk P3 rfl | exact Src.blk P4 rfl | exact Src.row P0 | exact Src.row P1 | exact Src.row P2 | exact Src.row P3 | exact Src.row P4) (fun h => by cases h) rfl (by omega) (by omega) rfl ?_
    clear hi84 hz84 hs84 hb84 ti84
    intro A84 c84 hn84
    refine TL.val (OpV.assign rfl) rfl ?_
    refine TL.nil ?_
    refine TE.out ?_
    refine TE.sub (.cons (t := 0) rfl <| .cons (t := 3) rfl <| .cons (t := 4) rfl <| .cons (t := 5) rfl <| .nil) ?_
    refine TE.next ?_
    refine T.region ?_
    refine TL.val (OpV.move rfl) rfl ?_
    refine TL.val (OpV.add rfl rfl (by first | exact IntWalk.i64_in _ ⟨by omega, by omega⟩ | rfl)) rfl ?_
    refine TL.val (OpV.assign rfl) rfl ?_
    refine TL.nil ?_
    exact TE.meet (k + 1, A84, c84, out2 ++ [q]) ⟨⟨by omega, by rw [p2, List.append_assoc, hk3, take_snoc (l := x.cells.take kn) (i := k) (x := q) (by rw [List.getElem?_take, if_pos hlt]; exact hq)], hn84⟩, by simp only; omega⟩ (.cons (t := 0) (by first | rfl | (simp [lk]; done)) <| .cons (t := 3) (by simp only [List.length_append, List.length_cons, List.length_nil]; rfl) <| .cons (t := 4) (by first | rfl | (simp [lk]; done)) <| .cons (t := 5) (by first | rfl | (simp [lk]; done)) <| .nil) ((by simp only [fl_append, List.length_append, List.length_cons, List.length_nil]; exact Perm.kle (.cons (by first | exact P0 | exact P1 | exact P2 | exact P3 | exact P4 | exact P5) (.cons (by first | exact P0 | exact P1 | exact P2 | exact P3 | exact P4 | exact P5) .nil))))
  ·
   intro ht20
   obtain ⟨p1, p2, p3⟩ := hR1
   have hk : ¬ k < x.n := by have h9 := of_decide_eq_false ht20; omega
   rw [List.take_of_length_le (by rw [hk3, List.length_take]; omega)] at p2
   refine T.exit ?_
   refine TE.pass_exit ?_
   refine TE.pass_exit ?_
   refine TE.here ?_
   refine TE.out ?_
   refine TE.next ?_
   refine T.region ?_
   refine TL.val (OpV.move rfl) rfl ?_
   refine TL.val (OpV.add rfl rfl (by first | exact IntWalk.i64_in _ ⟨by omega, by omega⟩ | rfl)) rfl ?_
   refine TL.val (OpV.assign rfl) rfl ?_
   refine TL.nil ?_
   exact TE.meet (i + 1, A3b, c3b, out2) ⟨⟨by omega, by rw [p2, List.append_assoc]; exact q2, p3, by rw [p2, List.length_append]; have h9 := kept1_len x.cells ((ls.map LnA.cells).drop (i + 1)); omega⟩, by simp only; omega⟩ (.cons (t := 0) (by first | rfl | (simp [lk]; done)) <| .cons (t := 3) (by first | rfl | (simp [lk]; done)) <| .cons (t := 4) (by first | rfl | (simp [lk]; done)) <| .nil) (Perm.kle (.cons (by first | exact P0 | exact P1 | exact P2 | exact P3 | exact P4 | exact P5) (.cons (by first | exact P0 | exact P1 | exact P2 | exact P3 | exact P4 | exact P5) .nil)))
 ·
  intro ht10
  obtain ⟨q1, q2, q3, q4⟩ := hR
  have hin : ¬ i < n := by have h9 := of_decide_eq_false ht10; omega
  rw [List.drop_of_length_le (by omega), allV, List.append_nil] at q2
  refine T.exit ?_
  refine TE.pass_exit ?_
  refine TE.pass_exit ?_
  refine TE.here ?_
  refine TE.next ?_
  refine T.seq ?_
  refine T.region ?_
  refine TL.val (OpV.move rfl) rfl ?_
  refine TL.val (OpV.assign rfl) rfl ?_
  refine TL.nil ?_
  refine TE.sub (.cons (t := 2) rfl <| .nil) ?_
  refine TE.next ?_
  refine T.ret ?_
  refine TE.ret1 rfl (ResV.tmp rfl) ?_
  intro wz kz
  obtain ⟨ρ, h1, k2⟩ := KOk.rowOwn (kz.pick (e := .row 58 16 A3 out.length c3 (fl out)) (by first | exact P0 | exact P1 | exact P2 | exact P3 | exact P4 | exact P5))
  exact ⟨⟨A3, out.length, c3, ρ⟩, rfl, by rw [← q2]; exact CsR.of_row h1 rfl, Perm.kle (.cons .here .nil) wz k2⟩
set_option maxRecDepth 100000 in
set_option maxHeartbeats 1000000 in
theorem joined_c {σ : Nat → Option Obj} {A : Option Addr} {n c : Nat} {ls : List LnA} (w : World) (h : LsA σ A n c ls) (hs : ∀ b o, σ b = some o → w.heap[b]? = some o) (hn : n ≤ 131072) (hb : ∀ x ∈ ls.map LnA.cells, x.length ≤ 1000) : Calls Tryd.prog 61 #[.slice A n c] w (fun e w' => ∃ v : Nat × Nat × (Nat → Option Obj), e = .returned (.slice (some ⟨v.1, 0, none⟩) v.2.1 v.2.1) ∧ ((trimV (allV (ls.map LnA.cells))).length = v.2.1 ∧ OwR 58 v.2.2 v.1 (trimV (allV (ls.map LnA.cells)))) ∧ KOk w [.own v.2.2] w') := by
 have hn63 := h.1.2.1
 have hc63 := h.1.2.2.1
 have hl1 := h.1.1
 have hXl : (ls.map LnA.cells).length = n := by rw [List.length_map]; exact hl1
 refine calls_T (vs := [.slice A n c]) (L0 := [(0, .slice A n c)]) Tryd.func61 rfl rfl rfl rfl (KOk.fr1 hs) ?_
 refine T.seq ?_
 refine T.region ?_
 refine TL.val (OpV.assign rfl) rfl ?_
 refine TL.nil ?_
 refine TE.next ?_
 refine T.seq ?_
 refine T.region ?_
 refine TL.val (OpV.assign rfl) rfl ?_
 refine TL.nil ?_
 refine TE.next ?_
 refine T.seq ?_
 refine T.seq ?_
 refine T.region ?_
 refine TL.val (OpV.move rfl) rfl ?_
 refine TL.val (OpV.len Tryd.underlying22 rfl) rfl ?_
 refine TL.val (OpV.move rfl) rfl ?_
 refine TL.nil ?_
 refine TE.next ?_
 refine T.block ?_
 refine T.loop (ι := Nat) (fun i => i ≤ n) (fun i => (n - i)) (fun i => [(0, .slice A n c), (3, .int .i64 (sumL ((ls.map LnA.cells).take i) : Int)), (11, .slice A n c), (12, .int .i64 (n : Int)), (13, .int .i64 (i : Int))]) (fun i => [.fr σ]) 0 (Nat.zero_le _) (.cons (t := 0) rfl <| .cons (t := 3) rfl <| .cons (t := 11) rfl <| .cons (t := 12) rfl <| .cons (t := 13) rfl <| .nil) (Kle.refl) ?_
 rintro i hR
 refine T.seq ?_
 refine T.region ?_
 refine TL.val (OpV.lss rfl rfl) rfl ?_
 refine TL.nil ?_
 refine TE.next ?_
 refine T.seq ?_
 refine T.cond rfl ?_ ?_
 ·
  intro ht14
  have hi : i < n := by have h9 := of_decide_eq_true ht14; omega
  obtain ⟨x, hx⟩ := get_of_lt h.1.1 (show i < n by omega)
  obtain ⟨br, or, hA6, hat6⟩ := h.1.2.2.2.2 (by omega)
  obtain ⟨_, rfl, _, hatl⟩ := hat6 _ x hx
  have hcx := h.2 x (List.mem_of_getElem? hx)
  have hX : (ls.map LnA.cells)[i]? = some x.cells := by rw [List.getElem?_map, hx]; rfl
  have hxb := hb _ (List.mem_of_getElem? hX)
  have hxl := hcx.1
  have hxc := hcx.2.1
  have hxd := hcx.2.2.1
  have hst := sumL_take hX
  have hsb := sumL_le (l := (ls.map LnA.cells).take i) (fun x hx => hb x (List.mem_of_mem_take hx))
  rw [List.length_take] at hsb
  refine T.skip ?_
  refine TE.next ?_
  refine T.seq ?_
  refine T.block ?_
  refine T.seq ?_
  refine T.region ?_
  refine TL.val (OpV.indexAddr se_22 rfl hA6 rfl (by rfl) (by first | omega | simp)) rfl ?_
  refine TL.val (OpV.loadA ag_65 rfl (by first | exact Cels.blk P0 rfl | exact Cels.blk P1 rfl | exact Cels.blk P2 rfl | exact Cels.blk P3 rfl | exact Cels.blk P4 rfl | exact Cels.frA hatl rfl | exact Cels.frA hatl2 rfl)) rfl ?_
  refine TL.alloc zo_65 rfl ?_
  intro b5
  first
    | refine TL.storeAll rfl rfl szz_65 rfl rfl rfl (by first | exact P0 | exact P1 | exact P2 | exact P3 | exact P4) (by rfl) ?_
    | refine TL.store rfl rfl szz_65 rfl rfl rfl (by first | exact P0 | exact P1 | exact P2 | exact P3 | exact P4) (by first | exact Nat.le_of_ble_eq_true rfl | (simp; done) | (simp; omega)) (by simp only [LnA.l, putL, List.take_succ_cons, List.take_zero, List.drop_succ_cons, List.drop_zero, List.cons_append, List.nil_append, List.length_cons, List.length_nil, Nat.reduceAdd]; rfl) ?_
  refine TL.nil ?_
  refine TE.next ?_
  refine T.region ?_
  refine TL.val (OpV.move rfl) rfl ?_
  refine TL.val (OpV.fieldAddr rfl fo_65_0) rfl ?_
  refine TL.val (OpV.load pl_35 rfl (by first | exact Cel.blk P0 rfl | exact Cel.blk P1 rfl | exact Cel.blk P2 rfl | exact Cel.blk P3 rfl | exact Cel.blk P4 rfl | exact Cel.frA (hatl _ _ rfl) | exact Cel.frA (hatl2 _ _ rfl))) rfl ?_
  refine TL.val (OpV.len Tryd.underlying35 rfl) rfl ?_
  refine TL.val (OpV.add rfl rfl (by first | exact IntWalk.i64_in _ ⟨by omega, by omega⟩ | rfl)) rfl ?_
  refine TL.val (OpV.assign rfl) rfl ?_
  refine TL.nil ?_
  refine TE.out ?_
  refine TE.sub (.cons (t := 0) rfl <| .cons (t := 3) rfl <| .cons (t := 11) rfl <| .cons (t := 12) rfl <| .cons (t := 13) rfl <| .nil) ?_
  refine TE.next ?_
  refine T.region ?_
  refine TL.val (OpV.add rfl rfl (by first | exact IntWalk.i64_in _ ⟨by omega, by omega⟩ | rfl)) rfl ?_
  refine TL.val (OpV.move rfl) rfl ?_
  refine TL.nil ?_
  exact TE.meet (i + 1) ⟨by omega, by omega⟩ (.cons (t := 0) (by first | rfl | (simp [lk]; done)) <| .cons (t := 3) (congrArg (fun z => some (Value.int .i64 z)) (by rw [hst]; omega)) <| .cons (t := 11) (by first | rfl | (simp [lk]; done)) <| .cons (t := 12) (by first | rfl | (simp [lk]; done)) <| .cons (t := 13) (by first | rfl | (simp [lk]; done)) <| .nil) (Perm.kle (.cons (by first | exact P0 | exact P1 | exact P2 | exact P3 | exact P4 | exact P5) .nil))
 ·
  intro ht14
  have hin : i = n := by have h9 := of_decide_eq_false ht14; omega
  have hsb := sumL_le hb
  have htk : (ls.map LnA.cells).take i = (ls.map LnA.cells) := List.take_of_length_le (by omega)
  rw [htk]
  refine T.exit ?_
  refine TE.pass_exit ?_
  refine TE.pass_exit ?_
  refine TE.here ?_
  refine TE.next ?_
  refine T.seq ?_
  refine T.region ?_
  refine TL.val (OpV.move rfl) rfl ?_
  obtain ⟨ti, hi, hz, hsz, hbt⟩ := info_parts inf_58
  refine TL.make (m := (sumL (ls.map LnA.cells))) (cs := Cl.zero.l) Tryd.underlying35 hi hz hsz rfl rfl (by decide) rfl rfl (by rw [hbt]; omega) (by omega) rfl ?_
  clear hi hz hsz hbt ti
  intro b6
  rw [zeros_fl]
  refine TL.val (OpV.assign rfl) rfl ?_
  refine TL.nil ?_
  refine TE.sub (.cons (t := 0) rfl <| .cons (t := 6) rfl <| .nil) ?_
  refine TE.next ?_
  refine T.seq ?_
  refine T.region ?_
  refine TL.val (OpV.assign rfl) rfl ?_
  refine TL.nil ?_
  refine TE.next ?_
  refine T.seq ?_
  refine T.seq ?_
  refine T.region ?_
  refine TL.val (OpV.move rfl) rfl ?_
  refine TL.val (OpV.len Tryd.underlying22 rfl) rfl ?_
  refine TL.val (OpV.move rfl) rfl ?_
  refine TL.nil ?_
  refine TE.next ?_
  refine T.block ?_
  refine T.loop (ι := Nat × List Cl × List Cl) (fun ⟨i, ys, don⟩ => i ≤ n ∧ ys.length = (sumL (ls.map LnA.cells)) ∧ ys.take don.length = don ∧ don ++ allV ((ls.map LnA.cells).drop i) = allV (ls.map LnA.cells)) (fun ⟨i, ys, don⟩ => (n - i)) (fun ⟨i, ys, don⟩ => [(0, .slice A n c), (6, .slice (some ⟨b6, 0, none⟩) (sumL (ls.map LnA.cells)) (sumL (ls.map LnA.cells))), (7, .int .i64 (don.length : Int)), (25, .slice A n c), (26, .int .i64 (n : Int)), (27, .int .i64 (i : Int))]) (fun ⟨i, ys, don⟩ => [.blk b6 (fl ys) 58, .fr σ]) (0, List.replicate (sumL (ls.map LnA.cells)) Cl.zero, []) ⟨Nat.zero_le _, by simp, rfl, rfl⟩ (.cons (t := 0) rfl <| .cons (t := 6) rfl <| .cons (t := 7) rfl <| .cons (t := 25) rfl <| .cons (t := 26) rfl <| .cons (t := 27) rfl <| .nil) (Perm.kle (.cons (by first | exact P0 | exact P1 | exact P2 | exact P3 | exact P4 | exact P5) (.cons (by first | exact P0 | exact P1 | exact P2 | exact P3 | exact P4 | exact P5) .nil))) ?_
  rintro ⟨i, ys, don⟩ hR
  refine T.seq ?_
  refine T.region ?_
  refine TL.val (OpV.lss rfl rfl) rfl ?_
  refine TL.nil ?_
  refine TE.next ?_
  refine T.seq ?_
  refine T.cond rfl ?_ ?_
  ·
   intro ht28
   obtain ⟨q1, q2, q3, q4⟩ := hR
   have hi : i < n := by have h9 := of_decide_eq_true ht28; omega
   obtain ⟨x, hx⟩ := get_of_lt h.1.1 (show i < n by omega)
   obtain ⟨br, or, hA6, hat6⟩ := h.1.2.2.2.2 (by omega)
   obtain ⟨_, rfl, _, hatl⟩ := hat6 _ x hx
   have hcx := h.2 x (List.mem_of_getElem? hx)
   have hX : (ls.map LnA.cells)[i]? = some x.cells := by rw [List.getElem?_map, hx]; rfl
   have hxb := hb _ (List.mem_of_getElem? hX)
   have hxl := hcx.1
   have hxc := hcx.2.1
   have hxd := hcx.2.2.1
   have hdr := drop_get hX
   rw [hdr, allV] at q4
   obtain ⟨kp, hkp⟩ : ∃ z, z = kept1 x.cells ((ls.map LnA.cells).drop (i + 1)) := ⟨_, rfl⟩
   rw [← hkp] at q4
   have hrm : don.length + kp.length ≤ (sumL (ls.map LnA.cells)) := by have h9 := congrArg List.length q4; have h8 := allV_len (ls.map LnA.cells); simp only [List.length_append] at h9; omega
   refine T.skip ?_
   refine TE.next ?_
   refine T.seq ?_
   refine T.block ?_
   refine T.seq ?_
   refine T.region ?_
   refine TL.val (OpV.move rfl) rfl ?_
   refine TL.val (OpV.indexAddr se_22 rfl hA6 rfl (by rfl) (by first | omega | simp)) rfl ?_
   refine TL.val (OpV.loadA ag_65 rfl (by first | exact Cels.blk P0 rfl | exact Cels.blk P1 rfl | exact Cels.blk P2 rfl | exact Cels.blk P3 rfl | exact Cels.blk P4 rfl | exact Cels.frA hatl rfl | exact Cels.frA hatl2 rfl)) rfl ?_
   refine TL.alloc zo_65 rfl ?_
   intro b9
   refine TL.val (OpV.assign rfl) rfl ?_
   first
     | refine TL.storeAll rfl rfl szz_65 rfl rfl rfl (by first | exact P0 | exact P1 | exact P2 | exact P3 | exact P4) (by rfl) ?_
     | refine TL.store rfl rfl szz_65 rfl rfl rfl (by first | exact P0 | exact P1 | exact P2 | exact P3 | exact P4) (by first | exact Nat.le_of_ble_eq_true rfl | (simp; done) | (simp; omega)) (by simp only [LnA.l, putL, List.take_succ_cons, List.take_zero, List.drop_succ_cons, List.drop_zero, List.cons_append, List.nil_append, List.length_cons, List.length_nil, Nat.reduceAdd]; rfl) ?_
   refine TL.nil ?_
   refine TE.next ?_
   refine T.seq ?_
   refine T.region ?_
   refine TL.val (OpV.fieldAddr rfl fo_65_0) rfl ?_
   refine TL.val (OpV.load pl_35 rfl (by first | exact Cel.blk P0 rfl | exact Cel.blk P1 rfl | exact Cel.blk P2 rfl | exact Cel.blk P3 rfl | exact Cel.blk P4 rfl | exact Cel.frA (hatl _ _ rfl) | exact Cel.frA (hatl2 _ _ rfl))) rfl ?_
   refine TL.val (OpV.assign rfl) rfl ?_
   refine TL.nil ?_
   refine TE.next ?_
   refine T.seq ?_
   refine T.cutx (ι := Option Addr × Nat × Nat) (fun ⟨Ap, pn, cp⟩ => CsR σ Ap pn cp kp) (fun ⟨Ap, pn, cp⟩ => [(0, .slice A n c), (6, .slice (some ⟨b6, 0, none⟩) (sumL (ls.map LnA.cells)) (sumL (ls.map LnA.cells))), (7, .int .i64 (don.length : Int)), (10, .slice Ap pn cp), (25, .slice A n c), (26, .int .i64 (n : Int)), (27, .int .i64 (i : Int))]) (fun ⟨Ap, pn, cp⟩ => [.blk b6 (fl ys) 58, .fr σ]) ?_ ?_
   rotate_left
   ·
    refine T.seq ?_
    refine T.region ?_
    refine TL.val (OpV.move rfl) rfl ?_
    refine TL.val (OpV.add rfl rfl (by first | exact IntWalk.i64_in _ ⟨by omega, by omega⟩ | rfl)) rfl ?_
    refine TL.val (OpV.move rfl) rfl ?_
    refine TL.val (OpV.len Tryd.underlying22 rfl) rfl ?_
    refine TL.val (OpV.lss rfl rfl) rfl ?_
    refine TL.nil ?_
    refine TE.sub (.cons (t := 0) rfl <| .cons (t := 6) rfl <| .cons (t := 7) rfl <| .cons (t := 8) rfl <| .cons (t := 9) rfl <| .cons (t := 10) rfl <| .cons (t := 25) rfl <| .cons (t := 26) rfl <| .cons (t := 27) rfl <| .cons (t := 38) rfl <| .nil) ?_
    refine TE.next ?_
    refine T.cond rfl ?_ ?_
    ·
     intro ht38
     have hi2 : i + 1 < n := by have h9 := of_decide_eq_true ht38; omega
     obtain ⟨x2, hx2⟩ := get_of_lt h.1.1 (show (i + 1) < n by omega)
     obtain ⟨br2, or2, hA62, hat62⟩ := h.1.2.2.2.2 (by omega)
     obtain ⟨_, rfl, _, hatl2⟩ := hat62 _ x2 hx2
     have hcx2 := h.2 x2 (List.mem_of_getElem? hx2)
     have hX2 : (ls.map LnA.cells)[i + 1]? = some x2.cells := by rw [List.getElem?_map, hx2]; rfl
     refine T.quiet mix (by kernel_rfl) ?_
     refine TQ.val (OpV.loadA ag_65 rfl (by first | exact Cels.blk P0 rfl | exact Cels.blk P1 rfl | exact Cels.blk P2 rfl | exact Cels.blk P3 rfl | exact Cels.blk P4 rfl | exact Cels.frA hatl rfl | exact Cels.frA hatl2 rfl)) rfl ?_
     refine TQ.val (OpV.move rfl) rfl ?_
     refine TQ.val (OpV.move rfl) rfl ?_
     refine TQ.val (OpV.add rfl rfl (by first | exact IntWalk.i64_in _ ⟨by omega, by omega⟩ | rfl)) rfl ?_
     refine TQ.val (OpV.indexAddr (j := (i + 1)) se_22 rfl hA62 rfl (by omega) (by omega)) rfl ?_
     refine TQ.val (OpV.loadA ag_65 rfl (by first | exact Cels.blk P0 rfl | exact Cels.blk P1 rfl | exact Cels.blk P2 rfl | exact Cels.blk P3 rfl | exact Cels.blk P4 rfl | exact Cels.frA hatl rfl | exact Cels.frA hatl2 rfl)) rfl ?_
     refine TQ.call (g := 83) rfl go_83 rfl (fun w1 k1 => kept_c x x2 w1 hcx hcx2 (k1.get (e := .fr σ) (by first | exact P0 | exact P1 | exact P2 | exact P3 | exact P4 | exact P5)) (k1.get (e := .fr σ) (by first | exact P0 | exact P1 | exact P2 | exact P3 | exact P4 | exact P5))) rfl ?_
     refine TQ.val (OpV.assign rfl) rfl ?_
     refine TQ.nil ?_
     exact TE.meet (subA x.A (keptN x.cells x2.cells) 0 16, keptN x.cells x2.cells, keptN x.cells x2.cells) (by rw [hkp, drop_get hX2]; exact SlR.slice3 hcx (by rw [← hcx.1]; exact keptN_le _ _)) (.cons (t := 0) rfl <| .cons (t := 6) rfl <| .cons (t := 7) rfl <| .cons (t := 10) rfl <| .cons (t := 25) rfl <| .cons (t := 26) rfl <| .cons (t := 27) rfl <| .nil) (Perm.kle (.cons (by first | exact P0 | exact P1 | exact P2 | exact P3 | exact P4 | exact P5) (.cons (by first | exact P0 | exact P1 | exact P2 | exact P3 | exact P4 | exact P5) .nil)))
    ·
     intro ht38
     refine T.skip ?_
     exact TE.meet (x.A, x.n, x.c) (by rw [hkp, List.drop_of_length_le (by have h9 := of_decide_eq_false ht38; omega)]; exact hcx) (.cons (t := 0) rfl <| .cons (t := 6) rfl <| .cons (t := 7) rfl <| .cons (t := 10) rfl <| .cons (t := 25) rfl <| .cons (t := 26) rfl <| .cons (t := 27) rfl <| .nil) (Perm.kle (.cons (by first | exact P0 | exact P1 | exact P2 | exact P3 | exact P4 | exact P5) (.cons (by first | exact P0 | exact P1 | exact P2 | exact P3 | exact P4 | exact P5) .nil)))
   rintro ⟨Ap, pn, cp⟩ hpt
   replace hpt : CsR σ Ap pn cp kp := hpt
   have hpl := hpt.1
   refine TE.next ?_
   refine T.region ?_
   refine TL.val (OpV.move rfl) rfl ?_
   refine TL.val (OpV.move rfl) rfl ?_
   refine TL.val (OpV.move rfl) rfl ?_
   refine TL.val (OpV.sliceLo (lo := don.length) se_35 rfl rfl rfl (by omega)) rfl ?_
   obtain ⟨oo, ho1, ho2, ho3⟩ := subA_at b6 (sumL (ls.map LnA.cells)) don.length 16 (by omega)
   refine TL.said (t := 49) rfl (show Value.slice (subA _ _ _ _) _ _ = Value.slice (some ⟨b6, oo, none⟩) ((sumL (ls.map LnA.cells)) - don.length) ((sumL (ls.map LnA.cells)) - don.length) by rw [ho1]) ?_
   refine TL.val (OpV.move rfl) rfl ?_
   refine TL.copy se_35 rfl rfl (by have h9 := hpt.1; omega) (by first | exact P0 | exact P1 | exact P2 | exact P3 | exact P4 | exact P5) (Src.cs (by first | exact P0 | exact P1 | exact P2 | exact P3 | exact P4 | exact P5) hpt) (one_fl _) (by rw [length_fl, length_fl]; omega) (putL_copy (d := don.length) (by omega) (fun h9 => ho2 (by omega))) rfl ?_
   refine TL.val (OpV.add rfl rfl (by first | exact IntWalk.i64_in _ ⟨by omega, by omega⟩ | rfl)) rfl ?_
   refine TL.val (OpV.assign rfl) rfl ?_
   refine TL.nil ?_
   refine TE.out ?_
   refine TE.sub (.cons (t := 0) rfl <| .cons (t := 6) rfl <| .cons (t := 7) rfl <| .cons (t := 25) rfl <| .cons (t := 26) rfl <| .cons (t := 27) rfl <| .nil) ?_
   refine TE.next ?_
   refine T.region ?_
   refine TL.val (OpV.add rfl rfl (by first | exact IntWalk.i64_in _ ⟨by omega, by omega⟩ | rfl)) rfl ?_
   refine TL.val (OpV.move rfl) rfl ?_
   refine TL.nil ?_
   exact TE.meet (i + 1, cpy ys don.length kp, don ++ kp) ⟨⟨by omega, by rw [cpy_length (by omega)]; exact q2, cpy_take q3 (by omega), by rw [List.append_assoc]; exact q4⟩, by simp only; omega⟩ (.cons (t := 0) (by first | rfl | (simp [lk]; done)) <| .cons (t := 6) (by first | rfl | (simp [lk]; done)) <| .cons (t := 7) (congrArg (fun z => some (Value.int .i64 z)) (by simp only [List.length_append]; omega)) <| .cons (t := 25) (by first | rfl | (simp [lk]; done)) <| .cons (t := 26) (by first | rfl | (simp [lk]; done)) <| .cons (t := 27) (by first | rfl | (simp [lk]; done)) <| .nil) (Perm.kle (.cons (by first | exact P0 | exact P1 | exact P2 | exact P3 | exact P4 | exact P5) (.cons (by first | exact P0 | exact P1 | exact P2 | exact P3 | exact P4 | exact P5) .nil)))
  ·
   intro ht28
   obtain ⟨q1, q2, q3, q4⟩ := hR
   have hin : ¬ i < n := by have h9 := of_decide_eq_false ht28; omega
   rw [List.drop_of_length_le (by omega), allV, List.append_nil] at q4
   refine T.exit ?_
   refine TE.pass_exit ?_
   refine TE.pass_exit ?_
   refine TE.here ?_
   refine TE.next ?_
   refine T.seq ?_
   refine T.block ?_
   refine T.loop (ι := Nat) (fun m => m ≤ don.length ∧ trimV (don.take m) = trimV don) (fun m => m) (fun m => [(6, .slice (some ⟨b6, 0, none⟩) (sumL (ls.map LnA.cells)) (sumL (ls.map LnA.cells))), (7, .int .i64 (m : Int))]) (fun m => [.blk b6 (fl ys) 58, .fr σ]) don.length ⟨Nat.le_refl _, by rw [List.take_length]⟩ (.cons (t := 6) rfl <| .cons (t := 7) rfl <| .nil) (Kle.refl) ?_
   rintro m hR2
   obtain ⟨m1, m2⟩ := hR2
   have hdl : don.length ≤ (sumL (ls.map LnA.cells)) := by have h9 := congrArg List.length q3; rw [List.length_take] at h9; omega
   refine T.seq ?_
   refine T.seq ?_
   refine T.region ?_
   refine TL.val (OpV.move rfl) rfl ?_
   refine TL.val (OpV.gtr rfl rfl) rfl ?_
   refine TL.val (OpV.move rfl) rfl ?_
   refine TL.part (t := 56) rfl ?_ ?_
   ·
    intro hg56
    have hm0 : 0 < m := by have h9 := of_decide_eq_true hg56; omega
    obtain ⟨q, hq⟩ := get_of_lt (xs := don) rfl (show m - 1 < don.length by omega)
    have hyq : ys[m - 1]? = some q := by rw [← q3, List.getElem?_take, if_pos (by omega)] at hq; exact hq
    have hts := trimV_snoc (don.take (m - 1)) q
    rw [← take_snoc hq, show m - 1 + 1 = m by omega] at hts
    refine TL.open rfl rfl ?_
    refine TL.val (OpV.move rfl) rfl ?_
    refine TL.open rfl rfl ?_
    refine TL.val (OpV.move rfl) rfl ?_
    refine TL.open rfl rfl ?_
    refine TL.val (OpV.sub rfl rfl (by first | exact IntWalk.i64_in _ ⟨by omega, by omega⟩ | rfl)) rfl ?_
    refine TL.open rfl rfl ?_
    refine TL.val (OpV.indexAddr (j := (m - 1)) se_35 rfl rfl rfl (by omega) (by omega)) rfl ?_
    refine TL.open rfl rfl ?_
    refine TL.val (OpV.loadA ag_58 rfl (by rw [Nat.zero_add]; exact Cels.own_row (by first | exact P0 | exact P1 | exact P2 | exact P3 | exact P4 | exact P5) (List.take_length) hyq)) rfl ?_
    refine TL.open rfl rfl ?_
    refine TL.call (g := 84) rfl go_84 rfl (fun w1 k1 => cempty_c q w1) rfl ?_
    refine TL.val ((by first | exact OpV.pick_t rfl rfl | exact OpV.pick_f rfl rfl)) rfl ?_
    refine TL.nil ?_
    refine TE.sub (.cons (t := 6) rfl <| .cons (t := 7) rfl <| .cons (t := 63) rfl <| .nil) ?_
    refine TE.next ?_
    refine T.cond rfl ?_ ?_
    ·
     intro ht63
     rw [ht63, if_pos rfl] at hts
     refine T.skip ?_
     refine TE.next ?_
     refine T.block ?_
     refine T.region ?_
     refine TL.val (OpV.move rfl) rfl ?_
     refine TL.val (OpV.sub rfl rfl (by first | exact IntWalk.i64_in _ ⟨by omega, by omega⟩ | rfl)) rfl ?_
     refine TL.val (OpV.assign rfl) rfl ?_
     refine TL.nil ?_
     refine TE.out ?_
     exact TE.meet (m - 1) ⟨⟨by omega, by rw [← hts]; exact m2⟩, by omega⟩ (.cons (t := 6) (by first | rfl | (simp [lk]; done)) <| .cons (t := 7) (congrArg (fun z => some (Value.int .i64 z)) (by omega)) <| .nil) (Kle.refl)
    ·
     intro ht63
     rw [ht63, if_neg (by decide)] at hts
     have hfin : trimV don = don.take m := by rw [← m2, hts]
     refine T.exit ?_
     refine TE.pass_exit ?_
     refine TE.pass_exit ?_
     refine TE.here ?_
     refine TE.next ?_
     refine T.seq ?_
     refine T.region ?_
     refine TL.val (OpV.move rfl) rfl ?_
     refine TL.val (OpV.move rfl) rfl ?_
     refine TL.val (OpV.move rfl) rfl ?_
     refine TL.val (OpV.slice3 (hi := m) se_35 rfl rfl rfl rfl rfl (by omega)) rfl ?_
     refine TL.val (OpV.assign rfl) rfl ?_
     refine TL.nil ?_
     refine TE.sub (.cons (t := 2) rfl <| .nil) ?_
     refine TE.next ?_
     refine T.ret ?_
     refine TE.ret1 rfl (ResV.tmp rfl) ?_
     intro wz kz
     refine ⟨⟨b6, m, σ1 b6 (.cells (fl ys).toArray 58 (0, 0))⟩, by rw [subA_zero], ⟨by show _ = m; rw [← q4, hfin, List.length_take, Nat.min_eq_left (by omega)], fl ys, σ1_self _ _, ?_⟩, Perm.kle (.cons .here .nil) wz (Kle.blkOwn wz (kz.pick (by first | exact P0 | exact P1 | exact P2 | exact P3 | exact P4 | exact P5)))⟩
     rw [← q4, hfin, ← q3, List.take_take, Nat.min_eq_left (by omega), length_fl, List.length_take, Nat.min_eq_left (by omega)]
     exact fl_take ys m
   ·
    intro hg56
    have hmz : m = 0 := by have h9 := of_decide_eq_false hg56; omega
    have hfin : trimV don = don.take m := by rw [← m2, hmz]; rfl
    refine TL.shut rfl rfl ?_
    refine TL.shut rfl rfl ?_
    refine TL.shut rfl rfl ?_
    refine TL.shut rfl rfl ?_
    refine TL.shut rfl rfl ?_
    refine TL.shut rfl rfl ?_
    refine TL.val ((by first | exact OpV.pick_t rfl rfl | exact OpV.pick_f rfl rfl)) rfl ?_
    refine TL.nil ?_
    refine TE.sub (.cons (t := 6) rfl <| .cons (t := 7) rfl <| .cons (t := 63) rfl <| .nil) ?_
    refine TE.next ?_
    refine T.no rfl ?_
    refine T.exit ?_
    refine TE.pass_exit ?_
    refine TE.pass_exit ?_
    refine TE.here ?_
    refine TE.next ?_
    refine T.seq ?_
    refine T.region ?_
    refine TL.val (OpV.move rfl) rfl ?_
    refine TL.val (OpV.move rfl) rfl ?_
    refine TL.val (OpV.move rfl) rfl ?_
    refine TL.val (OpV.slice3 (hi := m) se_35 rfl rfl rfl rfl rfl (by omega)) rfl ?_
    refine TL.val (OpV.assign rfl) rfl ?_
    refine TL.nil ?_
    refine TE.sub (.cons (t := 2) rfl <| .nil) ?_
    refine TE.next ?_
    refine T.ret ?_
    refine TE.ret1 rfl (ResV.tmp rfl) ?_
    intro wz kz
    refine ⟨⟨b6, m, σ1 b6 (.cells (fl ys).toArray 58 (0, 0))⟩, by rw [subA_zero], ⟨by show _ = m; rw [← q4, hfin, List.length_take, Nat.min_eq_left (by omega)], fl ys, σ1_self _ _, ?_⟩, Perm.kle (.cons .here .nil) wz (Kle.blkOwn wz (kz.pick (by first | exact P0 | exact P1 | exact P2 | exact P3 | exact P4 | exact P5)))⟩
    rw [← q4, hfin, ← q3, List.take_take, Nat.min_eq_left (by omega), length_fl, List.length_take, Nat.min_eq_left (by omega)]
    exact fl_take ys m
end Go.Proofs.YtdmpodpdpncobaaDoor
