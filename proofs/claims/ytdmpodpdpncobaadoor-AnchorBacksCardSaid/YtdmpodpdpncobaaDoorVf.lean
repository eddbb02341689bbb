/-
  The walks of the laws' helpers. Condition: the package-level tables hold what they were laid with.
-/
import Derived.Test.YtdmpodpdpncobaaDoorVe
import Derived.Test.YtdmpodpdpncobaaDoorUe
namespace Go.Proofs.YtdmpodpdpncobaaDoor
open Go.RowKit
set_option linter.unusedSimpArgs false
set_option linter.unusedVariables false
set_option maxRecDepth 100000 in
set_option maxHeartbeats 400000 in
theorem at29_c (a b : Int) (w : World) : Calls Tryd.prog 23 #[.int .i64 a, .int .i64 b] w (Ret (.agg (aL (a, b)).toArray) w) := by
  refine calls_T (vs := [.int .i64 a, .int .i64 b]) (L0 := [(0, .int .i64 a), (1, .int .i64 b)]) Tryd.func23 rfl rfl rfl rfl (KOk.none w) ?_
  refine T.seq ?_
  refine T.region ?_
  refine TL.alloc zo_24 rfl ?_
  intro b4
  refine TL.nil ?_
  refine TE.next ?_
  refine T.seq ?_
  refine T.region ?_
  refine TL.val (OpV.move rfl) rfl ?_
  refine TL.val (OpV.move rfl) rfl ?_
  refine TL.val (OpV.build (qs := #[(0, _), (1, _)]) (fun _ f => by simp only [List.map_toArray, List.map_cons, List.map_nil]; rw [f.ev (x := .tmp 5) rfl, f.ev (x := .tmp 6) rfl]) (bld_24_0_1 a b )) rfl ?_
  first
    | refine TL.storeAll rfl rfl szz_24 rfl rfl rfl (by first | exact P0 | exact P1 | exact P2 | exact P3 | exact P4) (by rfl) ?_
    | refine TL.store rfl rfl szz_24 rfl rfl rfl (by first | exact P0 | exact P1 | exact P2 | exact P3 | exact P4) (by first | exact Nat.le_of_ble_eq_true rfl | (simp; done) | (simp; omega)) (by simp only [putL, List.take_succ_cons, List.take_zero, List.drop_succ_cons, List.drop_zero, List.cons_append, List.nil_append, List.length_cons, List.length_nil, Nat.reduceAdd]; rfl) ?_
  refine TL.nil ?_
  refine TE.next ?_
  refine T.ret ?_
  refine TE.ret1 rfl (ResV.cellA rfl ag_24 (by first | exact Cels.blk P0 rfl | exact Cels.blk P1 rfl | exact Cels.blk P2 rfl | exact Cels.blk P3 rfl | exact Cels.blk P4 rfl)) ?_
  exact fun w1 k1 => ⟨rfl, k1.bel⟩
set_option maxRecDepth 100000 in
set_option maxHeartbeats 1000000 in
theorem few29_c {σ : Nat → Option Obj} {A : Option Addr} {n c : Nat} {ls : List LnA} (w : World) (h : LsA σ A n c ls) (hs : ∀ b o, σ b = some o → w.heap[b]? = some o) : Calls Tryd.prog 13 #[.slice A n c] w (Ret (.bool (few29V (ls.map LnA.ln))) w) := by
  have hn63 := h.1.2.1
  have hc63 := h.1.2.2.1
  have hl1 := h.1.1
  refine calls_T (vs := [.slice A n c]) (L0 := [(0, .slice A n c)]) Tryd.func13 rfl rfl rfl rfl (KOk.fr1 hs) ?_
  refine T.seq ?_
  refine T.region ?_
  refine TL.val (OpV.assign rfl) rfl ?_
  refine TL.nil ?_
  refine TE.next ?_
  refine T.seq ?_
  refine T.seq ?_
  refine T.region ?_
  refine TL.val (OpV.assign rfl) rfl ?_
  refine TL.nil ?_
  refine TE.next ?_
  refine T.block ?_
  refine T.loop (ι := Nat) (fun i => i ≤ n ∧ i ≤ 13 ∧ ((ls.map LnA.ln).take i).all (fun x => decide ((x.cells.length : Int) ≤ 16)) = true) (fun i => (n - i)) (fun i => [(0, .slice A n c), (3, .int .i64 (i : Int))]) (fun i => [.fr σ]) 0 ⟨Nat.zero_le _, Nat.zero_le _, rfl⟩ (.cons (t := 0) rfl <| .cons (t := 3) rfl <| .nil) (Kle.refl) ?_
  rintro i hR
  refine T.seq ?_
  refine T.seq ?_
  refine T.region ?_
  refine TL.val (OpV.move rfl) rfl ?_
  refine TL.val (OpV.move rfl) rfl ?_
  refine TL.val (OpV.len Tryd.underlying22 rfl) rfl ?_
  refine TL.val (OpV.lss rfl rfl) rfl ?_
  refine TL.val (OpV.move rfl) rfl ?_
  refine TL.part (t := 8) rfl ?_ ?_
  · intro hg8
    obtain ⟨q1, q2, q3⟩ := hR
    have hi : i < n := by have h9 := of_decide_eq_true hg8; omega
    obtain ⟨x, hx⟩ := get_of_lt h.1.1 hi
    obtain ⟨b, o, hA, hat0⟩ := h.1.2.2.2.2 (by omega)
    obtain ⟨_, rfl, _, hatx⟩ := hat0 i x hx
    have hcx := h.2 x (List.mem_of_getElem? hx)
    have hX : (ls.map LnA.ln)[i]? = some x.ln := by simp [hx]
    have hlx : x.ln.cells.length = x.n := hcx.1
    refine TL.open rfl rfl ?_
    refine TL.val (OpV.move rfl) rfl ?_
    refine TL.open rfl rfl ?_
    refine TL.val (OpV.lss rfl rfl) rfl ?_
    refine TL.val ((by first | exact OpV.pick_t rfl rfl | exact OpV.pick_f rfl rfl)) rfl ?_
    refine TL.nil ?_
    refine TE.sub (.cons (t := 0) rfl <| .cons (t := 3) rfl <| .cons (t := 11) rfl <| .nil) ?_
    refine TE.next ?_
    refine T.cond rfl ?_ ?_
    · intro ht11
      have hi13 : i < 13 := by have h9 := of_decide_eq_true ht11; omega
      refine T.skip ?_
      refine TE.next ?_
      refine T.seq ?_
      refine T.block ?_
      refine T.seq ?_
      refine T.region ?_
      refine TL.val (OpV.move rfl) rfl ?_
      refine TL.val (OpV.move rfl) rfl ?_
      refine TL.val (OpV.indexAddr se_22 rfl hA rfl (by rfl) (by first | omega | simp)) rfl ?_
      refine TL.val (OpV.fieldAddr rfl fo_65_0) rfl ?_
      refine TL.val (OpV.load pl_35 rfl (by first | exact Cel.blk P0 rfl | exact Cel.blk P1 rfl | exact Cel.blk P2 rfl | exact Cel.frA (hatx _ _ rfl))) rfl ?_
      refine TL.val (OpV.len Tryd.underlying35 rfl) rfl ?_
      refine TL.val (OpV.gtr rfl rfl) rfl ?_
      refine TL.nil ?_
      refine TE.sub (.cons (t := 0) rfl <| .cons (t := 3) rfl <| .cons (t := 20) rfl <| .nil) ?_
      refine TE.next ?_
      refine T.cond rfl ?_ ?_
      · intro ht20
        have hfr : few29V (ls.map LnA.ln) = false := by rw [few29V, show ((ls.map LnA.ln).take 13).all (fun x => decide ((x.cells.length : Int) ≤ 16)) = false by rw [List.all_eq_false]; exact ⟨x.ln, List.mem_of_getElem? (show ((ls.map LnA.ln).take 13)[i]? = some x.ln by rw [List.getElem?_take, if_pos hi13]; exact hX), by rw [hlx, decide_eq_false (by have h9 := of_decide_eq_true ht20; omega)]; decide⟩, Bool.false_and]
        refine T.seq ?_
        refine T.region ?_
        refine TL.val (OpV.assign rfl) rfl ?_
        refine TL.nil ?_
        refine TE.next ?_
        refine T.ret ?_
        refine TE.out_ret ?_
        refine TE.pass_ret ?_
        refine TE.pass_ret ?_
        refine TE.out_ret ?_
        refine TE.pass_ret ?_
        refine TE.ret1 rfl (ResV.tmp rfl) ?_
        exact fun w1 k1 => ⟨ret_bool hfr.symm, k1.bel⟩
      · intro ht20
        have hfx : decide ((x.ln.cells.length : Int) ≤ 16) = true := decide_eq_true (by rw [hlx]; have h9 := of_decide_eq_false ht20; omega)
        refine T.skip ?_
        refine TE.out ?_
        refine TE.next ?_
        refine T.region ?_
        refine TL.val (OpV.move rfl) rfl ?_
        refine TL.val (OpV.add rfl rfl (by first | exact IntWalk.i64_in _ ⟨by omega, by omega⟩ | rfl)) rfl ?_
        refine TL.val (OpV.assign rfl) rfl ?_
        refine TL.nil ?_
        exact TE.meet (i + 1) ⟨⟨by omega, by omega, by rw [take_snoc hX, List.all_append, q3]; simp only [List.all_cons, List.all_nil, hfx]; rfl⟩, by omega⟩ (.cons (t := 0) (by first | rfl | (simp [lk]; done)) <| .cons (t := 3) (by first | rfl | (simp [lk]; done)) <| .nil) (Perm.kle (.cons (by first | exact P0 | exact P1 | exact P2 | exact P3 | exact P4 | exact P5 | exact P6 | exact P7) .nil))
    · intro ht11
      have hi13 : i = 13 := by have h9 := of_decide_eq_false ht11; omega
      have hall : ((ls.map LnA.ln).take 13).all (fun x => decide ((x.cells.length : Int) ≤ 16)) = true := by rw [hi13] at q3; exact q3
      refine T.exit ?_
      refine TE.pass_exit ?_
      refine TE.pass_exit ?_
      refine TE.here ?_
      refine TE.next ?_
      refine T.seq ?_
      refine T.region ?_
      refine TL.val (OpV.move rfl) rfl ?_
      refine TL.val (OpV.len Tryd.underlying22 rfl) rfl ?_
      refine TL.val (OpV.leq rfl rfl) rfl ?_
      refine TL.val (OpV.assign rfl) rfl ?_
      refine TL.nil ?_
      refine TE.next ?_
      refine T.ret ?_
      refine TE.ret1 rfl (ResV.tmp rfl) ?_
      exact fun w1 k1 => ⟨ret_bool (by rw [few29V, hall, Bool.true_and, List.length_map, hl1]), k1.bel⟩
  · intro hg8
    obtain ⟨q1, q2, q3⟩ := hR
    have hi : i = n := by have h9 := of_decide_eq_false hg8; omega
    have hall : ((ls.map LnA.ln).take 13).all (fun x => decide ((x.cells.length : Int) ≤ 16)) = true := by rw [List.take_of_length_le (by rw [List.length_map, hl1]; omega)] at q3 ⊢; exact q3
    refine TL.shut rfl rfl ?_
    refine TL.shut rfl rfl ?_
    refine TL.val ((by first | exact OpV.pick_t rfl rfl | exact OpV.pick_f rfl rfl)) rfl ?_
    refine TL.nil ?_
    refine TE.sub (.cons (t := 0) rfl <| .cons (t := 3) rfl <| .cons (t := 11) rfl <| .nil) ?_
    refine TE.next ?_
    refine T.no rfl ?_
    refine T.exit ?_
    refine TE.pass_exit ?_
    refine TE.pass_exit ?_
    refine TE.here ?_
    refine TE.next ?_
    refine T.seq ?_
    refine T.region ?_
    refine TL.val (OpV.move rfl) rfl ?_
    refine TL.val (OpV.len Tryd.underlying22 rfl) rfl ?_
    refine TL.val (OpV.leq rfl rfl) rfl ?_
    refine TL.val (OpV.assign rfl) rfl ?_
    refine TL.nil ?_
    refine TE.next ?_
    refine T.ret ?_
    refine TE.ret1 rfl (ResV.tmp rfl) ?_
    exact fun w1 k1 => ⟨ret_bool (by rw [few29V, hall, Bool.true_and, List.length_map, hl1]), k1.bel⟩
set_option maxRecDepth 100000 in
set_option maxHeartbeats 400000 in
theorem tol_c {σ : Nat → Option Obj} {A : Option Addr} {n c : Nat} {ls : List LnA} (a1 a2 l cc no : Int) (w : World) (L : LaidW w) (h : LsA σ A n c ls) (hn : n ≤ 131072) (hs : ∀ b o, σ b = some o → w.heap[b]? = some o) : Calls Tryd.prog 17 #[.slice A n c, .agg (anL a1 a2).toArray, .int .i64 l, .int .i64 cc, .int .i64 no] w (Ret (.bool (toLawV (ls.map LnA.ln) (a1, a2) l cc no)) w) := by
  have hn63 := h.1.2.1
  have hc63 := h.1.2.2.1
  have hl1 := h.1.1
  refine calls_T (vs := [.slice A n c, .agg (anL a1 a2).toArray, .int .i64 l, .int .i64 cc, .int .i64 no]) (L0 := [(0, .slice A n c), (1, .agg (anL a1 a2).toArray), (2, .int .i64 l), (3, .int .i64 cc), (4, .int .i64 no)]) Tryd.func17 rfl rfl rfl rfl (KOk.fr1 hs) ?_
  refine T.seq ?_
  refine T.region ?_
  refine TL.boxA rfl rfl ?_
  intro b6
  refine TL.val (OpV.assign rfl) rfl ?_
  refine TL.nil ?_
  refine TE.next ?_
  refine T.seq ?_
  refine T.region ?_
  refine TL.val (OpV.move rfl) rfl ?_
  refine TL.val (OpV.loadA ag_24 rfl (Cels.blkAt (anL a1 a2) (by first | exact P0 | exact P1 | exact P2 | exact P3 | exact P4 | exact P5 | exact P6) rfl rfl)) rfl ?_
  refine TL.call (g := 34) rfl go_34 rfl (fun w1 k1 => ato_c a1 a2 w1 (L.below k1.bel) h hn (k1.get (e := .fr σ) (by first | exact P0 | exact P1 | exact P2 | exact P3 | exact P4 | exact P5 | exact P6 | exact P7))) rfl ?_
  refine TL.val (OpV.move rfl) rfl ?_
  refine TL.val (OpV.extract rfl rfl) rfl ?_
  refine TL.val (OpV.extract rfl rfl) rfl ?_
  refine TL.val (OpV.extract rfl rfl) rfl ?_
  refine TL.val (OpV.assign rfl) rfl ?_
  refine TL.val (OpV.assign rfl) rfl ?_
  refine TL.val (OpV.assign rfl) rfl ?_
  refine TL.nil ?_
  refine TE.sub (.cons (t := 2) rfl <| .cons (t := 3) rfl <| .cons (t := 4) rfl <| .cons (t := 11) rfl <| .cons (t := 12) rfl <| .cons (t := 13) rfl <| .nil) ?_
  refine TE.next ?_
  refine T.seq ?_
  refine T.region ?_
  refine TL.val (OpV.move rfl) rfl ?_
  refine TL.val (OpV.move rfl) rfl ?_
  refine TL.val (OpV.eql rfl rfl) rfl ?_
  refine TL.val (OpV.move rfl) rfl ?_
  refine TL.part (t := 24) rfl ?_ ?_
  · intro hg24
    refine TL.open rfl rfl ?_
    refine TL.val (OpV.move rfl) rfl ?_
    refine TL.open rfl rfl ?_
    refine TL.val (OpV.move rfl) rfl ?_
    refine TL.open rfl rfl ?_
    refine TL.val (OpV.eql rfl rfl) rfl ?_
    refine TL.val ((by first | exact OpV.pick_t rfl rfl | exact OpV.pick_f rfl rfl)) rfl ?_
    refine TL.val (OpV.move rfl) rfl ?_
    refine TL.part (t := 29) rfl ?_ ?_
    · intro hg29
      refine TL.open rfl rfl ?_
      refine TL.val (OpV.move rfl) rfl ?_
      refine TL.open rfl rfl ?_
      refine TL.val (OpV.move rfl) rfl ?_
      refine TL.open rfl rfl ?_
      refine TL.val (OpV.eql rfl rfl) rfl ?_
      refine TL.val ((by first | exact OpV.pick_t rfl rfl | exact OpV.pick_f rfl rfl)) rfl ?_
      refine TL.val (OpV.assign rfl) rfl ?_
      refine TL.nil ?_
      refine TE.sub (.cons (t := 10) rfl <| .nil) ?_
      refine TE.next ?_
      refine T.ret ?_
      refine TE.ret1 rfl (ResV.tmp rfl) ?_
      exact fun w1 k1 => ⟨ret_bool (by rw [toLawV]; grind), k1.bel⟩
    · intro hg29
      refine TL.shut rfl rfl ?_
      refine TL.shut rfl rfl ?_
      refine TL.shut rfl rfl ?_
      refine TL.val ((by first | exact OpV.pick_t rfl rfl | exact OpV.pick_f rfl rfl)) rfl ?_
      refine TL.val (OpV.assign rfl) rfl ?_
      refine TL.nil ?_
      refine TE.sub (.cons (t := 10) rfl <| .nil) ?_
      refine TE.next ?_
      refine T.ret ?_
      refine TE.ret1 rfl (ResV.tmp rfl) ?_
      exact fun w1 k1 => ⟨ret_bool (by rw [toLawV]; grind), k1.bel⟩
  · intro hg24
    refine TL.shut rfl rfl ?_
    refine TL.shut rfl rfl ?_
    refine TL.shut rfl rfl ?_
    refine TL.val ((by first | exact OpV.pick_t rfl rfl | exact OpV.pick_f rfl rfl)) rfl ?_
    refine TL.val (OpV.move rfl) rfl ?_
    refine TL.shut rfl rfl ?_
    refine TL.shut rfl rfl ?_
    refine TL.shut rfl rfl ?_
    refine TL.val ((by first | exact OpV.pick_t rfl rfl | exact OpV.pick_f rfl rfl)) rfl ?_
    refine TL.val (OpV.assign rfl) rfl ?_
    refine TL.nil ?_
    refine TE.sub (.cons (t := 10) rfl <| .nil) ?_
    refine TE.next ?_
    refine T.ret ?_
    refine TE.ret1 rfl (ResV.tmp rfl) ?_
    exact fun w1 k1 => ⟨ret_bool (by rw [toLawV]; grind), k1.bel⟩
set_option maxRecDepth 100000 in
set_option maxHeartbeats 400000 in
theorem froml_c {τ : Nat → Option Obj} {A2 : Option Addr} {n2 c2 : Nat} {gs : List LgA} (cols line cell v1 v2 no : Int) (w : World) (L : LaidW w) (h2 : GsA τ A2 n2 c2 gs) (hn2 : n2 ≤ 131072) (hcl : cell ≤ 2199023255552) (ht : ∀ b o, τ b = some o → w.heap[b]? = some o) : Calls Tryd.prog 22 #[.slice A2 n2 c2, .int .i64 cols, .int .i64 line, .int .i64 cell, .agg (anL v1 v2).toArray, .int .i64 no] w (Ret (.bool (fromLawV (gs.map LgA.lg) cols line cell (v1, v2) no)) w) := by
  refine calls_T (vs := [.slice A2 n2 c2, .int .i64 cols, .int .i64 line, .int .i64 cell, .agg (anL v1 v2).toArray, .int .i64 no]) (L0 := [(0, .slice A2 n2 c2), (1, .int .i64 cols), (2, .int .i64 line), (3, .int .i64 cell), (4, .agg (anL v1 v2).toArray), (5, .int .i64 no)]) Tryd.func22 rfl rfl rfl rfl (KOk.fr1 ht) ?_
  refine T.seq ?_
  refine T.region ?_
  refine TL.boxA rfl rfl ?_
  intro b10
  refine TL.val (OpV.assign rfl) rfl ?_
  refine TL.nil ?_
  refine TE.next ?_
  refine T.seq ?_
  refine T.region ?_
  refine TL.val (OpV.move rfl) rfl ?_
  refine TL.val (OpV.move rfl) rfl ?_
  refine TL.val (OpV.move rfl) rfl ?_
  refine TL.val (OpV.move rfl) rfl ?_
  refine TL.call (g := 56) rfl go_56 rfl (fun w1 k1 => afrom_c cols line cell w1 (L.below k1.bel) h2 hn2 hcl (k1.get (e := .fr τ) (by first | exact P0 | exact P1 | exact P2 | exact P3 | exact P4 | exact P5 | exact P6 | exact P7))) rfl ?_
  refine TL.val (OpV.move rfl) rfl ?_
  refine TL.val (OpV.extract rfl rfl) rfl ?_
  refine TL.val (OpV.extract rfl rfl) rfl ?_
  refine TL.alloc zo_24 rfl ?_
  intro b13
  first
    | refine TL.storeAll rfl rfl szz_24 rfl rfl rfl (by first | exact P0 | exact P1 | exact P2 | exact P3 | exact P4) (by rfl) ?_
    | refine TL.store rfl rfl szz_24 rfl rfl rfl (by first | exact P0 | exact P1 | exact P2 | exact P3 | exact P4) (by first | exact Nat.le_of_ble_eq_true rfl | (simp; done) | (simp; omega)) (by simp only [putL, List.take_succ_cons, List.take_zero, List.drop_succ_cons, List.drop_zero, List.cons_append, List.nil_append, List.length_cons, List.length_nil, Nat.reduceAdd]; rfl) ?_
  refine TL.val (OpV.assign rfl) rfl ?_
  refine TL.nil ?_
  refine TE.sub (.cons (t := 5) rfl <| .cons (t := 10) rfl <| .cons (t := 13) rfl <| .cons (t := 14) rfl <| .nil) ?_
  refine TE.next ?_
  refine T.seq ?_
  refine T.region ?_
  refine TL.val (OpV.loadA ag_24 rfl (Cels.blkAt (anL (fromAV (gs.map LgA.lg) cols line cell).1 (fromAV (gs.map LgA.lg) cols line cell).2) (by first | exact P0 | exact P1 | exact P2 | exact P3 | exact P4 | exact P5 | exact P6) rfl rfl)) rfl ?_
  refine TL.val (OpV.loadA ag_24 rfl (Cels.blkAt (anL v1 v2) (by first | exact P0 | exact P1 | exact P2 | exact P3 | exact P4 | exact P5 | exact P6) rfl rfl)) rfl ?_
  refine TL.val (OpV.aeql rfl rfl eg_24 (eq_24 (fromAV (gs.map LgA.lg) cols line cell) (v1, v2))) rfl ?_
  refine TL.val (OpV.move rfl) rfl ?_
  refine TL.part (t := 26) rfl ?_ ?_
  · intro hg26
    refine TL.open rfl rfl ?_
    refine TL.val (OpV.move rfl) rfl ?_
    refine TL.open rfl rfl ?_
    refine TL.val (OpV.move rfl) rfl ?_
    refine TL.open rfl rfl ?_
    refine TL.val (OpV.eql rfl rfl) rfl ?_
    refine TL.val ((by first | exact OpV.pick_t rfl rfl | exact OpV.pick_f rfl rfl)) rfl ?_
    refine TL.val (OpV.assign rfl) rfl ?_
    refine TL.nil ?_
    refine TE.sub (.cons (t := 12) rfl <| .nil) ?_
    refine TE.next ?_
    refine T.ret ?_
    refine TE.ret1 rfl (ResV.tmp rfl) ?_
    exact fun w1 k1 => ⟨ret_bool (by rw [fromLawV]; grind), k1.bel⟩
  · intro hg26
    refine TL.shut rfl rfl ?_
    refine TL.shut rfl rfl ?_
    refine TL.shut rfl rfl ?_
    refine TL.val ((by first | exact OpV.pick_t rfl rfl | exact OpV.pick_f rfl rfl)) rfl ?_
    refine TL.val (OpV.assign rfl) rfl ?_
    refine TL.nil ?_
    refine TE.sub (.cons (t := 12) rfl <| .nil) ?_
    refine TE.next ?_
    refine T.ret ?_
    refine TE.ret1 rfl (ResV.tmp rfl) ?_
    exact fun w1 k1 => ⟨ret_bool (by rw [fromLawV]; grind), k1.bel⟩

theorem KOk.frs3 {w : World} {σ τ υ : Nat → Option Obj} (h : ∀ b o, σ b = some o → w.heap[b]? = some o) (h' : ∀ b o, τ b = some o → w.heap[b]? = some o) (h2 : ∀ b o, υ b = some o → w.heap[b]? = some o) : KOk w [.fr σ, .fr τ, .fr υ] w :=
  ⟨Below.refl _ _, h, fun e he hm => (by simp only [List.mem_cons, List.not_mem_nil, or_false] at he; rcases he with rfl | rfl <;> cases hm), h', fun e he hm => (by rw [List.mem_singleton.1 he] at hm; cases hm), h2, fun e he => (by simp at he), trivial⟩
set_option maxRecDepth 100000 in
set_option maxHeartbeats 400000 in
theorem carl_c {σ υ τ : Nat → Option Obj} {A A3 A4 : Option Addr} {n c n3 c3 n4 c4 : Nat} {ls : List LnA} {as_ bs : List (Int × Int)} (cols no : Int) (w : World) (L : LaidW w) (h : LsA σ A n c ls) (h3 : AsR υ A3 n3 c3 as_) (h4 : AsR τ A4 n4 c4 bs) (hn : n ≤ 131072) (hn3 : n3 ≤ 131072) (hs : ∀ b o, σ b = some o → w.heap[b]? = some o) (hu : ∀ b o, υ b = some o → w.heap[b]? = some o) (ht : ∀ b o, τ b = some o → w.heap[b]? = some o) : Calls Tryd.prog 25 #[.slice A n c, .int .i64 cols, .slice A3 n3 c3, .int .i64 no, .slice A4 n4 c4] w (Ret (.bool (carLawV (ls.map LnA.ln) cols as_ no bs)) w) := by
  have hn63 := h.1.2.1
  have hc63 := h.1.2.2.1
  have hl1 := h.1.1
  refine calls_T (vs := [.slice A n c, .int .i64 cols, .slice A3 n3 c3, .int .i64 no, .slice A4 n4 c4]) (L0 := [(0, .slice A n c), (1, .int .i64 cols), (2, .slice A3 n3 c3), (3, .int .i64 no), (4, .slice A4 n4 c4)]) Tryd.func25 rfl rfl rfl rfl (KOk.frs3 hs hu ht) ?_
  refine T.seq ?_
  refine T.region ?_
  refine TL.val (OpV.assign rfl) rfl ?_
  refine TL.nil ?_
  refine TE.next ?_
  refine T.seq ?_
  refine T.region ?_
  refine TL.val (OpV.move rfl) rfl ?_
  refine TL.val (OpV.move rfl) rfl ?_
  refine TL.val (OpV.move rfl) rfl ?_
  refine TL.callx (g := 33) rfl go_33 rfl (fun wz k1 => own_x k1 (carry_c cols wz (L.below k1.bel) h h3 hn hn3 (k1.get (e := .fr σ) (by first | exact P0 | exact P1 | exact P2 | exact P3 | exact P4 | exact P5 | exact P6 | exact P7)) (k1.get (e := .fr υ) (by first | exact P0 | exact P1 | exact P2 | exact P3 | exact P4 | exact P5 | exact P6 | exact P7)))) rfl ?_
  rintro ⟨A9, n9, c9, ρ9⟩ h9
  replace h9 : AsR ρ9 A9 n9 c9 (carV (ls.map LnA.ln) cols as_) := h9
  refine TL.said (t := 17) rfl (show _ = Value.tuple #[.slice A9 n9 c9, .int .i64 (carE (ls.map LnA.ln) cols as_)] from rfl) ?_
  refine TL.val (OpV.move rfl) rfl ?_
  refine TL.val (OpV.extract rfl rfl) rfl ?_
  refine TL.val (OpV.extract rfl rfl) rfl ?_
  refine TL.val (OpV.assign rfl) rfl ?_
  refine TL.val (OpV.assign rfl) rfl ?_
  refine TL.nil ?_
  refine TE.sub (.cons (t := 3) rfl <| .cons (t := 4) rfl <| .cons (t := 11) rfl <| .cons (t := 12) rfl <| .nil) ?_
  refine TE.next ?_
  refine T.seq ?_
  refine T.region ?_
  refine TL.val (OpV.move rfl) rfl ?_
  refine TL.val (OpV.move rfl) rfl ?_
  refine TL.call (g := 27) rfl go_27 rfl (fun w1 k1 => asame_c w1 h9 h4 (fun b o hb => (k1.get (e := .own ρ9) (by first | exact P0 | exact P1 | exact P2 | exact P3 | exact P4 | exact P5 | exact P6 | exact P7) b o hb).2) (k1.get (e := .fr τ) (by first | exact P0 | exact P1 | exact P2 | exact P3 | exact P4 | exact P5 | exact P6 | exact P7))) rfl ?_
  refine TL.val (OpV.move rfl) rfl ?_
  refine TL.part (t := 23) rfl ?_ ?_
  · intro hg23
    refine TL.open rfl rfl ?_
    refine TL.val (OpV.move rfl) rfl ?_
    refine TL.open rfl rfl ?_
    refine TL.val (OpV.move rfl) rfl ?_
    refine TL.open rfl rfl ?_
    refine TL.val (OpV.eql rfl rfl) rfl ?_
    refine TL.val ((by first | exact OpV.pick_t rfl rfl | exact OpV.pick_f rfl rfl)) rfl ?_
    refine TL.val (OpV.assign rfl) rfl ?_
    refine TL.nil ?_
    refine TE.sub (.cons (t := 10) rfl <| .nil) ?_
    refine TE.next ?_
    refine T.ret ?_
    refine TE.ret1 rfl (ResV.tmp rfl) ?_
    exact fun w1 k1 => ⟨ret_bool (by rw [carLawV]; grind), k1.bel⟩
  · intro hg23
    refine TL.shut rfl rfl ?_
    refine TL.shut rfl rfl ?_
    refine TL.shut rfl rfl ?_
    refine TL.val ((by first | exact OpV.pick_t rfl rfl | exact OpV.pick_f rfl rfl)) rfl ?_
    refine TL.val (OpV.assign rfl) rfl ?_
    refine TL.nil ?_
    refine TE.sub (.cons (t := 10) rfl <| .nil) ?_
    refine TE.next ?_
    refine T.ret ?_
    refine TE.ret1 rfl (ResV.tmp rfl) ?_
    exact fun w1 k1 => ⟨ret_bool (by rw [carLawV]; grind), k1.bel⟩

theorem GsR.mono {σ τ : Nat → Option Obj} {A : Option Addr} {n c : Nat} {X : List Lg} (h : GsR σ A n c X) (hs : ∀ b o, σ b = some o → τ b = some o) : GsR τ A n c X := by
  obtain ⟨ls, h1, h2⟩ := h
  exact ⟨ls, ⟨SlR.mono h1.1 hs, fun l hl => (h1.2 l hl).mono hs⟩, h2⟩
theorem tol_r {σ : Nat → Option Obj} {A : Option Addr} {n c : Nat} {X : List Ln} (a1 a2 l cc no : Int) (w : World) (L : LaidW w) (h : LsR σ A n c X) (hn : n ≤ 131072) (hs : ∀ b o, σ b = some o → w.heap[b]? = some o) : Calls Tryd.prog 17 #[.slice A n c, .agg (anL a1 a2).toArray, .int .i64 l, .int .i64 cc, .int .i64 no] w (Ret (.bool (toLawV X (a1, a2) l cc no)) w) := by
  obtain ⟨ls, hl, rfl⟩ := h
  exact tol_c a1 a2 l cc no w L hl hn hs
theorem froml_r {τ : Nat → Option Obj} {A2 : Option Addr} {n2 c2 : Nat} {G : List Lg} (cols line cell v1 v2 no : Int) (w : World) (L : LaidW w) (h2 : GsR τ A2 n2 c2 G) (hn2 : n2 ≤ 131072) (hcl : cell ≤ 2199023255552) (ht : ∀ b o, τ b = some o → w.heap[b]? = some o) : Calls Tryd.prog 22 #[.slice A2 n2 c2, .int .i64 cols, .int .i64 line, .int .i64 cell, .agg (anL v1 v2).toArray, .int .i64 no] w (Ret (.bool (fromLawV G cols line cell (v1, v2) no)) w) := by
  obtain ⟨gs, hg, rfl⟩ := h2
  exact froml_c cols line cell v1 v2 no w L hg hn2 hcl ht
theorem carl_r {σ υ τ : Nat → Option Obj} {A A3 A4 : Option Addr} {n c n3 c3 n4 c4 : Nat} {X : List Ln} {as_ bs : List (Int × Int)} (cols no : Int) (w : World) (L : LaidW w) (h : LsR σ A n c X) (h3 : AsR υ A3 n3 c3 as_) (h4 : AsR τ A4 n4 c4 bs) (hn : n ≤ 131072) (hn3 : n3 ≤ 131072) (hs : ∀ b o, σ b = some o → w.heap[b]? = some o) (hu : ∀ b o, υ b = some o → w.heap[b]? = some o) (ht : ∀ b o, τ b = some o → w.heap[b]? = some o) : Calls Tryd.prog 25 #[.slice A n c, .int .i64 cols, .slice A3 n3 c3, .int .i64 no, .slice A4 n4 c4] w (Ret (.bool (carLawV X cols as_ no bs)) w) := by
  obtain ⟨ls, hl, rfl⟩ := h
  exact carl_c cols no w L hl h3 h4 hn hn3 hs hu ht
theorem rlines_r {σ : Nat → Option Obj} {A : Option Addr} {n c : Nat} {X : List Ln} (w : World) (h : LsR σ A n c X) (hs : ∀ b o, σ b = some o → w.heap[b]? = some o) (hn : n ≤ 131072) (hb : (X.all fun x => decide (x.cells.length ≤ 1000)) = true) : Calls Tryd.prog 26 #[.slice A n c] w (fun e w' => ∃ v : SV, e = .returned v.v ∧ GsR v.σ v.A v.n v.c (lgG [] 0 X) ∧ KOk w [.own v.σ] w') := by
  obtain ⟨ls, hl, rfl⟩ := h
  refine rlines_c w hl hs hn fun x hx => ?_
  obtain ⟨l, hl, rfl⟩ := List.mem_map.1 hx
  exact of_decide_eq_true (List.all_eq_true.1 hb l.ln (List.mem_map_of_mem hl))
end Go.Proofs.YtdmpodpdpncobaaDoor
