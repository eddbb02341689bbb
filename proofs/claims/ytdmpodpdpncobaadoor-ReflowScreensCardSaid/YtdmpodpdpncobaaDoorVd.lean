/-
  The walks of the reference of places. No condition.
-/
import Derived.Test.YtdmpodpdpncobaaDoorVc
import Derived.Test.YtdmpodpdpncobaaDoorUd
namespace Go.Proofs.YtdmpodpdpncobaaDoor
open Go.RowKit
set_option linter.unusedSimpArgs false
set_option linter.unusedVariables false

theorem eq_24 (x y : Int × Int) (w : World) : (Op.equal 24 (.agg (aL x).toArray) (.agg (aL y).toArray)).run Tryd.prog w = .ok (decide (x = y)) w := by
  obtain ⟨a, b⟩ := x
  obtain ⟨a', b'⟩ := y
  have e : decide (((a, b) : Int × Int) = (a', b')) = (a == a' && b == b') := by rw [Bool.eq_iff_iff]; simp
  rw [e]
  show (Op.equalIn (9998 + 2) _ _ _).run _ _ = _
  cases h1 : a == a' <;> cases h2 : b == b' <;> simp [go_sem, part, aL, anL, h1, h2]
theorem fld_99_2 (A1 : Option Addr) (n1 c1 : Nat) (A2 : Option Addr) (n2 c2 : Nat) (r k : Int) (w : World) : (Instr.field 99 (.agg (ptL A1 n1 c1 A2 n2 c2 r k).toArray) 2).run Tryd.prog w = .ok (.int .i64 r) w := by kernel_rfl
theorem one_fll (xs : List LnA) : ((fll xs).all fun u => u.oneCell') = true := by
  induction xs with
  | nil => rfl
  | cons c t ih =>
    rw [fll, List.flatMap_cons, List.all_append, ← fll, ih]
    rfl
theorem Src.sl {α : Type} {f : α → List Value} {z : Nat} (hf : ∀ x, (f x).length = z) (hz : 0 < z) {w0 : World} {K K1 : List Ent} {σ : Nat → Option Obj} {A : Option Addr} {m c : Nat} {xs : List α} (p : Pick K (.fr σ) K1) (h : SlR z (fun x cs => cs = f x) σ A m c xs) : Src w0 K A m z (xs.flatMap f) := fun w k => by
  refine ⟨by rw [length_flat hf, h.1], fun hn => ?_⟩
  obtain ⟨b, o, hA, hc⟩ := h.2.2.2.2 hn
  have hcell : ∀ j, j < m * z → ∃ v, (xs.flatMap f)[j]? = some v ∧ w.cell? ⟨b, o + j, none⟩ = some v := fun j hj => by
    have hi : j / z < m := (Nat.div_lt_iff_lt_mul hz).2 hj
    obtain ⟨x, hx⟩ := get_of_lt h.1 hi
    obtain ⟨_, rfl, _, hat⟩ := hc _ x hx
    have hj2 : j % z < (f x).length := by rw [hf]; exact Nat.mod_lt _ hz
    have hv : (f x)[j % z]? = some (f x)[j % z] := List.getElem?_eq_getElem hj2
    have e : j / z * z + j % z = j := by rw [Nat.mul_comm]; exact Nat.div_add_mod j z
    refine ⟨(f x)[j % z], ?_, ?_⟩
    · have := get_flat hf xs _ _ x _ hx hv
      rwa [e] at this
    · have := at_cell (hat _ _ hv) (k.get p)
      rwa [Nat.add_assoc, e] at this
  refine ⟨b, o, hA, ?_, fun j hj => ?_⟩
  · obtain ⟨v, _, h2⟩ := hcell 0 (Nat.mul_pos hn hz)
    unfold World.cell? at h2
    split at h2
    · rename_i X T f hb
      exact lt_of_some hb
    · cases h2
  · obtain ⟨v, h1, h2⟩ := hcell j hj
    rw [h1, h2]
theorem KOk.atRow {w0 w : World} {K K1 : List Ent} {e z m c : Nat} {A : Option Addr} {xs : List Value} (k : KOk w0 K w) (p : Pick K (.row e z A m c xs) K1) : RowOk (fun b => w.heap[b]?) A m c z xs := by
  obtain ⟨σ, h, k2⟩ := KOk.rowOwn (k.pick p)
  exact h.mono fun b o hb => (k2.all.1 b o hb).2
set_option maxRecDepth 100000 in
set_option maxHeartbeats 1000000 in
theorem rhas_c {σ : Nat → Option Obj} {A : Option Addr} {n c : Nat} {ls : List LnA} (a1 a2 : Int) (w : World) (h : LsA σ A n c ls) (hs : ∀ b o, σ b = some o → w.heap[b]? = some o) : Calls Tryd.prog 18 #[.slice A n c, .agg (anL a1 a2).toArray] w (Ret (.bool (hasP (ls.map LnA.ln) (a1, a2))) w) := by
 have hn63 := h.1.2.1
 have hc63 := h.1.2.2.1
 have hl1 := h.1.1
 have hXl : (ls.map LnA.ln).length = n := by rw [List.length_map]; exact hl1
 refine calls_T (vs := [.slice A n c, .agg (anL a1 a2).toArray]) (L0 := [(0, .slice A n c), (1, .agg (anL a1 a2).toArray)]) Tryd.func18 rfl rfl rfl rfl (KOk.fr1 hs) ?_
 refine T.seq ?_
 refine T.region ?_
 refine TL.boxA rfl rfl ?_
 intro b3
 refine TL.val (OpV.assign rfl) rfl ?_
 refine TL.nil ?_
 refine TE.next ?_
 refine T.seq ?_
 refine T.quiet mix (by kernel_rfl) ?_
 refine TQ.val (OpV.fieldAddr rfl fo_24_0) rfl ?_
 refine TQ.val (OpV.load pl_3 rfl (by first | exact Cel.blk P0 rfl | exact Cel.blk P1 rfl | exact Cel.blk P2 rfl | exact Cel.blk P3 rfl | exact Cel.blk P4 rfl | exact Cel.frA (hatx _ _ rfl))) rfl ?_
 refine TQ.val (OpV.geq rfl rfl) rfl ?_
 refine TQ.val (OpV.move rfl) rfl ?_
 refine TQ.part (t := 8) rfl ?_ ?_
 ·
  intro hg8
  have ha0 := of_decide_eq_true hg8
  refine TQ.open rfl rfl ?_
  refine TQ.val (OpV.fieldAddr rfl fo_24_0) rfl ?_
  refine TQ.open rfl rfl ?_
  refine TQ.val (OpV.load pl_3 rfl (by first | exact Cel.blk P0 rfl | exact Cel.blk P1 rfl | exact Cel.blk P2 rfl | exact Cel.blk P3 rfl | exact Cel.blk P4 rfl | exact Cel.frA (hatx _ _ rfl))) rfl ?_
  refine TQ.open rfl rfl ?_
  refine TQ.val (OpV.move rfl) rfl ?_
  refine TQ.open rfl rfl ?_
  refine TQ.val (OpV.len Tryd.underlying22 rfl) rfl ?_
  refine TQ.open rfl rfl ?_
  refine TQ.val (OpV.lss rfl rfl) rfl ?_
  refine TQ.val ((by first | exact OpV.pick_t rfl rfl | exact OpV.pick_f rfl rfl)) rfl ?_
  refine TQ.val (OpV.move rfl) rfl ?_
  refine TQ.part (t := 15) rfl ?_ ?_
  ·
   intro hg15
   have ha9 := of_decide_eq_true hg15
   obtain ⟨k, rfl⟩ : ∃ k : Nat, a1 = (k : Int) := ⟨a1.toNat, by omega⟩
   obtain ⟨x, hlx⟩ := get_of_lt h.1.1 (show k < n by omega)
   obtain ⟨b, o, hA, hat⟩ := h.1.2.2.2.2 (by omega)
   obtain ⟨_, rfl, _, hatx⟩ := hat _ x hlx
   have hcx := h.2 x (List.mem_of_getElem? hlx)
   have hXx : (ls.map LnA.ln)[k]? = some x.ln := by simp [hlx]
   have hlenx : x.ln.cells.length = x.n := hcx.1
   have hnx := hcx.2.1
   have hmx := hcx.2.2.1
   refine TQ.open rfl rfl ?_
   refine TQ.val (OpV.fieldAddr rfl fo_24_1) rfl ?_
   refine TQ.open rfl rfl ?_
   refine TQ.val (OpV.load pl_3 rfl (by first | exact Cel.blk P0 rfl | exact Cel.blk P1 rfl | exact Cel.blk P2 rfl | exact Cel.blk P3 rfl | exact Cel.blk P4 rfl | exact Cel.frA (hatx _ _ rfl))) rfl ?_
   refine TQ.open rfl rfl ?_
   refine TQ.val (OpV.geq rfl rfl) rfl ?_
   refine TQ.val ((by first | exact OpV.pick_t rfl rfl | exact OpV.pick_f rfl rfl)) rfl ?_
   refine TQ.val (OpV.move rfl) rfl ?_
   refine TQ.part (t := 20) rfl ?_ ?_
   ·
    intro hg20
    have hb0 := of_decide_eq_true hg20
    refine TQ.open rfl rfl ?_
    refine TQ.val (OpV.fieldAddr rfl fo_24_1) rfl ?_
    refine TQ.open rfl rfl ?_
    refine TQ.val (OpV.load pl_3 rfl (by first | exact Cel.blk P0 rfl | exact Cel.blk P1 rfl | exact Cel.blk P2 rfl | exact Cel.blk P3 rfl | exact Cel.blk P4 rfl | exact Cel.frA (hatx _ _ rfl))) rfl ?_
    refine TQ.open rfl rfl ?_
    refine TQ.val (OpV.move rfl) rfl ?_
    refine TQ.open rfl rfl ?_
    refine TQ.val (OpV.fieldAddr rfl fo_24_0) rfl ?_
    refine TQ.open rfl rfl ?_
    refine TQ.val (OpV.load pl_3 rfl (by first | exact Cel.blk P0 rfl | exact Cel.blk P1 rfl | exact Cel.blk P2 rfl | exact Cel.blk P3 rfl | exact Cel.blk P4 rfl | exact Cel.frA (hatx _ _ rfl))) rfl ?_
    refine TQ.open rfl rfl ?_
    refine TQ.val (OpV.indexAddr (j := k) se_22 rfl hA rfl rfl (by omega)) rfl ?_
    refine TQ.open rfl rfl ?_
    refine TQ.val (OpV.fieldAddr rfl fo_65_0) rfl ?_
    refine TQ.open rfl rfl ?_
    refine TQ.val (OpV.load pl_35 rfl (by first | exact Cel.blk P0 rfl | exact Cel.blk P1 rfl | exact Cel.blk P2 rfl | exact Cel.blk P3 rfl | exact Cel.blk P4 rfl | exact Cel.frA (hatx _ _ rfl))) rfl ?_
    refine TQ.open rfl rfl ?_
    refine TQ.val (OpV.len Tryd.underlying35 rfl) rfl ?_
    refine TQ.open rfl rfl ?_
    refine TQ.val (OpV.lss rfl rfl) rfl ?_
    refine TQ.val ((by first | exact OpV.pick_t rfl rfl | exact OpV.pick_f rfl rfl)) rfl ?_
    refine TQ.val (OpV.assign rfl) rfl ?_
    refine TQ.nil ?_
    refine TE.sub (.cons (t := 4) rfl <| .nil) ?_
    refine TE.next ?_
    refine T.ret ?_
    refine TE.ret1 rfl (ResV.tmp rfl) ?_
    exact fun w1 k1 => ⟨ret_bool (by first | exact hP.symm | (rw [hasP_at hXx (by omega), hlenx])), k1.bel⟩
   ·
    intro hg20
    have hP : hasP (ls.map LnA.ln) ((k : Int), a2) = false := hasP_col hXx (.inl (by have h9 := of_decide_eq_false hg20; omega))
    refine TQ.shut rfl rfl ?_
    refine TQ.shut rfl rfl ?_
    refine TQ.shut rfl rfl ?_
    refine TQ.shut rfl rfl ?_
    refine TQ.shut rfl rfl ?_
    refine TQ.shut rfl rfl ?_
    refine TQ.shut rfl rfl ?_
    refine TQ.shut rfl rfl ?_
    refine TQ.shut rfl rfl ?_
    refine TQ.shut rfl rfl ?_
    refine TQ.val ((by first | exact OpV.pick_t rfl rfl | exact OpV.pick_f rfl rfl)) rfl ?_
    refine TQ.val (OpV.assign rfl) rfl ?_
    refine TQ.nil ?_
    refine TE.sub (.cons (t := 4) rfl <| .nil) ?_
    refine TE.next ?_
    refine T.ret ?_
    refine TE.ret1 rfl (ResV.tmp rfl) ?_
    exact fun w1 k1 => ⟨ret_bool (by first | exact hP.symm | (rw [hasP_at hXx (by omega), hlenx])), k1.bel⟩
  ·
   intro hg15
   have hP : hasP (ls.map LnA.ln) (a1, a2) = false := hasP_row (.inr (by have h9 := of_decide_eq_false hg15; rw [hXl]; omega))
   refine TQ.shut rfl rfl ?_
   refine TQ.shut rfl rfl ?_
   refine TQ.shut rfl rfl ?_
   refine TQ.val ((by first | exact OpV.pick_t rfl rfl | exact OpV.pick_f rfl rfl)) rfl ?_
   refine TQ.val (OpV.move rfl) rfl ?_
   refine TQ.shut rfl rfl ?_
   refine TQ.shut rfl rfl ?_
   refine TQ.shut rfl rfl ?_
   refine TQ.shut rfl rfl ?_
   refine TQ.shut rfl rfl ?_
   refine TQ.shut rfl rfl ?_
   refine TQ.shut rfl rfl ?_
   refine TQ.shut rfl rfl ?_
   refine TQ.shut rfl rfl ?_
   refine TQ.shut rfl rfl ?_
   refine TQ.val ((by first | exact OpV.pick_t rfl rfl | exact OpV.pick_f rfl rfl)) rfl ?_
   refine TQ.val (OpV.assign rfl) rfl ?_
   refine TQ.nil ?_
   refine TE.sub (.cons (t := 4) rfl <| .nil) ?_
   refine TE.next ?_
   refine T.ret ?_
   refine TE.ret1 rfl (ResV.tmp rfl) ?_
   exact fun w1 k1 => ⟨ret_bool (by first | exact hP.symm | (rw [hasP_at hXx (by omega), hlenx])), k1.bel⟩
 ·
  intro hg8
  have hP : hasP (ls.map LnA.ln) (a1, a2) = false := hasP_row (.inl (by have h9 := of_decide_eq_false hg8; omega))
  refine TQ.shut rfl rfl ?_
  refine TQ.shut rfl rfl ?_
  refine TQ.shut rfl rfl ?_
  refine TQ.shut rfl rfl ?_
  refine TQ.shut rfl rfl ?_
  refine TQ.val ((by first | exact OpV.pick_t rfl rfl | exact OpV.pick_f rfl rfl)) rfl ?_
  refine TQ.val (OpV.move rfl) rfl ?_
  refine TQ.shut rfl rfl ?_
  refine TQ.shut rfl rfl ?_
  refine TQ.shut rfl rfl ?_
  refine TQ.val ((by first | exact OpV.pick_t rfl rfl | exact OpV.pick_f rfl rfl)) rfl ?_
  refine TQ.val (OpV.move rfl) rfl ?_
  refine TQ.shut rfl rfl ?_
  refine TQ.shut rfl rfl ?_
  refine TQ.shut rfl rfl ?_
  refine TQ.shut rfl rfl ?_
  refine TQ.shut rfl rfl ?_
  refine TQ.shut rfl rfl ?_
  refine TQ.shut rfl rfl ?_
  refine TQ.shut rfl rfl ?_
  refine TQ.shut rfl rfl ?_
  refine TQ.shut rfl rfl ?_
  refine TQ.val ((by first | exact OpV.pick_t rfl rfl | exact OpV.pick_f rfl rfl)) rfl ?_
  refine TQ.val (OpV.assign rfl) rfl ?_
  refine TQ.nil ?_
  refine TE.sub (.cons (t := 4) rfl <| .nil) ?_
  refine TE.next ?_
  refine T.ret ?_
  refine TE.ret1 rfl (ResV.tmp rfl) ?_
  exact fun w1 k1 => ⟨ret_bool (by first | exact hP.symm | (rw [hasP_at hXx (by omega), hlenx])), k1.bel⟩
set_option maxRecDepth 100000 in
set_option maxHeartbeats 1000000 in
theorem rfind_c {σ : Nat → Option Obj} {A : Option Addr} {n c : Nat} {gs : List LgA} (row : Int) (i : Nat) (g0 : Lg) (w : World) (h : GsA σ A n c gs) (hj : ∀ j, j < i → ∀ y, (gs.map LgA.lg)[j]? = some y → hasR row y = false) (hg : (gs.map LgA.lg)[i]? = some g0) (hr : hasR row g0 = true) (hr0 : 0 ≤ row ∧ row ≤ 1099511627776) (hb : ∀ g ∈ gs, (0 ≤ g.frm ∧ g.frm ≤ 1099511627776) ∧ (0 ≤ g.rows ∧ g.rows ≤ 1099511627776)) (hs : ∀ b o, σ b = some o → w.heap[b]? = some o) : Calls Tryd.prog 53 #[.slice A n c, .int .i64 row] w (Ret (.int .i64 (i : Int)) w) := by
 have hn63 := h.1.2.1
 have hc63 := h.1.2.2.1
 have hl1 := h.1.1
 refine calls_T (vs := [.slice A n c, .int .i64 row]) (L0 := [(0, .slice A n c), (1, .int .i64 row)]) Tryd.func53 rfl rfl rfl rfl (KOk.fr1 hs) ?_
 refine T.seq ?_
 refine T.region ?_
 refine TL.val (OpV.assign rfl) rfl ?_
 refine TL.nil ?_
 refine TE.next ?_
 refine T.seq ?_
 refine T.seq ?_
 refine T.region ?_
 refine TL.val (OpV.assign rfl) rfl ?_
 refine TL.nil ?_
 refine TE.next ?_
 refine T.block ?_
 refine T.loop (ι := Nat) (fun q => q ≤ i) (fun q => (i + 1 - q)) (fun q => [(0, .slice A n c), (1, .int .i64 row), (5, .int .i64 (q : Int))]) (fun q => [.fr σ]) 0 (Nat.zero_le _) (.cons (t := 0) rfl <| .cons (t := 1) rfl <| .cons (t := 5) rfl <| .nil) (Kle.refl) ?_
 rintro q hR
 refine T.seq ?_
 refine T.seq ?_
 refine T.region ?_
 refine TL.val (OpV.move rfl) rfl ?_
 refine TL.val (OpV.move rfl) rfl ?_
 refine TL.val (OpV.len Tryd.underlying34 rfl) rfl ?_
 refine TL.val (OpV.lss rfl rfl) rfl ?_
 refine TL.nil ?_
 refine TE.next ?_
 refine T.cond rfl ?_ ?_
 ·
  intro ht9
  have hqn : q < n := by have h9 := of_decide_eq_true ht9; omega
  obtain ⟨y, hy⟩ := get_of_lt h.1.1 hqn
  obtain ⟨b, o, hA, hat⟩ := h.1.2.2.2.2 (by omega)
  obtain ⟨_, rfl, _, haty⟩ := hat _ y hy
  have hyG : (gs.map LgA.lg)[q]? = some y.lg := by simp [hy]
  have hyb := hb y (List.mem_of_getElem? hy)
  refine T.skip ?_
  refine TE.next ?_
  refine T.seq ?_
  refine T.block ?_
  refine T.seq ?_
  refine T.quiet mix (by kernel_rfl) ?_
  refine TQ.val (OpV.move rfl) rfl ?_
  refine TQ.val (OpV.move rfl) rfl ?_
  refine TQ.val (OpV.indexAddr se_34 rfl hA rfl (by rfl) (by first | omega | simp)) rfl ?_
  refine TQ.val (OpV.fieldAddr rfl fo_37_1) rfl ?_
  refine TQ.val (OpV.load pl_3 rfl (by first | exact Cel.blk P0 rfl | exact Cel.blk P1 rfl | exact Cel.blk P2 rfl | exact Cel.blk P3 rfl | exact Cel.frA (haty _ _ rfl))) rfl ?_
  refine TQ.val (OpV.move rfl) rfl ?_
  refine TQ.val (OpV.leq rfl rfl) rfl ?_
  refine TQ.val (OpV.move rfl) rfl ?_
  refine TQ.part (t := 19) rfl ?_ ?_
  ·
   intro hg19
   have c1 := of_decide_eq_true hg19
   refine TQ.open rfl rfl ?_
   refine TQ.val (OpV.move rfl) rfl ?_
   refine TQ.open rfl rfl ?_
   refine TQ.val (OpV.move rfl) rfl ?_
   refine TQ.open rfl rfl ?_
   refine TQ.val (OpV.indexAddr se_34 rfl hA rfl (by rfl) (by first | omega | simp)) rfl ?_
   refine TQ.open rfl rfl ?_
   refine TQ.val (OpV.fieldAddr rfl fo_37_2) rfl ?_
   refine TQ.open rfl rfl ?_
   refine TQ.val (OpV.load pl_3 rfl (by first | exact Cel.blk P0 rfl | exact Cel.blk P1 rfl | exact Cel.blk P2 rfl | exact Cel.blk P3 rfl | exact Cel.frA (haty _ _ rfl))) rfl ?_
   refine TQ.open rfl rfl ?_
   refine TQ.val (OpV.gtr rfl rfl) rfl ?_
   refine TQ.val ((by first | exact OpV.pick_t rfl rfl | exact OpV.pick_f rfl rfl)) rfl ?_
   refine TQ.val (OpV.move rfl) rfl ?_
   refine TQ.part (t := 27) rfl ?_ ?_
   ·
    intro hg27
    have c2 := of_decide_eq_true hg27
    refine TQ.open rfl rfl ?_
    refine TQ.val (OpV.move rfl) rfl ?_
    refine TQ.open rfl rfl ?_
    refine TQ.val (OpV.conv Tryd.underlying3 Tryd.underlying127 rfl (by first | exact IntWalk.u64_in _ ⟨by omega, by omega⟩ | rfl)) rfl ?_
    refine TQ.open rfl rfl ?_
    refine TQ.val (OpV.move rfl) rfl ?_
    refine TQ.open rfl rfl ?_
    refine TQ.val (OpV.move rfl) rfl ?_
    refine TQ.open rfl rfl ?_
    refine TQ.val (OpV.indexAddr se_34 rfl hA rfl (by rfl) (by first | omega | simp)) rfl ?_
    refine TQ.open rfl rfl ?_
    refine TQ.val (OpV.fieldAddr rfl fo_37_1) rfl ?_
    refine TQ.open rfl rfl ?_
    refine TQ.val (OpV.load pl_3 rfl (by first | exact Cel.blk P0 rfl | exact Cel.blk P1 rfl | exact Cel.blk P2 rfl | exact Cel.blk P3 rfl | exact Cel.frA (haty _ _ rfl))) rfl ?_
    refine TQ.open rfl rfl ?_
    refine TQ.val (OpV.conv Tryd.underlying3 Tryd.underlying127 rfl (by first | exact IntWalk.u64_in _ ⟨by omega, by omega⟩ | rfl)) rfl ?_
    refine TQ.open rfl rfl ?_
    refine TQ.val (OpV.sub rfl rfl (by first | exact IntWalk.u64_in _ ⟨by omega, by omega⟩ | rfl)) rfl ?_
    refine TQ.open rfl rfl ?_
    refine TQ.val (OpV.move rfl) rfl ?_
    refine TQ.open rfl rfl ?_
    refine TQ.val (OpV.move rfl) rfl ?_
    refine TQ.open rfl rfl ?_
    refine TQ.val (OpV.indexAddr se_34 rfl hA rfl (by rfl) (by first | omega | simp)) rfl ?_
    refine TQ.open rfl rfl ?_
    refine TQ.val (OpV.fieldAddr rfl fo_37_2) rfl ?_
    refine TQ.open rfl rfl ?_
    refine TQ.val (OpV.load pl_3 rfl (by first | exact Cel.blk P0 rfl | exact Cel.blk P1 rfl | exact Cel.blk P2 rfl | exact Cel.blk P3 rfl | exact Cel.frA (haty _ _ rfl))) rfl ?_
    refine TQ.open rfl rfl ?_
    refine TQ.val (OpV.conv Tryd.underlying3 Tryd.underlying127 rfl (by first | exact IntWalk.u64_in _ ⟨by omega, by omega⟩ | rfl)) rfl ?_
    refine TQ.open rfl rfl ?_
    refine TQ.val (OpV.lss rfl rfl) rfl ?_
    refine TQ.val ((by first | exact OpV.pick_t rfl rfl | exact OpV.pick_f rfl rfl)) rfl ?_
    refine TQ.nil ?_
    refine TE.sub (.cons (t := 0) rfl <| .cons (t := 1) rfl <| .cons (t := 5) rfl <| .cons (t := 44) rfl <| .nil) ?_
    refine TE.next ?_
    refine T.cond rfl ?_ ?_
    ·
     intro ht44
     have hyes : hasR row y.lg = true := hasR_yes (by show (y.frm ≤ row ∧ 0 < y.rows ∧ row - y.frm < y.rows); have h9 := of_decide_eq_true ht44; omega)
     have hqi : q = i := by rcases Nat.lt_or_eq_of_le hR with h9 | h9; have h8 := hj q h9 _ hyG; rw [hyes] at h8; cases h8; exact h9
     refine T.seq ?_
     refine T.region ?_
     refine TL.val (OpV.move rfl) rfl ?_
     refine TL.val (OpV.assign rfl) rfl ?_
     refine TL.nil ?_
     refine TE.next ?_
     refine T.ret ?_
     refine TE.out_ret ?_
     refine TE.pass_ret ?_
     refine TE.pass_ret ?_
     refine TE.out_ret ?_
     refine TE.pass_ret ?_
     refine TE.ret1 rfl (ResV.tmp rfl) ?_
     exact fun w1 k1 => ⟨by rw [hqi], k1.bel⟩
    ·
     intro ht44
     have hno : hasR row y.lg = false := hasR_not (by show ¬ (y.frm ≤ row ∧ 0 < y.rows ∧ row - y.frm < y.rows); have h9 := of_decide_eq_false ht44; omega)
     have hqi : q < i := by rcases Nat.lt_or_eq_of_le hR with h9 | rfl; exact h9; rw [hyG] at hg; cases hg; rw [hno] at hr; cases hr
     refine T.skip ?_
     refine TE.out ?_
     refine TE.next ?_
     refine T.region ?_
     refine TL.val (OpV.move rfl) rfl ?_
     refine TL.val (OpV.add rfl rfl (by first | exact IntWalk.i64_in _ ⟨by omega, by omega⟩ | rfl)) rfl ?_
     refine TL.val (OpV.assign rfl) rfl ?_
     refine TL.nil ?_
     exact TE.meet (q + 1) ⟨by omega, by omega⟩ (.cons (t := 0) (by first | rfl | (simp [lk]; done)) <| .cons (t := 1) (by first | rfl | (simp [lk]; done)) <| .cons (t := 5) (by first | rfl | (simp [lk]; done)) <| .nil) (Perm.kle (.cons (by first | exact P0 | exact P1 | exact P2 | exact P3 | exact P4 | exact P5 | exact P6 | exact P7) .nil))
   ·
    intro hg27
    have hno : hasR row y.lg = false := hasR_not (by show ¬ (y.frm ≤ row ∧ 0 < y.rows ∧ row - y.frm < y.rows); have h9 := of_decide_eq_false hg27; omega)
    have hqi : q < i := by rcases Nat.lt_or_eq_of_le hR with h9 | rfl; exact h9; rw [hyG] at hg; cases hg; rw [hno] at hr; cases hr
    refine TQ.shut rfl rfl ?_
    refine TQ.shut rfl rfl ?_
    refine TQ.shut rfl rfl ?_
    refine TQ.shut rfl rfl ?_
    refine TQ.shut rfl rfl ?_
    refine TQ.shut rfl rfl ?_
    refine TQ.shut rfl rfl ?_
    refine TQ.shut rfl rfl ?_
    refine TQ.shut rfl rfl ?_
    refine TQ.shut rfl rfl ?_
    refine TQ.shut rfl rfl ?_
    refine TQ.shut rfl rfl ?_
    refine TQ.shut rfl rfl ?_
    refine TQ.shut rfl rfl ?_
    refine TQ.shut rfl rfl ?_
    refine TQ.shut rfl rfl ?_
    refine TQ.val ((by first | exact OpV.pick_t rfl rfl | exact OpV.pick_f rfl rfl)) rfl ?_
    refine TQ.nil ?_
    refine TE.sub (.cons (t := 0) rfl <| .cons (t := 1) rfl <| .cons (t := 5) rfl <| .cons (t := 44) rfl <| .nil) ?_
    refine TE.next ?_
    refine T.no rfl ?_
    refine T.skip ?_
    refine TE.out ?_
    refine TE.next ?_
    refine T.region ?_
    refine TL.val (OpV.move rfl) rfl ?_
    refine TL.val (OpV.add rfl rfl (by first | exact IntWalk.i64_in _ ⟨by omega, by omega⟩ | rfl)) rfl ?_
    refine TL.val (OpV.assign rfl) rfl ?_
    refine TL.nil ?_
    exact TE.meet (q + 1) ⟨by omega, by omega⟩ (.cons (t := 0) (by first | rfl | (simp [lk]; done)) <| .cons (t := 1) (by first | rfl | (simp [lk]; done)) <| .cons (t := 5) (by first | rfl | (simp [lk]; done)) <| .nil) (Perm.kle (.cons (by first | exact P0 | exact P1 | exact P2 | exact P3 | exact P4 | exact P5 | exact P6 | exact P7) .nil))
  ·
   intro hg19
   have hno : hasR row y.lg = false := hasR_not (by show ¬ (y.frm ≤ row ∧ 0 < y.rows ∧ row - y.frm < y.rows); have h9 := of_decide_eq_false hg19; omega)
   have hqi : q < i := by rcases Nat.lt_or_eq_of_le hR with h9 | rfl; exact h9; rw [hyG] at hg; cases hg; rw [hno] at hr; cases hr
   refine TQ.shut rfl rfl ?_
   refine TQ.shut rfl rfl ?_
   refine TQ.shut rfl rfl ?_
   refine TQ.shut rfl rfl ?_
   refine TQ.shut rfl rfl ?_
   refine TQ.shut rfl rfl ?_
   refine TQ.val ((by first | exact OpV.pick_t rfl rfl | exact OpV.pick_f rfl rfl)) rfl ?_
   refine TQ.val (OpV.move rfl) rfl ?_
   refine TQ.shut rfl rfl ?_
   refine TQ.shut rfl rfl ?_
   refine TQ.shut rfl rfl ?_
   refine TQ.shut rfl rfl ?_
   refine TQ.shut rfl rfl ?_
   refine TQ.shut rfl rfl ?_
   refine TQ.shut rfl rfl ?_
   refine TQ.shut rfl rfl ?_
   refine TQ.shut rfl rfl ?_
   refine TQ.shut rfl rfl ?_
   refine TQ.shut rfl rfl ?_
   refine TQ.shut rfl rfl ?_
   refine TQ.shut rfl rfl ?_
   refine TQ.shut rfl rfl ?_
   refine TQ.shut rfl rfl ?_
   refine TQ.shut rfl rfl ?_
   refine TQ.val ((by first | exact OpV.pick_t rfl rfl | exact OpV.pick_f rfl rfl)) rfl ?_
   refine TQ.nil ?_
   refine TE.sub (.cons (t := 0) rfl <| .cons (t := 1) rfl <| .cons (t := 5) rfl <| .cons (t := 44) rfl <| .nil) ?_
   refine TE.next ?_
   refine T.no rfl ?_
   refine T.skip ?_
   refine TE.out ?_
   refine TE.next ?_
   refine T.region ?_
   refine TL.val (OpV.move rfl) rfl ?_
   refine TL.val (OpV.add rfl rfl (by first | exact IntWalk.i64_in _ ⟨by omega, by omega⟩ | rfl)) rfl ?_
   refine TL.val (OpV.assign rfl) rfl ?_
   refine TL.nil ?_
   exact TE.meet (q + 1) ⟨by omega, by omega⟩ (.cons (t := 0) (by first | rfl | (simp [lk]; done)) <| .cons (t := 1) (by first | rfl | (simp [lk]; done)) <| .cons (t := 5) (by first | rfl | (simp [lk]; done)) <| .nil) (Perm.kle (.cons (by first | exact P0 | exact P1 | exact P2 | exact P3 | exact P4 | exact P5 | exact P6 | exact P7) .nil))
 ·
  intro ht9
  exact absurd (of_decide_eq_false ht9) (by have h9 := (List.getElem?_eq_some_iff.1 hg).1; rw [List.length_map, h.1.1] at h9; omega)
set_option maxRecDepth 100000 in
set_option maxHeartbeats 1000000 in
theorem rfine_c {σ : Nat → Option Obj} {A : Option Addr} {n c : Nat} {gs : List LgA} (cols : Int) (w : World) (h : GsA σ A n c gs) (hs : ∀ b o, σ b = some o → w.heap[b]? = some o) : Calls Tryd.prog 21 #[.slice A n c, .int .i64 cols] w (Ret (.bool (fineB (gs.map LgA.lg) cols)) w) := by
 have hn63 := h.1.2.1
 have hc63 := h.1.2.2.1
 have hl1 := h.1.1
 refine calls_T (vs := [.slice A n c, .int .i64 cols]) (L0 := [(0, .slice A n c), (1, .int .i64 cols)]) Tryd.func21 rfl rfl rfl rfl (KOk.fr1 hs) ?_
 refine T.seq ?_
 refine T.region ?_
 refine TL.val (OpV.assign rfl) rfl ?_
 refine TL.nil ?_
 refine TE.next ?_
 refine T.seq ?_
 refine T.seq ?_
 refine T.region ?_
 refine TL.val (OpV.assign rfl) rfl ?_
 refine TL.nil ?_
 refine TE.next ?_
 refine T.block ?_
 refine T.loop (ι := Nat) (fun i => i ≤ n ∧ ((gs.map LgA.lg).take i).all (fun g => vW g.cells cols) = true) (fun i => (n - i)) (fun i => [(0, .slice A n c), (1, .int .i64 cols), (5, .int .i64 (i : Int))]) (fun i => [.fr σ]) 0 ⟨Nat.zero_le _, rfl⟩ (.cons (t := 0) rfl <| .cons (t := 1) rfl <| .cons (t := 5) rfl <| .nil) (Kle.refl) ?_
 rintro i hR
 refine T.seq ?_
 refine T.seq ?_
 refine T.region ?_
 refine TL.val (OpV.move rfl) rfl ?_
 refine TL.val (OpV.move rfl) rfl ?_
 refine TL.val (OpV.len Tryd.underlying34 rfl) rfl ?_
 refine TL.val (OpV.lss rfl rfl) rfl ?_
 refine TL.nil ?_
 refine TE.next ?_
 refine T.cond rfl ?_ ?_
 ·
  intro ht9
  obtain ⟨q1, q2⟩ := hR
  have hi : i < n := by have h9 := of_decide_eq_true ht9; omega
  obtain ⟨g, hg⟩ := get_of_lt h.1.1 hi
  obtain ⟨b, o, hA, hat⟩ := h.1.2.2.2.2 (by omega)
  obtain ⟨_, rfl, _, hatg⟩ := hat _ g hg
  have hcg := h.2 g (List.mem_of_getElem? hg)
  have hgG : (gs.map LgA.lg)[i]? = some g.lg := by simp [hg]
  refine T.skip ?_
  refine TE.next ?_
  refine T.seq ?_
  refine T.block ?_
  refine T.seq ?_
  refine T.region ?_
  refine TL.val (OpV.move rfl) rfl ?_
  refine TL.val (OpV.move rfl) rfl ?_
  refine TL.val (OpV.indexAddr se_34 rfl hA rfl (by rfl) (by first | omega | simp)) rfl ?_
  refine TL.val (OpV.fieldAddr rfl fo_37_0) rfl ?_
  refine TL.val (OpV.load pl_35 rfl (by first | exact Cel.blk P0 rfl | exact Cel.blk P1 rfl | exact Cel.blk P2 rfl | exact Cel.blk P3 rfl | exact Cel.frA (hatg _ _ rfl))) rfl ?_
  refine TL.val (OpV.move rfl) rfl ?_
  refine TL.call (g := 28) rfl go_28 rfl (fun w1 k1 => rwvalid_c w1 cols hcg (k1.get (e := .fr σ) (by first | exact P0 | exact P1 | exact P2 | exact P3 | exact P4 | exact P5 | exact P6 | exact P7))) rfl ?_
  refine TL.val (OpV.not rfl) rfl ?_
  refine TL.nil ?_
  refine TE.sub (.cons (t := 0) rfl <| .cons (t := 1) rfl <| .cons (t := 5) rfl <| .cons (t := 19) rfl <| .nil) ?_
  refine TE.next ?_
  refine T.cond rfl ?_ ?_
  ·
   intro ht19
   have hv : vW g.cells cols = false := by simpa using ht19
   have hf : fineB (gs.map LgA.lg) cols = false := by rw [fineB, show (gs.map LgA.lg).all (fun g => vW g.cells cols) = false by rw [List.all_eq_false]; exact ⟨g.lg, List.mem_of_getElem? hgG, by show ¬ vW g.cells cols = true; rw [hv]; decide⟩, Bool.and_false]
   refine T.seq ?_
   refine T.region ?_
   refine TL.val (OpV.assign rfl) rfl ?_
   refine TL.nil ?_
   refine TE.next ?_
   refine T.ret ?_
   refine TE.out_ret ?_
   refine TE.pass_ret ?_
   refine TE.pass_ret ?_
   refine TE.out_ret ?_
   refine TE.pass_ret ?_
   refine TE.ret1 rfl (ResV.tmp rfl) ?_
   exact fun w1 k1 => ⟨ret_bool hf.symm, k1.bel⟩
  ·
   intro ht19
   have hv : vW g.cells cols = true := by simpa using ht19
   refine T.skip ?_
   refine TE.out ?_
   refine TE.next ?_
   refine T.region ?_
   refine TL.val (OpV.move rfl) rfl ?_
   refine TL.val (OpV.add rfl rfl (by first | exact IntWalk.i64_in _ ⟨by omega, by omega⟩ | rfl)) rfl ?_
   refine TL.val (OpV.assign rfl) rfl ?_
   refine TL.nil ?_
   exact TE.meet (i + 1) ⟨⟨by omega, by rw [take_snoc hgG, List.all_append, q2]; simp [hv, LgA.lg]⟩, by omega⟩ (.cons (t := 0) (by first | rfl | (simp [lk]; done)) <| .cons (t := 1) (by first | rfl | (simp [lk]; done)) <| .cons (t := 5) (by first | rfl | (simp [lk]; done)) <| .nil) (Perm.kle (.cons (by first | exact P0 | exact P1 | exact P2 | exact P3 | exact P4 | exact P5 | exact P6 | exact P7) .nil))
 ·
  intro ht9
  obtain ⟨q1, q2⟩ := hR
  have hin : i = n := by have h9 := of_decide_eq_false ht9; omega
  rw [List.take_of_length_le (by rw [List.length_map, hl1]; omega)] at q2
  refine T.exit ?_
  refine TE.pass_exit ?_
  refine TE.pass_exit ?_
  refine TE.here ?_
  refine TE.next ?_
  refine T.seq ?_
  refine T.region ?_
  refine TL.val (OpV.move rfl) rfl ?_
  refine TL.call (g := 28) rfl go_28 rfl (fun w1 k1 => rwvalid_c w1 cols (CsR_nil σ) (k1.get (e := .fr σ) (by first | exact P0 | exact P1 | exact P2 | exact P3 | exact P4 | exact P5 | exact P6 | exact P7))) rfl ?_
  refine TL.val (OpV.assign rfl) rfl ?_
  refine TL.nil ?_
  refine TE.sub (.cons (t := 4) rfl <| .nil) ?_
  refine TE.next ?_
  refine T.ret ?_
  refine TE.ret1 rfl (ResV.tmp rfl) ?_
  exact fun w1 k1 => ⟨ret_bool (by rw [fineB, q2, Bool.and_true]), k1.bel⟩
set_option maxRecDepth 100000 in
set_option maxHeartbeats 1000000 in
theorem asame_c {σ τ : Nat → Option Obj} {A A2 : Option Addr} {n c n2 c2 : Nat} {xs ys : List (Int × Int)} (w : World) (h : AsR σ A n c xs) (h2 : AsR τ A2 n2 c2 ys) (hs : ∀ b o, σ b = some o → w.heap[b]? = some o) (ht : ∀ b o, τ b = some o → w.heap[b]? = some o) : Calls Tryd.prog 27 #[.slice A n c, .slice A2 n2 c2] w (Ret (.bool (decide (xs = ys))) w) := by
 have hn63 := h.2.1
 have hc63 := h.2.2.1
 have hl1 := h.1
 have hl2 := h2.1
 refine calls_T (vs := [.slice A n c, .slice A2 n2 c2]) (L0 := [(0, .slice A n c), (1, .slice A2 n2 c2)]) Tryd.func27 rfl rfl rfl rfl (KOk.frs hs ht) ?_
 refine T.seq ?_
 refine T.region ?_
 refine TL.val (OpV.assign rfl) rfl ?_
 refine TL.nil ?_
 refine TE.next ?_
 refine T.seq ?_
 refine T.seq ?_
 refine T.region ?_
 refine TL.val (OpV.move rfl) rfl ?_
 refine TL.val (OpV.len Tryd.underlying43 rfl) rfl ?_
 refine TL.val (OpV.move rfl) rfl ?_
 refine TL.val (OpV.len Tryd.underlying43 rfl) rfl ?_
 refine TL.val (OpV.neq rfl rfl) rfl ?_
 refine TL.nil ?_
 refine TE.next ?_
 refine T.cond rfl ?_ ?_
 ·
  intro ht10
  have hnn : n ≠ n2 := by have h9 : ((n : Int) != (n2 : Int)) = true := ht10; simp at h9; omega
  refine T.seq ?_
  refine T.region ?_
  refine TL.val (OpV.assign rfl) rfl ?_
  refine TL.nil ?_
  refine TE.sub (.cons (t := 4) rfl <| .nil) ?_
  refine TE.next ?_
  refine T.ret ?_
  refine TE.pass_ret ?_
  refine TE.ret1 rfl (ResV.tmp rfl) ?_
  exact fun w1 k1 => ⟨ret_bool (by symm; rw [decide_eq_false_iff_not]; intro e; rw [e] at hl1; omega), k1.bel⟩
 ·
  intro ht10
  have hnn : n = n2 := by have h9 : ((n : Int) != (n2 : Int)) = false := ht10; simp at h9; omega
  refine T.skip ?_
  refine TE.next ?_
  refine T.seq ?_
  refine T.seq ?_
  refine T.region ?_
  refine TL.val (OpV.assign rfl) rfl ?_
  refine TL.nil ?_
  refine TE.next ?_
  refine T.block ?_
  refine T.loop (ι := Nat) (fun i => i ≤ n ∧ xs.take i = ys.take i) (fun i => n - i) (fun i => [(0, .slice A n c), (1, .slice A2 n2 c2), (5, .int .i64 (i : Int))]) (fun i => [.fr σ, .fr τ]) 0 ⟨Nat.zero_le _, rfl⟩ (.cons (t := 0) rfl <| .cons (t := 1) rfl <| .cons (t := 5) rfl <| .nil) (Kle.refl) ?_
  rintro i hR
  refine T.seq ?_
  refine T.seq ?_
  refine T.region ?_
  refine TL.val (OpV.move rfl) rfl ?_
  refine TL.val (OpV.move rfl) rfl ?_
  refine TL.val (OpV.len Tryd.underlying43 rfl) rfl ?_
  refine TL.val (OpV.lss rfl rfl) rfl ?_
  refine TL.nil ?_
  refine TE.next ?_
  refine T.cond rfl ?_ ?_
  ·
   intro ht14
   have hi : i < n := by have h9 := of_decide_eq_true ht14; omega
   obtain ⟨x, hx⟩ := get_of_lt hl1 hi
   obtain ⟨y, hy⟩ := get_of_lt hl2 (show i < n2 by omega)
   obtain ⟨b, o, hA, hat⟩ := h.2.2.2.2 (by omega)
   obtain ⟨b2, o2, hA2, hat2⟩ := h2.2.2.2.2 (by omega)
   obtain ⟨_, rfl, _, hatx⟩ := hat i x hx
   obtain ⟨_, rfl, _, haty⟩ := hat2 i y hy
   refine T.skip ?_
   refine TE.next ?_
   refine T.seq ?_
   refine T.block ?_
   refine T.seq ?_
   refine T.quiet mix (by kernel_rfl) ?_
   refine TQ.val (OpV.move rfl) rfl ?_
   refine TQ.val (OpV.move rfl) rfl ?_
   refine TQ.val (OpV.indexAddr se_43 rfl hA rfl (by rfl) (by first | omega | simp)) rfl ?_
   refine TQ.val (OpV.loadA ag_24 rfl (by first | exact Cels.blk P0 rfl | exact Cels.blk P1 rfl | exact Cels.blk P2 rfl | exact Cels.blk P3 rfl | exact Cels.frA hatx rfl | exact Cels.frA haty rfl)) rfl ?_
   refine TQ.val (OpV.move rfl) rfl ?_
   refine TQ.val (OpV.move rfl) rfl ?_
   refine TQ.val (OpV.indexAddr se_43 rfl hA2 rfl (by rfl) (by first | omega | simp)) rfl ?_
   refine TQ.val (OpV.loadA ag_24 rfl (by first | exact Cels.blk P0 rfl | exact Cels.blk P1 rfl | exact Cels.blk P2 rfl | exact Cels.blk P3 rfl | exact Cels.frA hatx rfl | exact Cels.frA haty rfl)) rfl ?_
   refine TQ.val (OpV.aneq rfl rfl eg_24 (eq_24 x y)) rfl ?_
   refine TQ.nil ?_
   refine TE.sub (.cons (t := 0) rfl <| .cons (t := 1) rfl <| .cons (t := 5) rfl <| .cons (t := 25) rfl <| .nil) ?_
   refine TE.next ?_
   refine T.cond rfl ?_ ?_
   ·
    intro ht25
    refine T.seq ?_
    refine T.region ?_
    refine TL.val (OpV.assign rfl) rfl ?_
    refine TL.nil ?_
    refine TE.next ?_
    refine T.ret ?_
    refine TE.out_ret ?_
    refine TE.pass_ret ?_
    refine TE.pass_ret ?_
    refine TE.out_ret ?_
    refine TE.pass_ret ?_
    refine TE.ret1 rfl (ResV.tmp rfl) ?_
    exact fun w1 k1 => ⟨ret_bool (by symm; rw [decide_eq_false_iff_not]; intro e; rw [e, hy] at hx; cases hx; simp at ht25), k1.bel⟩
   ·
    intro ht25
    refine T.skip ?_
    refine TE.out ?_
    refine TE.next ?_
    refine T.region ?_
    refine TL.val (OpV.move rfl) rfl ?_
    refine TL.val (OpV.add rfl rfl (by first | exact IntWalk.i64_in _ ⟨by omega, by omega⟩ | rfl)) rfl ?_
    refine TL.val (OpV.assign rfl) rfl ?_
    refine TL.nil ?_
    exact TE.meet (i + 1) ⟨⟨by omega, by rw [take_snoc hx, take_snoc hy, hR.2, show x = y by simpa using ht25]⟩, by omega⟩ (.cons (t := 0) (by first | rfl | (simp [lk]; done)) <| .cons (t := 1) (by first | rfl | (simp [lk]; done)) <| .cons (t := 5) (by first | rfl | (simp [lk]; done)) <| .nil) (Kle.refl)
  ·
   intro ht14
   have hin : i = n := by have h9 := of_decide_eq_false ht14; have h8 := hR.1; omega
   refine T.exit ?_
   refine TE.pass_exit ?_
   refine TE.pass_exit ?_
   refine TE.here ?_
   refine TE.next ?_
   refine T.seq ?_
   refine T.region ?_
   refine TL.val (OpV.assign rfl) rfl ?_
   refine TL.nil ?_
   refine TE.sub (.cons (t := 4) rfl <| .nil) ?_
   refine TE.next ?_
   refine T.ret ?_
   refine TE.ret1 rfl (ResV.tmp rfl) ?_
   exact fun w1 k1 => ⟨ret_bool (by symm; rw [decide_eq_true_eq]; have h9 := hR.2; rw [hin, List.take_of_length_le (by omega), List.take_of_length_le (by omega)] at h9; exact h9), k1.bel⟩
end Go.Proofs.YtdmpodpdpncobaaDoor
