/-
  The theorem of the stage returns true. Condition: the package-level table holds what it was laid with.
-/
import Derived.Test.YtgelpgagbokmdaaDoorWq
import Derived.Test.YtgelpgagbokmdaaDoorEng4
namespace Go.Proofs.YtgelpgagbokmdaaDoor
open Go.RowKit
set_option linter.unusedSimpArgs false
set_option linter.unusedVariables false
theorem ae_55 : aEl Tryd.prog 55 = some (4, 8, 1) := by kernel_rfl
theorem ag_24 : aggT Tryd.prog 24 = some 5 := by kernel_rfl
theorem ag_27 : aggT Tryd.prog 27 = some 11 := by kernel_rfl
theorem ag_55 : aggT Tryd.prog 55 = some 8 := by kernel_rfl
theorem eg_24 : Tryd.prog.eqGuardType Tryd.prog.depth 24 = false := by kernel_rfl
theorem eg_27 : Tryd.prog.eqGuardType Tryd.prog.depth 27 = false := by kernel_rfl
theorem fo_27_0 : fOff Tryd.prog 27 0 = some 0 := by kernel_rfl
theorem fo_27_1 : fOff Tryd.prog 27 1 = some 5 := by kernel_rfl
theorem go_10 : isGo Tryd.prog 10 = true := by kernel_rfl
theorem go_12 : isGo Tryd.prog 12 = true := by kernel_rfl
theorem go_13 : isGo Tryd.prog 13 = true := by kernel_rfl
theorem go_15 : isGo Tryd.prog 15 = true := by kernel_rfl
theorem go_19 : isGo Tryd.prog 19 = true := by kernel_rfl
theorem go_24 : isGo Tryd.prog 24 = true := by kernel_rfl
theorem go_25 : isGo Tryd.prog 25 = true := by kernel_rfl
theorem go_26 : isGo Tryd.prog 26 = true := by kernel_rfl
theorem go_27 : isGo Tryd.prog 27 = true := by kernel_rfl
theorem mix : Tryd.prog.follows .mixedOrders = true := by kernel_rfl
theorem pl_4 : plainT Tryd.prog 4 = true := by kernel_rfl
theorem pl_5 : plainT Tryd.prog 5 = true := by kernel_rfl
theorem pl_25 : plainT Tryd.prog 25 = true := by kernel_rfl
theorem se_42 : sEl Tryd.prog 42 = some (25, 1) := by kernel_rfl
theorem se_50 : sEl Tryd.prog 50 = some (5, 1) := by kernel_rfl
theorem szz_4 : sz Tryd.prog 4 = some 1 := by kernel_rfl
theorem szz_27 : sz Tryd.prog 27 = some 11 := by kernel_rfl
theorem zo_27 : zOf Tryd.prog 27 = some [.int .i64 0, .int .u8 0, .int .u8 0, .int .u8 0, .int .u8 0, .int .i64 0, .int .u8 0, .int .u8 0, .int .u8 0, .int .u8 0, .int .u8 0] := by kernel_rfl
theorem zo_55 : zOf Tryd.prog 55 = some [.bool false, .bool false, .bool false, .bool false, .bool false, .bool false, .bool false, .bool false] := by kernel_rfl

theorem eqP (d : Nat) (k1 i1 r1 g1 b1 k2 i2 r2 g2 b2 f m1 j1 s1 h1 c1 m2 j2 s2 h2 c2 e : Int) (w : World) : (Op.equalIn (d + 3) 27 (.agg #[.int .i64 k1, .int .u8 i1, .int .u8 r1, .int .u8 g1, .int .u8 b1, .int .i64 k2, .int .u8 i2, .int .u8 r2, .int .u8 g2, .int .u8 b2, .int .u8 f]) (.agg #[.int .i64 m1, .int .u8 j1, .int .u8 s1, .int .u8 h1, .int .u8 c1, .int .i64 m2, .int .u8 j2, .int .u8 s2, .int .u8 h2, .int .u8 c2, .int .u8 e])).run Tryd.prog w = .ok ((k1 == m1 && (i1 == j1 && (r1 == s1 && (g1 == h1 && b1 == c1)))) && ((k2 == m2 && (i2 == j2 && (r2 == s2 && (g2 == h2 && b2 == c2)))) && f == e)) w := by
  have heq := eqC
  cases h1 : (k1 == m1 && (i1 == j1 && (r1 == s1 && (g1 == h1 && b1 == c1)))) <;> cases h2 : (k2 == m2 && (i2 == j2 && (r2 == s2 && (g2 == h2 && b2 == c2)))) <;> cases h3 : f == e <;> simp [go_sem, part, heq, h1, h2, h3]
theorem eqP_self (k1 i1 r1 g1 b1 k2 i2 r2 g2 b2 f : Int) (w : World) : (Op.equal 27 (.agg #[.int .i64 k1, .int .u8 i1, .int .u8 r1, .int .u8 g1, .int .u8 b1, .int .i64 k2, .int .u8 i2, .int .u8 r2, .int .u8 g2, .int .u8 b2, .int .u8 f]) (.agg #[.int .i64 k1, .int .u8 i1, .int .u8 r1, .int .u8 g1, .int .u8 b1, .int .i64 k2, .int .u8 i2, .int .u8 r2, .int .u8 g2, .int .u8 b2, .int .u8 f])).run Tryd.prog w = .ok true w := by
  have := eqP 9997 k1 i1 r1 g1 b1 k2 i2 r2 g2 b2 f k1 i1 r1 g1 b1 k2 i2 r2 g2 b2 f w
  simp only [BEq.rfl, Bool.and_self] at this
  exact this
theorem eqC_self (k i r g b : Int) (w : World) : (Op.equal 24 (.agg #[.int .i64 k, .int .u8 i, .int .u8 r, .int .u8 g, .int .u8 b]) (.agg #[.int .i64 k, .int .u8 i, .int .u8 r, .int .u8 g, .int .u8 b])).run Tryd.prog w = .ok true w := by
  have := eqC 9998 k i r g b k i r g b w
  simp only [BEq.rfl, Bool.and_self] at this
  exact this
theorem bld_27_0_1 (k1 i1 r1 g1 b1 k2 i2 r2 g2 b2 : Int) (w : World) : (Instr.build 27 #[(0, .agg #[.int .i64 k1, .int .u8 i1, .int .u8 r1, .int .u8 g1, .int .u8 b1]), (1, .agg #[.int .i64 k2, .int .u8 i2, .int .u8 r2, .int .u8 g2, .int .u8 b2])]).run Tryd.prog w = .ok (.agg [.int .i64 k1, .int .u8 i1, .int .u8 r1, .int .u8 g1, .int .u8 b1, .int .i64 k2, .int .u8 i2, .int .u8 r2, .int .u8 g2, .int .u8 b2, .int .u8 0].toArray) w := by kernel_rfl
theorem all_x {w0 : World} {K : List Ent} (w : World) (k : KOk w0 K w) : Calls Tryd.prog 19 #[] w (fun e w' => ∃ i : Nat × Nat × (Nat → Option Obj), e = .returned (.slice (some ⟨i.1, 0, none⟩) 8 i.2.1) ∧ Ats i.2.2 i.1 0 (flagVs 8) ∧ KOk w0 (.own i.2.2 :: K) w') := by
  refine (all_c w).mono ?_
  rintro e w' ⟨g, c, rfl, hg, hb, hlt, hc⟩
  obtain ⟨o, ho⟩ : ∃ o, w'.heap[g]? = some o := ⟨_, Array.getElem?_eq_getElem hlt⟩
  obtain ⟨X, T, fz, rfl⟩ : ∃ X T fz, o = .cells X T fz := by
    have := hc 0 (by omega)
    unfold World.cell? at this
    rw [ho] at this
    cases o <;> first | exact ⟨_, _, _, rfl⟩ | cases this
  refine ⟨⟨g, c, σ1 g (.cells X T fz)⟩, rfl, fun j v hj => ⟨X, T, fz, σ1_self _ _, ?_⟩, ?_⟩
  · have hj8 : j < 8 := by
      have := (List.getElem?_eq_some_iff.1 hj).1
      simpa [flagVs] using this
    have h1 := hc j hj8
    have h2 : v = .int .u8 (flagF j) := by simpa [flagVs, hj8] using hj.symm
    simp only [World.cell?, ho] at h1
    rw [Nat.zero_add, h2]
    simpa using h1
  · have k' := k.below hb
    refine ⟨k'.bel, fun x o h => ?_, fun e' he' _ x hx hy => ?_, k'.all⟩
    · obtain ⟨rfl, rfl⟩ := σ1_some h
      exact ⟨Nat.le_trans k.bel.size hg, ho⟩
    · have hx' : σ1 g (Obj.cells X T fz) x ≠ none := hx
      cases hs : σ1 g (Obj.cells X T fz) x with
      | none => exact hx' hs
      | some o =>
        have := k.all.lt e' he' x hy
        have := (σ1_some hs).1
        omega
theorem flags_at {σ : Nat → Option Obj} {g : Nat} (h : Ats σ g 0 (flagVs 8)) : ∀ j, j < 8 → At σ g (0 + j * 1) (.int .u8 (flagF j)) := fun j hj => by
  have := h j (.int .u8 (flagF j)) (by simp [flagVs, hj])
  rwa [show 0 + j * 1 = 0 + j by omega]
theorem there_le (h : Nat → Nat) (k : Nat) : 0 + h k % 8 * 1 + [Value.bool true].length ≤ (thereL h k).length := by
  have := Nat.mod_lt (h k) (show 0 < 8 by omega)
  simp only [thereL, List.length_cons, List.length_nil]
  omega
theorem there_put (h : Nat → Nat) (k : Nat) : putL (thereL h k) (0 + h k % 8 * 1) [.bool true] = thereL h (k + 1) := by
  have hm := Nat.mod_lt (h k) (show 0 < 8 by omega)
  have h1 : putL (thereL h k) (0 + h k % 8 * 1) [.bool true] = (thereL h k).set (h k % 8) (.bool true) := by
    rw [show 0 + h k % 8 * 1 = h k % 8 by omega, putL, List.set_eq_take_append_cons_drop, if_pos (by simpa [thereL] using hm)]
    simp
  rw [h1, ← thereL_eq, ← thereL_eq, ← thereA_set]
  simp
theorem with_acc (k1 i1 r1 g1 b1 k2 i2 r2 g2 b2 f : Int) (h : Nat → Nat) (k : Nat) (hv : vP k1 i1 r1 g1 b1 k2 i2 r2 g2 b2 f = true) (w : World) : Calls Tryd.prog 26 #[.agg [.int .i64 k1, .int .u8 i1, .int .u8 r1, .int .u8 g1, .int .u8 b1, .int .i64 k2, .int .u8 i2, .int .u8 r2, .int .u8 g2, .int .u8 b2, .int .u8 ((acc h k : Nat))].toArray, .int .u8 (flagF (h k % 8)), .bool true] w (Ret (.tuple #[.agg [.int .i64 k1, .int .u8 i1, .int .u8 r1, .int .u8 g1, .int .u8 b1, .int .i64 k2, .int .u8 i2, .int .u8 r2, .int .u8 g2, .int .u8 b2, .int .u8 ((acc h (k + 1) : Nat))].toArray, .int .i64 0]) w) := by
  have h1 := acc_lt h k
  have hm := Nat.mod_lt (h k) (show 0 < 8 by omega)
  have h2 := flag_bd _ hm
  rw [← acc_step]
  exact with_yes k1 i1 r1 g1 b1 k2 i2 r2 g2 b2 (acc h k : Nat) (flagF (h k % 8)) w (by simpa [vP] using hv) (flag_one _ hm) (by omega) (by omega) (by omega) (by omega)
def Byts (w : World) (P : Option Addr) (n : Nat) (h : Nat → Nat) : Prop := 0 < n → ∃ b off, P = some ⟨b, off, none⟩ ∧ ∀ i, i < n → At (fun b => w.heap[b]?) b (off + i * 1) (.int .u8 (h i : Nat))
set_option maxRecDepth 100000 in
set_option maxHeartbeats 1000000 in
theorem holds_bad (k1 i1 r1 g1 b1 k2 i2 r2 g2 b2 f m1 j1 s1 h1 c1 m2 j2 s2 h2 c2 e xk1 xi1 xr1 xg1 xb1 xk2 xi2 xr2 xg2 xb2 xf x X2 e2 ex : Int) (P : Option Addr) (n c : Nat) (w : World) (L : Laid w) (hn : n ≤ 20)
    (Hp : ∀ w, Calls Tryd.prog 24 #[.agg #[.int .i64 k1, .int .u8 i1, .int .u8 r1, .int .u8 g1, .int .u8 b1, .int .i64 k2, .int .u8 i2, .int .u8 r2, .int .u8 g2, .int .u8 b2, .int .u8 f]] w (Ret (.tuple #[.int .u64 0, .int .i64 2]) w)) (Hvp : ∀ w, Calls Tryd.prog 10 #[.agg #[.int .i64 k1, .int .u8 i1, .int .u8 r1, .int .u8 g1, .int .u8 b1, .int .i64 k2, .int .u8 i2, .int .u8 r2, .int .u8 g2, .int .u8 b2, .int .u8 f]] w (Ret (.bool false) w))
    (Hq : ∀ w, Calls Tryd.prog 24 #[.agg #[.int .i64 m1, .int .u8 j1, .int .u8 s1, .int .u8 h1, .int .u8 c1, .int .i64 m2, .int .u8 j2, .int .u8 s2, .int .u8 h2, .int .u8 c2, .int .u8 e]] w (Ret (.tuple #[.int .u64 X2, .int .i64 e2]) w))
    (Hx : ∀ w, Calls Tryd.prog 25 #[.int .u64 x] w (Ret (.tuple #[.agg #[.int .i64 xk1, .int .u8 xi1, .int .u8 xr1, .int .u8 xg1, .int .u8 xb1, .int .i64 xk2, .int .u8 xi2, .int .u8 xr2, .int .u8 xg2, .int .u8 xb2, .int .u8 xf], .int .i64 ex]) w))
    (hx : (ex = 0 ∧ (∀ w, Calls Tryd.prog 10 #[.agg #[.int .i64 xk1, .int .u8 xi1, .int .u8 xr1, .int .u8 xg1, .int .u8 xb1, .int .i64 xk2, .int .u8 xi2, .int .u8 xr2, .int .u8 xg2, .int .u8 xb2, .int .u8 xf]] w (Ret (.bool true) w)) ∧ (∀ w, Calls Tryd.prog 12 #[.agg #[.int .i64 xk1, .int .u8 xi1, .int .u8 xr1, .int .u8 xg1, .int .u8 xb1, .int .i64 xk2, .int .u8 xi2, .int .u8 xr2, .int .u8 xg2, .int .u8 xb2, .int .u8 xf], .int .u64 x, .int .i64 0] w (Ret (.bool true) w))) ∨ ex = 12) :
    Calls Tryd.prog 7 #[.agg #[.int .i64 k1, .int .u8 i1, .int .u8 r1, .int .u8 g1, .int .u8 b1, .int .i64 k2, .int .u8 i2, .int .u8 r2, .int .u8 g2, .int .u8 b2, .int .u8 f], .agg #[.int .i64 m1, .int .u8 j1, .int .u8 s1, .int .u8 h1, .int .u8 c1, .int .i64 m2, .int .u8 j2, .int .u8 s2, .int .u8 h2, .int .u8 c2, .int .u8 e], .int .u64 x, .slice P n c] w (Ret (.bool true) w) := by
  refine calls_T (vs := [.agg #[.int .i64 k1, .int .u8 i1, .int .u8 r1, .int .u8 g1, .int .u8 b1, .int .i64 k2, .int .u8 i2, .int .u8 r2, .int .u8 g2, .int .u8 b2, .int .u8 f], .agg #[.int .i64 m1, .int .u8 j1, .int .u8 s1, .int .u8 h1, .int .u8 c1, .int .i64 m2, .int .u8 j2, .int .u8 s2, .int .u8 h2, .int .u8 c2, .int .u8 e], .int .u64 x, .slice P n c]) (L0 := [(0, .agg #[.int .i64 k1, .int .u8 i1, .int .u8 r1, .int .u8 g1, .int .u8 b1, .int .i64 k2, .int .u8 i2, .int .u8 r2, .int .u8 g2, .int .u8 b2, .int .u8 f]), (1, .agg #[.int .i64 m1, .int .u8 j1, .int .u8 s1, .int .u8 h1, .int .u8 c1, .int .i64 m2, .int .u8 j2, .int .u8 s2, .int .u8 h2, .int .u8 c2, .int .u8 e]), (2, .int .u64 x), (3, .slice P n c)]) Tryd.func7 rfl rfl rfl rfl (KOk.start w) ?_
  refine T.seq ?_
  refine T.region ?_
  refine TL.boxA rfl rfl ?_
  intro b4
  refine TL.boxA rfl rfl ?_
  intro b5
  refine TL.val (OpV.assign rfl) rfl ?_
  refine TL.nil ?_
  refine TE.next ?_
  refine T.seq ?_
  refine T.seq ?_
  refine T.region ?_
  refine TL.val (OpV.move rfl) rfl ?_
  refine TL.val (OpV.len Tryd.underlying50 rfl) rfl ?_
  refine TL.val (OpV.gtr rfl rfl) rfl ?_
  refine TL.nil ?_
  refine TE.next ?_
  refine T.cond rfl ?_ ?_
  · intro ht27
    exfalso
    simp at ht27
    omega
  · intro ht27
    refine T.skip ?_
    refine TE.next ?_
    refine T.seq ?_
    refine T.region ?_
    refine TL.val (OpV.loadA ag_27 rfl (by first | exact Cels.blk .here rfl | exact Cels.blk (.there .here) rfl | exact Cels.blk (.there (.there .here)) rfl | exact Cels.blk (.there (.there (.there .here))) rfl | exact Cels.blk (.there (.there (.there (.there .here)))) rfl)) rfl ?_
    refine TL.call (g := 24) rfl go_24 rfl (fun w _ => Hp w) rfl ?_
    refine TL.val (OpV.move rfl) rfl ?_
    refine TL.val (OpV.extract rfl rfl) rfl ?_
    refine TL.val (OpV.extract rfl rfl) rfl ?_
    refine TL.val (OpV.assign rfl) rfl ?_
    refine TL.val (OpV.assign rfl) rfl ?_
    refine TL.nil ?_
    refine TE.sub (.cons (t := 2) rfl <| .cons (t := 3) rfl <| .cons (t := 4) rfl <| .cons (t := 5) rfl <| .cons (t := 9) rfl <| .cons (t := 10) rfl <| .nil) ?_
    refine TE.next ?_
    refine T.seq ?_
    refine T.region ?_
    refine TL.val (OpV.loadA ag_27 rfl (by first | exact Cels.blk .here rfl | exact Cels.blk (.there .here) rfl | exact Cels.blk (.there (.there .here)) rfl | exact Cels.blk (.there (.there (.there .here))) rfl | exact Cels.blk (.there (.there (.there (.there .here)))) rfl)) rfl ?_
    refine TL.call (g := 24) rfl go_24 rfl (fun w _ => Hq w) rfl ?_
    refine TL.val (OpV.move rfl) rfl ?_
    refine TL.val (OpV.extract rfl rfl) rfl ?_
    refine TL.val (OpV.extract rfl rfl) rfl ?_
    refine TL.val (OpV.assign rfl) rfl ?_
    refine TL.val (OpV.assign rfl) rfl ?_
    refine TL.nil ?_
    refine TE.next ?_
    refine T.seq ?_
    refine T.seq ?_
    refine T.region ?_
    refine TL.val (OpV.move rfl) rfl ?_
    refine TL.val (OpV.eql rfl rfl) rfl ?_
    refine TL.val (OpV.loadA ag_27 rfl (by first | exact Cels.blk .here rfl | exact Cels.blk (.there .here) rfl | exact Cels.blk (.there (.there .here)) rfl | exact Cels.blk (.there (.there (.there .here))) rfl | exact Cels.blk (.there (.there (.there (.there .here)))) rfl)) rfl ?_
    refine TL.call (g := 10) rfl go_10 rfl (fun w _ => Hvp w) rfl ?_
    refine TL.val (OpV.bneq Tryd.underlying4 rfl rfl) rfl ?_
    refine TL.val (OpV.move rfl) rfl ?_
    refine TL.open rfl rfl ?_
    refine TL.val (OpV.move rfl) rfl ?_
    refine TL.open rfl rfl ?_
    refine TL.val (OpV.eql rfl rfl) rfl ?_
    refine TL.open rfl rfl ?_
    refine TL.val (OpV.move rfl) rfl ?_
    refine TL.shut rfl rfl ?_
    refine TL.shut rfl rfl ?_
    refine TL.shut rfl rfl ?_
    refine TL.shutU rfl rfl ?_
    refine TL.shutU rfl rfl ?_
    refine TL.shutU rfl rfl ?_
    refine TL.shutU rfl rfl ?_
    refine TL.shut rfl rfl ?_
    refine TL.open rfl rfl ?_
    refine TL.val ((by first | exact OpV.pick_t rfl rfl | exact OpV.pick_f rfl rfl)) rfl ?_
    refine TL.val ((by first | exact OpV.pick_t rfl rfl | exact OpV.pick_f rfl rfl)) rfl ?_
    refine TL.val (OpV.move rfl) rfl ?_
    refine TL.open rfl rfl ?_
    refine TL.val (OpV.move rfl) rfl ?_
    refine TL.open rfl rfl ?_
    refine TL.val (OpV.eql rfl rfl) rfl ?_
    refine TL.open rfl rfl ?_
    refine TL.val (OpV.move rfl) rfl ?_
    refine TL.shut rfl rfl ?_
    refine TL.shut rfl rfl ?_
    refine TL.open rfl rfl ?_
    refine TL.val ((by first | exact OpV.pick_t rfl rfl | exact OpV.pick_f rfl rfl)) rfl ?_
    refine TL.open rfl rfl ?_
    refine TL.val (OpV.move rfl) rfl ?_
    refine TL.shut rfl rfl ?_
    refine TL.shut rfl rfl ?_
    refine TL.shut rfl rfl ?_
    refine TL.shut rfl rfl ?_
    refine TL.shut rfl rfl ?_
    refine TL.shut rfl rfl ?_
    refine TL.shut rfl rfl ?_
    refine TL.open rfl rfl ?_
    refine TL.val ((by first | exact OpV.pick_t rfl rfl | exact OpV.pick_f rfl rfl)) rfl ?_
    refine TL.val ((by first | exact OpV.pick_t rfl rfl | exact OpV.pick_f rfl rfl)) rfl ?_
    refine TL.nil ?_
    refine TE.sub (.cons (t := 2) rfl <| .cons (t := 3) rfl <| .cons (t := 4) rfl <| .cons (t := 10) rfl <| .cons (t := 74) rfl <| .nil) ?_
    refine TE.next ?_
    refine T.no rfl ?_
    refine T.skip ?_
    refine TE.next ?_
    refine T.seq ?_
    refine T.cut [(3, .slice P n c), (4, .pointer (some ⟨b4, 0, none⟩)), (10, .int .i64 2)] ([.blk b5 [.int .i64 m1, .int .u8 j1, .int .u8 s1, .int .u8 h1, .int .u8 c1, .int .i64 m2, .int .u8 j2, .int .u8 s2, .int .u8 h2, .int .u8 c2, .int .u8 e] 27, .blk b4 [.int .i64 k1, .int .u8 i1, .int .u8 r1, .int .u8 g1, .int .u8 b1, .int .i64 k2, .int .u8 i2, .int .u8 r2, .int .u8 g2, .int .u8 b2, .int .u8 f] 27, .fr fun b => w.heap[b]?]) ?_ ?_
    · skip
      rcases hx with ⟨hx0, Hvx, Hpx⟩ | hx2
      · skip
        obtain rfl := hx0
        refine T.seq ?_
        refine T.region ?_
        refine TL.val (OpV.move rfl) rfl ?_
        refine TL.call (g := 25) rfl go_25 rfl (fun w _ => Hx w) rfl ?_
        refine TL.val (OpV.move rfl) rfl ?_
        refine TL.val (OpV.extract rfl rfl) rfl ?_
        refine TL.val (OpV.extract rfl rfl) rfl ?_
        refine TL.alloc zo_27 rfl ?_
        intro b13
        refine TL.store rfl rfl szz_27 rfl rfl rfl (by first | exact .here | exact (.there .here) | exact (.there (.there .here)) | exact (.there (.there (.there .here))) | exact (.there (.there (.there (.there .here))))) (by first | decide | (simp; done) | (simp; omega)) (by simp only [putL, List.take_succ_cons, List.take_zero, List.drop_succ_cons, List.drop_zero, List.cons_append, List.nil_append, List.length_cons, List.length_nil, Nat.reduceAdd]; rfl) ?_
        refine TL.val (OpV.assign rfl) rfl ?_
        refine TL.nil ?_
        refine TE.next ?_
        refine T.seq ?_
        refine T.region ?_
        refine TL.val (OpV.move rfl) rfl ?_
        refine TL.val (OpV.eql rfl rfl) rfl ?_
        refine TL.val (OpV.move rfl) rfl ?_
        refine TL.open rfl rfl ?_
        refine TL.val (OpV.loadA ag_27 rfl (by first | exact Cels.blk .here rfl | exact Cels.blk (.there .here) rfl | exact Cels.blk (.there (.there .here)) rfl | exact Cels.blk (.there (.there (.there .here))) rfl | exact Cels.blk (.there (.there (.there (.there .here)))) rfl)) rfl ?_
        refine TL.open rfl rfl ?_
        refine TL.call (g := 10) rfl go_10 rfl (fun w _ => Hvx w) rfl ?_
        refine TL.open rfl rfl ?_
        refine TL.val (OpV.not rfl) rfl ?_
        refine TL.open rfl rfl ?_
        refine TL.val (OpV.move rfl) rfl ?_
        refine TL.open rfl rfl ?_
        refine TL.val (OpV.loadA ag_27 rfl (by first | exact Cels.blk .here rfl | exact Cels.blk (.there .here) rfl | exact Cels.blk (.there (.there .here)) rfl | exact Cels.blk (.there (.there (.there .here))) rfl | exact Cels.blk (.there (.there (.there (.there .here)))) rfl)) rfl ?_
        refine TL.open rfl rfl ?_
        refine TL.val (OpV.move rfl) rfl ?_
        refine TL.open rfl rfl ?_
        refine TL.call (g := 12) rfl go_12 rfl (fun w _ => Hpx w) rfl ?_
        refine TL.open rfl rfl ?_
        refine TL.val (OpV.not rfl) rfl ?_
        refine TL.open rfl rfl ?_
        refine TL.val ((by first | exact OpV.pick_t rfl rfl | exact OpV.pick_f rfl rfl)) rfl ?_
        refine TL.val ((by first | exact OpV.pick_t rfl rfl | exact OpV.pick_f rfl rfl)) rfl ?_
        refine TL.nil ?_
        refine TE.sub (.cons (t := 3) rfl <| .cons (t := 4) rfl <| .cons (t := 10) rfl <| .cons (t := 92) rfl <| .nil) ?_
        refine TE.next ?_
        refine T.no rfl ?_
        refine T.skip ?_
        exact TE.met (.cons (t := 3) rfl <| .cons (t := 4) rfl <| .cons (t := 10) rfl <| .nil) (Kle.drop)
      · skip
        obtain rfl := hx2
        refine T.seq ?_
        refine T.region ?_
        refine TL.val (OpV.move rfl) rfl ?_
        refine TL.call (g := 25) rfl go_25 rfl (fun w _ => Hx w) rfl ?_
        refine TL.val (OpV.move rfl) rfl ?_
        refine TL.val (OpV.extract rfl rfl) rfl ?_
        refine TL.val (OpV.extract rfl rfl) rfl ?_
        refine TL.alloc zo_27 rfl ?_
        intro b13
        refine TL.store rfl rfl szz_27 rfl rfl rfl (by first | exact .here | exact (.there .here) | exact (.there (.there .here)) | exact (.there (.there (.there .here))) | exact (.there (.there (.there (.there .here))))) (by first | decide | (simp; done) | (simp; omega)) (by simp only [putL, List.take_succ_cons, List.take_zero, List.drop_succ_cons, List.drop_zero, List.cons_append, List.nil_append, List.length_cons, List.length_nil, Nat.reduceAdd]; rfl) ?_
        refine TL.val (OpV.assign rfl) rfl ?_
        refine TL.nil ?_
        refine TE.next ?_
        refine T.seq ?_
        refine T.region ?_
        refine TL.val (OpV.move rfl) rfl ?_
        refine TL.val (OpV.eql rfl rfl) rfl ?_
        refine TL.val (OpV.move rfl) rfl ?_
        refine TL.shut rfl rfl ?_
        refine TL.shut rfl rfl ?_
        refine TL.shut rfl rfl ?_
        refine TL.shut rfl rfl ?_
        refine TL.shutU rfl rfl ?_
        refine TL.shutU rfl rfl ?_
        refine TL.shutU rfl rfl ?_
        refine TL.shutU rfl rfl ?_
        refine TL.shut rfl rfl ?_
        refine TL.val ((by first | exact OpV.pick_t rfl rfl | exact OpV.pick_f rfl rfl)) rfl ?_
        refine TL.nil ?_
        refine TE.sub (.cons (t := 3) rfl <| .cons (t := 4) rfl <| .cons (t := 10) rfl <| .cons (t := 92) rfl <| .nil) ?_
        refine TE.next ?_
        refine T.no rfl ?_
        refine T.skip ?_
        exact TE.met (.cons (t := 3) rfl <| .cons (t := 4) rfl <| .cons (t := 10) rfl <| .nil) (Kle.drop)
    refine TE.next ?_
    refine T.seq ?_
    refine T.region ?_
    refine TL.callx (g := 19) rfl go_19 rfl (all_x) rfl ?_
    rintro ⟨g, c0, σ⟩ hat0
    have hfl := flags_at hat0
    clear hat0
    refine TL.val (OpV.assign rfl) rfl ?_
    refine TL.nil ?_
    refine TE.next ?_
    refine T.seq ?_
    refine T.seq ?_
    refine T.region ?_
    refine TL.val (OpV.move rfl) rfl ?_
    refine TL.val (OpV.len Tryd.underlying42 rfl) rfl ?_
    refine TL.val (OpV.neq rfl rfl) rfl ?_
    refine TL.val (OpV.move rfl) rfl ?_
    refine TL.open rfl rfl ?_
    refine TL.val (OpV.move rfl) rfl ?_
    refine TL.open rfl rfl ?_
    refine TL.val (OpV.neq rfl rfl) rfl ?_
    refine TL.val ((by first | exact OpV.pick_t rfl rfl | exact OpV.pick_f rfl rfl)) rfl ?_
    refine TL.nil ?_
    refine TE.sub (.cons (t := 3) rfl <| .cons (t := 4) rfl <| .cons (t := 15) rfl <| .cons (t := 100) rfl <| .nil) ?_
    refine TE.next ?_
    refine T.yes rfl ?_
    refine T.seq ?_
    refine T.region ?_
    refine TL.val (OpV.move rfl) rfl ?_
    refine TL.val (OpV.len Tryd.underlying42 rfl) rfl ?_
    refine TL.val (OpV.eql rfl rfl) rfl ?_
    refine TL.val (OpV.move rfl) rfl ?_
    refine TL.open rfl rfl ?_
    refine TL.call (g := 13) rfl go_13 rfl (fun w k => known_ok w (L.below k.bel)) rfl ?_
    refine TL.val ((by first | exact OpV.pick_t rfl rfl | exact OpV.pick_f rfl rfl)) rfl ?_
    refine TL.val (OpV.assign rfl) rfl ?_
    refine TL.nil ?_
    refine TE.sub (.cons (t := 8) rfl <| .nil) ?_
    refine TE.next ?_
    refine T.ret ?_
    refine TE.pass_ret ?_
    refine TE.ret1 rfl (ResV.tmp rfl) ?_
    exact fun w1 k1 => ⟨rfl, k1.bel⟩
set_option maxRecDepth 100000 in
set_option maxHeartbeats 2000000 in
theorem holds_good (k1 i1 r1 g1 b1 k2 i2 r2 g2 b2 f m1 j1 s1 h1 c1 m2 j2 s2 h2 c2 e xk1 xi1 xr1 xg1 xb1 xk2 xi2 xr2 xg2 xb2 xf x X1 X2 e2 ex : Int) (P : Option Addr) (n c : Nat) (h : Nat → Nat) (w : World) (L : Laid w) (hn : n ≤ 20) (hv : vP k1 i1 r1 g1 b1 k2 i2 r2 g2 b2 f = true) (hX1 : decide (1152921504606846976 ≤ X1) = false) (hP : Byts w P n h)
    (Hup : ∀ w, Calls Tryd.prog 15 #[.int .u64 X1, .agg #[.int .i64 k1, .int .u8 i1, .int .u8 r1, .int .u8 g1, .int .u8 b1, .int .i64 k2, .int .u8 i2, .int .u8 r2, .int .u8 g2, .int .u8 b2, .int .u8 f], .int .i64 0] w (Ret (.bool true) w))
    (qb : Bool) (hqp : ∀ (w : World), (Op.equal 27 (.agg #[.int .i64 k1, .int .u8 i1, .int .u8 r1, .int .u8 g1, .int .u8 b1, .int .i64 k2, .int .u8 i2, .int .u8 r2, .int .u8 g2, .int .u8 b2, .int .u8 f]) (.agg #[.int .i64 m1, .int .u8 j1, .int .u8 s1, .int .u8 h1, .int .u8 c1, .int .i64 m2, .int .u8 j2, .int .u8 s2, .int .u8 h2, .int .u8 c2, .int .u8 e])).run Tryd.prog w = .ok qb w) (hq : e2 = 2 ∨ (e2 = 0 ∧ (X1 == X2) = qb))
    (Hp : ∀ w, Calls Tryd.prog 24 #[.agg #[.int .i64 k1, .int .u8 i1, .int .u8 r1, .int .u8 g1, .int .u8 b1, .int .i64 k2, .int .u8 i2, .int .u8 r2, .int .u8 g2, .int .u8 b2, .int .u8 f]] w (Ret (.tuple #[.int .u64 X1, .int .i64 0]) w)) (Hvp : ∀ w, Calls Tryd.prog 10 #[.agg #[.int .i64 k1, .int .u8 i1, .int .u8 r1, .int .u8 g1, .int .u8 b1, .int .i64 k2, .int .u8 i2, .int .u8 r2, .int .u8 g2, .int .u8 b2, .int .u8 f]] w (Ret (.bool true) w))
    (Hq : ∀ w, Calls Tryd.prog 24 #[.agg #[.int .i64 m1, .int .u8 j1, .int .u8 s1, .int .u8 h1, .int .u8 c1, .int .i64 m2, .int .u8 j2, .int .u8 s2, .int .u8 h2, .int .u8 c2, .int .u8 e]] w (Ret (.tuple #[.int .u64 X2, .int .i64 e2]) w))
    (Hx : ∀ w, Calls Tryd.prog 25 #[.int .u64 x] w (Ret (.tuple #[.agg #[.int .i64 xk1, .int .u8 xi1, .int .u8 xr1, .int .u8 xg1, .int .u8 xb1, .int .i64 xk2, .int .u8 xi2, .int .u8 xr2, .int .u8 xg2, .int .u8 xb2, .int .u8 xf], .int .i64 ex]) w))
    (hx : (ex = 0 ∧ (∀ w, Calls Tryd.prog 10 #[.agg #[.int .i64 xk1, .int .u8 xi1, .int .u8 xr1, .int .u8 xg1, .int .u8 xb1, .int .i64 xk2, .int .u8 xi2, .int .u8 xr2, .int .u8 xg2, .int .u8 xb2, .int .u8 xf]] w (Ret (.bool true) w)) ∧ (∀ w, Calls Tryd.prog 12 #[.agg #[.int .i64 xk1, .int .u8 xi1, .int .u8 xr1, .int .u8 xg1, .int .u8 xb1, .int .i64 xk2, .int .u8 xi2, .int .u8 xr2, .int .u8 xg2, .int .u8 xb2, .int .u8 xf], .int .u64 x, .int .i64 0] w (Ret (.bool true) w))) ∨ ex = 12) :
    Calls Tryd.prog 7 #[.agg #[.int .i64 k1, .int .u8 i1, .int .u8 r1, .int .u8 g1, .int .u8 b1, .int .i64 k2, .int .u8 i2, .int .u8 r2, .int .u8 g2, .int .u8 b2, .int .u8 f], .agg #[.int .i64 m1, .int .u8 j1, .int .u8 s1, .int .u8 h1, .int .u8 c1, .int .i64 m2, .int .u8 j2, .int .u8 s2, .int .u8 h2, .int .u8 c2, .int .u8 e], .int .u64 x, .slice P n c] w (Ret (.bool true) w) := by
  refine calls_T (vs := [.agg #[.int .i64 k1, .int .u8 i1, .int .u8 r1, .int .u8 g1, .int .u8 b1, .int .i64 k2, .int .u8 i2, .int .u8 r2, .int .u8 g2, .int .u8 b2, .int .u8 f], .agg #[.int .i64 m1, .int .u8 j1, .int .u8 s1, .int .u8 h1, .int .u8 c1, .int .i64 m2, .int .u8 j2, .int .u8 s2, .int .u8 h2, .int .u8 c2, .int .u8 e], .int .u64 x, .slice P n c]) (L0 := [(0, .agg #[.int .i64 k1, .int .u8 i1, .int .u8 r1, .int .u8 g1, .int .u8 b1, .int .i64 k2, .int .u8 i2, .int .u8 r2, .int .u8 g2, .int .u8 b2, .int .u8 f]), (1, .agg #[.int .i64 m1, .int .u8 j1, .int .u8 s1, .int .u8 h1, .int .u8 c1, .int .i64 m2, .int .u8 j2, .int .u8 s2, .int .u8 h2, .int .u8 c2, .int .u8 e]), (2, .int .u64 x), (3, .slice P n c)]) Tryd.func7 rfl rfl rfl rfl (KOk.start w) ?_
  refine T.seq ?_
  refine T.region ?_
  refine TL.boxA rfl rfl ?_
  intro b4
  refine TL.boxA rfl rfl ?_
  intro b5
  refine TL.val (OpV.assign rfl) rfl ?_
  refine TL.nil ?_
  refine TE.next ?_
  refine T.seq ?_
  refine T.seq ?_
  refine T.region ?_
  refine TL.val (OpV.move rfl) rfl ?_
  refine TL.val (OpV.len Tryd.underlying50 rfl) rfl ?_
  refine TL.val (OpV.gtr rfl rfl) rfl ?_
  refine TL.nil ?_
  refine TE.next ?_
  refine T.cond rfl ?_ ?_
  · intro ht27
    exfalso
    simp at ht27
    omega
  · intro ht27
    refine T.skip ?_
    refine TE.next ?_
    refine T.seq ?_
    refine T.region ?_
    refine TL.val (OpV.loadA ag_27 rfl (by first | exact Cels.blk .here rfl | exact Cels.blk (.there .here) rfl | exact Cels.blk (.there (.there .here)) rfl | exact Cels.blk (.there (.there (.there .here))) rfl | exact Cels.blk (.there (.there (.there (.there .here)))) rfl | exact Cels.blk (.there (.there (.there (.there (.there .here))))) rfl | exact Cels.blk (.there (.there (.there (.there (.there (.there .here)))))) rfl | exact Cels.blk (.there (.there (.there (.there (.there (.there (.there .here))))))) rfl)) rfl ?_
    refine TL.call (g := 24) rfl go_24 rfl (fun w _ => Hp w) rfl ?_
    refine TL.val (OpV.move rfl) rfl ?_
    refine TL.val (OpV.extract rfl rfl) rfl ?_
    refine TL.val (OpV.extract rfl rfl) rfl ?_
    refine TL.val (OpV.assign rfl) rfl ?_
    refine TL.val (OpV.assign rfl) rfl ?_
    refine TL.nil ?_
    refine TE.sub (.cons (t := 2) rfl <| .cons (t := 3) rfl <| .cons (t := 4) rfl <| .cons (t := 5) rfl <| .cons (t := 9) rfl <| .cons (t := 10) rfl <| .nil) ?_
    refine TE.next ?_
    refine T.seq ?_
    refine T.region ?_
    refine TL.val (OpV.loadA ag_27 rfl (by first | exact Cels.blk .here rfl | exact Cels.blk (.there .here) rfl | exact Cels.blk (.there (.there .here)) rfl | exact Cels.blk (.there (.there (.there .here))) rfl | exact Cels.blk (.there (.there (.there (.there .here)))) rfl | exact Cels.blk (.there (.there (.there (.there (.there .here))))) rfl | exact Cels.blk (.there (.there (.there (.there (.there (.there .here)))))) rfl | exact Cels.blk (.there (.there (.there (.there (.there (.there (.there .here))))))) rfl)) rfl ?_
    refine TL.call (g := 24) rfl go_24 rfl (fun w _ => Hq w) rfl ?_
    refine TL.val (OpV.move rfl) rfl ?_
    refine TL.val (OpV.extract rfl rfl) rfl ?_
    refine TL.val (OpV.extract rfl rfl) rfl ?_
    refine TL.val (OpV.assign rfl) rfl ?_
    refine TL.val (OpV.assign rfl) rfl ?_
    refine TL.nil ?_
    refine TE.next ?_
    refine T.seq ?_
    refine T.cut [(2, .int .u64 x), (3, .slice P n c), (4, .pointer (some ⟨b4, 0, none⟩)), (10, .int .i64 0)] ([.blk b5 [.int .i64 m1, .int .u8 j1, .int .u8 s1, .int .u8 h1, .int .u8 c1, .int .i64 m2, .int .u8 j2, .int .u8 s2, .int .u8 h2, .int .u8 c2, .int .u8 e] 27, .blk b4 [.int .i64 k1, .int .u8 i1, .int .u8 r1, .int .u8 g1, .int .u8 b1, .int .i64 k2, .int .u8 i2, .int .u8 r2, .int .u8 g2, .int .u8 b2, .int .u8 f] 27, .fr fun b => w.heap[b]?]) ?_ ?_
    · skip
      rcases hq with hq2 | hq0
      · skip
        obtain rfl := hq2
        refine T.seq ?_
        refine T.region ?_
        refine TL.val (OpV.move rfl) rfl ?_
        refine TL.val (OpV.eql rfl rfl) rfl ?_
        refine TL.val (OpV.loadA ag_27 rfl (by first | exact Cels.blk .here rfl | exact Cels.blk (.there .here) rfl | exact Cels.blk (.there (.there .here)) rfl | exact Cels.blk (.there (.there (.there .here))) rfl | exact Cels.blk (.there (.there (.there (.there .here)))) rfl | exact Cels.blk (.there (.there (.there (.there (.there .here))))) rfl | exact Cels.blk (.there (.there (.there (.there (.there (.there .here)))))) rfl | exact Cels.blk (.there (.there (.there (.there (.there (.there (.there .here))))))) rfl)) rfl ?_
        refine TL.call (g := 10) rfl go_10 rfl (fun w _ => Hvp w) rfl ?_
        refine TL.val (OpV.bneq Tryd.underlying4 rfl rfl) rfl ?_
        refine TL.val (OpV.move rfl) rfl ?_
        refine TL.open rfl rfl ?_
        refine TL.val (OpV.move rfl) rfl ?_
        refine TL.open rfl rfl ?_
        refine TL.val (OpV.eql rfl rfl) rfl ?_
        refine TL.open rfl rfl ?_
        refine TL.val (OpV.move rfl) rfl ?_
        refine TL.open rfl rfl ?_
        refine TL.val (OpV.move rfl) rfl ?_
        refine TL.open rfl rfl ?_
        refine TL.val (OpV.geq rfl rfl) rfl ?_
        refine TL.said (t := 49) (u := .bool false) rfl (by rw [hX1]) ?_
        refine TL.open rfl rfl ?_
        refine TL.val (OpV.move rfl) rfl ?_
        refine TL.open rfl rfl ?_
        refine TL.val (OpV.move rfl) rfl ?_
        refine TL.open rfl rfl ?_
        refine TL.val (OpV.loadA ag_27 rfl (by first | exact Cels.blk .here rfl | exact Cels.blk (.there .here) rfl | exact Cels.blk (.there (.there .here)) rfl | exact Cels.blk (.there (.there (.there .here))) rfl | exact Cels.blk (.there (.there (.there (.there .here)))) rfl | exact Cels.blk (.there (.there (.there (.there (.there .here))))) rfl | exact Cels.blk (.there (.there (.there (.there (.there (.there .here)))))) rfl | exact Cels.blk (.there (.there (.there (.there (.there (.there (.there .here))))))) rfl)) rfl ?_
        refine TL.open rfl rfl ?_
        refine TL.call (g := 15) rfl go_15 rfl (fun w _ => Hup w) rfl ?_
        refine TL.open rfl rfl ?_
        refine TL.val (OpV.not rfl) rfl ?_
        refine TL.open rfl rfl ?_
        refine TL.val ((by first | exact OpV.pick_t rfl rfl | exact OpV.pick_f rfl rfl)) rfl ?_
        refine TL.open rfl rfl ?_
        refine TL.val ((by first | exact OpV.pick_t rfl rfl | exact OpV.pick_f rfl rfl)) rfl ?_
        refine TL.val ((by first | exact OpV.pick_t rfl rfl | exact OpV.pick_f rfl rfl)) rfl ?_
        refine TL.val (OpV.move rfl) rfl ?_
        refine TL.open rfl rfl ?_
        refine TL.val (OpV.move rfl) rfl ?_
        refine TL.open rfl rfl ?_
        refine TL.val (OpV.eql rfl rfl) rfl ?_
        refine TL.open rfl rfl ?_
        refine TL.val (OpV.move rfl) rfl ?_
        refine TL.open rfl rfl ?_
        refine TL.val (OpV.move rfl) rfl ?_
        refine TL.open rfl rfl ?_
        refine TL.val (OpV.eql rfl rfl) rfl ?_
        refine TL.open rfl rfl ?_
        refine TL.val ((by first | exact OpV.pick_t rfl rfl | exact OpV.pick_f rfl rfl)) rfl ?_
        refine TL.open rfl rfl ?_
        refine TL.val (OpV.move rfl) rfl ?_
        refine TL.shut rfl rfl ?_
        refine TL.shut rfl rfl ?_
        refine TL.shut rfl rfl ?_
        refine TL.shut rfl rfl ?_
        refine TL.shut rfl rfl ?_
        refine TL.shut rfl rfl ?_
        refine TL.shut rfl rfl ?_
        refine TL.open rfl rfl ?_
        refine TL.val ((by first | exact OpV.pick_t rfl rfl | exact OpV.pick_f rfl rfl)) rfl ?_
        refine TL.val ((by first | exact OpV.pick_t rfl rfl | exact OpV.pick_f rfl rfl)) rfl ?_
        refine TL.nil ?_
        refine TE.sub (.cons (t := 2) rfl <| .cons (t := 3) rfl <| .cons (t := 4) rfl <| .cons (t := 10) rfl <| .cons (t := 74) rfl <| .nil) ?_
        refine TE.next ?_
        refine T.no rfl ?_
        refine T.skip ?_
        exact TE.met (.cons (t := 2) rfl <| .cons (t := 3) rfl <| .cons (t := 4) rfl <| .cons (t := 10) rfl <| .nil) (Kle.refl)
      · skip
        obtain ⟨rfl, hqe⟩ := hq0
        refine T.seq ?_
        refine T.region ?_
        refine TL.val (OpV.move rfl) rfl ?_
        refine TL.val (OpV.eql rfl rfl) rfl ?_
        refine TL.val (OpV.loadA ag_27 rfl (by first | exact Cels.blk .here rfl | exact Cels.blk (.there .here) rfl | exact Cels.blk (.there (.there .here)) rfl | exact Cels.blk (.there (.there (.there .here))) rfl | exact Cels.blk (.there (.there (.there (.there .here)))) rfl | exact Cels.blk (.there (.there (.there (.there (.there .here))))) rfl | exact Cels.blk (.there (.there (.there (.there (.there (.there .here)))))) rfl | exact Cels.blk (.there (.there (.there (.there (.there (.there (.there .here))))))) rfl)) rfl ?_
        refine TL.call (g := 10) rfl go_10 rfl (fun w _ => Hvp w) rfl ?_
        refine TL.val (OpV.bneq Tryd.underlying4 rfl rfl) rfl ?_
        refine TL.val (OpV.move rfl) rfl ?_
        refine TL.open rfl rfl ?_
        refine TL.val (OpV.move rfl) rfl ?_
        refine TL.open rfl rfl ?_
        refine TL.val (OpV.eql rfl rfl) rfl ?_
        refine TL.open rfl rfl ?_
        refine TL.val (OpV.move rfl) rfl ?_
        refine TL.open rfl rfl ?_
        refine TL.val (OpV.move rfl) rfl ?_
        refine TL.open rfl rfl ?_
        refine TL.val (OpV.geq rfl rfl) rfl ?_
        refine TL.said (t := 49) (u := .bool false) rfl (by rw [hX1]) ?_
        refine TL.open rfl rfl ?_
        refine TL.val (OpV.move rfl) rfl ?_
        refine TL.open rfl rfl ?_
        refine TL.val (OpV.move rfl) rfl ?_
        refine TL.open rfl rfl ?_
        refine TL.val (OpV.loadA ag_27 rfl (by first | exact Cels.blk .here rfl | exact Cels.blk (.there .here) rfl | exact Cels.blk (.there (.there .here)) rfl | exact Cels.blk (.there (.there (.there .here))) rfl | exact Cels.blk (.there (.there (.there (.there .here)))) rfl | exact Cels.blk (.there (.there (.there (.there (.there .here))))) rfl | exact Cels.blk (.there (.there (.there (.there (.there (.there .here)))))) rfl | exact Cels.blk (.there (.there (.there (.there (.there (.there (.there .here))))))) rfl)) rfl ?_
        refine TL.open rfl rfl ?_
        refine TL.call (g := 15) rfl go_15 rfl (fun w _ => Hup w) rfl ?_
        refine TL.open rfl rfl ?_
        refine TL.val (OpV.not rfl) rfl ?_
        refine TL.open rfl rfl ?_
        refine TL.val ((by first | exact OpV.pick_t rfl rfl | exact OpV.pick_f rfl rfl)) rfl ?_
        refine TL.open rfl rfl ?_
        refine TL.val ((by first | exact OpV.pick_t rfl rfl | exact OpV.pick_f rfl rfl)) rfl ?_
        refine TL.val ((by first | exact OpV.pick_t rfl rfl | exact OpV.pick_f rfl rfl)) rfl ?_
        refine TL.val (OpV.move rfl) rfl ?_
        refine TL.open rfl rfl ?_
        refine TL.val (OpV.move rfl) rfl ?_
        refine TL.open rfl rfl ?_
        refine TL.val (OpV.eql rfl rfl) rfl ?_
        refine TL.open rfl rfl ?_
        refine TL.val (OpV.move rfl) rfl ?_
        refine TL.open rfl rfl ?_
        refine TL.val (OpV.move rfl) rfl ?_
        refine TL.open rfl rfl ?_
        refine TL.val (OpV.eql rfl rfl) rfl ?_
        refine TL.open rfl rfl ?_
        refine TL.val ((by first | exact OpV.pick_t rfl rfl | exact OpV.pick_f rfl rfl)) rfl ?_
        refine TL.open rfl rfl ?_
        refine TL.val (OpV.move rfl) rfl ?_
        refine TL.open rfl rfl ?_
        refine TL.val (OpV.move rfl) rfl ?_
        refine TL.open rfl rfl ?_
        refine TL.val (OpV.move rfl) rfl ?_
        refine TL.open rfl rfl ?_
        refine TL.val (OpV.eql rfl rfl) rfl ?_
        refine TL.open rfl rfl ?_
        refine TL.val (OpV.loadA ag_27 rfl (by first | exact Cels.blk .here rfl | exact Cels.blk (.there .here) rfl | exact Cels.blk (.there (.there .here)) rfl | exact Cels.blk (.there (.there (.there .here))) rfl | exact Cels.blk (.there (.there (.there (.there .here)))) rfl | exact Cels.blk (.there (.there (.there (.there (.there .here))))) rfl | exact Cels.blk (.there (.there (.there (.there (.there (.there .here)))))) rfl | exact Cels.blk (.there (.there (.there (.there (.there (.there (.there .here))))))) rfl)) rfl ?_
        refine TL.open rfl rfl ?_
        refine TL.val (OpV.loadA ag_27 rfl (by first | exact Cels.blk .here rfl | exact Cels.blk (.there .here) rfl | exact Cels.blk (.there (.there .here)) rfl | exact Cels.blk (.there (.there (.there .here))) rfl | exact Cels.blk (.there (.there (.there (.there .here)))) rfl | exact Cels.blk (.there (.there (.there (.there (.there .here))))) rfl | exact Cels.blk (.there (.there (.there (.there (.there (.there .here)))))) rfl | exact Cels.blk (.there (.there (.there (.there (.there (.there (.there .here))))))) rfl)) rfl ?_
        refine TL.open rfl rfl ?_
        refine TL.val (OpV.aeql rfl rfl eg_27 (hqp)) rfl ?_
        refine TL.open rfl rfl ?_
        refine TL.val (OpV.bneq Tryd.underlying4 rfl rfl) rfl ?_
        refine TL.said (t := 72) (u := .bool false) rfl (by rw [hqe]; cases qb <;> rfl) ?_
        refine TL.open rfl rfl ?_
        refine TL.val ((by first | exact OpV.pick_t rfl rfl | exact OpV.pick_f rfl rfl)) rfl ?_
        refine TL.val ((by first | exact OpV.pick_t rfl rfl | exact OpV.pick_f rfl rfl)) rfl ?_
        refine TL.nil ?_
        refine TE.sub (.cons (t := 2) rfl <| .cons (t := 3) rfl <| .cons (t := 4) rfl <| .cons (t := 10) rfl <| .cons (t := 74) rfl <| .nil) ?_
        refine TE.next ?_
        refine T.no rfl ?_
        refine T.skip ?_
        exact TE.met (.cons (t := 2) rfl <| .cons (t := 3) rfl <| .cons (t := 4) rfl <| .cons (t := 10) rfl <| .nil) (Kle.refl)
    refine TE.next ?_
    refine T.seq ?_
    refine T.cut [(3, .slice P n c), (4, .pointer (some ⟨b4, 0, none⟩)), (10, .int .i64 0)] ([.blk b5 [.int .i64 m1, .int .u8 j1, .int .u8 s1, .int .u8 h1, .int .u8 c1, .int .i64 m2, .int .u8 j2, .int .u8 s2, .int .u8 h2, .int .u8 c2, .int .u8 e] 27, .blk b4 [.int .i64 k1, .int .u8 i1, .int .u8 r1, .int .u8 g1, .int .u8 b1, .int .i64 k2, .int .u8 i2, .int .u8 r2, .int .u8 g2, .int .u8 b2, .int .u8 f] 27, .fr fun b => w.heap[b]?]) ?_ ?_
    · skip
      rcases hx with ⟨hx0, Hvx, Hpx⟩ | hx2
      · skip
        obtain rfl := hx0
        refine T.seq ?_
        refine T.region ?_
        refine TL.val (OpV.move rfl) rfl ?_
        refine TL.call (g := 25) rfl go_25 rfl (fun w _ => Hx w) rfl ?_
        refine TL.val (OpV.move rfl) rfl ?_
        refine TL.val (OpV.extract rfl rfl) rfl ?_
        refine TL.val (OpV.extract rfl rfl) rfl ?_
        refine TL.alloc zo_27 rfl ?_
        intro b13
        refine TL.store rfl rfl szz_27 rfl rfl rfl (by first | exact .here | exact (.there .here) | exact (.there (.there .here)) | exact (.there (.there (.there .here))) | exact (.there (.there (.there (.there .here)))) | exact (.there (.there (.there (.there (.there .here))))) | exact (.there (.there (.there (.there (.there (.there .here)))))) | exact (.there (.there (.there (.there (.there (.there (.there .here)))))))) (by first | decide | (simp; done) | (simp; omega)) (by simp only [putL, List.take_succ_cons, List.take_zero, List.drop_succ_cons, List.drop_zero, List.cons_append, List.nil_append, List.length_cons, List.length_nil, Nat.reduceAdd]; rfl) ?_
        refine TL.val (OpV.assign rfl) rfl ?_
        refine TL.nil ?_
        refine TE.next ?_
        refine T.seq ?_
        refine T.region ?_
        refine TL.val (OpV.move rfl) rfl ?_
        refine TL.val (OpV.eql rfl rfl) rfl ?_
        refine TL.val (OpV.move rfl) rfl ?_
        refine TL.open rfl rfl ?_
        refine TL.val (OpV.loadA ag_27 rfl (by first | exact Cels.blk .here rfl | exact Cels.blk (.there .here) rfl | exact Cels.blk (.there (.there .here)) rfl | exact Cels.blk (.there (.there (.there .here))) rfl | exact Cels.blk (.there (.there (.there (.there .here)))) rfl | exact Cels.blk (.there (.there (.there (.there (.there .here))))) rfl | exact Cels.blk (.there (.there (.there (.there (.there (.there .here)))))) rfl | exact Cels.blk (.there (.there (.there (.there (.there (.there (.there .here))))))) rfl)) rfl ?_
        refine TL.open rfl rfl ?_
        refine TL.call (g := 10) rfl go_10 rfl (fun w _ => Hvx w) rfl ?_
        refine TL.open rfl rfl ?_
        refine TL.val (OpV.not rfl) rfl ?_
        refine TL.open rfl rfl ?_
        refine TL.val (OpV.move rfl) rfl ?_
        refine TL.open rfl rfl ?_
        refine TL.val (OpV.loadA ag_27 rfl (by first | exact Cels.blk .here rfl | exact Cels.blk (.there .here) rfl | exact Cels.blk (.there (.there .here)) rfl | exact Cels.blk (.there (.there (.there .here))) rfl | exact Cels.blk (.there (.there (.there (.there .here)))) rfl | exact Cels.blk (.there (.there (.there (.there (.there .here))))) rfl | exact Cels.blk (.there (.there (.there (.there (.there (.there .here)))))) rfl | exact Cels.blk (.there (.there (.there (.there (.there (.there (.there .here))))))) rfl)) rfl ?_
        refine TL.open rfl rfl ?_
        refine TL.val (OpV.move rfl) rfl ?_
        refine TL.open rfl rfl ?_
        refine TL.call (g := 12) rfl go_12 rfl (fun w _ => Hpx w) rfl ?_
        refine TL.open rfl rfl ?_
        refine TL.val (OpV.not rfl) rfl ?_
        refine TL.open rfl rfl ?_
        refine TL.val ((by first | exact OpV.pick_t rfl rfl | exact OpV.pick_f rfl rfl)) rfl ?_
        refine TL.val ((by first | exact OpV.pick_t rfl rfl | exact OpV.pick_f rfl rfl)) rfl ?_
        refine TL.nil ?_
        refine TE.sub (.cons (t := 3) rfl <| .cons (t := 4) rfl <| .cons (t := 10) rfl <| .cons (t := 92) rfl <| .nil) ?_
        refine TE.next ?_
        refine T.no rfl ?_
        refine T.skip ?_
        exact TE.met (.cons (t := 3) rfl <| .cons (t := 4) rfl <| .cons (t := 10) rfl <| .nil) (Kle.drop)
      · skip
        obtain rfl := hx2
        refine T.seq ?_
        refine T.region ?_
        refine TL.val (OpV.move rfl) rfl ?_
        refine TL.call (g := 25) rfl go_25 rfl (fun w _ => Hx w) rfl ?_
        refine TL.val (OpV.move rfl) rfl ?_
        refine TL.val (OpV.extract rfl rfl) rfl ?_
        refine TL.val (OpV.extract rfl rfl) rfl ?_
        refine TL.alloc zo_27 rfl ?_
        intro b13
        refine TL.store rfl rfl szz_27 rfl rfl rfl (by first | exact .here | exact (.there .here) | exact (.there (.there .here)) | exact (.there (.there (.there .here))) | exact (.there (.there (.there (.there .here)))) | exact (.there (.there (.there (.there (.there .here))))) | exact (.there (.there (.there (.there (.there (.there .here)))))) | exact (.there (.there (.there (.there (.there (.there (.there .here)))))))) (by first | decide | (simp; done) | (simp; omega)) (by simp only [putL, List.take_succ_cons, List.take_zero, List.drop_succ_cons, List.drop_zero, List.cons_append, List.nil_append, List.length_cons, List.length_nil, Nat.reduceAdd]; rfl) ?_
        refine TL.val (OpV.assign rfl) rfl ?_
        refine TL.nil ?_
        refine TE.next ?_
        refine T.seq ?_
        refine T.region ?_
        refine TL.val (OpV.move rfl) rfl ?_
        refine TL.val (OpV.eql rfl rfl) rfl ?_
        refine TL.val (OpV.move rfl) rfl ?_
        refine TL.shut rfl rfl ?_
        refine TL.shut rfl rfl ?_
        refine TL.shut rfl rfl ?_
        refine TL.shut rfl rfl ?_
        refine TL.shutU rfl rfl ?_
        refine TL.shutU rfl rfl ?_
        refine TL.shutU rfl rfl ?_
        refine TL.shutU rfl rfl ?_
        refine TL.shut rfl rfl ?_
        refine TL.val ((by first | exact OpV.pick_t rfl rfl | exact OpV.pick_f rfl rfl)) rfl ?_
        refine TL.nil ?_
        refine TE.sub (.cons (t := 3) rfl <| .cons (t := 4) rfl <| .cons (t := 10) rfl <| .cons (t := 92) rfl <| .nil) ?_
        refine TE.next ?_
        refine T.no rfl ?_
        refine T.skip ?_
        exact TE.met (.cons (t := 3) rfl <| .cons (t := 4) rfl <| .cons (t := 10) rfl <| .nil) (Kle.drop)
    refine TE.next ?_
    refine T.seq ?_
    refine T.region ?_
    refine TL.callx (g := 19) rfl go_19 rfl (all_x) rfl ?_
    rintro ⟨g, c0, σ⟩ hat0
    have hfl := flags_at hat0
    clear hat0
    refine TL.val (OpV.assign rfl) rfl ?_
    refine TL.nil ?_
    refine TE.next ?_
    refine T.seq ?_
    refine T.seq ?_
    refine T.region ?_
    refine TL.val (OpV.move rfl) rfl ?_
    refine TL.val (OpV.len Tryd.underlying42 rfl) rfl ?_
    refine TL.val (OpV.neq rfl rfl) rfl ?_
    refine TL.val (OpV.move rfl) rfl ?_
    refine TL.open rfl rfl ?_
    refine TL.val (OpV.move rfl) rfl ?_
    refine TL.open rfl rfl ?_
    refine TL.val (OpV.neq rfl rfl) rfl ?_
    refine TL.val ((by first | exact OpV.pick_t rfl rfl | exact OpV.pick_f rfl rfl)) rfl ?_
    refine TL.nil ?_
    refine TE.sub (.cons (t := 3) rfl <| .cons (t := 4) rfl <| .cons (t := 15) rfl <| .cons (t := 100) rfl <| .nil) ?_
    refine TE.next ?_
    refine T.no rfl ?_
    refine T.skip ?_
    refine TE.next ?_
    refine T.seq ?_
    refine T.region ?_
    refine TL.alloc zo_55 rfl ?_
    intro b16
    refine TL.nil ?_
    refine TE.next ?_
    refine T.seq ?_
    refine T.cutx (ι := Nat × Nat) (fun ⟨b17, b18⟩ => True) (fun ⟨b17, b18⟩ => [(3, .slice P n c), (4, .pointer (some ⟨b4, 0, none⟩)), (15, .slice (some ⟨g, 0, none⟩) 8 c0), (16, .pointer (some ⟨b16, 0, none⟩)), (17, .pointer (some ⟨b17, 0, none⟩)), (18, .pointer (some ⟨b18, 0, none⟩))]) (fun ⟨b17, b18⟩ => [.blk b18 [.int .i64 k1, .int .u8 i1, .int .u8 r1, .int .u8 g1, .int .u8 b1, .int .i64 k2, .int .u8 i2, .int .u8 r2, .int .u8 g2, .int .u8 b2, .int .u8 ((acc (fun i => h (n - 1 - i)) 0 : Nat))] 27, .blk b17 [.int .i64 k1, .int .u8 i1, .int .u8 r1, .int .u8 g1, .int .u8 b1, .int .i64 k2, .int .u8 i2, .int .u8 r2, .int .u8 g2, .int .u8 b2, .int .u8 ((acc h 0 : Nat))] 27, .blk b16 (thereL h 0) 55, .own σ, .blk b4 [.int .i64 k1, .int .u8 i1, .int .u8 r1, .int .u8 g1, .int .u8 b1, .int .i64 k2, .int .u8 i2, .int .u8 r2, .int .u8 g2, .int .u8 b2, .int .u8 f] 27, .fr fun b => w.heap[b]?]) ?_ ?_
    rotate_left
    · skip
      refine T.any ([.blk b4 [.int .i64 k1, .int .u8 i1, .int .u8 r1, .int .u8 g1, .int .u8 b1, .int .i64 k2, .int .u8 i2, .int .u8 r2, .int .u8 g2, .int .u8 b2, .int .u8 f] 27]) [] mix rfl rfl ?_
      refine TA.takeP (i := 0) (ls := #[true, false, false, false, false, false, false, false, false, false, false, false, false, false]) rfl rfl rfl rfl rfl (by kernel_rfl) (by kernel_rfl) (by kernel_rfl) (by repeat (first | with_reducible exact PanicOk.body | with_reducible apply PanicOk.next | with_reducible apply PanicOk.block)) (OpV.fieldAddr rfl fo_27_0) rfl (by kernel_rfl) ?_
      refine TA.take (i := 1) (ls := #[true, true, false, false, false, false, false, false, false, false, false, false, false, false]) rfl rfl rfl rfl rfl (by kernel_rfl) (by kernel_rfl) (by kernel_rfl) (by kernel_rfl) (by repeat (first | with_reducible exact PanicOk.body | with_reducible apply PanicOk.next | with_reducible apply PanicOk.block)) ((.cons (by first | exact .here | exact (.there .here) | exact (.there (.there .here)) | exact (.there (.there (.there .here))) | exact (.there (.there (.there (.there .here)))) | exact (.there (.there (.there (.there (.there .here))))) | exact (.there (.there (.there (.there (.there (.there .here))))))) .nil)) (OpV.loadA ag_24 rfl (Cels.blkAt [.int .i64 k1, .int .u8 i1, .int .u8 r1, .int .u8 g1, .int .u8 b1] (by first | exact .here | exact (.there .here) | exact (.there (.there .here)) | exact (.there (.there (.there .here))) | exact (.there (.there (.there (.there .here)))) | exact (.there (.there (.there (.there (.there .here))))) | exact (.there (.there (.there (.there (.there (.there .here))))))) rfl rfl)) rfl (by kernel_rfl) ?_
      refine TA.takeP (i := 2) (ls := #[true, true, true, false, false, false, false, false, false, false, false, false, false, false]) rfl rfl rfl rfl rfl (by kernel_rfl) (by kernel_rfl) (by kernel_rfl) (by repeat (first | with_reducible exact PanicOk.body | with_reducible apply PanicOk.next | with_reducible apply PanicOk.block)) (OpV.fieldAddr rfl fo_27_1) rfl (by kernel_rfl) ?_
      refine TA.take (i := 3) (ls := #[true, true, true, true, false, false, false, false, false, false, false, false, false, false]) rfl rfl rfl rfl rfl (by kernel_rfl) (by kernel_rfl) (by kernel_rfl) (by kernel_rfl) (by repeat (first | with_reducible exact PanicOk.body | with_reducible apply PanicOk.next | with_reducible apply PanicOk.block)) ((.cons (by first | exact .here | exact (.there .here) | exact (.there (.there .here)) | exact (.there (.there (.there .here))) | exact (.there (.there (.there (.there .here)))) | exact (.there (.there (.there (.there (.there .here))))) | exact (.there (.there (.there (.there (.there (.there .here))))))) .nil)) (OpV.loadA ag_24 rfl (Cels.blkAt [.int .i64 k2, .int .u8 i2, .int .u8 r2, .int .u8 g2, .int .u8 b2] (by first | exact .here | exact (.there .here) | exact (.there (.there .here)) | exact (.there (.there (.there .here))) | exact (.there (.there (.there (.there .here)))) | exact (.there (.there (.there (.there (.there .here))))) | exact (.there (.there (.there (.there (.there (.there .here))))))) rfl rfl)) rfl (by kernel_rfl) ?_
      refine TA.takeP (i := 4) (ls := #[true, true, true, true, true, false, false, false, false, false, false, false, false, false]) rfl rfl rfl rfl rfl (by kernel_rfl) (by kernel_rfl) (by kernel_rfl) (by repeat (first | with_reducible exact PanicOk.body | with_reducible apply PanicOk.next | with_reducible apply PanicOk.block)) (OpV.build (qs := #[(0, _), (1, _)]) (fun _ f => by simp only [List.map_toArray, List.map_cons, List.map_nil]; rw [f.ev (x := .tmp 108) rfl, f.ev (x := .tmp 110) rfl]) (bld_27_0_1 k1 i1 r1 g1 b1 k2 i2 r2 g2 b2 )) rfl (by kernel_rfl) ?_
      refine TA.takeP (i := 5) (ls := #[true, true, true, true, true, true, false, false, false, false, false, false, false, false]) rfl rfl rfl rfl rfl (by kernel_rfl) (by kernel_rfl) (by kernel_rfl) (by repeat (first | with_reducible exact PanicOk.body | with_reducible apply PanicOk.next | with_reducible apply PanicOk.block)) (OpV.fieldAddr rfl fo_27_0) rfl (by kernel_rfl) ?_
      refine TA.take (i := 6) (ls := #[true, true, true, true, true, true, true, false, false, false, false, false, false, false]) rfl rfl rfl rfl rfl (by kernel_rfl) (by kernel_rfl) (by kernel_rfl) (by kernel_rfl) (by repeat (first | with_reducible exact PanicOk.body | with_reducible apply PanicOk.next | with_reducible apply PanicOk.block)) ((.cons (by first | exact .here | exact (.there .here) | exact (.there (.there .here)) | exact (.there (.there (.there .here))) | exact (.there (.there (.there (.there .here)))) | exact (.there (.there (.there (.there (.there .here))))) | exact (.there (.there (.there (.there (.there (.there .here))))))) .nil)) (OpV.loadA ag_24 rfl (Cels.blkAt [.int .i64 k1, .int .u8 i1, .int .u8 r1, .int .u8 g1, .int .u8 b1] (by first | exact .here | exact (.there .here) | exact (.there (.there .here)) | exact (.there (.there (.there .here))) | exact (.there (.there (.there (.there .here)))) | exact (.there (.there (.there (.there (.there .here))))) | exact (.there (.there (.there (.there (.there (.there .here))))))) rfl rfl)) rfl (by kernel_rfl) ?_
      refine TA.takeP (i := 7) (ls := #[true, true, true, true, true, true, true, true, false, false, false, false, false, false]) rfl rfl rfl rfl rfl (by kernel_rfl) (by kernel_rfl) (by kernel_rfl) (by repeat (first | with_reducible exact PanicOk.body | with_reducible apply PanicOk.next | with_reducible apply PanicOk.block)) (OpV.fieldAddr rfl fo_27_1) rfl (by kernel_rfl) ?_
      refine TA.take (i := 8) (ls := #[true, true, true, true, true, true, true, true, true, false, false, false, false, false]) rfl rfl rfl rfl rfl (by kernel_rfl) (by kernel_rfl) (by kernel_rfl) (by kernel_rfl) (by repeat (first | with_reducible exact PanicOk.body | with_reducible apply PanicOk.next | with_reducible apply PanicOk.block)) ((.cons (by first | exact .here | exact (.there .here) | exact (.there (.there .here)) | exact (.there (.there (.there .here))) | exact (.there (.there (.there (.there .here)))) | exact (.there (.there (.there (.there (.there .here))))) | exact (.there (.there (.there (.there (.there (.there .here))))))) .nil)) (OpV.loadA ag_24 rfl (Cels.blkAt [.int .i64 k2, .int .u8 i2, .int .u8 r2, .int .u8 g2, .int .u8 b2] (by first | exact .here | exact (.there .here) | exact (.there (.there .here)) | exact (.there (.there (.there .here))) | exact (.there (.there (.there (.there .here)))) | exact (.there (.there (.there (.there (.there .here))))) | exact (.there (.there (.there (.there (.there (.there .here))))))) rfl rfl)) rfl (by kernel_rfl) ?_
      refine TA.takeP (i := 9) (ls := #[true, true, true, true, true, true, true, true, true, true, false, false, false, false]) rfl rfl rfl rfl rfl (by kernel_rfl) (by kernel_rfl) (by kernel_rfl) (by repeat (first | with_reducible exact PanicOk.body | with_reducible apply PanicOk.next | with_reducible apply PanicOk.block)) (OpV.build (qs := #[(0, _), (1, _)]) (fun _ f => by simp only [List.map_toArray, List.map_cons, List.map_nil]; rw [f.ev (x := .tmp 113) rfl, f.ev (x := .tmp 115) rfl]) (bld_27_0_1 k1 i1 r1 g1 b1 k2 i2 r2 g2 b2 )) rfl (by kernel_rfl) ?_
      refine TA.two (i := 10) (i' := 11) (ls := #[true, true, true, true, true, true, true, true, true, true, true, false, false, false]) (ls' := #[true, true, true, true, true, true, true, true, true, true, false, true, false, false]) (by kernel_rfl) rfl rfl (by kernel_rfl) (by kernel_rfl) (fun w1 => ?_) (fun w1 => ?_)
      · skip
        refine TL.alloc zo_27 rfl ?_
        intro b17
        refine TL.nil ?_
        refine TA.cont ((.cons (by first | exact .here | exact (.there .here) | exact (.there (.there .here)) | exact (.there (.there (.there .here))) | exact (.there (.there (.there (.there .here)))) | exact (.there (.there (.there (.there (.there .here))))) | exact (.there (.there (.there (.there (.there (.there .here))))))) .nil)) ?_
        refine TA.one (i := 11) (ls := #[true, true, true, true, true, true, true, true, true, true, true, true, false, false]) (by kernel_rfl) rfl (by kernel_rfl) (fun w1 => ?_)
        refine TL.alloc zo_27 rfl ?_
        intro b18
        refine TL.nil ?_
        refine TA.cont ((.cons (by first | exact .here | exact (.there .here) | exact (.there (.there .here)) | exact (.there (.there (.there .here))) | exact (.there (.there (.there (.there .here)))) | exact (.there (.there (.there (.there (.there .here))))) | exact (.there (.there (.there (.there (.there (.there .here))))))) .nil)) ?_
        refine TA.one (i := 12) (ls := #[true, true, true, true, true, true, true, true, true, true, true, true, true, false]) (by kernel_rfl) rfl (by kernel_rfl) (fun w1 => ?_)
        refine TL.store rfl rfl szz_27 rfl rfl rfl (by first | exact .here | exact (.there .here) | exact (.there (.there .here)) | exact (.there (.there (.there .here))) | exact (.there (.there (.there (.there .here)))) | exact (.there (.there (.there (.there (.there .here))))) | exact (.there (.there (.there (.there (.there (.there .here)))))) | exact (.there (.there (.there (.there (.there (.there (.there .here)))))))) (by first | decide | (simp; done) | (simp; omega)) (by simp only [putL, List.take_succ_cons, List.take_zero, List.drop_succ_cons, List.drop_zero, List.cons_append, List.nil_append, List.length_cons, List.length_nil, Nat.reduceAdd]; rfl) ?_
        refine TL.nil ?_
        refine TA.cont ((.cons (by first | exact .here | exact (.there .here) | exact (.there (.there .here)) | exact (.there (.there (.there .here))) | exact (.there (.there (.there (.there .here)))) | exact (.there (.there (.there (.there (.there .here))))) | exact (.there (.there (.there (.there (.there (.there .here))))))) .nil)) ?_
        refine TA.one (i := 13) (ls := #[true, true, true, true, true, true, true, true, true, true, true, true, true, true]) (by kernel_rfl) rfl (by kernel_rfl) (fun w1 => ?_)
        refine TL.store rfl rfl szz_27 rfl rfl rfl (by first | exact .here | exact (.there .here) | exact (.there (.there .here)) | exact (.there (.there (.there .here))) | exact (.there (.there (.there (.there .here)))) | exact (.there (.there (.there (.there (.there .here))))) | exact (.there (.there (.there (.there (.there (.there .here)))))) | exact (.there (.there (.there (.there (.there (.there (.there .here)))))))) (by first | decide | (simp; done) | (simp; omega)) (by simp only [putL, List.take_succ_cons, List.take_zero, List.drop_succ_cons, List.drop_zero, List.cons_append, List.nil_append, List.length_cons, List.length_nil, Nat.reduceAdd]; rfl) ?_
        refine TL.nil ?_
        refine TA.cont ((.cons (by first | exact .here | exact (.there .here) | exact (.there (.there .here)) | exact (.there (.there (.there .here))) | exact (.there (.there (.there (.there .here)))) | exact (.there (.there (.there (.there (.there .here))))) | exact (.there (.there (.there (.there (.there (.there .here))))))) .nil)) ?_
        refine TA.done (by kernel_rfl) ?_
        exact TE.meet (b17, b18) trivial (.cons (t := 3) rfl <| .cons (t := 4) rfl <| .cons (t := 15) rfl <| .cons (t := 16) rfl <| .cons (t := 17) rfl <| .cons (t := 18) rfl <| .nil) (Perm.kle (.cons (by first | exact .here | exact (.there .here) | exact (.there (.there .here)) | exact (.there (.there (.there .here))) | exact (.there (.there (.there (.there .here)))) | exact (.there (.there (.there (.there (.there .here))))) | exact (.there (.there (.there (.there (.there (.there .here))))))) <| .cons (by first | exact .here | exact (.there .here) | exact (.there (.there .here)) | exact (.there (.there (.there .here))) | exact (.there (.there (.there (.there .here)))) | exact (.there (.there (.there (.there (.there .here))))) | exact (.there (.there (.there (.there (.there (.there .here))))))) <| .cons (by first | exact .here | exact (.there .here) | exact (.there (.there .here)) | exact (.there (.there (.there .here))) | exact (.there (.there (.there (.there .here)))) | exact (.there (.there (.there (.there (.there .here))))) | exact (.there (.there (.there (.there (.there (.there .here))))))) <| .cons (by first | exact .here | exact (.there .here) | exact (.there (.there .here)) | exact (.there (.there (.there .here))) | exact (.there (.there (.there (.there .here)))) | exact (.there (.there (.there (.there (.there .here))))) | exact (.there (.there (.there (.there (.there (.there .here))))))) <| .cons (by first | exact .here | exact (.there .here) | exact (.there (.there .here)) | exact (.there (.there (.there .here))) | exact (.there (.there (.there (.there .here)))) | exact (.there (.there (.there (.there (.there .here))))) | exact (.there (.there (.there (.there (.there (.there .here))))))) <| .cons (by first | exact .here | exact (.there .here) | exact (.there (.there .here)) | exact (.there (.there (.there .here))) | exact (.there (.there (.there (.there .here)))) | exact (.there (.there (.there (.there (.there .here))))) | exact (.there (.there (.there (.there (.there (.there .here))))))) <| .nil))
      · skip
        refine TL.alloc zo_27 rfl ?_
        intro b18
        refine TL.nil ?_
        refine TA.cont ((.cons (by first | exact .here | exact (.there .here) | exact (.there (.there .here)) | exact (.there (.there (.there .here))) | exact (.there (.there (.there (.there .here)))) | exact (.there (.there (.there (.there (.there .here))))) | exact (.there (.there (.there (.there (.there (.there .here))))))) .nil)) ?_
        refine TA.one (i := 10) (ls := #[true, true, true, true, true, true, true, true, true, true, true, true, false, false]) (by kernel_rfl) rfl (by kernel_rfl) (fun w1 => ?_)
        refine TL.alloc zo_27 rfl ?_
        intro b17
        refine TL.nil ?_
        refine TA.cont ((.cons (by first | exact .here | exact (.there .here) | exact (.there (.there .here)) | exact (.there (.there (.there .here))) | exact (.there (.there (.there (.there .here)))) | exact (.there (.there (.there (.there (.there .here))))) | exact (.there (.there (.there (.there (.there (.there .here))))))) .nil)) ?_
        refine TA.one (i := 12) (ls := #[true, true, true, true, true, true, true, true, true, true, true, true, true, false]) (by kernel_rfl) rfl (by kernel_rfl) (fun w1 => ?_)
        refine TL.store rfl rfl szz_27 rfl rfl rfl (by first | exact .here | exact (.there .here) | exact (.there (.there .here)) | exact (.there (.there (.there .here))) | exact (.there (.there (.there (.there .here)))) | exact (.there (.there (.there (.there (.there .here))))) | exact (.there (.there (.there (.there (.there (.there .here)))))) | exact (.there (.there (.there (.there (.there (.there (.there .here)))))))) (by first | decide | (simp; done) | (simp; omega)) (by simp only [putL, List.take_succ_cons, List.take_zero, List.drop_succ_cons, List.drop_zero, List.cons_append, List.nil_append, List.length_cons, List.length_nil, Nat.reduceAdd]; rfl) ?_
        refine TL.nil ?_
        refine TA.cont ((.cons (by first | exact .here | exact (.there .here) | exact (.there (.there .here)) | exact (.there (.there (.there .here))) | exact (.there (.there (.there (.there .here)))) | exact (.there (.there (.there (.there (.there .here))))) | exact (.there (.there (.there (.there (.there (.there .here))))))) .nil)) ?_
        refine TA.one (i := 13) (ls := #[true, true, true, true, true, true, true, true, true, true, true, true, true, true]) (by kernel_rfl) rfl (by kernel_rfl) (fun w1 => ?_)
        refine TL.store rfl rfl szz_27 rfl rfl rfl (by first | exact .here | exact (.there .here) | exact (.there (.there .here)) | exact (.there (.there (.there .here))) | exact (.there (.there (.there (.there .here)))) | exact (.there (.there (.there (.there (.there .here))))) | exact (.there (.there (.there (.there (.there (.there .here)))))) | exact (.there (.there (.there (.there (.there (.there (.there .here)))))))) (by first | decide | (simp; done) | (simp; omega)) (by simp only [putL, List.take_succ_cons, List.take_zero, List.drop_succ_cons, List.drop_zero, List.cons_append, List.nil_append, List.length_cons, List.length_nil, Nat.reduceAdd]; rfl) ?_
        refine TL.nil ?_
        refine TA.cont ((.cons (by first | exact .here | exact (.there .here) | exact (.there (.there .here)) | exact (.there (.there (.there .here))) | exact (.there (.there (.there (.there .here)))) | exact (.there (.there (.there (.there (.there .here))))) | exact (.there (.there (.there (.there (.there (.there .here))))))) .nil)) ?_
        refine TA.done (by kernel_rfl) ?_
        exact TE.meet (b17, b18) trivial (.cons (t := 3) rfl <| .cons (t := 4) rfl <| .cons (t := 15) rfl <| .cons (t := 16) rfl <| .cons (t := 17) rfl <| .cons (t := 18) rfl <| .nil) (Perm.kle (.cons (by first | exact .here | exact (.there .here) | exact (.there (.there .here)) | exact (.there (.there (.there .here))) | exact (.there (.there (.there (.there .here)))) | exact (.there (.there (.there (.there (.there .here))))) | exact (.there (.there (.there (.there (.there (.there .here))))))) <| .cons (by first | exact .here | exact (.there .here) | exact (.there (.there .here)) | exact (.there (.there (.there .here))) | exact (.there (.there (.there (.there .here)))) | exact (.there (.there (.there (.there (.there .here))))) | exact (.there (.there (.there (.there (.there (.there .here))))))) <| .cons (by first | exact .here | exact (.there .here) | exact (.there (.there .here)) | exact (.there (.there (.there .here))) | exact (.there (.there (.there (.there .here)))) | exact (.there (.there (.there (.there (.there .here))))) | exact (.there (.there (.there (.there (.there (.there .here))))))) <| .cons (by first | exact .here | exact (.there .here) | exact (.there (.there .here)) | exact (.there (.there (.there .here))) | exact (.there (.there (.there (.there .here)))) | exact (.there (.there (.there (.there (.there .here))))) | exact (.there (.there (.there (.there (.there (.there .here))))))) <| .cons (by first | exact .here | exact (.there .here) | exact (.there (.there .here)) | exact (.there (.there (.there .here))) | exact (.there (.there (.there (.there .here)))) | exact (.there (.there (.there (.there (.there .here))))) | exact (.there (.there (.there (.there (.there (.there .here))))))) <| .cons (by first | exact .here | exact (.there .here) | exact (.there (.there .here)) | exact (.there (.there (.there .here))) | exact (.there (.there (.there (.there .here)))) | exact (.there (.there (.there (.there (.there .here))))) | exact (.there (.there (.there (.there (.there (.there .here))))))) <| .nil))
    rintro ⟨b17, b18⟩ -
    refine TE.next ?_
    refine T.seq ?_
    refine T.seq ?_
    refine T.region ?_
    refine TL.val (OpV.move rfl) rfl ?_
    refine TL.val (OpV.len Tryd.underlying50 rfl) rfl ?_
    refine TL.val (OpV.move rfl) rfl ?_
    refine TL.nil ?_
    refine TE.next ?_
    refine T.block ?_
    refine T.loop (ι := Nat) (fun k => k ≤ n) (fun k => n - k) (fun k => [(3, .slice P n c), (4, .pointer (some ⟨b4, 0, none⟩)), (15, .slice (some ⟨g, 0, none⟩) 8 c0), (16, .pointer (some ⟨b16, 0, none⟩)), (17, .pointer (some ⟨b17, 0, none⟩)), (18, .pointer (some ⟨b18, 0, none⟩)), (117, .slice P n c), (118, .int .i64 (n : Int)), (119, .int .i64 (k : Int))]) (fun k => [.blk b18 [.int .i64 k1, .int .u8 i1, .int .u8 r1, .int .u8 g1, .int .u8 b1, .int .i64 k2, .int .u8 i2, .int .u8 r2, .int .u8 g2, .int .u8 b2, .int .u8 ((acc (fun i => h (n - 1 - i)) k : Nat))] 27, .blk b17 [.int .i64 k1, .int .u8 i1, .int .u8 r1, .int .u8 g1, .int .u8 b1, .int .i64 k2, .int .u8 i2, .int .u8 r2, .int .u8 g2, .int .u8 b2, .int .u8 ((acc h k : Nat))] 27, .blk b16 (thereL h k) 55, .own σ, .blk b4 [.int .i64 k1, .int .u8 i1, .int .u8 r1, .int .u8 g1, .int .u8 b1, .int .i64 k2, .int .u8 i2, .int .u8 r2, .int .u8 g2, .int .u8 b2, .int .u8 f] 27, .fr fun b => w.heap[b]?]) 0 (Nat.zero_le _) (.cons (t := 3) rfl <| .cons (t := 4) rfl <| .cons (t := 15) rfl <| .cons (t := 16) rfl <| .cons (t := 17) rfl <| .cons (t := 18) rfl <| .cons (t := 117) rfl <| .cons (t := 118) rfl <| .cons (t := 119) rfl <| .nil) (Kle.refl) ?_
    rintro k hk
    refine T.seq ?_
    refine T.region ?_
    refine TL.val (OpV.lss rfl rfl) rfl ?_
    refine TL.nil ?_
    refine TE.next ?_
    refine T.seq ?_
    refine T.cond rfl ?_ ?_
    · intro ht120
      have hkn : k < n := by simpa using ht120
      obtain ⟨bl, ol, hA, hl⟩ := hP (by omega)
      refine T.skip ?_
      refine TE.next ?_
      refine T.seq ?_
      refine T.block ?_
      refine T.seq ?_
      refine T.region ?_
      refine TL.val (OpV.move rfl) rfl ?_
      refine TL.val (OpV.indexAddr se_50 rfl hA rfl (by rfl) (by first | omega | simp)) rfl ?_
      refine TL.val (OpV.load pl_5 rfl (by first | exact Cel.fr .here (hl k hkn) | exact Cel.fr (.there .here) (hl k hkn) | exact Cel.fr (.there (.there .here)) (hl k hkn) | exact Cel.fr (.there (.there (.there .here))) (hl k hkn) | exact Cel.fr (.there (.there (.there (.there .here)))) (hl k hkn) | exact Cel.fr (.there (.there (.there (.there (.there .here))))) (hl k hkn) | exact Cel.fr (.there (.there (.there (.there (.there (.there .here)))))) (hl k hkn) | exact Cel.fr (.there (.there (.there (.there (.there (.there (.there .here))))))) (hl k hkn) | exact Cel.own .here (hl k hkn) | exact Cel.own (.there .here) (hl k hkn) | exact Cel.own (.there (.there .here)) (hl k hkn) | exact Cel.own (.there (.there (.there .here))) (hl k hkn) | exact Cel.own (.there (.there (.there (.there .here)))) (hl k hkn) | exact Cel.own (.there (.there (.there (.there (.there .here))))) (hl k hkn) | exact Cel.own (.there (.there (.there (.there (.there (.there .here)))))) (hl k hkn) | exact Cel.own (.there (.there (.there (.there (.there (.there (.there .here))))))) (hl k hkn))) rfl ?_
      refine TL.val (OpV.assign rfl) rfl ?_
      refine TL.val (OpV.assign rfl) rfl ?_
      refine TL.nil ?_
      refine TE.next ?_
      refine T.seq ?_
      refine T.region ?_
      refine TL.val (OpV.move rfl) rfl ?_
      refine TL.val (OpV.rem rfl rfl (by decide) (tmod8 (h k))) rfl ?_
      refine TL.val (OpV.indexAddrA (j := h k % 8) ae_55 rfl rfl rfl (Nat.mod_lt _ (by decide))) rfl ?_
      refine TL.store rfl rfl szz_4 rfl rfl rfl (by first | exact .here | exact (.there .here) | exact (.there (.there .here)) | exact (.there (.there (.there .here))) | exact (.there (.there (.there (.there .here)))) | exact (.there (.there (.there (.there (.there .here))))) | exact (.there (.there (.there (.there (.there (.there .here))))))) (there_le h k) (there_put h k) ?_
      refine TL.nil ?_
      refine TE.sub (.cons (t := 3) rfl <| .cons (t := 4) rfl <| .cons (t := 15) rfl <| .cons (t := 16) rfl <| .cons (t := 17) rfl <| .cons (t := 18) rfl <| .cons (t := 19) rfl <| .cons (t := 20) rfl <| .cons (t := 117) rfl <| .cons (t := 118) rfl <| .cons (t := 119) rfl <| .nil) ?_
      refine TE.next ?_
      refine T.seq ?_
      refine T.region ?_
      refine TL.val (OpV.move rfl) rfl ?_
      refine TL.val (OpV.move rfl) rfl ?_
      refine TL.val (OpV.len Tryd.underlying50 rfl) rfl ?_
      refine TL.val (OpV.sub rfl rfl (by first | exact IntWalk.i64_in _ ⟨by omega, by omega⟩ | rfl)) rfl ?_
      refine TL.val (OpV.move rfl) rfl ?_
      refine TL.val (OpV.sub rfl rfl (by first | exact IntWalk.i64_in _ ⟨by omega, by omega⟩ | rfl)) rfl ?_
      refine TL.val (OpV.indexAddr (j := n - 1 - k) se_50 rfl hA rfl (by omega) (by omega)) rfl ?_
      refine TL.val (OpV.load pl_5 rfl (by first | exact Cel.fr .here (hl (n - 1 - k) (by omega)) | exact Cel.fr (.there .here) (hl (n - 1 - k) (by omega)) | exact Cel.fr (.there (.there .here)) (hl (n - 1 - k) (by omega)) | exact Cel.fr (.there (.there (.there .here))) (hl (n - 1 - k) (by omega)) | exact Cel.fr (.there (.there (.there (.there .here)))) (hl (n - 1 - k) (by omega)) | exact Cel.fr (.there (.there (.there (.there (.there .here))))) (hl (n - 1 - k) (by omega)) | exact Cel.fr (.there (.there (.there (.there (.there (.there .here)))))) (hl (n - 1 - k) (by omega)) | exact Cel.fr (.there (.there (.there (.there (.there (.there (.there .here))))))) (hl (n - 1 - k) (by omega)) | exact Cel.own .here (hl (n - 1 - k) (by omega)) | exact Cel.own (.there .here) (hl (n - 1 - k) (by omega)) | exact Cel.own (.there (.there .here)) (hl (n - 1 - k) (by omega)) | exact Cel.own (.there (.there (.there .here))) (hl (n - 1 - k) (by omega)) | exact Cel.own (.there (.there (.there (.there .here)))) (hl (n - 1 - k) (by omega)) | exact Cel.own (.there (.there (.there (.there (.there .here))))) (hl (n - 1 - k) (by omega)) | exact Cel.own (.there (.there (.there (.there (.there (.there .here)))))) (hl (n - 1 - k) (by omega)) | exact Cel.own (.there (.there (.there (.there (.there (.there (.there .here))))))) (hl (n - 1 - k) (by omega)))) rfl ?_
      refine TL.val (OpV.assign rfl) rfl ?_
      refine TL.nil ?_
      refine TE.sub (.cons (t := 3) rfl <| .cons (t := 4) rfl <| .cons (t := 15) rfl <| .cons (t := 16) rfl <| .cons (t := 17) rfl <| .cons (t := 18) rfl <| .cons (t := 20) rfl <| .cons (t := 21) rfl <| .cons (t := 117) rfl <| .cons (t := 118) rfl <| .cons (t := 119) rfl <| .nil) ?_
      refine TE.next ?_
      refine T.seq ?_
      refine T.region ?_
      refine TL.val (OpV.assign rfl) rfl ?_
      refine TL.nil ?_
      refine TE.next ?_
      refine T.seq ?_
      refine T.any ([.blk b17 [.int .i64 k1, .int .u8 i1, .int .u8 r1, .int .u8 g1, .int .u8 b1, .int .i64 k2, .int .u8 i2, .int .u8 r2, .int .u8 g2, .int .u8 b2, .int .u8 ((acc h k : Nat))] 27, .own σ]) [10, 11] mix rfl rfl ?_
      refine TA.take (i := 0) (ls := #[true, false, false, false, false, false, false, false, false, false, false, false]) rfl rfl rfl rfl rfl (by kernel_rfl) (by kernel_rfl) (by kernel_rfl) (by kernel_rfl) (by repeat (first | with_reducible exact PanicOk.body | with_reducible apply PanicOk.next | with_reducible apply PanicOk.block)) ((.cons (by first | exact .here | exact (.there .here) | exact (.there (.there .here)) | exact (.there (.there (.there .here))) | exact (.there (.there (.there (.there .here)))) | exact (.there (.there (.there (.there (.there .here))))) | exact (.there (.there (.there (.there (.there (.there .here))))))) <| .cons (by first | exact .here | exact (.there .here) | exact (.there (.there .here)) | exact (.there (.there (.there .here))) | exact (.there (.there (.there (.there .here)))) | exact (.there (.there (.there (.there (.there .here))))) | exact (.there (.there (.there (.there (.there (.there .here))))))) .nil)) (OpV.loadA ag_27 rfl (by first | exact Cels.blk .here rfl | exact Cels.blk (.there .here) rfl | exact Cels.blk (.there (.there .here)) rfl | exact Cels.blk (.there (.there (.there .here))) rfl | exact Cels.blk (.there (.there (.there (.there .here)))) rfl | exact Cels.blk (.there (.there (.there (.there (.there .here))))) rfl | exact Cels.blk (.there (.there (.there (.there (.there (.there .here)))))) rfl | exact Cels.blk (.there (.there (.there (.there (.there (.there (.there .here))))))) rfl)) rfl (by kernel_rfl) ?_
      refine TA.takeP (i := 1) (ls := #[true, true, false, false, false, false, false, false, false, false, false, false]) rfl rfl rfl rfl rfl (by kernel_rfl) (by kernel_rfl) (by kernel_rfl) (by repeat (first | with_reducible exact PanicOk.body | with_reducible apply PanicOk.next | with_reducible apply PanicOk.block)) (OpV.move rfl) rfl (by kernel_rfl) ?_
      refine TA.takeP (i := 2) (ls := #[true, true, true, false, false, false, false, false, false, false, false, false]) rfl rfl rfl rfl rfl (by kernel_rfl) (by kernel_rfl) (by kernel_rfl) (by repeat (first | with_reducible exact PanicOk.body | with_reducible apply PanicOk.next | with_reducible apply PanicOk.block)) (OpV.move rfl) rfl (by kernel_rfl) ?_
      refine TA.takeP (i := 3) (ls := #[true, true, true, true, false, false, false, false, false, false, false, false]) rfl rfl rfl rfl rfl (by kernel_rfl) (by kernel_rfl) (by kernel_rfl) (by repeat (first | with_reducible exact PanicOk.body | with_reducible apply PanicOk.next | with_reducible apply PanicOk.block)) (OpV.rem rfl rfl (by decide) (tmod8 (h k))) rfl (by kernel_rfl) ?_
      refine TA.takeP (i := 4) (ls := #[true, true, true, true, true, false, false, false, false, false, false, false]) rfl rfl rfl rfl rfl (by kernel_rfl) (by kernel_rfl) (by kernel_rfl) (by repeat (first | with_reducible exact PanicOk.body | with_reducible apply PanicOk.next | with_reducible apply PanicOk.block)) (OpV.indexAddr (j := h k % 8) se_42 rfl rfl rfl rfl (Nat.mod_lt _ (by decide))) rfl (by kernel_rfl) ?_
      refine TA.take (i := 5) (ls := #[true, true, true, true, true, true, false, false, false, false, false, false]) rfl rfl rfl rfl rfl (by kernel_rfl) (by kernel_rfl) (by kernel_rfl) (by kernel_rfl) (by repeat (first | with_reducible exact PanicOk.body | with_reducible apply PanicOk.next | with_reducible apply PanicOk.block)) ((.cons (by first | exact .here | exact (.there .here) | exact (.there (.there .here)) | exact (.there (.there (.there .here))) | exact (.there (.there (.there (.there .here)))) | exact (.there (.there (.there (.there (.there .here))))) | exact (.there (.there (.there (.there (.there (.there .here))))))) <| .cons (by first | exact .here | exact (.there .here) | exact (.there (.there .here)) | exact (.there (.there (.there .here))) | exact (.there (.there (.there (.there .here)))) | exact (.there (.there (.there (.there (.there .here))))) | exact (.there (.there (.there (.there (.there (.there .here))))))) .nil)) (OpV.load pl_25 rfl (by first | exact Cel.fr .here (hfl (h k % 8) (Nat.mod_lt _ (by decide))) | exact Cel.fr (.there .here) (hfl (h k % 8) (Nat.mod_lt _ (by decide))) | exact Cel.fr (.there (.there .here)) (hfl (h k % 8) (Nat.mod_lt _ (by decide))) | exact Cel.fr (.there (.there (.there .here))) (hfl (h k % 8) (Nat.mod_lt _ (by decide))) | exact Cel.fr (.there (.there (.there (.there .here)))) (hfl (h k % 8) (Nat.mod_lt _ (by decide))) | exact Cel.fr (.there (.there (.there (.there (.there .here))))) (hfl (h k % 8) (Nat.mod_lt _ (by decide))) | exact Cel.fr (.there (.there (.there (.there (.there (.there .here)))))) (hfl (h k % 8) (Nat.mod_lt _ (by decide))) | exact Cel.fr (.there (.there (.there (.there (.there (.there (.there .here))))))) (hfl (h k % 8) (Nat.mod_lt _ (by decide))) | exact Cel.own .here (hfl (h k % 8) (Nat.mod_lt _ (by decide))) | exact Cel.own (.there .here) (hfl (h k % 8) (Nat.mod_lt _ (by decide))) | exact Cel.own (.there (.there .here)) (hfl (h k % 8) (Nat.mod_lt _ (by decide))) | exact Cel.own (.there (.there (.there .here))) (hfl (h k % 8) (Nat.mod_lt _ (by decide))) | exact Cel.own (.there (.there (.there (.there .here)))) (hfl (h k % 8) (Nat.mod_lt _ (by decide))) | exact Cel.own (.there (.there (.there (.there (.there .here))))) (hfl (h k % 8) (Nat.mod_lt _ (by decide))) | exact Cel.own (.there (.there (.there (.there (.there (.there .here)))))) (hfl (h k % 8) (Nat.mod_lt _ (by decide))) | exact Cel.own (.there (.there (.there (.there (.there (.there (.there .here))))))) (hfl (h k % 8) (Nat.mod_lt _ (by decide))))) rfl (by kernel_rfl) ?_
      refine TA.one (i := 6) (ls := #[true, true, true, true, true, true, true, false, false, false, false, false]) (by kernel_rfl) rfl (by kernel_rfl) (fun w1 => ?_)
      refine TL.call (g := 26) rfl go_26 rfl (fun w _ => with_acc k1 i1 r1 g1 b1 k2 i2 r2 g2 b2 f h k hv w) rfl ?_
      refine TL.nil ?_
      refine TA.cont ((.cons (by first | exact .here | exact (.there .here) | exact (.there (.there .here)) | exact (.there (.there (.there .here))) | exact (.there (.there (.there (.there .here)))) | exact (.there (.there (.there (.there (.there .here))))) | exact (.there (.there (.there (.there (.there (.there .here))))))) <| .cons (by first | exact .here | exact (.there .here) | exact (.there (.there .here)) | exact (.there (.there (.there .here))) | exact (.there (.there (.there (.there .here)))) | exact (.there (.there (.there (.there (.there .here))))) | exact (.there (.there (.there (.there (.there (.there .here))))))) .nil)) ?_
      refine TA.takeP (i := 7) (ls := #[true, true, true, true, true, true, true, true, false, false, false, false]) rfl rfl rfl rfl rfl (by kernel_rfl) (by kernel_rfl) (by kernel_rfl) (by repeat (first | with_reducible exact PanicOk.body | with_reducible apply PanicOk.next | with_reducible apply PanicOk.block)) (OpV.move rfl) rfl (by kernel_rfl) ?_
      refine TA.takeP (i := 8) (ls := #[true, true, true, true, true, true, true, true, true, false, false, false]) rfl rfl rfl rfl rfl (by kernel_rfl) (by kernel_rfl) (by kernel_rfl) (by repeat (first | with_reducible exact PanicOk.body | with_reducible apply PanicOk.next | with_reducible apply PanicOk.block)) (OpV.extract rfl rfl) rfl (by kernel_rfl) ?_
      refine TA.takeP (i := 9) (ls := #[true, true, true, true, true, true, true, true, true, true, false, false]) rfl rfl rfl rfl rfl (by kernel_rfl) (by kernel_rfl) (by kernel_rfl) (by repeat (first | with_reducible exact PanicOk.body | with_reducible apply PanicOk.next | with_reducible apply PanicOk.block)) (OpV.extract rfl rfl) rfl (by kernel_rfl) ?_
      refine TA.one (i := 10) (ls := #[true, true, true, true, true, true, true, true, true, true, true, false]) (by kernel_rfl) rfl (by kernel_rfl) (fun w1 => ?_)
      refine TL.store rfl rfl szz_27 rfl rfl rfl (by first | exact .here | exact (.there .here) | exact (.there (.there .here)) | exact (.there (.there (.there .here))) | exact (.there (.there (.there (.there .here)))) | exact (.there (.there (.there (.there (.there .here))))) | exact (.there (.there (.there (.there (.there (.there .here)))))) | exact (.there (.there (.there (.there (.there (.there (.there .here)))))))) (by first | decide | (simp; done) | (simp; omega)) (by simp only [putL, List.take_succ_cons, List.take_zero, List.drop_succ_cons, List.drop_zero, List.cons_append, List.nil_append, List.length_cons, List.length_nil, Nat.reduceAdd]; rfl) ?_
      refine TL.nil ?_
      refine TA.bar rfl ?_
      refine TA.takeP (i := 11) (ls := #[true, true, true, true, true, true, true, true, true, true, true, true]) rfl rfl rfl rfl rfl (by kernel_rfl) (by kernel_rfl) (by kernel_rfl) (by repeat (first | with_reducible exact PanicOk.body | with_reducible apply PanicOk.next | with_reducible apply PanicOk.block)) (OpV.assign rfl) rfl (by kernel_rfl) ?_
      refine TA.done (by kernel_rfl) ?_
      refine TE.sub (.cons (t := 3) rfl <| .cons (t := 4) rfl <| .cons (t := 10) rfl <| .cons (t := 15) rfl <| .cons (t := 16) rfl <| .cons (t := 17) rfl <| .cons (t := 18) rfl <| .cons (t := 21) rfl <| .cons (t := 117) rfl <| .cons (t := 118) rfl <| .cons (t := 119) rfl <| .nil) ?_
      refine TE.next ?_
      refine T.seq ?_
      refine T.any ([.blk b18 [.int .i64 k1, .int .u8 i1, .int .u8 r1, .int .u8 g1, .int .u8 b1, .int .i64 k2, .int .u8 i2, .int .u8 r2, .int .u8 g2, .int .u8 b2, .int .u8 ((acc (fun i => h (n - 1 - i)) k : Nat))] 27, .own σ]) [10, 11] mix rfl rfl ?_
      refine TA.take (i := 0) (ls := #[true, false, false, false, false, false, false, false, false, false, false, false]) rfl rfl rfl rfl rfl (by kernel_rfl) (by kernel_rfl) (by kernel_rfl) (by kernel_rfl) (by repeat (first | with_reducible exact PanicOk.body | with_reducible apply PanicOk.next | with_reducible apply PanicOk.block)) ((.cons (by first | exact .here | exact (.there .here) | exact (.there (.there .here)) | exact (.there (.there (.there .here))) | exact (.there (.there (.there (.there .here)))) | exact (.there (.there (.there (.there (.there .here))))) | exact (.there (.there (.there (.there (.there (.there .here))))))) <| .cons (by first | exact .here | exact (.there .here) | exact (.there (.there .here)) | exact (.there (.there (.there .here))) | exact (.there (.there (.there (.there .here)))) | exact (.there (.there (.there (.there (.there .here))))) | exact (.there (.there (.there (.there (.there (.there .here))))))) .nil)) (OpV.loadA ag_27 rfl (by first | exact Cels.blk .here rfl | exact Cels.blk (.there .here) rfl | exact Cels.blk (.there (.there .here)) rfl | exact Cels.blk (.there (.there (.there .here))) rfl | exact Cels.blk (.there (.there (.there (.there .here)))) rfl | exact Cels.blk (.there (.there (.there (.there (.there .here))))) rfl | exact Cels.blk (.there (.there (.there (.there (.there (.there .here)))))) rfl | exact Cels.blk (.there (.there (.there (.there (.there (.there (.there .here))))))) rfl)) rfl (by kernel_rfl) ?_
      refine TA.takeP (i := 1) (ls := #[true, true, false, false, false, false, false, false, false, false, false, false]) rfl rfl rfl rfl rfl (by kernel_rfl) (by kernel_rfl) (by kernel_rfl) (by repeat (first | with_reducible exact PanicOk.body | with_reducible apply PanicOk.next | with_reducible apply PanicOk.block)) (OpV.move rfl) rfl (by kernel_rfl) ?_
      refine TA.takeP (i := 2) (ls := #[true, true, true, false, false, false, false, false, false, false, false, false]) rfl rfl rfl rfl rfl (by kernel_rfl) (by kernel_rfl) (by kernel_rfl) (by repeat (first | with_reducible exact PanicOk.body | with_reducible apply PanicOk.next | with_reducible apply PanicOk.block)) (OpV.move rfl) rfl (by kernel_rfl) ?_
      refine TA.takeP (i := 3) (ls := #[true, true, true, true, false, false, false, false, false, false, false, false]) rfl rfl rfl rfl rfl (by kernel_rfl) (by kernel_rfl) (by kernel_rfl) (by repeat (first | with_reducible exact PanicOk.body | with_reducible apply PanicOk.next | with_reducible apply PanicOk.block)) (OpV.rem rfl rfl (by decide) (tmod8 (h (n - 1 - k)))) rfl (by kernel_rfl) ?_
      refine TA.takeP (i := 4) (ls := #[true, true, true, true, true, false, false, false, false, false, false, false]) rfl rfl rfl rfl rfl (by kernel_rfl) (by kernel_rfl) (by kernel_rfl) (by repeat (first | with_reducible exact PanicOk.body | with_reducible apply PanicOk.next | with_reducible apply PanicOk.block)) (OpV.indexAddr (j := h (n - 1 - k) % 8) se_42 rfl rfl rfl rfl (Nat.mod_lt _ (by decide))) rfl (by kernel_rfl) ?_
      refine TA.take (i := 5) (ls := #[true, true, true, true, true, true, false, false, false, false, false, false]) rfl rfl rfl rfl rfl (by kernel_rfl) (by kernel_rfl) (by kernel_rfl) (by kernel_rfl) (by repeat (first | with_reducible exact PanicOk.body | with_reducible apply PanicOk.next | with_reducible apply PanicOk.block)) ((.cons (by first | exact .here | exact (.there .here) | exact (.there (.there .here)) | exact (.there (.there (.there .here))) | exact (.there (.there (.there (.there .here)))) | exact (.there (.there (.there (.there (.there .here))))) | exact (.there (.there (.there (.there (.there (.there .here))))))) <| .cons (by first | exact .here | exact (.there .here) | exact (.there (.there .here)) | exact (.there (.there (.there .here))) | exact (.there (.there (.there (.there .here)))) | exact (.there (.there (.there (.there (.there .here))))) | exact (.there (.there (.there (.there (.there (.there .here))))))) .nil)) (OpV.load pl_25 rfl (by first | exact Cel.fr .here (hfl (h (n - 1 - k) % 8) (Nat.mod_lt _ (by decide))) | exact Cel.fr (.there .here) (hfl (h (n - 1 - k) % 8) (Nat.mod_lt _ (by decide))) | exact Cel.fr (.there (.there .here)) (hfl (h (n - 1 - k) % 8) (Nat.mod_lt _ (by decide))) | exact Cel.fr (.there (.there (.there .here))) (hfl (h (n - 1 - k) % 8) (Nat.mod_lt _ (by decide))) | exact Cel.fr (.there (.there (.there (.there .here)))) (hfl (h (n - 1 - k) % 8) (Nat.mod_lt _ (by decide))) | exact Cel.fr (.there (.there (.there (.there (.there .here))))) (hfl (h (n - 1 - k) % 8) (Nat.mod_lt _ (by decide))) | exact Cel.fr (.there (.there (.there (.there (.there (.there .here)))))) (hfl (h (n - 1 - k) % 8) (Nat.mod_lt _ (by decide))) | exact Cel.fr (.there (.there (.there (.there (.there (.there (.there .here))))))) (hfl (h (n - 1 - k) % 8) (Nat.mod_lt _ (by decide))) | exact Cel.own .here (hfl (h (n - 1 - k) % 8) (Nat.mod_lt _ (by decide))) | exact Cel.own (.there .here) (hfl (h (n - 1 - k) % 8) (Nat.mod_lt _ (by decide))) | exact Cel.own (.there (.there .here)) (hfl (h (n - 1 - k) % 8) (Nat.mod_lt _ (by decide))) | exact Cel.own (.there (.there (.there .here))) (hfl (h (n - 1 - k) % 8) (Nat.mod_lt _ (by decide))) | exact Cel.own (.there (.there (.there (.there .here)))) (hfl (h (n - 1 - k) % 8) (Nat.mod_lt _ (by decide))) | exact Cel.own (.there (.there (.there (.there (.there .here))))) (hfl (h (n - 1 - k) % 8) (Nat.mod_lt _ (by decide))) | exact Cel.own (.there (.there (.there (.there (.there (.there .here)))))) (hfl (h (n - 1 - k) % 8) (Nat.mod_lt _ (by decide))) | exact Cel.own (.there (.there (.there (.there (.there (.there (.there .here))))))) (hfl (h (n - 1 - k) % 8) (Nat.mod_lt _ (by decide))))) rfl (by kernel_rfl) ?_
      refine TA.one (i := 6) (ls := #[true, true, true, true, true, true, true, false, false, false, false, false]) (by kernel_rfl) rfl (by kernel_rfl) (fun w1 => ?_)
      refine TL.call (g := 26) rfl go_26 rfl (fun w _ => with_acc k1 i1 r1 g1 b1 k2 i2 r2 g2 b2 f (fun i => h (n - 1 - i)) k hv w) rfl ?_
      refine TL.nil ?_
      refine TA.cont ((.cons (by first | exact .here | exact (.there .here) | exact (.there (.there .here)) | exact (.there (.there (.there .here))) | exact (.there (.there (.there (.there .here)))) | exact (.there (.there (.there (.there (.there .here))))) | exact (.there (.there (.there (.there (.there (.there .here))))))) <| .cons (by first | exact .here | exact (.there .here) | exact (.there (.there .here)) | exact (.there (.there (.there .here))) | exact (.there (.there (.there (.there .here)))) | exact (.there (.there (.there (.there (.there .here))))) | exact (.there (.there (.there (.there (.there (.there .here))))))) .nil)) ?_
      refine TA.takeP (i := 7) (ls := #[true, true, true, true, true, true, true, true, false, false, false, false]) rfl rfl rfl rfl rfl (by kernel_rfl) (by kernel_rfl) (by kernel_rfl) (by repeat (first | with_reducible exact PanicOk.body | with_reducible apply PanicOk.next | with_reducible apply PanicOk.block)) (OpV.move rfl) rfl (by kernel_rfl) ?_
      refine TA.takeP (i := 8) (ls := #[true, true, true, true, true, true, true, true, true, false, false, false]) rfl rfl rfl rfl rfl (by kernel_rfl) (by kernel_rfl) (by kernel_rfl) (by repeat (first | with_reducible exact PanicOk.body | with_reducible apply PanicOk.next | with_reducible apply PanicOk.block)) (OpV.extract rfl rfl) rfl (by kernel_rfl) ?_
      refine TA.takeP (i := 9) (ls := #[true, true, true, true, true, true, true, true, true, true, false, false]) rfl rfl rfl rfl rfl (by kernel_rfl) (by kernel_rfl) (by kernel_rfl) (by repeat (first | with_reducible exact PanicOk.body | with_reducible apply PanicOk.next | with_reducible apply PanicOk.block)) (OpV.extract rfl rfl) rfl (by kernel_rfl) ?_
      refine TA.one (i := 10) (ls := #[true, true, true, true, true, true, true, true, true, true, true, false]) (by kernel_rfl) rfl (by kernel_rfl) (fun w1 => ?_)
      refine TL.store rfl rfl szz_27 rfl rfl rfl (by first | exact .here | exact (.there .here) | exact (.there (.there .here)) | exact (.there (.there (.there .here))) | exact (.there (.there (.there (.there .here)))) | exact (.there (.there (.there (.there (.there .here))))) | exact (.there (.there (.there (.there (.there (.there .here)))))) | exact (.there (.there (.there (.there (.there (.there (.there .here)))))))) (by first | decide | (simp; done) | (simp; omega)) (by simp only [putL, List.take_succ_cons, List.take_zero, List.drop_succ_cons, List.drop_zero, List.cons_append, List.nil_append, List.length_cons, List.length_nil, Nat.reduceAdd]; rfl) ?_
      refine TL.nil ?_
      refine TA.bar rfl ?_
      refine TA.takeP (i := 11) (ls := #[true, true, true, true, true, true, true, true, true, true, true, true]) rfl rfl rfl rfl rfl (by kernel_rfl) (by kernel_rfl) (by kernel_rfl) (by repeat (first | with_reducible exact PanicOk.body | with_reducible apply PanicOk.next | with_reducible apply PanicOk.block)) (OpV.assign rfl) rfl (by kernel_rfl) ?_
      refine TA.done (by kernel_rfl) ?_
      refine TE.sub (.cons (t := 3) rfl <| .cons (t := 4) rfl <| .cons (t := 10) rfl <| .cons (t := 15) rfl <| .cons (t := 16) rfl <| .cons (t := 17) rfl <| .cons (t := 18) rfl <| .cons (t := 22) rfl <| .cons (t := 117) rfl <| .cons (t := 118) rfl <| .cons (t := 119) rfl <| .nil) ?_
      refine TE.next ?_
      refine T.seq ?_
      refine T.region ?_
      refine TL.val (OpV.move rfl) rfl ?_
      refine TL.val (OpV.neq rfl rfl) rfl ?_
      refine TL.val (OpV.move rfl) rfl ?_
      refine TL.open rfl rfl ?_
      refine TL.val (OpV.move rfl) rfl ?_
      refine TL.open rfl rfl ?_
      refine TL.val (OpV.neq rfl rfl) rfl ?_
      refine TL.val ((by first | exact OpV.pick_t rfl rfl | exact OpV.pick_f rfl rfl)) rfl ?_
      refine TL.nil ?_
      refine TE.sub (.cons (t := 3) rfl <| .cons (t := 4) rfl <| .cons (t := 15) rfl <| .cons (t := 16) rfl <| .cons (t := 17) rfl <| .cons (t := 18) rfl <| .cons (t := 117) rfl <| .cons (t := 118) rfl <| .cons (t := 119) rfl <| .cons (t := 160) rfl <| .nil) ?_
      refine TE.next ?_
      refine T.no rfl ?_
      refine T.skip ?_
      refine TE.out ?_
      refine TE.next ?_
      refine T.region ?_
      refine TL.val (OpV.add rfl rfl (by first | exact IntWalk.i64_in _ ⟨by omega, by omega⟩ | rfl)) rfl ?_
      refine TL.val (OpV.move rfl) rfl ?_
      refine TL.nil ?_
      exact TE.meet (k + 1) ⟨hkn, (by omega)⟩ (.cons (t := 3) (by first | rfl | (simp [lk]; done)) <| .cons (t := 4) (by first | rfl | (simp [lk]; done)) <| .cons (t := 15) (by first | rfl | (simp [lk]; done)) <| .cons (t := 16) (by first | rfl | (simp [lk]; done)) <| .cons (t := 17) (by first | rfl | (simp [lk]; done)) <| .cons (t := 18) (by first | rfl | (simp [lk]; done)) <| .cons (t := 117) (by first | rfl | (simp [lk]; done)) <| .cons (t := 118) (by first | rfl | (simp [lk]; done)) <| .cons (t := 119) (by first | rfl | (simp [lk]; done)) <| .nil) (Perm.kle (.cons (by first | exact .here | exact (.there .here) | exact (.there (.there .here)) | exact (.there (.there (.there .here))) | exact (.there (.there (.there (.there .here)))) | exact (.there (.there (.there (.there (.there .here))))) | exact (.there (.there (.there (.there (.there (.there .here))))))) <| .cons (by first | exact .here | exact (.there .here) | exact (.there (.there .here)) | exact (.there (.there (.there .here))) | exact (.there (.there (.there (.there .here)))) | exact (.there (.there (.there (.there (.there .here))))) | exact (.there (.there (.there (.there (.there (.there .here))))))) <| .cons (by first | exact .here | exact (.there .here) | exact (.there (.there .here)) | exact (.there (.there (.there .here))) | exact (.there (.there (.there (.there .here)))) | exact (.there (.there (.there (.there (.there .here))))) | exact (.there (.there (.there (.there (.there (.there .here))))))) <| .cons (by first | exact .here | exact (.there .here) | exact (.there (.there .here)) | exact (.there (.there (.there .here))) | exact (.there (.there (.there (.there .here)))) | exact (.there (.there (.there (.there (.there .here))))) | exact (.there (.there (.there (.there (.there (.there .here))))))) <| .cons (by first | exact .here | exact (.there .here) | exact (.there (.there .here)) | exact (.there (.there (.there .here))) | exact (.there (.there (.there (.there .here)))) | exact (.there (.there (.there (.there (.there .here))))) | exact (.there (.there (.there (.there (.there (.there .here))))))) <| .cons (by first | exact .here | exact (.there .here) | exact (.there (.there .here)) | exact (.there (.there (.there .here))) | exact (.there (.there (.there (.there .here)))) | exact (.there (.there (.there (.there (.there .here))))) | exact (.there (.there (.there (.there (.there (.there .here))))))) <| .nil))
    · intro ht120
      have hkn : n ≤ k := by simpa using ht120
      obtain rfl : k = n := by omega
      rw [acc_rev]
      refine T.exit ?_
      refine TE.pass_exit ?_
      refine TE.pass_exit ?_
      refine TE.here ?_
      refine TE.next ?_
      refine T.seq ?_
      refine T.seq ?_
      refine T.region ?_
      refine TL.val (OpV.loadA ag_27 rfl (by first | exact Cels.blk .here rfl | exact Cels.blk (.there .here) rfl | exact Cels.blk (.there (.there .here)) rfl | exact Cels.blk (.there (.there (.there .here))) rfl | exact Cels.blk (.there (.there (.there (.there .here)))) rfl | exact Cels.blk (.there (.there (.there (.there (.there .here))))) rfl | exact Cels.blk (.there (.there (.there (.there (.there (.there .here)))))) rfl | exact Cels.blk (.there (.there (.there (.there (.there (.there (.there .here))))))) rfl)) rfl ?_
      refine TL.val (OpV.loadA ag_27 rfl (by first | exact Cels.blk .here rfl | exact Cels.blk (.there .here) rfl | exact Cels.blk (.there (.there .here)) rfl | exact Cels.blk (.there (.there (.there .here))) rfl | exact Cels.blk (.there (.there (.there (.there .here)))) rfl | exact Cels.blk (.there (.there (.there (.there (.there .here))))) rfl | exact Cels.blk (.there (.there (.there (.there (.there (.there .here)))))) rfl | exact Cels.blk (.there (.there (.there (.there (.there (.there (.there .here))))))) rfl)) rfl ?_
      refine TL.val (OpV.aneq rfl rfl eg_27 (eqP_self _ _ _ _ _ _ _ _ _ _ _)) rfl ?_
      refine TL.val (OpV.move rfl) rfl ?_
      refine TL.open rfl rfl ?_
      refine TL.val (OpV.fieldAddr rfl fo_27_0) rfl ?_
      refine TL.open rfl rfl ?_
      refine TL.val (OpV.loadA ag_24 rfl (Cels.blkAt [.int .i64 k1, .int .u8 i1, .int .u8 r1, .int .u8 g1, .int .u8 b1] (by first | exact .here | exact (.there .here) | exact (.there (.there .here)) | exact (.there (.there (.there .here))) | exact (.there (.there (.there (.there .here)))) | exact (.there (.there (.there (.there (.there .here))))) | exact (.there (.there (.there (.there (.there (.there .here))))))) rfl rfl)) rfl ?_
      refine TL.open rfl rfl ?_
      refine TL.val (OpV.fieldAddr rfl fo_27_0) rfl ?_
      refine TL.open rfl rfl ?_
      refine TL.val (OpV.loadA ag_24 rfl (Cels.blkAt [.int .i64 k1, .int .u8 i1, .int .u8 r1, .int .u8 g1, .int .u8 b1] (by first | exact .here | exact (.there .here) | exact (.there (.there .here)) | exact (.there (.there (.there .here))) | exact (.there (.there (.there (.there .here)))) | exact (.there (.there (.there (.there (.there .here))))) | exact (.there (.there (.there (.there (.there (.there .here))))))) rfl rfl)) rfl ?_
      refine TL.open rfl rfl ?_
      refine TL.val (OpV.aneq rfl rfl eg_24 (eqC_self _ _ _ _ _)) rfl ?_
      refine TL.val ((by first | exact OpV.pick_t rfl rfl | exact OpV.pick_f rfl rfl)) rfl ?_
      refine TL.val (OpV.move rfl) rfl ?_
      refine TL.open rfl rfl ?_
      refine TL.val (OpV.fieldAddr rfl fo_27_1) rfl ?_
      refine TL.open rfl rfl ?_
      refine TL.val (OpV.loadA ag_24 rfl (Cels.blkAt [.int .i64 k2, .int .u8 i2, .int .u8 r2, .int .u8 g2, .int .u8 b2] (by first | exact .here | exact (.there .here) | exact (.there (.there .here)) | exact (.there (.there (.there .here))) | exact (.there (.there (.there (.there .here)))) | exact (.there (.there (.there (.there (.there .here))))) | exact (.there (.there (.there (.there (.there (.there .here))))))) rfl rfl)) rfl ?_
      refine TL.open rfl rfl ?_
      refine TL.val (OpV.fieldAddr rfl fo_27_1) rfl ?_
      refine TL.open rfl rfl ?_
      refine TL.val (OpV.loadA ag_24 rfl (Cels.blkAt [.int .i64 k2, .int .u8 i2, .int .u8 r2, .int .u8 g2, .int .u8 b2] (by first | exact .here | exact (.there .here) | exact (.there (.there .here)) | exact (.there (.there (.there .here))) | exact (.there (.there (.there (.there .here)))) | exact (.there (.there (.there (.there (.there .here))))) | exact (.there (.there (.there (.there (.there (.there .here))))))) rfl rfl)) rfl ?_
      refine TL.open rfl rfl ?_
      refine TL.val (OpV.aneq rfl rfl eg_24 (eqC_self _ _ _ _ _)) rfl ?_
      refine TL.val ((by first | exact OpV.pick_t rfl rfl | exact OpV.pick_f rfl rfl)) rfl ?_
      refine TL.nil ?_
      refine TE.sub (.cons (t := 15) rfl <| .cons (t := 16) rfl <| .cons (t := 17) rfl <| .cons (t := 178) rfl <| .nil) ?_
      refine TE.next ?_
      refine T.no rfl ?_
      refine T.skip ?_
      refine TE.next ?_
      refine T.seq ?_
      refine T.seq ?_
      refine T.region ?_
      refine TL.val (OpV.loadA ag_55 rfl (by first | exact Cels.blk .here rfl | exact Cels.blk (.there .here) rfl | exact Cels.blk (.there (.there .here)) rfl | exact Cels.blk (.there (.there (.there .here))) rfl | exact Cels.blk (.there (.there (.there (.there .here)))) rfl | exact Cels.blk (.there (.there (.there (.there (.there .here))))) rfl | exact Cels.blk (.there (.there (.there (.there (.there (.there .here)))))) rfl | exact Cels.blk (.there (.there (.there (.there (.there (.there (.there .here))))))) rfl)) rfl ?_
      refine TL.val (OpV.move rfl) rfl ?_
      refine TL.nil ?_
      refine TE.next ?_
      refine T.block ?_
      refine T.loop (ι := Nat) (fun j => j ≤ 8) (fun j => 8 - j) (fun j => [(15, .slice (some ⟨g, 0, none⟩) 8 c0), (17, .pointer (some ⟨b17, 0, none⟩)), (179, .agg (thereL h k).toArray), (180, .int .i64 (j : Int))]) (fun j => [.blk b17 [.int .i64 k1, .int .u8 i1, .int .u8 r1, .int .u8 g1, .int .u8 b1, .int .i64 k2, .int .u8 i2, .int .u8 r2, .int .u8 g2, .int .u8 b2, .int .u8 ((acc h k : Nat))] 27, .own σ]) 0 (Nat.zero_le _) (.cons (t := 15) rfl <| .cons (t := 17) rfl <| .cons (t := 179) rfl <| .cons (t := 180) rfl <| .nil) (Perm.kle (.cons (by first | exact .here | exact (.there .here) | exact (.there (.there .here)) | exact (.there (.there (.there .here))) | exact (.there (.there (.there (.there .here)))) | exact (.there (.there (.there (.there (.there .here))))) | exact (.there (.there (.there (.there (.there (.there .here))))))) <| .cons (by first | exact .here | exact (.there .here) | exact (.there (.there .here)) | exact (.there (.there (.there .here))) | exact (.there (.there (.there (.there .here)))) | exact (.there (.there (.there (.there (.there .here))))) | exact (.there (.there (.there (.there (.there (.there .here))))))) <| .nil)) ?_
      rintro j hj
      refine T.seq ?_
      refine T.region ?_
      refine TL.val (OpV.lss rfl rfl) rfl ?_
      refine TL.nil ?_
      refine TE.next ?_
      refine T.seq ?_
      refine T.cond rfl ?_ ?_
      · intro ht181
        have hj8 : j < 8 := by have h9 := of_decide_eq_true ht181; omega
        refine T.skip ?_
        refine TE.next ?_
        refine T.seq ?_
        refine T.block ?_
        refine T.seq ?_
        refine T.region ?_
        refine TL.val (OpV.move rfl) rfl ?_
        refine TL.val (OpV.indexA1 (j := j) ae_55 pl_4 rfl rfl rfl hj8 (thereL_at h k j hj8)) rfl ?_
        refine TL.val (OpV.assign rfl) rfl ?_
        refine TL.val (OpV.assign rfl) rfl ?_
        refine TL.nil ?_
        refine TE.next ?_
        refine T.seq ?_
        refine T.quiet mix (by kernel_rfl) ?_
        refine TQ.val (OpV.loadA ag_27 rfl (by first | exact Cels.blk .here rfl | exact Cels.blk (.there .here) rfl | exact Cels.blk (.there (.there .here)) rfl | exact Cels.blk (.there (.there (.there .here))) rfl | exact Cels.blk (.there (.there (.there (.there .here)))) rfl | exact Cels.blk (.there (.there (.there (.there (.there .here))))) rfl | exact Cels.blk (.there (.there (.there (.there (.there (.there .here)))))) rfl | exact Cels.blk (.there (.there (.there (.there (.there (.there (.there .here))))))) rfl)) rfl ?_
        refine TQ.val (OpV.move rfl) rfl ?_
        refine TQ.val (OpV.move rfl) rfl ?_
        refine TQ.val (OpV.indexAddr (j := j) se_42 rfl rfl rfl rfl hj8) rfl ?_
        refine TQ.val (OpV.load pl_25 rfl (by first | exact Cel.fr .here (hfl j hj8) | exact Cel.fr (.there .here) (hfl j hj8) | exact Cel.fr (.there (.there .here)) (hfl j hj8) | exact Cel.fr (.there (.there (.there .here))) (hfl j hj8) | exact Cel.fr (.there (.there (.there (.there .here)))) (hfl j hj8) | exact Cel.fr (.there (.there (.there (.there (.there .here))))) (hfl j hj8) | exact Cel.fr (.there (.there (.there (.there (.there (.there .here)))))) (hfl j hj8) | exact Cel.fr (.there (.there (.there (.there (.there (.there (.there .here))))))) (hfl j hj8) | exact Cel.own .here (hfl j hj8) | exact Cel.own (.there .here) (hfl j hj8) | exact Cel.own (.there (.there .here)) (hfl j hj8) | exact Cel.own (.there (.there (.there .here))) (hfl j hj8) | exact Cel.own (.there (.there (.there (.there .here)))) (hfl j hj8) | exact Cel.own (.there (.there (.there (.there (.there .here))))) (hfl j hj8) | exact Cel.own (.there (.there (.there (.there (.there (.there .here)))))) (hfl j hj8) | exact Cel.own (.there (.there (.there (.there (.there (.there (.there .here))))))) (hfl j hj8))) rfl ?_
        refine TQ.call (g := 27) rfl go_27 rfl (fun w _ => has_c k1 i1 r1 g1 b1 k2 i2 r2 g2 b2 (acc h k : Nat) (flagF j) w (flag_one j hj8) (by have := flag_bd j hj8; omega) (by have := flag_bd j hj8; omega)) rfl ?_
        refine TQ.val (OpV.move rfl) rfl ?_
        refine TQ.val (OpV.bneq Tryd.underlying4 rfl rfl) rfl ?_
        refine TQ.said (t := 191) (u := .bool false) rfl (by rw [acc_has h k j hj8]; simp) ?_
        refine TQ.nil ?_
        refine TE.sub (.cons (t := 15) rfl <| .cons (t := 17) rfl <| .cons (t := 179) rfl <| .cons (t := 180) rfl <| .cons (t := 191) rfl <| .nil) ?_
        refine TE.next ?_
        refine T.no rfl ?_
        refine T.skip ?_
        refine TE.out ?_
        refine TE.next ?_
        refine T.region ?_
        refine TL.val (OpV.add rfl rfl (by first | exact IntWalk.i64_in _ ⟨by omega, by omega⟩ | rfl)) rfl ?_
        refine TL.val (OpV.move rfl) rfl ?_
        refine TL.nil ?_
        exact TE.meet (j + 1) ⟨hj8, (by omega)⟩ (.cons (t := 15) (by first | rfl | (simp [lk]; done)) <| .cons (t := 17) (by first | rfl | (simp [lk]; done)) <| .cons (t := 179) (by first | rfl | (simp [lk]; done)) <| .cons (t := 180) (by first | rfl | (simp [lk]; done)) <| .nil) (Kle.refl)
      · intro ht181
        refine T.exit ?_
        refine TE.pass_exit ?_
        refine TE.pass_exit ?_
        refine TE.here ?_
        refine TE.next ?_
        refine T.seq ?_
        refine T.region ?_
        refine TL.call (g := 13) rfl go_13 rfl (fun w k => known_ok w (L.below k.bel)) rfl ?_
        refine TL.val (OpV.assign rfl) rfl ?_
        refine TL.nil ?_
        refine TE.next ?_
        refine T.ret ?_
        refine TE.ret1 rfl (ResV.tmp rfl) ?_
        exact fun w1 k1 => ⟨rfl, k1.bel⟩

set_option maxRecDepth 100000 in
theorem holds_many (k1 i1 r1 g1 b1 k2 i2 r2 g2 b2 f m1 j1 s1 h1 c1 m2 j2 s2 h2 c2 e x : Int) (P : Option Addr) (n c : Nat) (w : World) (L : Laid w) (hn : 20 < n) :
    Calls Tryd.prog 7 #[.agg #[.int .i64 k1, .int .u8 i1, .int .u8 r1, .int .u8 g1, .int .u8 b1, .int .i64 k2, .int .u8 i2, .int .u8 r2, .int .u8 g2, .int .u8 b2, .int .u8 f], .agg #[.int .i64 m1, .int .u8 j1, .int .u8 s1, .int .u8 h1, .int .u8 c1, .int .i64 m2, .int .u8 j2, .int .u8 s2, .int .u8 h2, .int .u8 c2, .int .u8 e], .int .u64 x, .slice P n c] w (Ret (.bool true) w) := by
  refine calls_T (vs := [.agg #[.int .i64 k1, .int .u8 i1, .int .u8 r1, .int .u8 g1, .int .u8 b1, .int .i64 k2, .int .u8 i2, .int .u8 r2, .int .u8 g2, .int .u8 b2, .int .u8 f], .agg #[.int .i64 m1, .int .u8 j1, .int .u8 s1, .int .u8 h1, .int .u8 c1, .int .i64 m2, .int .u8 j2, .int .u8 s2, .int .u8 h2, .int .u8 c2, .int .u8 e], .int .u64 x, .slice P n c]) (L0 := [(0, .agg #[.int .i64 k1, .int .u8 i1, .int .u8 r1, .int .u8 g1, .int .u8 b1, .int .i64 k2, .int .u8 i2, .int .u8 r2, .int .u8 g2, .int .u8 b2, .int .u8 f]), (1, .agg #[.int .i64 m1, .int .u8 j1, .int .u8 s1, .int .u8 h1, .int .u8 c1, .int .i64 m2, .int .u8 j2, .int .u8 s2, .int .u8 h2, .int .u8 c2, .int .u8 e]), (2, .int .u64 x), (3, .slice P n c)]) Tryd.func7 rfl rfl rfl rfl (KOk.start w) ?_
  refine T.seq ?_
  refine T.region ?_
  refine TL.boxA rfl rfl ?_
  intro b4
  refine TL.boxA rfl rfl ?_
  intro b5
  refine TL.val (OpV.assign rfl) rfl ?_
  refine TL.nil ?_
  refine TE.next ?_
  refine T.seq ?_
  refine T.seq ?_
  refine T.region ?_
  refine TL.val (OpV.move rfl) rfl ?_
  refine TL.val (OpV.len Tryd.underlying50 rfl) rfl ?_
  refine TL.val (OpV.gtr rfl rfl) rfl ?_
  refine TL.nil ?_
  refine TE.next ?_
  refine T.cond rfl ?_ ?_
  · intro ht27
    refine T.seq ?_
    refine T.region ?_
    refine TL.call (g := 13) rfl go_13 rfl (fun w k => known_ok w (L.below k.bel)) rfl ?_
    refine TL.val (OpV.assign rfl) rfl ?_
    refine TL.nil ?_
    refine TE.sub (.cons (t := 8) rfl <| .nil) ?_
    refine TE.next ?_
    refine T.ret ?_
    refine TE.pass_ret ?_
    refine TE.ret1 rfl (ResV.tmp rfl) ?_
    exact fun w1 k1 => ⟨rfl, k1.bel⟩
  · intro ht27
    exfalso
    have h9 := of_decide_eq_false ht27
    omega
/-- what Unpack makes of a word -/
theorem unpack_any (x : Int) (h0 : 0 ≤ x) (h1 : x < 18446744073709551616) : ∃ xk1 xi1 xr1 xg1 xb1 xk2 xi2 xr2 xg2 xb2 xf ex : Int, (∀ w, Calls Tryd.prog 25 #[.int .u64 x] w (Ret (.tuple #[.agg #[.int .i64 xk1, .int .u8 xi1, .int .u8 xr1, .int .u8 xg1, .int .u8 xb1, .int .i64 xk2, .int .u8 xi2, .int .u8 xr2, .int .u8 xg2, .int .u8 xb2, .int .u8 xf], .int .i64 ex]) w)) ∧
    ((ex = 0 ∧ (∀ w, Calls Tryd.prog 10 #[.agg #[.int .i64 xk1, .int .u8 xi1, .int .u8 xr1, .int .u8 xg1, .int .u8 xb1, .int .i64 xk2, .int .u8 xi2, .int .u8 xr2, .int .u8 xg2, .int .u8 xb2, .int .u8 xf]] w (Ret (.bool true) w)) ∧ (∀ w, Calls Tryd.prog 12 #[.agg #[.int .i64 xk1, .int .u8 xi1, .int .u8 xr1, .int .u8 xg1, .int .u8 xb1, .int .i64 xk2, .int .u8 xi2, .int .u8 xr2, .int .u8 xg2, .int .u8 xb2, .int .u8 xf], .int .u64 x, .int .i64 0] w (Ret (.bool true) w))) ∨ ex = 12) := by
  rcases words_law x h0 h1 with ⟨e1, e2, e3, ea, eb⟩ | ⟨e1, e2⟩
  · have bd : ∀ y : Int, (0 ≤ cI y ∧ cI y ≤ 255) ∧ (0 ≤ cR y ∧ cR y ≤ 255) ∧ (0 ≤ cG y ∧ cG y ≤ 255) ∧ (0 ≤ cB y ∧ cB y ≤ 255) := fun y => by
      refine ⟨⟨?_, ?_⟩, ⟨?_, ?_⟩, ⟨?_, ?_⟩, ⟨?_, ?_⟩⟩ <;> (first | unfold cI | unfold cR | unfold cG | unfold cB) <;> (try split) <;> omega
    have ba := bd (x % 67108864)
    have bb := bd (x / 67108864 % 67108864)
    clear bd
    rw [ea.1, ea.2.1, ea.2.2.1, ea.2.2.2.1, ea.2.2.2.2, eb.1, eb.2.1, eb.2.2.1, eb.2.2.2.1, eb.2.2.2.2] at e1
    have hfb : 0 ≤ (x / 4503599627370496 % 256) ∧ (x / 4503599627370496 % 256) ≤ 255 := by omega
    obtain ⟨k1, qk1⟩ : ∃ z, cK (x % 67108864) = z := ⟨_, rfl⟩
    obtain ⟨i1, qi1⟩ : ∃ z, cI (x % 67108864) = z := ⟨_, rfl⟩
    obtain ⟨r1, qr1⟩ : ∃ z, cR (x % 67108864) = z := ⟨_, rfl⟩
    obtain ⟨g1, qg1⟩ : ∃ z, cG (x % 67108864) = z := ⟨_, rfl⟩
    obtain ⟨b1, qb1⟩ : ∃ z, cB (x % 67108864) = z := ⟨_, rfl⟩
    obtain ⟨k2, qk2⟩ : ∃ z, cK (x / 67108864 % 67108864) = z := ⟨_, rfl⟩
    obtain ⟨i2, qi2⟩ : ∃ z, cI (x / 67108864 % 67108864) = z := ⟨_, rfl⟩
    obtain ⟨r2, qr2⟩ : ∃ z, cR (x / 67108864 % 67108864) = z := ⟨_, rfl⟩
    obtain ⟨g2, qg2⟩ : ∃ z, cG (x / 67108864 % 67108864) = z := ⟨_, rfl⟩
    obtain ⟨b2, qb2⟩ : ∃ z, cB (x / 67108864 % 67108864) = z := ⟨_, rfl⟩
    obtain ⟨f, qf⟩ : ∃ z, (x / 4503599627370496 % 256) = z := ⟨_, rfl⟩
    rw [qk1, qi1, qr1, qg1, qb1, qk2, qi2, qr2, qg2, qb2, qf] at e1
    rw [qk1, qi1, qr1, qg1, qb1, qk2, qi2, qr2, qg2, qb2, qf] at e3
    rw [qi1, qr1, qg1, qb1] at ba
    rw [qi2, qr2, qg2, qb2] at bb
    rw [qf] at hfb
    have e4 : wP k1 i1 r1 g1 b1 k2 i2 r2 g2 b2 f = x := by rw [← rP_ok k1 i1 r1 g1 b1 k2 i2 r2 g2 b2 f e3]; exact e1
    exact ⟨k1, i1, r1, g1, b1, k2, i2, r2, g2, b2, f, 0, fun w => unpack_yes x k1 i1 r1 g1 b1 k2 i2 r2 g2 b2 f w h0 h1 ⟨⟨qk1, qi1, qr1, qg1, qb1⟩, ⟨qk2, qi2, qr2, qg2, qb2⟩, qf⟩ e2 e3, .inl ⟨rfl, fun w => valid_n k1 i1 r1 g1 b1 k2 i2 r2 g2 b2 f true w e3, fun w => packs_of k1 i1 r1 g1 b1 k2 i2 r2 g2 b2 f x 0 w (Lib.hid fun w => pack_n k1 i1 r1 g1 b1 k2 i2 r2 g2 b2 f x w e3 ⟨ba, bb, hfb⟩ e4)⟩⟩
  · obtain ⟨k1, qk1⟩ : ∃ z, cK (x % 67108864) = z := ⟨_, rfl⟩
    obtain ⟨i1, qi1⟩ : ∃ z, cI (x % 67108864) = z := ⟨_, rfl⟩
    obtain ⟨r1, qr1⟩ : ∃ z, cR (x % 67108864) = z := ⟨_, rfl⟩
    obtain ⟨g1, qg1⟩ : ∃ z, cG (x % 67108864) = z := ⟨_, rfl⟩
    obtain ⟨b1, qb1⟩ : ∃ z, cB (x % 67108864) = z := ⟨_, rfl⟩
    obtain ⟨k2, qk2⟩ : ∃ z, cK (x / 67108864 % 67108864) = z := ⟨_, rfl⟩
    obtain ⟨i2, qi2⟩ : ∃ z, cI (x / 67108864 % 67108864) = z := ⟨_, rfl⟩
    obtain ⟨r2, qr2⟩ : ∃ z, cR (x / 67108864 % 67108864) = z := ⟨_, rfl⟩
    obtain ⟨g2, qg2⟩ : ∃ z, cG (x / 67108864 % 67108864) = z := ⟨_, rfl⟩
    obtain ⟨b2, qb2⟩ : ∃ z, cB (x / 67108864 % 67108864) = z := ⟨_, rfl⟩
    obtain ⟨f, qf⟩ : ∃ z, (x / 4503599627370496 % 256) = z := ⟨_, rfl⟩
    rw [qk1, qi1, qr1, qg1, qb1, qk2, qi2, qr2, qg2, qb2, qf] at e2
    have hp : Parts x k1 i1 r1 g1 b1 k2 i2 r2 g2 b2 f := ⟨⟨qk1, qi1, qr1, qg1, qb1⟩, ⟨qk2, qi2, qr2, qg2, qb2⟩, qf⟩
    exact ⟨0, 0, 0, 0, 0, 0, 0, 0, 0, 0, 0, 12, fun w => (show Calls Tryd.prog 25 #[.int .u64 x] w (Ret (.tuple #[.agg #[.int .i64 0, .int .u8 0, .int .u8 0, .int .u8 0, .int .u8 0, .int .i64 0, .int .u8 0, .int .u8 0, .int .u8 0, .int .u8 0, .int .u8 0], .int .i64 12]) w) by
      by_cases hx : x < 1152921504606846976
      · exact unpack_bad x k1 i1 r1 g1 b1 k2 i2 r2 g2 b2 f w h0 h1 hp hx (e2 hx)
      · exact unpack_big x k1 i1 r1 g1 b1 k2 i2 r2 g2 b2 f w h0 h1 hp (by omega)), .inr rfl⟩
theorem byts_of {w : World} {P : Option Addr} {n c : Nat} (h : 0 < n → ∃ b off, P = some ⟨b, off, none⟩ ∧ ∀ i, i < n → ∃ m : Int, 0 ≤ m ∧ m ≤ 255 ∧ w.cell? ⟨b, off + i * 1, none⟩ = some (.int .u8 m)) : ∃ h : Nat → Nat, Byts w P n h := by
  by_cases hn : 0 < n
  · obtain ⟨b, off, hP, hc⟩ := h hn
    refine ⟨fun i => match w.cell? ⟨b, off + i * 1, none⟩ with | some (.int _ m) => m.toNat | _ => 0, fun _ => ⟨b, off, hP, fun i hi => ?_⟩⟩
    obtain ⟨m, m0, m1, hm⟩ := hc i hi
    refine At.of_cell ?_
    have e : ((m.toNat : Nat) : Int) = m := Int.toNat_of_nonneg m0
    simp only [hm, e]
  · exact ⟨fun _ => 0, fun h => absurd h hn⟩
theorem penHolds_ok (k1 i1 r1 g1 b1 k2 i2 r2 g2 b2 f m1 j1 s1 h1 c1 m2 j2 s2 h2 c2 e x : Int) (P : Option Addr) (n c : Nat) (w : World) (L : Laid w) (hB : Bytes k1 i1 r1 g1 b1 k2 i2 r2 g2 b2 f) (hC : Bytes m1 j1 s1 h1 c1 m2 j2 s2 h2 c2 e) (hy0 : 0 ≤ x) (hy1 : x < 18446744073709551616)
    (hl : 0 < n → ∃ b off, P = some ⟨b, off, none⟩ ∧ ∀ i, i < n → ∃ m : Int, 0 ≤ m ∧ m ≤ 255 ∧ w.cell? ⟨b, off + i * 1, none⟩ = some (.int .u8 m)) :
    Calls Tryd.prog 7 #[.agg #[.int .i64 k1, .int .u8 i1, .int .u8 r1, .int .u8 g1, .int .u8 b1, .int .i64 k2, .int .u8 i2, .int .u8 r2, .int .u8 g2, .int .u8 b2, .int .u8 f], .agg #[.int .i64 m1, .int .u8 j1, .int .u8 s1, .int .u8 h1, .int .u8 c1, .int .i64 m2, .int .u8 j2, .int .u8 s2, .int .u8 h2, .int .u8 c2, .int .u8 e], .int .u64 x, .slice P n c] w (Ret (.bool true) w) := by
  by_cases hn : n ≤ 20
  · obtain ⟨hh, hP⟩ := byts_of (c := c) hl
    obtain ⟨xk1, xi1, xr1, xg1, xb1, xk2, xi2, xr2, xg2, xb2, xf, ex, Hx, hx⟩ := unpack_any x hy0 hy1
    cases hv : vP k1 i1 r1 g1 b1 k2 i2 r2 g2 b2 f with
    | false =>
      obtain ⟨X2, e2, Hq⟩ : ∃ X2 e2 : Int, ∀ w, Calls Tryd.prog 24 #[.agg #[.int .i64 m1, .int .u8 j1, .int .u8 s1, .int .u8 h1, .int .u8 c1, .int .i64 m2, .int .u8 j2, .int .u8 s2, .int .u8 h2, .int .u8 c2, .int .u8 e]] w (Ret (.tuple #[.int .u64 X2, .int .i64 e2]) w) := by
        cases hw : vP m1 j1 s1 h1 c1 m2 j2 s2 h2 c2 e with
        | false => exact ⟨0, 2, fun w => pack_no m1 j1 s1 h1 c1 m2 j2 s2 h2 c2 e w hw⟩
        | true => exact ⟨_, 0, fun w => pack_n m1 j1 s1 h1 c1 m2 j2 s2 h2 c2 e _ w hw hC rfl⟩
      exact holds_bad k1 i1 r1 g1 b1 k2 i2 r2 g2 b2 f m1 j1 s1 h1 c1 m2 j2 s2 h2 c2 e xk1 xi1 xr1 xg1 xb1 xk2 xi2 xr2 xg2 xb2 xf x X2 e2 ex P n c w L hn (fun w => pack_no k1 i1 r1 g1 b1 k2 i2 r2 g2 b2 f w hv) (fun w => valid_n k1 i1 r1 g1 b1 k2 i2 r2 g2 b2 f false w hv) Hq Hx hx
    | true =>
      obtain ⟨⟨a1, a2, a3, a4⟩, ⟨c1', c2', c3, c4⟩, d⟩ := hB
      obtain ⟨⟨p1, p2, p3⟩, p4, p5⟩ := parts_back k1 i1 r1 g1 b1 k2 i2 r2 g2 b2 f hv a1 a2 a3 a4 c1' c2' c3 c4 d
      have hv2 : vC k1 i1 r1 g1 b1 = true ∧ vC k2 i2 r2 g2 b2 = true := by simpa [vP] using hv
      have hpart : Parts (wP k1 i1 r1 g1 b1 k2 i2 r2 g2 b2 f) k1 i1 r1 g1 b1 k2 i2 r2 g2 b2 f := by
        refine ⟨?_, ?_, p3⟩
        · rw [p1]; exact color_back _ _ _ _ _ hv2.1 a1 a2 a3 a4
        · rw [p2]; exact color_back _ _ _ _ _ hv2.2 c1' c2' c3 c4
      have Hup := fun w : World => unpacks_of k1 i1 r1 g1 b1 k2 i2 r2 g2 b2 f (wP k1 i1 r1 g1 b1 k2 i2 r2 g2 b2 f) 0 w (Lib.hid fun w => unpack_yes (wP k1 i1 r1 g1 b1 k2 i2 r2 g2 b2 f) k1 i1 r1 g1 b1 k2 i2 r2 g2 b2 f w p4 (by omega) hpart p5 hv)
      have Hp := fun w : World => pack_n k1 i1 r1 g1 b1 k2 i2 r2 g2 b2 f (wP k1 i1 r1 g1 b1 k2 i2 r2 g2 b2 f) w hv ⟨⟨a1, a2, a3, a4⟩, ⟨c1', c2', c3, c4⟩, d⟩ rfl
      have hX1 : decide (1152921504606846976 ≤ wP k1 i1 r1 g1 b1 k2 i2 r2 g2 b2 f) = false := decide_eq_false (by omega)
      have hqp := fun w : World => (show (Op.equal 27 (.agg #[.int .i64 k1, .int .u8 i1, .int .u8 r1, .int .u8 g1, .int .u8 b1, .int .i64 k2, .int .u8 i2, .int .u8 r2, .int .u8 g2, .int .u8 b2, .int .u8 f]) (.agg #[.int .i64 m1, .int .u8 j1, .int .u8 s1, .int .u8 h1, .int .u8 c1, .int .i64 m2, .int .u8 j2, .int .u8 s2, .int .u8 h2, .int .u8 c2, .int .u8 e])).run Tryd.prog w = .ok _ w from eqP 9997 k1 i1 r1 g1 b1 k2 i2 r2 g2 b2 f m1 j1 s1 h1 c1 m2 j2 s2 h2 c2 e w)
      cases hw : vP m1 j1 s1 h1 c1 m2 j2 s2 h2 c2 e with
      | false => exact holds_good k1 i1 r1 g1 b1 k2 i2 r2 g2 b2 f m1 j1 s1 h1 c1 m2 j2 s2 h2 c2 e xk1 xi1 xr1 xg1 xb1 xk2 xi2 xr2 xg2 xb2 xf x _ 0 2 ex P n c hh w L hn hv hX1 hP Hup _ hqp (.inl rfl) Hp (fun w => valid_n k1 i1 r1 g1 b1 k2 i2 r2 g2 b2 f true w hv) (fun w => pack_no m1 j1 s1 h1 c1 m2 j2 s2 h2 c2 e w hw) Hx hx
      | true =>
        have hi := word_inj k1 i1 r1 g1 b1 k2 i2 r2 g2 b2 f m1 j1 s1 h1 c1 m2 j2 s2 h2 c2 e hv hw ⟨⟨a1, a2, a3, a4⟩, ⟨c1', c2', c3, c4⟩, d⟩ hC
        exact holds_good k1 i1 r1 g1 b1 k2 i2 r2 g2 b2 f m1 j1 s1 h1 c1 m2 j2 s2 h2 c2 e xk1 xi1 xr1 xg1 xb1 xk2 xi2 xr2 xg2 xb2 xf x _ (wP m1 j1 s1 h1 c1 m2 j2 s2 h2 c2 e) 0 ex P n c hh w L hn hv hX1 hP Hup _ hqp (.inr ⟨rfl, by simpa [bne] using hi⟩) Hp (fun w => valid_n k1 i1 r1 g1 b1 k2 i2 r2 g2 b2 f true w hv) (fun w => pack_n m1 j1 s1 h1 c1 m2 j2 s2 h2 c2 e _ w hw hC rfl) Hx hx
  · exact holds_many k1 i1 r1 g1 b1 k2 i2 r2 g2 b2 f m1 j1 s1 h1 c1 m2 j2 s2 h2 c2 e x P n c w L (by omega)
end Go.Proofs.YtgelpgagbokmdaaDoor
