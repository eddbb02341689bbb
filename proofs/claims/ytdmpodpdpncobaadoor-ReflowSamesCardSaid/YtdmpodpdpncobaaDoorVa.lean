/-
  The walks of places. Condition: the package-level tables hold what they were laid with.
-/
import Derived.Test.YtdmpodpdpncobaaDoorUc
import Derived.Test.YtdmpodpdpncobaaDoorWf
import Derived.Test.YtdmpodpdpncobaaDoorWi
import Derived.Test.YtdmpodpdpncobaaDoorWd
import Derived.Test.YtdmpodpdpncobaaDoorAnc
namespace Go.Proofs.YtdmpodpdpncobaaDoor
open Go.RowKit
set_option linter.unusedSimpArgs false
set_option linter.unusedVariables false

theorem il_get {xs : List Int} {i : Nat} {x : Int} (h : xs[i]? = some x) : (il xs)[i]? = some (.int .i64 x) := by
  have := get_flat (z := 1) (f := fun z : Int => [Value.int .i64 z]) (fun _ => rfl) xs i 0 x _ h rfl
  rwa [Nat.mul_one, Nat.add_zero] at this
theorem il_len (xs : List Int) : (il xs).length = xs.length := by
  have := length_flat (z := 1) (f := fun z : Int => [Value.int .i64 z]) (fun _ => rfl) xs
  rwa [Nat.mul_one] at this
/-- places in memory -/
def aL (x : Int × Int) : List Value := anL x.1 x.2
theorem aL_len (x : Int × Int) : (aL x).length = 2 := rfl
def al (xs : List (Int × Int)) : List Value := xs.flatMap aL
theorem al_snoc (xs : List (Int × Int)) (x : Int × Int) : al (xs ++ [x]) = al xs ++ aL x := flat_snoc _ xs x
def AsR (σ : Nat → Option Obj) (A : Option Addr) (n c : Nat) (xs : List (Int × Int)) : Prop := SlR 2 (fun x cs => cs = aL x) σ A n c xs
theorem AsR_nil (σ : Nat → Option Obj) : AsR σ none 0 0 [] := SlR.nil
theorem AsR.of_blk {w : World} {b n : Nat} {ls : List (Int × Int)} {T : TypeId} {f : Nat × Nat} (hb : w.heap[b]? = some (.cells (al ls).toArray T f)) (hn : ls.length = n) (hn63 : n ≤ 9223372036854775807 := by decide) : AsR (fun b => w.heap[b]?) (some ⟨b, 0, none⟩) n n ls :=
  SlR.of_row aL_len ⟨by rw [← hn]; exact length_flat aL_len ls, Nat.le_refl _, hn63, fun h => (by cases h), fun _ => ⟨b, rfl, fun j v hj => ⟨_, _, _, hb, by rw [Nat.zero_add, List.getElem?_toArray]; exact hj⟩⟩⟩ hn
theorem okG_bd {X : List Ln} : ∀ (G : List Lg) (n : Nat), OkG X n G → ∀ g ∈ G, (0 ≤ g.frm ∧ g.frm ≤ (X.length : Int)) ∧ (0 ≤ g.rows ∧ g.rows ≤ (X.length : Int))
  | [], _, _, g, h => by cases h
  | y :: t, n, h, g, hg => by
    obtain ⟨r, e1, e2, e3, e4, _, _, _, ht⟩ := h
    rcases List.mem_cons.1 hg with rfl | hg
    · omega
    · exact okG_bd t (n + r) ht g hg
theorem rowsV_bd {xs : List Cl} {cols : Int} : 0 ≤ rowsV xs cols ∧ rowsV xs cols ≤ 1073741825 := by
  cases h : vW xs cols with
  | false => rw [rowsV, h, if_neg (by decide)]; decide
  | true =>
    have h1 := rows_eq h
    have h2 := plR_bd cols xs
    have h3 := (vW_parts h).2.1
    omega
theorem rwS_bd {cols : Int} : ∀ G : List Lg, 0 ≤ rwS cols G ∧ rwS cols G ≤ 1073741825 * G.length
  | [] => by simp [rwS]
  | g :: t => by
    have h1 := rwS_bd (cols := cols) t
    have h2 := rowsV_bd (xs := g.cells) (cols := cols)
    have e : rwS cols (g :: t) = rowsV g.cells cols + rwS cols t := by simp [rwS]
    rw [e, List.length_cons]
    omega
theorem placeV_at {xs : List Cl} {cols : Int} (h : vW xs cols = true) {q : Nat} (hq : q ≤ xs.length) : placeV xs cols (q : Int) = plV xs cols q ∧ placeE xs cols (q : Int) = 0 := by
  have hi : inI xs (q : Int) = true := by simp [inI, hq]
  rw [placeV, placeE, h, hi]
  simp
theorem rowsE_bad {xs : List Cl} {cols : Int} (h : (rowsE xs cols != 0) = true) : vW xs cols = false ∧ rowsE xs cols = 2 := by
  cases hv : vW xs cols with
  | false => rw [rowsE, hv]; exact ⟨rfl, rfl⟩
  | true => rw [rowsE, hv] at h; cases h
theorem rowsE_ok {xs : List Cl} {cols : Int} (h : (rowsE xs cols != 0) = false) : vW xs cols = true := by
  cases hv : vW xs cols with
  | false => rw [rowsE, hv] at h; cases h
  | true => rfl
theorem from_agg (xs : List Cl) (cols start cell : Int) : Value.agg (anL (start + (plV xs cols (min cell.toNat xs.length)).1) ((plV xs cols (min cell.toNat xs.length)).2 + (if cols - 1 - (plV xs cols (min cell.toNat xs.length)).2 < cell - ((min cell.toNat xs.length : Nat) : Int) then cols - 1 - (plV xs cols (min cell.toNat xs.length)).2 else cell - ((min cell.toNat xs.length : Nat) : Int)))).toArray = Value.agg (anL (fromV xs cols start cell).1 (fromV xs cols start cell).2).toArray := by
  have e : ∀ p q : Int, (if q < p then q else p) = min p q := fun p q => by rw [Int.min_def]; split <;> split <;> omega
  rw [e]
  rfl
set_option maxRecDepth 100000 in
set_option maxHeartbeats 400000 in
theorem counted_c {σ τ : Nat → Option Obj} (x y : LnA) (w : World) (h : CsR σ x.A x.n x.c x.cells) (h2 : CsR τ y.A y.n y.c y.cells) (hs : ∀ b o, σ b = some o → w.heap[b]? = some o) (ht : ∀ b o, τ b = some o → w.heap[b]? = some o) : Calls Tryd.prog 86 #[.agg x.l.toArray, .agg y.l.toArray] w (Ret (.int .i64 (keptN x.cells y.cells : Int)) w) := by
 have hn63 := h.2.1
 have hc63 := h.2.2.1
 have hl1 := h.1
 have hn64 := h2.2.1
 have hc64 := h2.2.2.1
 refine calls_T (vs := [.agg x.l.toArray, .agg y.l.toArray]) (L0 := [(0, .agg x.l.toArray), (1, .agg y.l.toArray)]) Tryd.func86 rfl rfl rfl rfl (KOk.frs hs ht) ?_
 refine T.seq ?_
 refine T.region ?_
 refine TL.boxA rfl rfl ?_
 intro b2
 refine TL.boxA rfl rfl ?_
 intro b3
 refine TL.val (OpV.assign rfl) rfl ?_
 refine TL.nil ?_
 refine TE.next ?_
 refine T.seq ?_
 refine T.region ?_
 refine TL.val (OpV.fieldAddr rfl fo_65_0) rfl ?_
 refine TL.val (OpV.load pl_35 rfl (by first | exact Cel.blk P0 rfl | exact Cel.blk P1 rfl | exact Cel.blk P2 rfl | exact Cel.blk P3 rfl | exact Cel.blk P4 rfl | exact Cel.frA (hatc _ _ rfl) | exact Cel.frA (hatz _ _ rfl))) rfl ?_
 refine TL.val (OpV.len Tryd.underlying35 rfl) rfl ?_
 refine TL.val (OpV.assign rfl) rfl ?_
 refine TL.nil ?_
 refine TE.next ?_
 refine T.seq ?_
 refine T.seq ?_
 refine T.region ?_
 refine TL.val (OpV.move rfl) rfl ?_
 refine TL.val (OpV.gtr rfl rfl) rfl ?_
 refine TL.val (OpV.move rfl) rfl ?_
 refine TL.part (t := 11) rfl ?_ ?_
 ·
  intro hg11
  have h0 : 0 < x.n := by have h9 := of_decide_eq_true hg11; omega
  obtain ⟨c, hc⟩ := get_of_lt h.1 (show x.n - 1 < x.n by omega)
  obtain ⟨b, o, hA, hat⟩ := h.pos (by omega)
  have hatc := hat _ c hc
  have hkn := keptN_some (x := x.cells) (y := y.cells) (c := c) (by rw [h.1]; exact hc)
  rw [h.1] at hkn
  refine TL.open rfl rfl ?_
  refine TL.val (OpV.fieldAddr rfl fo_65_0) rfl ?_
  refine TL.open rfl rfl ?_
  refine TL.val (OpV.load pl_35 rfl (by first | exact Cel.blk P0 rfl | exact Cel.blk P1 rfl | exact Cel.blk P2 rfl | exact Cel.blk P3 rfl | exact Cel.blk P4 rfl | exact Cel.frA (hatc _ _ rfl) | exact Cel.frA (hatz _ _ rfl))) rfl ?_
  refine TL.open rfl rfl ?_
  refine TL.val (OpV.move rfl) rfl ?_
  refine TL.open rfl rfl ?_
  refine TL.val (OpV.sub rfl rfl (by first | exact IntWalk.i64_in _ ⟨by omega, by omega⟩ | rfl)) rfl ?_
  refine TL.open rfl rfl ?_
  refine TL.val (OpV.indexAddr (j := (x.n - 1)) se_35 rfl hA rfl (by omega) (by omega)) rfl ?_
  refine TL.open rfl rfl ?_
  refine TL.val (OpV.loadA ag_58 rfl (by first | exact Cels.blk P0 rfl | exact Cels.blk P1 rfl | exact Cels.blk P2 rfl | exact Cels.blk P3 rfl | exact Cels.blk P4 rfl | exact Cels.frA hatc rfl | exact Cels.frA hatz rfl)) rfl ?_
  refine TL.open rfl rfl ?_
  refine TL.val (OpV.build (qs := #[(2, _)]) (fun _ f => by simp only [List.map_toArray, List.map_cons, List.map_nil]; rw [f.ev (x := .const (.int .i64 1)) rfl]) (bld_58_2 1 )) rfl ?_
  refine TL.said (t := 18) rfl (show _ = Value.agg (blank Pen.zero).l.toArray from rfl) ?_
  refine TL.open rfl rfl ?_
  refine TL.val (OpV.aeql rfl rfl eg_58 (eq_58 c (blank Pen.zero))) rfl ?_
  refine TL.val ((by first | exact OpV.pick_t rfl rfl | exact OpV.pick_f rfl rfl)) rfl ?_
  refine TL.val (OpV.move rfl) rfl ?_
  refine TL.part (t := 21) rfl ?_ ?_
  ·
   intro hg21
   have hbc : isB c = true := hg21
   refine TL.open rfl rfl ?_
   refine TL.val (OpV.fieldAddr rfl fo_65_0) rfl ?_
   refine TL.open rfl rfl ?_
   refine TL.val (OpV.load pl_35 rfl (by first | exact Cel.blk P0 rfl | exact Cel.blk P1 rfl | exact Cel.blk P2 rfl | exact Cel.blk P3 rfl | exact Cel.blk P4 rfl | exact Cel.frA (hatc _ _ rfl) | exact Cel.frA (hatz _ _ rfl))) rfl ?_
   refine TL.open rfl rfl ?_
   refine TL.val (OpV.len Tryd.underlying35 rfl) rfl ?_
   refine TL.open rfl rfl ?_
   refine TL.val (OpV.gtr rfl rfl) rfl ?_
   refine TL.val ((by first | exact OpV.pick_t rfl rfl | exact OpV.pick_f rfl rfl)) rfl ?_
   refine TL.val (OpV.move rfl) rfl ?_
   refine TL.part (t := 27) rfl ?_ ?_
   ·
    intro hg27
    have h02 : 0 < y.n := by have h9 := of_decide_eq_true hg27; omega
    obtain ⟨z, hz⟩ := get_of_lt h2.1 h02
    obtain ⟨b2, o2, hA2, hat2⟩ := h2.pos (by omega)
    have hatz := hat2 _ z hz
    have hwz := wideH_get hz
    rw [hwz, hbc] at hkn
    refine TL.open rfl rfl ?_
    refine TL.val (OpV.fieldAddr rfl fo_65_0) rfl ?_
    refine TL.open rfl rfl ?_
    refine TL.val (OpV.load pl_35 rfl (by first | exact Cel.blk P0 rfl | exact Cel.blk P1 rfl | exact Cel.blk P2 rfl | exact Cel.blk P3 rfl | exact Cel.blk P4 rfl | exact Cel.frA (hatc _ _ rfl) | exact Cel.frA (hatz _ _ rfl))) rfl ?_
    refine TL.open rfl rfl ?_
    refine TL.val (OpV.indexAddr (j := 0) se_35 rfl hA2 rfl rfl (by omega)) rfl ?_
    refine TL.open rfl rfl ?_
    refine TL.val (OpV.fieldAddr rfl fo_58_2) rfl ?_
    refine TL.open rfl rfl ?_
    refine TL.val (OpV.load pl_3 rfl (by first | exact Cel.blk P0 rfl | exact Cel.blk P1 rfl | exact Cel.blk P2 rfl | exact Cel.blk P3 rfl | exact Cel.blk P4 rfl | exact Cel.frA (hatc _ _ rfl) | exact Cel.frA (hatz _ _ rfl))) rfl ?_
    refine TL.open rfl rfl ?_
    refine TL.val (OpV.eql rfl rfl) rfl ?_
    refine TL.val ((by first | exact OpV.pick_t rfl rfl | exact OpV.pick_f rfl rfl)) rfl ?_
    refine TL.nil ?_
    refine TE.sub (.cons (t := 5) rfl <| .cons (t := 34) rfl <| .nil) ?_
    refine TE.next ?_
    refine T.cond rfl ?_ ?_
    ·
     intro ht34
     have hk : keptN x.cells y.cells = x.n - 1 := by rw [hkn, show (z.w == 2) = true from ht34]; rfl
     refine T.region ?_
     refine TL.val (OpV.move rfl) rfl ?_
     refine TL.val (OpV.sub rfl rfl (by first | exact IntWalk.i64_in _ ⟨by omega, by omega⟩ | rfl)) rfl ?_
     refine TL.val (OpV.assign rfl) rfl ?_
     refine TL.nil ?_
     refine TE.next ?_
     refine T.seq ?_
     refine T.region ?_
     refine TL.val (OpV.move rfl) rfl ?_
     refine TL.val (OpV.assign rfl) rfl ?_
     refine TL.nil ?_
     refine TE.next ?_
     refine T.ret ?_
     refine TE.ret1 rfl (ResV.tmp rfl) ?_
     exact fun w1 k1 => ⟨congrArg (fun q => Ending.returned (Value.int .i64 q)) (by rw [hk] <;> omega), k1.bel⟩
    ·
     intro ht34
     have hk : keptN x.cells y.cells = x.n := by rw [hkn, show (z.w == 2) = false from ht34]; rfl
     refine T.skip ?_
     refine TE.next ?_
     refine T.seq ?_
     refine T.region ?_
     refine TL.val (OpV.move rfl) rfl ?_
     refine TL.val (OpV.assign rfl) rfl ?_
     refine TL.nil ?_
     refine TE.next ?_
     refine T.ret ?_
     refine TE.ret1 rfl (ResV.tmp rfl) ?_
     exact fun w1 k1 => ⟨congrArg (fun q => Ending.returned (Value.int .i64 q)) (by rw [hk] <;> omega), k1.bel⟩
   ·
    intro hg27
    have hk : keptN x.cells y.cells = x.n := by rw [hkn, wideH_nil (by rw [h2.1]; have h9 := of_decide_eq_false hg27; omega), Bool.and_false]; rfl
    refine TL.shut rfl rfl ?_
    refine TL.shut rfl rfl ?_
    refine TL.shut rfl rfl ?_
    refine TL.shut rfl rfl ?_
    refine TL.shut rfl rfl ?_
    refine TL.shut rfl rfl ?_
    refine TL.val ((by first | exact OpV.pick_t rfl rfl | exact OpV.pick_f rfl rfl)) rfl ?_
    refine TL.nil ?_
    refine TE.sub (.cons (t := 5) rfl <| .cons (t := 34) rfl <| .nil) ?_
    refine TE.next ?_
    refine T.no rfl ?_
    refine T.skip ?_
    refine TE.next ?_
    refine T.seq ?_
    refine T.region ?_
    refine TL.val (OpV.move rfl) rfl ?_
    refine TL.val (OpV.assign rfl) rfl ?_
    refine TL.nil ?_
    refine TE.next ?_
    refine T.ret ?_
    refine TE.ret1 rfl (ResV.tmp rfl) ?_
    exact fun w1 k1 => ⟨congrArg (fun q => Ending.returned (Value.int .i64 q)) (by rw [hk] <;> omega), k1.bel⟩
  ·
   intro hg21
   have hbc : isB c = false := hg21
   have hk : keptN x.cells y.cells = x.n := by rw [hkn, hbc]; rfl
   refine TL.shut rfl rfl ?_
   refine TL.shut rfl rfl ?_
   refine TL.shut rfl rfl ?_
   refine TL.shut rfl rfl ?_
   refine TL.val ((by first | exact OpV.pick_t rfl rfl | exact OpV.pick_f rfl rfl)) rfl ?_
   refine TL.val (OpV.move rfl) rfl ?_
   refine TL.shut rfl rfl ?_
   refine TL.shut rfl rfl ?_
   refine TL.shut rfl rfl ?_
   refine TL.shut rfl rfl ?_
   refine TL.shut rfl rfl ?_
   refine TL.shut rfl rfl ?_
   refine TL.val ((by first | exact OpV.pick_t rfl rfl | exact OpV.pick_f rfl rfl)) rfl ?_
   refine TL.nil ?_
   refine TE.sub (.cons (t := 5) rfl <| .cons (t := 34) rfl <| .nil) ?_
   refine TE.next ?_
   refine T.no rfl ?_
   refine T.skip ?_
   refine TE.next ?_
   refine T.seq ?_
   refine T.region ?_
   refine TL.val (OpV.move rfl) rfl ?_
   refine TL.val (OpV.assign rfl) rfl ?_
   refine TL.nil ?_
   refine TE.next ?_
   refine T.ret ?_
   refine TE.ret1 rfl (ResV.tmp rfl) ?_
   exact fun w1 k1 => ⟨congrArg (fun q => Ending.returned (Value.int .i64 q)) (by rw [hk] <;> omega), k1.bel⟩
 ·
  intro hg11
  have hk : keptN x.cells y.cells = x.n := by rw [keptN_nil (by rw [h.1]; have h9 := of_decide_eq_false hg11; omega)]; have h9 := of_decide_eq_false hg11; omega
  refine TL.shut rfl rfl ?_
  refine TL.shut rfl rfl ?_
  refine TL.shut rfl rfl ?_
  refine TL.shut rfl rfl ?_
  refine TL.shut rfl rfl ?_
  refine TL.shut rfl rfl ?_
  refine TL.shut rfl rfl ?_
  refine TL.shut rfl rfl ?_
  refine TL.val ((by first | exact OpV.pick_t rfl rfl | exact OpV.pick_f rfl rfl)) rfl ?_
  refine TL.val (OpV.move rfl) rfl ?_
  refine TL.shut rfl rfl ?_
  refine TL.shut rfl rfl ?_
  refine TL.shut rfl rfl ?_
  refine TL.shut rfl rfl ?_
  refine TL.val ((by first | exact OpV.pick_t rfl rfl | exact OpV.pick_f rfl rfl)) rfl ?_
  refine TL.val (OpV.move rfl) rfl ?_
  refine TL.shut rfl rfl ?_
  refine TL.shut rfl rfl ?_
  refine TL.shut rfl rfl ?_
  refine TL.shut rfl rfl ?_
  refine TL.shut rfl rfl ?_
  refine TL.shut rfl rfl ?_
  refine TL.val ((by first | exact OpV.pick_t rfl rfl | exact OpV.pick_f rfl rfl)) rfl ?_
  refine TL.nil ?_
  refine TE.sub (.cons (t := 5) rfl <| .cons (t := 34) rfl <| .nil) ?_
  refine TE.next ?_
  refine T.no rfl ?_
  refine T.skip ?_
  refine TE.next ?_
  refine T.seq ?_
  refine T.region ?_
  refine TL.val (OpV.move rfl) rfl ?_
  refine TL.val (OpV.assign rfl) rfl ?_
  refine TL.nil ?_
  refine TE.next ?_
  refine T.ret ?_
  refine TE.ret1 rfl (ResV.tmp rfl) ?_
  exact fun w1 k1 => ⟨congrArg (fun q => Ending.returned (Value.int .i64 q)) (by rw [hk] <;> omega), k1.bel⟩
set_option maxRecDepth 100000 in
set_option maxHeartbeats 1000000 in
theorem aplace_c {σ τ : Nat → Option Obj} {A A2 : Option Addr} {n c n2 c2 : Nat} {ls : List LnA} {gs : List LgA} (a1 a2 : Int) (w : World) (h : LsA σ A n c ls) (h2 : GsA τ A2 n2 c2 gs) (hgs : gs.map LgA.lg = (lgG [] 0 (ls.map LnA.ln))) (hv : vLs (ls.map LnA.ln) = true) (hn : n ≤ 131072) (hs : ∀ b o, σ b = some o → w.heap[b]? = some o) (ht : ∀ b o, τ b = some o → w.heap[b]? = some o) : Calls Tryd.prog 63 #[.slice A n c, .slice A2 n2 c2, .agg (anL a1 a2).toArray] w (Ret (.tuple #[.int .i64 (plAV (ls.map LnA.ln) (a1, a2)).1, .int .i64 (plAV (ls.map LnA.ln) (a1, a2)).2, .int .i64 (plAE (ls.map LnA.ln) (a1, a2))]) w) := by
 have hn63 := h.1.2.1
 have hc63 := h.1.2.2.1
 have hl1 := h.1.1
 have hXl : (ls.map LnA.ln).length = n := by rw [List.length_map]; exact hl1
 have hn64 := h2.1.2.1
 have hc64 := h2.1.2.2.1
 refine calls_T (vs := [.slice A n c, .slice A2 n2 c2, .agg (anL a1 a2).toArray]) (L0 := [(0, .slice A n c), (1, .slice A2 n2 c2), (2, .agg (anL a1 a2).toArray)]) Tryd.func63 rfl rfl rfl rfl (KOk.frs hs ht) ?_
 refine T.seq ?_
 refine T.region ?_
 refine TL.boxA rfl rfl ?_
 intro b5
 refine TL.val (OpV.assign rfl) rfl ?_
 refine TL.val (OpV.assign rfl) rfl ?_
 refine TL.val (OpV.assign rfl) rfl ?_
 refine TL.nil ?_
 refine TE.next ?_
 refine T.seq ?_
 refine T.seq ?_
 refine T.quiet mix (by kernel_rfl) ?_
 refine TQ.val (OpV.fieldAddr rfl fo_24_0) rfl ?_
 refine TQ.val (OpV.load pl_3 rfl (by first | exact Cel.blk P0 rfl | exact Cel.blk P1 rfl | exact Cel.blk P2 rfl | exact Cel.blk P3 rfl | exact Cel.blk P4 rfl | exact Cel.frA (hatx _ _ rfl) | exact Cel.frA (hatg _ _ rfl) | exact Cel.frA (haty _ _ rfl) | exact Cel.frA (hatz _ _ rfl))) rfl ?_
 refine TQ.val (OpV.lss rfl rfl) rfl ?_
 refine TQ.val (OpV.move rfl) rfl ?_
 refine TQ.part (t := 15) rfl ?_ ?_
 ·
  intro hg15
  have hP : hasP (ls.map LnA.ln) (a1, a2) = false := hasP_row (.inl (of_decide_eq_true hg15))
  refine TQ.shut rfl rfl ?_
  refine TQ.shut rfl rfl ?_
  refine TQ.shut rfl rfl ?_
  refine TQ.shut rfl rfl ?_
  refine TQ.shut rfl rfl ?_
  refine TQ.val ((by first | exact OpV.pick_t rfl rfl | exact OpV.pick_f rfl rfl)) rfl ?_
  refine TQ.val (OpV.move rfl) rfl ?_
  refine TQ.shut rfl rfl ?_
  refine TQ.shut rfl rfl ?_
  refine TQ.shut rfl rfl ?_
  refine TQ.val ((by first | exact OpV.pick_t rfl rfl | exact OpV.pick_f rfl rfl)) rfl ?_
  refine TQ.val (OpV.move rfl) rfl ?_
  refine TQ.shut rfl rfl ?_
  refine TQ.shut rfl rfl ?_
  refine TQ.shut rfl rfl ?_
  refine TQ.shut rfl rfl ?_
  refine TQ.shut rfl rfl ?_
  refine TQ.shut rfl rfl ?_
  refine TQ.shut rfl rfl ?_
  refine TQ.shut rfl rfl ?_
  refine TQ.shut rfl rfl ?_
  refine TQ.shut rfl rfl ?_
  refine TQ.val ((by first | exact OpV.pick_t rfl rfl | exact OpV.pick_f rfl rfl)) rfl ?_
  refine TQ.nil ?_
  refine TE.sub (.cons (t := 0) rfl <| .cons (t := 1) rfl <| .cons (t := 5) rfl <| .cons (t := 38) rfl <| .nil) ?_
  refine TE.next ?_
  refine T.yes rfl ?_
  refine T.seq ?_
  refine T.region ?_
  refine TL.val (OpV.assign rfl) rfl ?_
  refine TL.val (OpV.assign rfl) rfl ?_
  refine TL.val (OpV.assign rfl) rfl ?_
  refine TL.nil ?_
  refine TE.next ?_
  refine T.ret ?_
  refine TE.pass_ret ?_
  refine TE.retN rfl (.cons (ResV.tmp rfl) <| .cons (ResV.tmp rfl) <| .cons (ResV.tmp rfl) <| .nil) ?_
  exact fun w1 k1 => ⟨by rw [plAV, plAE, hP] <;> rfl, k1.bel⟩
 ·
  intro hg15
  have ha0 := of_decide_eq_false hg15
  refine TQ.open rfl rfl ?_
  refine TQ.val (OpV.fieldAddr rfl fo_24_0) rfl ?_
  refine TQ.open rfl rfl ?_
  refine TQ.val (OpV.load pl_3 rfl (by first | exact Cel.blk P0 rfl | exact Cel.blk P1 rfl | exact Cel.blk P2 rfl | exact Cel.blk P3 rfl | exact Cel.blk P4 rfl | exact Cel.frA (hatx _ _ rfl) | exact Cel.frA (hatg _ _ rfl) | exact Cel.frA (haty _ _ rfl) | exact Cel.frA (hatz _ _ rfl))) rfl ?_
  refine TQ.open rfl rfl ?_
  refine TQ.val (OpV.move rfl) rfl ?_
  refine TQ.open rfl rfl ?_
  refine TQ.val (OpV.len Tryd.underlying22 rfl) rfl ?_
  refine TQ.open rfl rfl ?_
  refine TQ.val (OpV.geq rfl rfl) rfl ?_
  refine TQ.val ((by first | exact OpV.pick_t rfl rfl | exact OpV.pick_f rfl rfl)) rfl ?_
  refine TQ.val (OpV.move rfl) rfl ?_
  refine TQ.part (t := 22) rfl ?_ ?_
  ·
   intro hg22
   have hP : hasP (ls.map LnA.ln) (a1, a2) = false := hasP_row (.inr (by have h9 := of_decide_eq_true hg22; rw [hXl]; exact h9))
   refine TQ.shut rfl rfl ?_
   refine TQ.shut rfl rfl ?_
   refine TQ.shut rfl rfl ?_
   refine TQ.val ((by first | exact OpV.pick_t rfl rfl | exact OpV.pick_f rfl rfl)) rfl ?_
   refine TQ.val (OpV.move rfl) rfl ?_
   refine TQ.shut rfl rfl ?_
   refine TQ.shut rfl rfl ?_
   refine TQ.shut rfl rfl ?_
   refine TQ.shut rfl rfl ?_
   refine TQ.shut rfl rfl ?_
   refine TQ.shut rfl rfl ?_
   refine TQ.shut rfl rfl ?_
   refine TQ.shut rfl rfl ?_
   refine TQ.shut rfl rfl ?_
   refine TQ.shut rfl rfl ?_
   refine TQ.val ((by first | exact OpV.pick_t rfl rfl | exact OpV.pick_f rfl rfl)) rfl ?_
   refine TQ.nil ?_
   refine TE.sub (.cons (t := 0) rfl <| .cons (t := 1) rfl <| .cons (t := 5) rfl <| .cons (t := 38) rfl <| .nil) ?_
   refine TE.next ?_
   refine T.yes rfl ?_
   refine T.seq ?_
   refine T.region ?_
   refine TL.val (OpV.assign rfl) rfl ?_
   refine TL.val (OpV.assign rfl) rfl ?_
   refine TL.val (OpV.assign rfl) rfl ?_
   refine TL.nil ?_
   refine TE.next ?_
   refine T.ret ?_
   refine TE.pass_ret ?_
   refine TE.retN rfl (.cons (ResV.tmp rfl) <| .cons (ResV.tmp rfl) <| .cons (ResV.tmp rfl) <| .nil) ?_
   exact fun w1 k1 => ⟨by rw [plAV, plAE, hP] <;> rfl, k1.bel⟩
  ·
   intro hg22
   have ha9 := of_decide_eq_false hg22
   obtain ⟨k, rfl⟩ : ∃ k : Nat, a1 = (k : Int) := ⟨a1.toNat, by omega⟩
   obtain ⟨x, hlx⟩ := get_of_lt h.1.1 (show k < n by omega)
   obtain ⟨b, o, hA, hat⟩ := h.1.2.2.2.2 (by omega)
   obtain ⟨_, rfl, _, hatx⟩ := hat _ x hlx
   have hcx := h.2 x (List.mem_of_getElem? hlx)
   have hXx : (ls.map LnA.ln)[k]? = some x.ln := by simp [hlx]
   have hlenx : x.ln.cells.length = x.n := hcx.1
   have hnx := hcx.2.1
   have hmx := hcx.2.2.1
   refine TQ.open rfl rfl ?_
   refine TQ.val (OpV.fieldAddr rfl fo_24_1) rfl ?_
   refine TQ.open rfl rfl ?_
   refine TQ.val (OpV.load pl_3 rfl (by first | exact Cel.blk P0 rfl | exact Cel.blk P1 rfl | exact Cel.blk P2 rfl | exact Cel.blk P3 rfl | exact Cel.blk P4 rfl | exact Cel.frA (hatx _ _ rfl) | exact Cel.frA (hatg _ _ rfl) | exact Cel.frA (haty _ _ rfl) | exact Cel.frA (hatz _ _ rfl))) rfl ?_
   refine TQ.open rfl rfl ?_
   refine TQ.val (OpV.lss rfl rfl) rfl ?_
   refine TQ.val ((by first | exact OpV.pick_t rfl rfl | exact OpV.pick_f rfl rfl)) rfl ?_
   refine TQ.val (OpV.move rfl) rfl ?_
   refine TQ.part (t := 27) rfl ?_ ?_
   ·
    intro hg27
    have hP : hasP (ls.map LnA.ln) ((k : Int), a2) = false := hasP_col hXx (.inl (of_decide_eq_true hg27))
    refine TQ.shut rfl rfl ?_
    refine TQ.shut rfl rfl ?_
    refine TQ.shut rfl rfl ?_
    refine TQ.shut rfl rfl ?_
    refine TQ.shut rfl rfl ?_
    refine TQ.shut rfl rfl ?_
    refine TQ.shut rfl rfl ?_
    refine TQ.shut rfl rfl ?_
    refine TQ.shut rfl rfl ?_
    refine TQ.shut rfl rfl ?_
    refine TQ.val ((by first | exact OpV.pick_t rfl rfl | exact OpV.pick_f rfl rfl)) rfl ?_
    refine TQ.nil ?_
    refine TE.sub (.cons (t := 0) rfl <| .cons (t := 1) rfl <| .cons (t := 5) rfl <| .cons (t := 38) rfl <| .nil) ?_
    refine TE.next ?_
    refine T.yes rfl ?_
    refine T.seq ?_
    refine T.region ?_
    refine TL.val (OpV.assign rfl) rfl ?_
    refine TL.val (OpV.assign rfl) rfl ?_
    refine TL.val (OpV.assign rfl) rfl ?_
    refine TL.nil ?_
    refine TE.next ?_
    refine T.ret ?_
    refine TE.pass_ret ?_
    refine TE.retN rfl (.cons (ResV.tmp rfl) <| .cons (ResV.tmp rfl) <| .cons (ResV.tmp rfl) <| .nil) ?_
    exact fun w1 k1 => ⟨by rw [plAV, plAE, hP] <;> rfl, k1.bel⟩
   ·
    intro hg27
    have hb0 := of_decide_eq_false hg27
    refine TQ.open rfl rfl ?_
    refine TQ.val (OpV.fieldAddr rfl fo_24_1) rfl ?_
    refine TQ.open rfl rfl ?_
    refine TQ.val (OpV.load pl_3 rfl (by first | exact Cel.blk P0 rfl | exact Cel.blk P1 rfl | exact Cel.blk P2 rfl | exact Cel.blk P3 rfl | exact Cel.blk P4 rfl | exact Cel.frA (hatx _ _ rfl) | exact Cel.frA (hatg _ _ rfl) | exact Cel.frA (haty _ _ rfl) | exact Cel.frA (hatz _ _ rfl))) rfl ?_
    refine TQ.open rfl rfl ?_
    refine TQ.val (OpV.move rfl) rfl ?_
    refine TQ.open rfl rfl ?_
    refine TQ.val (OpV.fieldAddr rfl fo_24_0) rfl ?_
    refine TQ.open rfl rfl ?_
    refine TQ.val (OpV.load pl_3 rfl (by first | exact Cel.blk P0 rfl | exact Cel.blk P1 rfl | exact Cel.blk P2 rfl | exact Cel.blk P3 rfl | exact Cel.blk P4 rfl | exact Cel.frA (hatx _ _ rfl) | exact Cel.frA (hatg _ _ rfl) | exact Cel.frA (haty _ _ rfl) | exact Cel.frA (hatz _ _ rfl))) rfl ?_
    refine TQ.open rfl rfl ?_
    refine TQ.val (OpV.indexAddr (j := k) se_22 rfl hA rfl rfl (by omega)) rfl ?_
    refine TQ.open rfl rfl ?_
    refine TQ.val (OpV.fieldAddr rfl fo_65_0) rfl ?_
    refine TQ.open rfl rfl ?_
    refine TQ.val (OpV.load pl_35 rfl (by first | exact Cel.blk P0 rfl | exact Cel.blk P1 rfl | exact Cel.blk P2 rfl | exact Cel.blk P3 rfl | exact Cel.blk P4 rfl | exact Cel.frA (hatx _ _ rfl) | exact Cel.frA (hatg _ _ rfl) | exact Cel.frA (haty _ _ rfl) | exact Cel.frA (hatz _ _ rfl))) rfl ?_
    refine TQ.open rfl rfl ?_
    refine TQ.val (OpV.len Tryd.underlying35 rfl) rfl ?_
    refine TQ.open rfl rfl ?_
    refine TQ.val (OpV.geq rfl rfl) rfl ?_
    refine TQ.val ((by first | exact OpV.pick_t rfl rfl | exact OpV.pick_f rfl rfl)) rfl ?_
    refine TQ.nil ?_
    refine TE.sub (.cons (t := 0) rfl <| .cons (t := 1) rfl <| .cons (t := 5) rfl <| .cons (t := 38) rfl <| .nil) ?_
    refine TE.next ?_
    refine T.cond rfl ?_ ?_
    ·
     intro ht38
     have hP : hasP (ls.map LnA.ln) ((k : Int), a2) = false := hasP_col hXx (.inr (by rw [hlenx]; exact of_decide_eq_true ht38))
     refine T.seq ?_
     refine T.region ?_
     refine TL.val (OpV.assign rfl) rfl ?_
     refine TL.val (OpV.assign rfl) rfl ?_
     refine TL.val (OpV.assign rfl) rfl ?_
     refine TL.nil ?_
     refine TE.next ?_
     refine T.ret ?_
     refine TE.pass_ret ?_
     refine TE.retN rfl (.cons (ResV.tmp rfl) <| .cons (ResV.tmp rfl) <| .cons (ResV.tmp rfl) <| .nil) ?_
     exact fun w1 k1 => ⟨by rw [plAV, plAE, hP] <;> rfl, k1.bel⟩
    ·
     intro ht38
     have hb9 := of_decide_eq_false ht38
     have hP : hasP (ls.map LnA.ln) ((k : Int), a2) = true := hasP_yes hXx (by omega) (by rw [hlenx]; omega)
     obtain ⟨i, gl, f, r0, hf, hgl, hfrm, hrows, hfk, hkr, hfr, hfo⟩ := to_find hv (show k < (ls.map LnA.ln).length by rw [hXl]; omega)
     obtain ⟨g, hg, hge⟩ : ∃ g, gs[i]? = some g ∧ g.lg = gl := by rw [← hgs, List.getElem?_map, Option.map_eq_some_iff] at hgl; exact hgl
     have hto : toV (ls.map LnA.ln) ((k : Int), a2) = ((i : Int), a2 + (sumK (((ls.map LnA.ln).drop f).map Ln.cells) (k - f) : Int)) := to_eq hf hfo
     have hin2 : i < n2 := by have h9 := (List.getElem?_eq_some_iff.1 hg).1; have h8 := h2.1.1; omega
     obtain ⟨b3, o3, hA3, hat3⟩ := h2.1.2.2.2.2 (by omega)
     obtain ⟨_, rfl, _, hatg⟩ := hat3 _ g hg
     have hgf : g.frm = (f : Int) := by rw [← hge] at hfrm; exact hfrm
     have hsl : ∀ q, sumK (((ls.map LnA.ln).drop f).map Ln.cells) q ≤ 131072000 := fun q => by
       have h9 := sumK_le (((ls.map LnA.ln).drop f).map Ln.cells) q
       have h8 := sumL_le (l := (((ls.map LnA.ln).drop f).map Ln.cells)) (fun z hz => by obtain ⟨y, hy, rfl⟩ := List.mem_map.1 hz; have h7 := vLs_row hv (List.mem_of_mem_drop hy); omega)
       have h6 : (((ls.map LnA.ln).drop f).map Ln.cells).length ≤ 131072 := by rw [List.length_map, List.length_drop, hXl]; omega
       omega
     refine T.skip ?_
     refine TE.next ?_
     refine T.seq ?_
     refine T.region ?_
     refine TL.val (OpV.move rfl) rfl ?_
     refine TL.val (OpV.fieldAddr rfl fo_24_0) rfl ?_
     refine TL.val (OpV.load pl_3 rfl (by first | exact Cel.blk P0 rfl | exact Cel.blk P1 rfl | exact Cel.blk P2 rfl | exact Cel.blk P3 rfl | exact Cel.blk P4 rfl | exact Cel.frA (hatx _ _ rfl) | exact Cel.frA (hatg _ _ rfl) | exact Cel.frA (haty _ _ rfl) | exact Cel.frA (hatz _ _ rfl))) rfl ?_
     refine TL.call (g := 85) rfl go_85 rfl (fun w1 k1 => find_c (k : Int) w1 h2 (k1.get (e := .fr τ) (by first | exact P0 | exact P1 | exact P2 | exact P3 | exact P4 | exact P5 | exact P6 | exact P7)) (by omega) (fun g hg => by have h9 := okG_bd _ 0 (ok_lines hv) g.lg (by rw [← hgs]; exact List.mem_map_of_mem hg); rw [hXl] at h9; change (0 ≤ g.frm ∧ g.frm ≤ (n : Int)) ∧ (0 ≤ g.rows ∧ g.rows ≤ (n : Int)) at h9; omega)) rfl ?_
     refine TL.said (t := 43) rfl (show _ = Value.tuple #[.int .i64 (i : Int), .int .i64 0] by rw [hgs, hf]) ?_
     refine TL.val (OpV.move rfl) rfl ?_
     refine TL.val (OpV.extract rfl rfl) rfl ?_
     refine TL.val (OpV.extract rfl rfl) rfl ?_
     refine TL.val (OpV.assign rfl) rfl ?_
     refine TL.val (OpV.assign rfl) rfl ?_
     refine TL.nil ?_
     refine TE.sub (.cons (t := 0) rfl <| .cons (t := 1) rfl <| .cons (t := 5) rfl <| .cons (t := 8) rfl <| .cons (t := 9) rfl <| .nil) ?_
     refine TE.next ?_
     refine T.seq ?_
     refine T.seq ?_
     refine T.region ?_
     refine TL.val (OpV.move rfl) rfl ?_
     refine TL.val (OpV.neq rfl rfl) rfl ?_
     refine TL.said (t := 47) rfl (show _ = Value.bool false from congrArg Value.bool (rfl)) ?_
     refine TL.nil ?_
     refine TE.next ?_
     refine T.no rfl ?_
     refine T.skip ?_
     refine TE.next ?_
     refine T.seq ?_
     refine T.region ?_
     refine TL.val (OpV.fieldAddr rfl fo_24_1) rfl ?_
     refine TL.val (OpV.load pl_3 rfl (by first | exact Cel.blk P0 rfl | exact Cel.blk P1 rfl | exact Cel.blk P2 rfl | exact Cel.blk P3 rfl | exact Cel.blk P4 rfl | exact Cel.frA (hatx _ _ rfl) | exact Cel.frA (hatg _ _ rfl) | exact Cel.frA (haty _ _ rfl) | exact Cel.frA (hatz _ _ rfl))) rfl ?_
     refine TL.val (OpV.assign rfl) rfl ?_
     refine TL.nil ?_
     refine TE.next ?_
     refine T.seq ?_
     refine T.seq ?_
     refine T.region ?_
     refine TL.val (OpV.move rfl) rfl ?_
     refine TL.val (OpV.move rfl) rfl ?_
     refine TL.val (OpV.indexAddr (j := i) se_34 rfl hA3 rfl rfl (by omega)) rfl ?_
     refine TL.val (OpV.fieldAddr rfl fo_37_1) rfl ?_
     refine TL.val (OpV.load pl_3 rfl (by first | exact Cel.blk P0 rfl | exact Cel.blk P1 rfl | exact Cel.blk P2 rfl | exact Cel.blk P3 rfl | exact Cel.blk P4 rfl | exact Cel.frA (hatx _ _ rfl) | exact Cel.frA (hatg _ _ rfl) | exact Cel.frA (haty _ _ rfl) | exact Cel.frA (hatz _ _ rfl))) rfl ?_
     refine TL.said (t := 55) rfl (show _ = Value.int .i64 (f : Int) from congrArg _ hgf) ?_
     refine TL.val (OpV.assign rfl) rfl ?_
     refine TL.nil ?_
     refine TE.sub (.cons (t := 0) rfl <| .cons (t := 5) rfl <| .cons (t := 9) rfl <| .cons (t := 10) rfl <| .cons (t := 11) rfl <| .nil) ?_
     refine TE.next ?_
     refine T.block ?_
     refine T.loop (ι := Nat) (fun r => f ≤ r ∧ r ≤ k) (fun r => (k - r)) (fun r => [(0, .slice A n c), (5, .pointer (some ⟨b5, 0, none⟩)), (9, .int .i64 (i : Int)), (10, .int .i64 (a2 + (sumK (((ls.map LnA.ln).drop f).map Ln.cells) (r - f) : Int))), (11, .int .i64 (r : Int))]) (fun r => [.blk b5 (anL k a2) 24, .fr σ]) f ⟨Nat.le_refl _, hfk⟩ (.cons (t := 0) rfl <| .cons (t := 5) rfl <| .cons (t := 9) rfl <| .cons (t := 10) (by rw [Nat.sub_self, sumK_zero, Int.natCast_zero, Int.add_zero]; rfl) <| .cons (t := 11) rfl <| .nil) (Perm.kle (.cons (by first | exact P0 | exact P1 | exact P2 | exact P3 | exact P4 | exact P5 | exact P6) (.cons (by first | exact P0 | exact P1 | exact P2 | exact P3 | exact P4 | exact P5 | exact P6) .nil))) ?_
     rintro r hR
     refine T.seq ?_
     refine T.seq ?_
     refine T.region ?_
     refine TL.val (OpV.move rfl) rfl ?_
     refine TL.val (OpV.fieldAddr rfl fo_24_0) rfl ?_
     refine TL.val (OpV.load pl_3 rfl (by first | exact Cel.blk P0 rfl | exact Cel.blk P1 rfl | exact Cel.blk P2 rfl | exact Cel.blk P3 rfl | exact Cel.blk P4 rfl | exact Cel.frA (hatx _ _ rfl) | exact Cel.frA (hatg _ _ rfl) | exact Cel.frA (haty _ _ rfl) | exact Cel.frA (hatz _ _ rfl))) rfl ?_
     refine TL.val (OpV.lss rfl rfl) rfl ?_
     refine TL.nil ?_
     refine TE.next ?_
     refine T.cond rfl ?_ ?_
     ·
      intro ht59
      obtain ⟨q1, q2⟩ := hR
      have hrk : r < k := by have h9 := of_decide_eq_true ht59; omega
      obtain ⟨y, hly⟩ := get_of_lt h.1.1 (show r < n by omega)
      obtain ⟨b4, o4, hA4, hat4⟩ := h.1.2.2.2.2 (by omega)
      obtain ⟨_, rfl, _, haty⟩ := hat4 _ y hly
      have hcy := h.2 y (List.mem_of_getElem? hly)
      have hXy : (ls.map LnA.ln)[r]? = some y.ln := by simp [hly]
      have hleny : y.ln.cells.length = y.n := hcy.1
      have hny := hcy.2.1
      have hmy := hcy.2.2.1
      obtain ⟨z, hlz⟩ := get_of_lt h.1.1 (show (r + 1) < n by omega)
      obtain ⟨b5, o5, hA5, hat5⟩ := h.1.2.2.2.2 (by omega)
      obtain ⟨_, rfl, _, hatz⟩ := hat5 _ z hlz
      have hcz := h.2 z (List.mem_of_getElem? hlz)
      have hXz : (ls.map LnA.ln)[(r + 1)]? = some z.ln := by simp [hlz]
      have hlenz : z.ln.cells.length = z.n := hcz.1
      have hnz := hcz.2.1
      have hmz := hcz.2.2.1
      have hsk : sumK (((ls.map LnA.ln).drop f).map Ln.cells) (r + 1 - f) = sumK (((ls.map LnA.ln).drop f).map Ln.cells) (r - f) + keptN y.cells z.cells := by rw [show r + 1 - f = (r - f) + 1 by omega]; exact sumK_snoc (((ls.map LnA.ln).drop f).map Ln.cells) (r - f) y.cells z.cells (by rw [List.getElem?_map, List.getElem?_drop, show f + (r - f) = r by omega, hXy]; rfl) (by rw [List.getElem?_map, List.getElem?_drop, show f + (r - f + 1) = r + 1 by omega, hXz]; rfl)
      have hsl1 := hsl (r - f)
      have hkl := keptN_le y.cells z.cells
      have hxl := vLs_row hv (List.mem_of_getElem? hXx)
      have hyl := vLs_row hv (List.mem_of_getElem? hXy)
      change y.cells.length ≤ 1000 at hyl
      refine T.skip ?_
      refine TE.next ?_
      refine T.seq ?_
      refine T.block ?_
      refine T.any ([.fr σ]) [] mix rfl rfl ?_
      refine TA.takeP (i := 0) (ls := #[true, false, false, false, false, false, false, false, false, false, false, false, false]) rfl rfl rfl rfl rfl (by kernel_rfl) (by kernel_rfl) (by kernel_rfl) (by repeat (first | with_reducible exact PanicOk.body | with_reducible apply PanicOk.next | with_reducible apply PanicOk.block)) (OpV.move rfl) rfl (by kernel_rfl) ?_
      refine TA.takeP (i := 1) (ls := #[true, true, false, false, false, false, false, false, false, false, false, false, false]) rfl rfl rfl rfl rfl (by kernel_rfl) (by kernel_rfl) (by kernel_rfl) (by repeat (first | with_reducible exact PanicOk.body | with_reducible apply PanicOk.next | with_reducible apply PanicOk.block)) (OpV.move rfl) rfl (by kernel_rfl) ?_
      refine TA.takeP (i := 2) (ls := #[true, true, true, false, false, false, false, false, false, false, false, false, false]) rfl rfl rfl rfl rfl (by kernel_rfl) (by kernel_rfl) (by kernel_rfl) (by repeat (first | with_reducible exact PanicOk.body | with_reducible apply PanicOk.next | with_reducible apply PanicOk.block)) (OpV.move rfl) rfl (by kernel_rfl) ?_
      refine TA.takeP (i := 3) (ls := #[true, true, true, true, false, false, false, false, false, false, false, false, false]) rfl rfl rfl rfl rfl (by kernel_rfl) (by kernel_rfl) (by kernel_rfl) (by repeat (first | with_reducible exact PanicOk.body | with_reducible apply PanicOk.next | with_reducible apply PanicOk.block)) (OpV.indexAddr (j := r) se_22 rfl hA4 rfl rfl (by omega)) rfl (by kernel_rfl) ?_
      refine TA.take (i := 4) (ls := #[true, true, true, true, true, false, false, false, false, false, false, false, false]) rfl rfl rfl rfl rfl (by kernel_rfl) (by kernel_rfl) (by kernel_rfl) (by kernel_rfl) (by repeat (first | with_reducible exact PanicOk.body | with_reducible apply PanicOk.next | with_reducible apply PanicOk.block)) ((.cons (by first | exact P0 | exact P1 | exact P2 | exact P3 | exact P4 | exact P5 | exact P6) .nil)) (OpV.loadA ag_65 rfl (by first | exact Cels.blk P0 rfl | exact Cels.blk P1 rfl | exact Cels.blk P2 rfl | exact Cels.blk P3 rfl | exact Cels.blk P4 rfl | exact Cels.frA hatx rfl | exact Cels.frA hatg rfl | exact Cels.frA haty rfl | exact Cels.frA hatz rfl)) rfl (by kernel_rfl) ?_
      refine TA.takeP (i := 5) (ls := #[true, true, true, true, true, true, false, false, false, false, false, false, false]) rfl rfl rfl rfl rfl (by kernel_rfl) (by kernel_rfl) (by kernel_rfl) (by repeat (first | with_reducible exact PanicOk.body | with_reducible apply PanicOk.next | with_reducible apply PanicOk.block)) (OpV.move rfl) rfl (by kernel_rfl) ?_
      refine TA.takeP (i := 6) (ls := #[true, true, true, true, true, true, true, false, false, false, false, false, false]) rfl rfl rfl rfl rfl (by kernel_rfl) (by kernel_rfl) (by kernel_rfl) (by repeat (first | with_reducible exact PanicOk.body | with_reducible apply PanicOk.next | with_reducible apply PanicOk.block)) (OpV.move rfl) rfl (by kernel_rfl) ?_
      refine TA.takeP (i := 7) (ls := #[true, true, true, true, true, true, true, true, false, false, false, false, false]) rfl rfl rfl rfl rfl (by kernel_rfl) (by kernel_rfl) (by kernel_rfl) (by repeat (first | with_reducible exact PanicOk.body | with_reducible apply PanicOk.next | with_reducible apply PanicOk.block)) (OpV.add rfl rfl (by first | exact IntWalk.i64_in _ ⟨by omega, by omega⟩ | rfl)) rfl (by kernel_rfl) ?_
      refine TA.takeP (i := 8) (ls := #[true, true, true, true, true, true, true, true, true, false, false, false, false]) rfl rfl rfl rfl rfl (by kernel_rfl) (by kernel_rfl) (by kernel_rfl) (by repeat (first | with_reducible exact PanicOk.body | with_reducible apply PanicOk.next | with_reducible apply PanicOk.block)) (OpV.indexAddr (j := (r + 1)) se_22 rfl hA5 rfl (by omega) (by omega)) rfl (by kernel_rfl) ?_
      refine TA.take (i := 9) (ls := #[true, true, true, true, true, true, true, true, true, true, false, false, false]) rfl rfl rfl rfl rfl (by kernel_rfl) (by kernel_rfl) (by kernel_rfl) (by kernel_rfl) (by repeat (first | with_reducible exact PanicOk.body | with_reducible apply PanicOk.next | with_reducible apply PanicOk.block)) ((.cons (by first | exact P0 | exact P1 | exact P2 | exact P3 | exact P4 | exact P5 | exact P6) .nil)) (OpV.loadA ag_65 rfl (by first | exact Cels.blk P0 rfl | exact Cels.blk P1 rfl | exact Cels.blk P2 rfl | exact Cels.blk P3 rfl | exact Cels.blk P4 rfl | exact Cels.frA hatx rfl | exact Cels.frA hatg rfl | exact Cels.frA haty rfl | exact Cels.frA hatz rfl)) rfl (by kernel_rfl) ?_
      refine TA.one (i := 10) (ls := #[true, true, true, true, true, true, true, true, true, true, true, false, false]) (by kernel_rfl) rfl (by kernel_rfl) (fun w1 => ?_)
      refine TL.call (g := 86) rfl go_86 rfl (fun w1 k1 => counted_c y z w1 hcy hcz (k1.get (e := .fr σ) (by first | exact P0 | exact P1 | exact P2 | exact P3 | exact P4 | exact P5 | exact P6 | exact P7)) (k1.get (e := .fr σ) (by first | exact P0 | exact P1 | exact P2 | exact P3 | exact P4 | exact P5 | exact P6 | exact P7))) rfl ?_
      refine TL.nil ?_
      refine TA.cont ((.cons (by first | exact P0 | exact P1 | exact P2 | exact P3 | exact P4 | exact P5 | exact P6) .nil)) ?_
      refine TA.takeP (i := 11) (ls := #[true, true, true, true, true, true, true, true, true, true, true, true, false]) rfl rfl rfl rfl rfl (by kernel_rfl) (by kernel_rfl) (by kernel_rfl) (by repeat (first | with_reducible exact PanicOk.body | with_reducible apply PanicOk.next | with_reducible apply PanicOk.block)) (OpV.add rfl rfl (by first | exact IntWalk.i64_in _ ⟨by omega, by omega⟩ | rfl)) rfl (by kernel_rfl) ?_
      refine TA.takeP (i := 12) (ls := #[true, true, true, true, true, true, true, true, true, true, true, true, true]) rfl rfl rfl rfl rfl (by kernel_rfl) (by kernel_rfl) (by kernel_rfl) (by repeat (first | with_reducible exact PanicOk.body | with_reducible apply PanicOk.next | with_reducible apply PanicOk.block)) (OpV.assign rfl) rfl (by kernel_rfl) ?_
      refine TA.done (by kernel_rfl) ?_
      refine TE.out ?_
      refine TE.sub (.cons (t := 0) rfl <| .cons (t := 5) rfl <| .cons (t := 9) rfl <| .cons (t := 10) rfl <| .cons (t := 11) rfl <| .nil) ?_
      refine TE.next ?_
      refine T.region ?_
      refine TL.val (OpV.move rfl) rfl ?_
      refine TL.val (OpV.add rfl rfl (by first | exact IntWalk.i64_in _ ⟨by omega, by omega⟩ | rfl)) rfl ?_
      refine TL.val (OpV.assign rfl) rfl ?_
      refine TL.nil ?_
      exact TE.meet (r + 1) ⟨⟨by omega, by omega⟩, by omega⟩ (.cons (t := 0) (by first | rfl | (simp [lk]; done)) <| .cons (t := 5) (by first | rfl | (simp [lk]; done)) <| .cons (t := 9) (by first | rfl | (simp [lk]; done)) <| .cons (t := 10) (congrArg (fun q => some (Value.int .i64 q)) (by rw [hsk]; omega)) <| .cons (t := 11) (by first | rfl | (simp [lk]; done)) <| .nil) (Perm.kle (.cons (by first | exact P0 | exact P1 | exact P2 | exact P3 | exact P4 | exact P5 | exact P6) (.cons (by first | exact P0 | exact P1 | exact P2 | exact P3 | exact P4 | exact P5 | exact P6) .nil)))
     ·
      intro ht59
      obtain ⟨q1, q2⟩ := hR
      have hrk : r = k := by have h9 := of_decide_eq_false ht59; omega
      refine T.exit ?_
      refine TE.pass_exit ?_
      refine TE.pass_exit ?_
      refine TE.here ?_
      refine TE.next ?_
      refine T.seq ?_
      refine T.region ?_
      refine TL.val (OpV.move rfl) rfl ?_
      refine TL.val (OpV.move rfl) rfl ?_
      refine TL.val (OpV.assign rfl) rfl ?_
      refine TL.val (OpV.assign rfl) rfl ?_
      refine TL.val (OpV.assign rfl) rfl ?_
      refine TL.nil ?_
      refine TE.sub (.cons (t := 6) rfl <| .cons (t := 7) rfl <| .cons (t := 8) rfl <| .nil) ?_
      refine TE.next ?_
      refine T.ret ?_
      refine TE.retN rfl (.cons (ResV.tmp rfl) <| .cons (ResV.tmp rfl) <| .cons (ResV.tmp rfl) <| .nil) ?_
      exact fun w1 k1 => ⟨by rw [plAV, plAE, hP, if_pos rfl, if_pos rfl, hto, hrk], k1.bel⟩
end Go.Proofs.YtdmpodpdpncobaaDoor
