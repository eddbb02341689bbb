/-
  Ranges over functions: rounds, and what stands behind them. No condition; no program in sight.
-/
import Derived.Test.YtaoepaonjeilgaaEng6
import Derived.RangeFuncNested
import Derived.RangeFuncBound
import Derived.RangeFuncCalls
import Derived.RangeFuncLeaves
import Derived.OwnWalkIn
import Derived.TacticsInMore
import Derived.LoopNIn
import Derived.LoopIn
import Derived.OrdersIn
namespace Go.Proofs.Ytaoepaonjeilgaa
open Go.RowKit
set_option linter.unusedSimpArgs false
set_option linter.unusedVariables false
section
variable {P : Program} {n : Nat} {w0 : World} {L : List (Nat × Value)} {K K' : List Ent} {Q : Exit → Act → World → Prop} {ops : Array Oper} {l : List Oper}

/-! ### In a round of a range over a function an operation goes as everywhere -/
theorem op_round {m r : Nat} {o : Oper} {a : Act} {w : World} {N : Act → World → Prop} (hd : ∀ c, o.op ≠ .defer c) (h : o.wp P a w N Q) : o.wpIn (Fence.wide.inRound r) m P a w N Q := by
  refine ⟨fun _ _ => trivial, ?_⟩
  rw [Fence.inRound_round, Oper.semAt_eq _ _ _ hd]
  unfold Oper.wp at h
  generalize (execOp a.eval o).run P w = x at h ⊢
  cases x with
  | ok nx w' =>
    cases nx with
    | value v => exact h
    | skip => exact h
    | defer d => exact h
    | enter f args => exact ⟨fun e => (by cases e), CallsIn.inRound r (callsIn_wide.2 h)⟩
    | row rw args =>
      refine ⟨fun e => (by cases e), fun c cs _ => ?_⟩
      obtain ⟨v, w'', g1, g2⟩ := h c cs
      exact ⟨v, w'', g1, stepsIn_wide.2 g2⟩
    | _ => exact h.elim
  | halt st w' =>
    cases st <;> exact h
def noDefer (l : List Oper) : Bool := l.all fun o => match o.op with
  | .defer _ => false
  | _ => true
theorem noDefer_spec {l : List Oper} (h : noDefer l = true) {o : Oper} (ho : o ∈ l) : ∀ c, o.op ≠ .defer c := fun c e => by
  have := List.all_eq_true.1 h o ho
  rw [e] at this
  cases this
theorem list_round {m r : Nat} (hQ : ∀ a w, ¬ Q .outgrown a w) : ∀ (l : List Oper), noDefer l = true → ∀ (a : Act) (w : World), wpList P ops Q l a w → wpListIn (Fence.wide.inRound r) m P ops Q l a w
  | [], _, _, _, h => h
  | o :: l, hd, a, w, h => by
    have hd1 := noDefer_spec hd (o := o) (by simp)
    have hd2 : noDefer l = true := by simp only [noDefer, List.all_cons, Bool.and_eq_true] at hd; exact hd.2
    unfold wpList at h
    unfold wpListIn
    split at h
    · rename_i hw
      rw [if_pos hw]
      rcases h with h | ⟨_, a', w', ho⟩
      · exact Oper.wpIn_mono (fun a w => list_round hQ l hd2 a w) (op_round hd1 h)
      · exact (hQ a' w' ho).elim
    · rename_i hw
      rw [if_neg hw]
      exact ⟨fun _ _ => trivial, list_round hQ l hd2 _ w h⟩
theorem any_round {m r : Nat} {md : Region.Mode} (hQ : ∀ a w, ¬ Q .outgrown a w) (hd : noDefer ops.toList = true) : ∀ (fuel : Nat) (listed : Array Bool) (a : Act) (w : World), wpAny P md ops Q fuel listed a w → wpAnyIn (Fence.wide.inRound r) m P md ops Q fuel listed a w
  | 0, _, _, _, h => h
  | fuel + 1, listed, a, w, h => ⟨h.1, fun i hi => by
    have h2 := h.2 i hi
    unfold wpOp at h2
    unfold wpOpIn
    cases ho : ops[i]? with
    | none => rw [ho] at h2; exact any_round hQ hd fuel _ a w h2
    | some o =>
      rw [ho] at h2
      simp only at h2 ⊢
      split at h2
      · rename_i hw
        rw [if_pos hw]
        rcases h2 with h2 | ⟨_, a', w', ho'⟩
        · exact Oper.wpIn_mono (fun a w => any_round hQ hd fuel _ a w) (op_round (noDefer_spec hd (by simpa using Array.mem_of_getElem? ho)) h2)
        · exact (hQ a' w' ho').elim
      · rename_i hw
        rw [if_neg hw]
        exact ⟨fun _ _ => trivial, any_round hQ hd fuel _ _ w h2⟩⟩
/-- a triple on code that is run in a round -/
def TR (r m : Nat) (P : Program) (n : Nat) (w0 : World) (L : List (Nat × Value)) (K : List Ent) (c : Code) (Q : Exit → Act → World → Prop) : Prop := ∀ a w, FrOk n L a → KOk w0 K w → c.wpIn (Fence.wide.inRound r) m P Q a w
/-- nothing is let out -/
def NoOut (Q : Exit → Act → World → Prop) : Prop := ∀ a w, ¬ Q .outgrown a w
theorem NoOut.next {N : Act → World → Prop} (h : NoOut Q) : NoOut (Exit.then N Q) := fun a w q => h a w q
theorem NoOut.block {i : Nat} (h : NoOut Q) : NoOut (Exit.inBlock i Q) := fun a w q => h a w q
section
variable {r m : Nat}
theorem TR.seq {x y : Code} (h : TR r m P n w0 L K x (Exit.then (y.wpIn (Fence.wide.inRound r) m P Q) Q)) : TR r m P n w0 L K (.seq x y) Q := fun a w f k => wpIn_seq (h a w f k)
theorem TR.skip (h : TE n w0 L K .normal Q) : TR r m P n w0 L K .skip Q := fun a w f k => wpIn_skip (h a w f k)
theorem TR.ret (h : TE n w0 L K .ret Q) : TR r m P n w0 L K .ret Q := fun a w f k => wpIn_ret (h a w f k)
theorem TR.block {i : Nat} {c : Code} (h : TR r m P n w0 L K c (Exit.inBlock i Q)) : TR r m P n w0 L K (.block i c) Q := fun a w f k => wpIn_block (h a w f k)
theorem TR.region {i : Nat} (hQ : NoOut Q) (hd : noDefer l = true) (h : TL P n w0 L K l.toArray l Q) : TR r m P n w0 L K (.region i l.toArray false) Q := fun a w f k => wpIn_region_lit (list_round hQ l hd a w (h a w f k))
theorem TR.any {i N : Nat} {ls : Array Bool} (KS : List Ent) (bars : List Nat) (hQ : NoOut Q) (hd : noDefer l = true) (hm : P.follows .mixedOrders = true) (hl : l.length = N) (hls : Array.replicate N false = ls) (h : TA P n w0 L K l.toArray KS bars N ls Q) : TR r m P n w0 L K (.region i l.toArray true) Q :=
  fun a w f k => by
    refine wpIn_region_any hm (any_round hQ (by simpa using hd) _ _ _ _ (wpAny_of_bar (S0 := KOk w0 []) (S := KOk w0 KS) (bar := fun j => bars.contains j) _ _ _ _ ?_))
    subst hls hl
    simpa using h a _ f k.drew
theorem TR.cond {c : Operand} {x y : Code} {b : Bool} (hc : ev L c = some (.bool b)) (h1 : b = true → TR r m P n w0 L K x Q) (h2 : b = false → TR r m P n w0 L K y Q) : TR r m P n w0 L K (.cond c x y) Q :=
  fun a w f k => wpIn_cond_split (f.ev hc) (fun e => h1 e a w f k) (fun e => h2 e a w f k)
theorem TR.yes {c : Operand} {x y : Code} (hc : ev L c = some (.bool true)) (h1 : TR r m P n w0 L K x Q) : TR r m P n w0 L K (.cond c x y) Q := fun a w f k => wpIn_cond_true (f.ev hc) (h1 a w f k)
theorem TR.no {c : Operand} {x y : Code} (hc : ev L c = some (.bool false)) (h1 : TR r m P n w0 L K y Q) : TR r m P n w0 L K (.cond c x y) Q := fun a w f k => wpIn_cond_false (f.ev hc) (h1 a w f k)
theorem TE.nextR {y : Code} {Q' : Exit → Act → World → Prop} (h : TR r m P n w0 L K y Q) : TE n w0 L K .normal (Exit.then (y.wpIn (Fence.wide.inRound r) m P Q) Q') := h
end
/-! ### What a round keeps -/
def above (B : Nat) (W : World) : Nat → Option Obj := fun b => if b < B then none else W.heap[b]?
theorem above_of {B : Nat} {W : World} {b : Nat} {o : Obj} (hb : B ≤ b) (h : W.heap[b]? = some o) : above B W b = some o := by rw [above, if_neg (by omega)]; exact h
def Dom (B : Nat) (K : List Ent) : Prop := ∀ e ∈ K, ∀ x, e.dom x → x < B
theorem KOk.dom {w : World} (k : KOk w0 K w) : Dom w.heap.size K := fun e he x hx => k.all.lt e he x hx
theorem KOk.above {B : Nat} {W : World} (k : KOk w0 K W) (hB : Dom B K) : KOk w0 (.fr (above B W) :: K) W := ⟨k.bel, fun b o h => by
    unfold Go.Proofs.Ytaoepaonjeilgaa.above at h
    split at h
    · cases h
    · exact h, fun e he _ x hx hy => by
      have h1 := hB e he x hy
      have hx' : Go.Proofs.Ytaoepaonjeilgaa.above B W x ≠ Option.none := hx
      unfold Go.Proofs.Ytaoepaonjeilgaa.above at hx'
      rw [if_pos h1] at hx'
      exact hx' rfl, k.all⟩
theorem KOk.keeps {B r : Nat} {o : Obj} {W W' : World} (k : KOk w0 K' W) (k' : KOk w0 (.fr (Go.Proofs.Ytaoepaonjeilgaa.above B W) :: K) W') (hr : B ≤ r) (ho : W.heap[r]? = some o) : KeepsFrom B W W' ∧ Below w0.heap.size W W' := by
  have h1 := k'.all.1
  have hz : W.heap.size ≤ W'.heap.size := by
    have hl := lt_of_some ho
    have h2 : W.heap[W.heap.size - 1]? = some (W.heap[W.heap.size - 1]'(by omega)) := Array.getElem?_eq_getElem (by omega)
    have h3 := lt_of_some (h1 _ _ (above_of (B := B) (by omega) h2))
    omega
  have b := k.bel
  have b' := k'.bel
  exact ⟨⟨hz, fun q o' hB hq _ => h1 q o' (above_of hB hq)⟩, ⟨b'.os.trans b.os.symm, b'.tape.trans b.tape.symm, b'.output.trans b.output.symm, hz, fun q hq => (b'.block q hq).trans (b.block q hq).symm⟩⟩
theorem KOk.grown {B : Nat} {W W' : World} {row : Option Nat} (k : KOk w0 K W) (hB : Dom B K) (h0 : w0.heap.size ≤ B) (hg : W.grownBy W' row) (hr : ∀ r, row = some r → B ≤ r) : KOk w0 K W' :=
  ⟨k.bel.grown hg k.bel.size fun q e => Nat.le_trans h0 (hr q e), k.all.keep fun e he x hx => hg.block x (k.all.lt e he x hx) fun e' => by
    have h1 := hB e he x hx
    have h2 := hr x e'.symm
    omega⟩
theorem own_kx {β ι : Type} {B : Nat} {Ks : ι → List Ent} (p : ι → β → Prop) (hB : ∀ i, Dom B (Ks i)) (h0 : w0.heap.size ≤ B) : OwnFrom B (fun (s : β) W => ∃ i, KOk w0 (Ks i) W ∧ p i s ∧ B ≤ W.heap.size) := fun s W W' row ⟨i, h1, h2, h3⟩ hg hr => ⟨i, h1.grown (hB i) h0 hg fun r e => (hr r e).1, h2, Nat.le_trans h3 hg.size⟩
theorem own_k {β : Type} {B : Nat} (p : β → Prop) (hB : Dom B K) (h0 : w0.heap.size ≤ B) : OwnFrom B (fun (s : β) W => KOk w0 K W ∧ p s ∧ B ≤ W.heap.size) := fun s W W' row ⟨h1, h2, h3⟩ hg hr => ⟨h1.grown hB h0 hg fun r e => (hr r e).1, h2, Nat.le_trans h3 hg.size⟩
theorem Dom.two {B b b' : Nat} {cs cs' ds ds' : List Value} {T T' : TypeId} (h : Dom B (.blk b cs T :: .blk b' ds T' :: K)) : Dom B (.blk b cs' T :: .blk b' ds' T' :: K) := fun e he x hx => by
  rcases List.mem_cons.1 he with rfl | he
  · exact h (.blk b cs T) (by simp) x hx
  · rcases List.mem_cons.1 he with rfl | he
    · exact h (.blk b' ds T') (by simp) x hx
    · exact h e (by simp [he]) x hx
theorem Dom.le {B B' : Nat} (h : Dom B K) (hb : B ≤ B') : Dom B' K := fun e he x hx => Nat.lt_of_lt_of_le (h e he x hx) hb
theorem box_grown (W : World) (zs cs : List Value) (T : TypeId) : W.grownBy ((W.alloc (.cells zs.toArray T)).setRow W.heap.size cs.toArray) none ∧ ((W.alloc (.cells zs.toArray T)).setRow W.heap.size cs.toArray).heap[W.heap.size]? = some (.cells cs.toArray T (0, 0)) :=
  ⟨⟨rfl, rfl, rfl, by simp, fun k hk _ => (setRow_other _ _ k _ (by omega)).trans (Below.heap_alloc W _ k hk)⟩, setRow_heap _ _ _ _ T _ (heap_alloc_new W _)⟩
theorem KOk.frw {w : World} {K1 K2 : List Ent} {b : Nat} {cs : List Value} {T : TypeId} {σ : Nat → Option Obj} (k : KOk w0 K w) (p1 : Pick K (.blk b cs T) K1) (p2 : Pick K1 (.fr σ) K2) : (∀ x o, σ2 (σ1 b (.cells cs.toArray T (0, 0))) σ x = some o → w.heap[x]? = some o) ∧ (∀ x o, σ x = some o → σ2 (σ1 b (.cells cs.toArray T (0, 0))) σ x = some o) ∧ σ2 (σ1 b (.cells cs.toArray T (0, 0))) σ b = some (.cells cs.toArray T (0, 0)) := by
  have k1 := k.pick p1
  have hs : ∀ x o, σ x = some o → w.heap[x]? = some o := k1.tail.get p2
  have hn : ¬ σ b ≠ Option.none := k1.all.2.1 (.fr σ) ((p2.mem _).2 (.inl rfl)) rfl b rfl
  refine ⟨fun x o h => ?_, fun x o h => ?_, by simp [σ2, σ1]⟩
  · unfold σ2 at h
    split at h
    · rename_i o' h2
      obtain ⟨rfl, rfl⟩ := σ1_some h2
      cases h
      exact k1.all.1.2
    · exact hs x o h
  · by_cases e : x = b
    · subst e
      rw [h] at hn
      exact absurd (by simp) hn
    · simp [σ2, σ1, e, h]
theorem PanicOk.own {α : Type} {B : Nat} {Kp : World → World → Prop} {I : List α → World → Prop} {Ix : Code → List α → World → Prop} {xs : List α} {W : World} : PanicOk (ownPostG B Kp I Ix xs W) := fun c a a' w e h => h
theorem NoOut.own {α : Type} {B : Nat} {Kp : World → World → Prop} {I : List α → World → Prop} {Ix : Code → List α → World → Prop} {xs : List α} {W : World} : NoOut (ownPostG B Kp I Ix xs W) := fun a w h => h
theorem FrOk.mark {a : Act} (f : FrOk n L a) (d : List Deferred) : FrOk n L { ({ a with defers := d } : Act) with defers := [] } := ⟨f.sz, rfl, f.kn⟩
theorem FrOk.pars {a : Act} (f : FrOk n L a) {p q : Nat} (hp : Nat.blt p n = true) (hq : Nat.blt q n = true) (v u : Value) : FrOk n ((q, u) :: (p, v) :: L) { tmps := (#[p, q].zip #[v, u]).foldl (fun t (x : Nat × Value) => t.setIfInBounds x.1 x.2) a.tmps, defers := [] } := by
  have h := (f.put hp v).put hq u
  simpa [Act.put, f.df] using h
/-- the loop's variable, in a box -/
def AxB (n B : Nat) (T : TypeId) (L' : Nat → List (Nat × Value)) (cs : List Value) (a : Act) (W : World) : Prop := ∃ b, B ≤ b ∧ W.heap[b]? = some (.cells cs.toArray T (0, 0)) ∧ FrOk n (L' b) a
theorem own_ax {B B' n : Nat} {T : TypeId} {L' : Nat → List (Nat × Value)} {cs : List Value} {a : Act} : OwnFrom B' (fun (_ : Unit) W => AxB n B T L' cs a W) := fun _ W W' row ⟨b, h1, h2, h3⟩ hg hr => by
  have hne : some b ≠ row := fun e => by
    obtain ⟨_, o, ho, hc⟩ := hr b e.symm
    rw [h2] at ho
    cases ho
    cases hc
  exact ⟨b, h1, (hg.block b (lt_of_some h2) hne).trans h2, h3⟩
theorem wpList_box {d s t z : Nat} {cs zs : List Value} {ty ty2 : TypeId} {pos pos2 : String} {af af2 : Array Edge} {a : Act} {w : World} (hz : zOf P t = some zs) (hs : sz P t = some z) (hd : Nat.blt d n = true) (f : FrOk n L a) (hx : lk s ((d, .pointer (some ⟨w.heap.size, 0, none⟩)) :: L) = some (.agg cs.toArray)) (hl : cs.length = z) (hzl : zs.length = z) (h1 : (cs.all fun u => u.oneCell') = true)
    (hQ : ∀ a', FrOk n ((d, .pointer (some ⟨w.heap.size, 0, none⟩)) :: L) a' → Q .normal a' ((w.alloc (.cells zs.toArray t)).setRow w.heap.size cs.toArray)) :
    wpList P ops Q [⟨some d, .alloc t, ty, pos, af, none⟩, ⟨none, .store t (.tmp d) (.tmp s), ty2, pos2, af2, none⟩] a w := by
  refine wpList_plain rfl fun K' hK' => ?_
  obtain ⟨v, g1, g2⟩ := Option.map_eq_some_iff.1 hz
  obtain ⟨i, g3, g4⟩ := Option.bind_eq_some_iff.1 g1
  have hr : (Instr.alloc t true (.tuple #[])).run P w = .ok (.pointer (some ⟨w.heap.size, 0, none⟩)) (w.alloc (.cells zs.toArray t)) := by
    rw [← g2, Array.toArray_toList]
    simp [Instr.alloc, zeroValue, typeInfo, g3, g4, newVar, newRow]
  unfold Oper.wp
  simp only [execOp, Sem.run_bind, hr, Result.andThen_ok, Sem.run_pure]
  refine hK' _ _ (wpList_plain rfl fun K'' hK'' => ?_)
  have f2 := f.put hd (.pointer (some ⟨w.heap.size, 0, none⟩))
  have e1 : ev ((d, Value.pointer (some ⟨w.heap.size, 0, none⟩)) :: L) (.tmp d) = some (.pointer (some ⟨w.heap.size, 0, none⟩)) := by
    show lk d _ = _
    simp [lk]
  have hst := run_storeV (P := P) (w := w.alloc (.cells zs.toArray t)) (o := 0) (v := .agg cs.toArray) (vs := cs) (cs := zs) (T := t) (run_sz hs _) rfl hl (fun u hu => List.all_eq_true.1 h1 u hu) (heap_alloc_new w _) (by omega)
  unfold Oper.wp
  simp only [execOp, f2.ev e1, f2.ev (x := .tmp s) hx, Sem.run_bind, hst, Result.andThen_ok, Sem.run_pure]
  rw [putL_all _ _ (by omega)]
  exact hK'' _ _ (hQ _ f2)
theorem wpList_assign {d : Nat} {x : Operand} {v : Value} {ty : TypeId} {pos : String} {af : Array Edge} {a : Act} {w : World} (f : FrOk n L a) (hx : ev L x = some v) (hd : Nat.blt d n = true) (hQ : ∀ a', FrOk n ((d, v) :: L) a' → Q .normal a' w) : wpList P ops Q [⟨some d, .assign x, ty, pos, af, none⟩] a w := by
  refine wpList_plain rfl fun K' hK' => ?_
  unfold Oper.wp
  simp only [execOp, f.ev hx, Sem.run_pure]
  exact hK' _ _ (hQ _ (f.put hd v))
/-! ### Behind the loop: a mark among the deferred calls -/
def TD (P : Program) (n : Nat) (d : List Deferred) (w0 : World) (L : List (Nat × Value)) (K : List Ent) (c : Code) (Q : Exit → Act → World → Prop) : Prop := ∀ a w, a.defers = d → FrOk n L { a with defers := [] } → KOk w0 K w → c.wp P Q a w
def TLD (P : Program) (n : Nat) (d : List Deferred) (w0 : World) (L : List (Nat × Value)) (K : List Ent) (ops : Array Oper) (l : List Oper) (Q : Exit → Act → World → Prop) : Prop := ∀ a w, a.defers = d → FrOk n L { a with defers := [] } → KOk w0 K w → wpList P ops Q l a w
def TED (n : Nat) (d : List Deferred) (w0 : World) (L : List (Nat × Value)) (K : List Ent) (e : Exit) (Q : Exit → Act → World → Prop) : Prop := ∀ a w, a.defers = d → FrOk n L { a with defers := [] } → KOk w0 K w → Q e a w
section
variable {d : List Deferred}
theorem TD.seq {x y : Code} (h : TD P n d w0 L K x (Exit.then (fun a w => y.wp P Q a w) Q)) : TD P n d w0 L K (.seq x y) Q := fun a w g f k => wp_seq (h a w g f k)
theorem TD.region {i : Nat} (h : TLD P n d w0 L K l.toArray l Q) : TD P n d w0 L K (.region i l.toArray false) Q := fun a w g f k => wp_region_lit (h a w g f k)
theorem TD.ret (h : TED n d w0 L K .ret Q) : TD P n d w0 L K .ret Q := fun a w g f k => wp_ret (h a w g f k)
theorem TED.next {y : Code} {Q' : Exit → Act → World → Prop} (h : TD P n d w0 L K y Q) : TED n d w0 L K .normal (Exit.then (fun a w => y.wp P Q a w) Q') := h
theorem TLD.nil (h : TED n d w0 L K .normal Q) : TLD P n d w0 L K ops [] Q := fun a w g f k => h a w g f k
theorem TLD.val {t : Nat} {op : Op} {ty : TypeId} {pos : String} {af : Array Edge} {v : Value} (h : OpV P n w0 L K op ty v) (hd : Nat.blt t n = true) (nx : TLD P n d w0 ((t, v) :: L) K ops l Q) : TLD P n d w0 L K ops (⟨some t, op, ty, pos, af, none⟩ :: l) Q := fun a w g f k => wpList_plain rfl fun K' hK' => by
  have h2 := h { a with defers := [] } w ⟨some t, op, ty, pos, af, none⟩ rfl rfl f k
  unfold Oper.wp
  rw [show a.eval = ({ a with defers := [] } : Act).eval from rfl, h2]
  exact hK' _ _ (nx _ _ g (f.put hd v) k)
theorem TLD.storeAll {t z b : Nat} {x y : Operand} {ty : TypeId} {pos : String} {af : Array Edge} {v : Value} {vs cs : List Value} {T : TypeId} {K1 : List Ent} (hx : ev L x = some (.pointer (some ⟨b, 0, none⟩))) (hy : ev L y = some v) (hz : sz P t = some z) (hv : v.cells = vs.toArray) (hl : vs.length = z) (h1 : (vs.all fun u => u.oneCell') = true)
    (p : Pick K (.blk b cs T) K1) (hf : cs.length = vs.length) (nx : TLD P n d w0 L (.blk b vs T :: K1) ops l Q) : TLD P n d w0 L K ops (⟨none, .store t x y, ty, pos, af, none⟩ :: l) Q := fun a w g f k => wpList_plain rfl fun K' hK' => by
  have k1 := k.pick p
  have e1 : a.eval x = _ := f.ev hx
  have e2 : a.eval y = _ := f.ev hy
  unfold Oper.wp
  simp only [execOp, e1, e2, Sem.run_bind, run_storeV (P := P) (o := 0) (run_sz hz w) hv hl (fun u hu => List.all_eq_true.1 h1 u hu) k1.all.1.2 (by omega), Result.andThen_ok, Sem.run_pure]
  rw [putL_all _ _ hf]
  exact hK' _ _ (nx _ _ g f k1.setRow)
end
/-- the function's end, behind the mark -/
theorem leave_mark {nf : Nat} {fn : Func} {R : Ending → World → Prop} {rs : List ResultVar} {vs : List Value} {D : Nat} {a : Act} {w : World} (hr : fn.results = rs.toArray) (f : FrOk n L { a with defers := [] }) (g : a.defers = [{ target := .collected D, args := #[] }]) (k : KOk w0 K w) (hB : Dom D K) (h0 : w0.heap.size ≤ D) (hD : w.heap[D]? = some (.deferred (some [])))
    (h : ResL P n w0 L K rs vs) (hR : ∀ w, KOk w0 K w → R (.returned (match vs with | [v] => v | _ => .tuple vs.toArray)) w) : LeavesInM Fence.wide nf P fn a.tmps R a.defers .returning w := by
  rw [g]
  refine ⟨by simp, .inl ⟨_, _, rfl, run_takeDeferred hD, ?_⟩⟩
  have k2 : KOk w0 K (w.putObj D (.deferred none)) := k.grown (row := some D) hB h0 (grownBy_putObj' w D _) (fun r e => by cases e; exact Nat.le_refl _)
  exact ⟨_, run_results (a := { a with defers := [] }) hr h f k2, hR _ k2⟩
theorem calls_TM {f : FuncId} {fn : Func} {c : Code} {vs : List Value} {L0 : List (Nat × Value)} {R : Ending → World → Prop} {w : World} (nf : Nat) (hf : P.funcs[f]? = some fn) (hb : fn.body = some c) (hn : fn.ntmps = n) (hl : Nat.ble vs.length n = true) (hL : argL 0 vs = L0)
    (hk : KOk w0 K w) (h : T P n w0 L0 K c (bodyPostM Fence.wide nf P fn R)) : Calls P f vs.toArray w R := by
  have hl' : vs.length ≤ n := Nat.le_of_ble_eq_true hl
  refine callsIn_wide.1 (callsIn_of_wp_marks (n := nf) hf hb trivial (wpIn_wide.2 (h _ w ⟨?_, rfl, fun t v ht => ?_⟩ hk)) rfl)
  · simp only [Array.size_append, List.size_toArray, Array.size_replicate, hn]; omega
  · subst hL
    obtain ⟨_, h2⟩ := lk_argL vs 0 t v ht
    rw [Nat.sub_zero] at h2
    have : t < vs.length := (List.getElem?_eq_some_iff.1 h2).1
    rw [Array.getElem?_append_left (by simpa using this)]
    simpa using h2
/-- .. and where there was no loop -/
theorem TE.retNM {nf : Nat} {fn : Func} {rs : List ResultVar} {vs : List Value} {R : Ending → World → Prop} (hr : fn.results = rs.toArray) (h : ResL P n w0 L K rs vs) (hR : ∀ w, KOk w0 K w → R (.returned (match vs with | [v] => v | _ => .tuple vs.toArray)) w) : TE n w0 L K .ret (bodyPostM Fence.wide nf P fn R) := fun a w f k => by
  show LeavesInM Fence.wide nf P fn a.tmps R a.defers .returning w
  rw [f.df]
  exact ⟨_, run_results hr h f k, hR w k⟩
end
/-! ### What an iterator reads -/
def FrW (ρ : Nat → Option Obj) (W : World) : Prop := ∀ b o, ρ b = some o → W.heap[b]? = some o
def Kp (ρ : Nat → Option Obj) (W W' : World) : Prop := FrW ρ W → FrW ρ W'
theorem Kp.t {ρ : Nat → Option Obj} {A B C : World} (h : Kp ρ A B) (k : Kp ρ B C) : Kp ρ A C := fun x => k (h x)
theorem Kp.b {ρ : Nat → Option Obj} {B : Nat} (hB : ∀ b o, ρ b = some o → b < B) (W : World) (l : Nat) (o o' : Obj) (hl : B ≤ l) (_ : W.heap[l]? = some o) (_ : o.isCells = false) (_ : o.isWalk = false) : Kp ρ W (W.putObj l o') := fun h b x hx => by
  have h1 := hB b x hx
  have h2 := h b x hx
  rw [(grownBy_putObj' W l o').block b (lt_of_some h2) (fun e => by cases e; omega)]
  exact h2
def upto {α : Type} (f : Nat → α) (k : Nat) : List α := (List.range k).map f
theorem upto_succ {α : Type} (f : Nat → α) (k : Nat) : upto f (k + 1) = upto f k ++ [f k] := by simp [upto, List.range_succ]
theorem upto_length {α : Type} (f : Nat → α) (k : Nat) : (upto f k).length = k := by simp [upto]
/-- backward: what comes -/
def bwF {α : Type} (d : α) (xs : List α) : Nat → Nat × α := fun k => (xs.length - 1 - k, (xs[xs.length - 1 - k]?).getD d)
theorem bw_rev {α : Type} (d : α) (xs : List α) (k : Nat) (hk : k ≤ xs.length) : (upto (bwF d xs) k).map (·.2) = xs.reverse.take k := by
  apply List.ext_getElem
  · simp [upto, hk]
  · intro i h1 h2
    have h3 : i < k := by simpa [upto] using h1
    have h4 : xs.length - 1 - i < xs.length := by omega
    simp [upto, bwF, h4]
theorem bw_done {α β : Type} {E : Nat → α} {N : Nat} {F : α → β} {zs : List β} {p : β → Bool} (hz : zs.length = N) (hF : ∀ k, k ≤ N → (upto E k).map F = zs.take k) (h : ∀ y ∈ upto E N, p (F y) = false) : zs.find? p = none := by
  have e := hF _ (Nat.le_refl _)
  rw [List.take_of_length_le (by omega)] at e
  rw [← e, List.find?_eq_none]
  intro y hy
  obtain ⟨q, hq, rfl⟩ := List.mem_map.1 hy
  rw [h q hq]
  decide
theorem bw_stop {α β : Type} {E : Nat → α} {N : Nat} {F : α → β} {zs : List β} {p : β → Bool} (hF : ∀ k, k ≤ N → (upto E k).map F = zs.take k) {k : Nat} (hk : k ≤ N) {pre : List α} {x : α} (hx : pre ++ [x] = upto E k) (h : ∀ y ∈ pre, p (F y) = false) (hp : p (F x) = true) : zs.find? p = some (F x) := by
  have e := hF k hk
  rw [← hx, List.map_append] at e
  have e2 : zs = (pre.map F ++ [F x]) ++ zs.drop k := by
    have h9 := (List.take_append_drop k zs).symm
    rwa [← e] at h9
  have h0 : (pre.map F).find? p = none := by
    rw [List.find?_eq_none]
    intro y hy
    obtain ⟨q, hq, rfl⟩ := List.mem_map.1 hy
    rw [h q hq]
    decide
  rw [e2, List.append_assoc, List.find?_append, h0, Option.none_or, List.cons_append, List.find?_cons, hp]
theorem bw_mem {α : Type} {d : α} {xs : List α} {k : Nat} (hk : k ≤ xs.length) {y : Nat × α} (h : y ∈ upto (bwF d xs) k) : xs[y.1]? = some y.2 := by
  simp only [upto, List.mem_map, List.mem_range] at h
  obtain ⟨i, hi, rfl⟩ := h
  have h4 : xs.length - 1 - i < xs.length := by omega
  simp [bwF, h4]
theorem zip_rev {α β : Type} {d : α} {e : β} {xs : List α} {zs : List β} (hl : zs.length = xs.length) (k : Nat) (hk : k ≤ xs.length) : (upto (bwF d xs) k).map (fun y => (y.2, (zs[y.1]?).getD e)) = (xs.zip zs).reverse.take k := by
  apply List.ext_getElem
  · simp [upto, hl, hk]
  · intro i h1 h2
    have h3 : i < k := by simpa [upto] using h1
    have h4 : xs.length - 1 - i < xs.length := by omega
    have h5 : xs.length - 1 - i < zs.length := by omega
    simp [upto, bwF, h4, h5, hl]
theorem FrW.cell {ρ : Nat → Option Obj} {W : World} (h : FrW ρ W) {b o : Nat} {v : Value} (ha : At ρ b o v) : W.cell? ⟨b, o, none⟩ = some v := at_cell ha h
end Go.Proofs.Ytaoepaonjeilgaa
