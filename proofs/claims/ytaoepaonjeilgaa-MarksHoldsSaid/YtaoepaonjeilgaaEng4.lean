/-
  Regions that draw their order. No condition; no program in sight.
-/
import Derived.Test.YtaoepaonjeilgaaEng3
import Derived.LoopN
namespace Go.Proofs.Ytaoepaonjeilgaa
open Go.RowKit
set_option linter.unusedSimpArgs false
set_option linter.unusedVariables false
section
variable {P : Program} {n : Nat} {w0 : World} {L : List (Nat × Value)} {K K' : List Ent} {Q : Exit → Act → World → Prop} {ops : Array Oper} {l : List Oper}

/-! ### A loop of some rounds, one by one -/
theorem T.rounds {c : Code} (m : Nat) (h : T P n w0 L K c (Exit.then (Code.rounds P c Q m) Q)) : T P n w0 L K (.loop c) Q := fun a w f k => wp_loop_rounds (m + 1) (h a w f k)
theorem TE.round {c : Code} {m : Nat} (h : T P n w0 L K c (Exit.then (Code.rounds P c Q m) Q)) : TE n w0 L K .normal (Exit.then (Code.rounds P c Q (m + 1)) Q) := fun a w f k => h a w f k
/-! ### A region that draws its order: all operations are quiet -/
def TQ (P : Program) (n : Nat) (w0 : World) (L : List (Nat × Value)) (K : List Ent) (ops : Array Oper) (l : List Oper) (Q : Exit → Act → World → Prop) : Prop :=
  ∀ a, FrOk n L a → wpQuiet P ops (KOk w0 K) (fun a' => ∀ w', KOk w0 K w' → Q .normal a' w') l a
theorem T.quiet {i : Nat} (hm : P.follows .mixedOrders = true) (hB : Region.lexB .any l.toArray = true) (h : TQ P n w0 L K l.toArray l Q) : T P n w0 L K (.region i l.toArray true) Q :=
  fun a w f k => wp_region_quiet (C := KOk w0 K) hm hB k.drew (by simpa using h a f)
theorem TQ.nil (h : TE n w0 L K .normal Q) : TQ P n w0 L K ops [] Q := fun a f w k => h a w f k
theorem TQ.val {d : Nat} {op : Op} {ty : TypeId} {pos : String} {af : Array Edge} {v : Value} (h : OpV P n w0 L K op ty v) (hd : Nat.blt d n = true) (nx : TQ P n w0 ((d, v) :: L) K ops l Q) :
    TQ P n w0 L K ops (⟨some d, op, ty, pos, af, none⟩ :: l) Q := fun a f => by
  unfold wpQuiet
  refine (if_pos (by rfl)).mpr ?_
  refine ⟨v, fun w k => ?_, nx _ (f.put hd v)⟩
  unfold Oper.quietAt
  rw [h a w _ rfl rfl f k]
  exact ⟨rfl, rfl⟩
theorem TQ.open {o : Oper} {j : Nat} {b : Bool} (hg : o.guard = some (j, b)) (h : gd L ops j = some b) (nx : TQ P n w0 L K ops ({ o with guard := none } :: l) Q) : TQ P n w0 L K ops (o :: l) Q := fun a f => by
  have h1 := nx a f
  have h2 := f.gd h
  unfold wpQuiet at h1 ⊢
  have e : Region.wanted o (yielded ops a.tmps) = true := by simp [Region.wanted, hg, h2]
  rw [e]
  exact h1
theorem TQ.shut {d : Nat} {op : Op} {ty : TypeId} {pos : String} {af : Array Edge} {j : Nat} {b : Bool} (h : gd L ops j = some (!b)) (hd : Nat.blt d n = true) (nx : TQ P n w0 ((d, undef) :: L) K ops l Q) :
    TQ P n w0 L K ops (⟨some d, op, ty, pos, af, some (j, b)⟩ :: l) Q := fun a f => by
  have h2 := f.gd h
  unfold wpQuiet
  have : Region.wanted ⟨some d, op, ty, pos, af, some (j, b)⟩ (yielded ops a.tmps) = false := by
    simp only [Region.wanted, h2]; cases b <;> rfl
  rw [this]
  exact nx _ (f.put hd undef)
theorem TQ.shutU {d : Nat} {op : Op} {ty : TypeId} {pos : String} {af : Array Edge} {j : Nat} {b : Bool} (h : gdu L ops j = true) (hd : Nat.blt d n = true) (nx : TQ P n w0 ((d, undef) :: L) K ops l Q) :
    TQ P n w0 L K ops (⟨some d, op, ty, pos, af, some (j, b)⟩ :: l) Q := fun a f => by
  have h2 := f.gdu h
  unfold wpQuiet
  have : Region.wanted ⟨some d, op, ty, pos, af, some (j, b)⟩ (yielded ops a.tmps) = false := by
    simp only [Region.wanted, h2]; rfl
  rw [this]
  exact nx _ (f.put hd undef)
theorem TQ.call {d g : Nat} {x : Operand} {xs : List Operand} {vs : List Value} {ts : Array TypeId} {ty : TypeId} {pos : String} {af : Array Edge} {v : Value} (hx : ev L x = some (.func (.func g) #[] #[])) (hg : isGo P g = true) (hv : evs L xs = some vs)
    (hc : ∀ w, KOk w0 K w → Calls P g vs.toArray w (fun e w' => e = .returned v ∧ Below w.heap.size w w')) (hd : Nat.blt d n = true) (nx : TQ P n w0 ((d, v) :: L) K ops l Q) :
    TQ P n w0 L K ops (⟨some d, .call ⟨.value x, xs.toArray, ts⟩, ty, pos, af, none⟩ :: l) Q := fun a f => by
  unfold wpQuiet
  refine (if_pos (by rfl)).mpr ?_
  refine ⟨v, fun w k => ?_, nx _ (f.put hd v)⟩
  unfold Oper.quietAt
  rw [run_opCall (ty := ty) f rfl hx hg hv w]
  exact ⟨rfl, Calls.mono (hc w k) fun e w' ⟨he, hb⟩ => ⟨he, k.below hb⟩⟩
theorem TQ.part {t : Nat} {b : Bool} (h : lk t L = some (.bool b)) (h1 : b = true → TQ P n w0 ((t, .bool true) :: L) K ops l Q) (h2 : b = false → TQ P n w0 ((t, .bool false) :: L) K ops l Q) : TQ P n w0 L K ops l Q := by
  cases b
  · exact fun a f => h2 rfl a (f.again h)
  · exact fun a f => h1 rfl a (f.again h)
theorem TQ.said {t : Nat} {v u : Value} (h : lk t L = some v) (e : v = u) (nx : TQ P n w0 ((t, u) :: L) K ops l Q) : TQ P n w0 L K ops l Q := by
  subst e
  exact fun a f => nx a (f.again h)
theorem TQ.sub {L' : List (Nat × Value)} (s : Sub L L') (h : TQ P n w0 L' K ops l Q) : TQ P n w0 L K ops l Q := fun a f => h a (f.sub s)

/-! ### A region that draws its order: operations that are no quiet ones among them -/
/-- Whatever order is picked from here on; S0 holds behind every operation, and an operation that is no barrier keeps S. -/
def wpAnyB (P : Program) (md : Region.Mode) (ops : Array Oper) (Q : Exit → Act → World → Prop) (S0 S : World → Prop) (bar : Nat → Bool) : Nat → Array Bool → Act → World → Prop
  | 0, listed, a, w => Region.ready md ops listed = [] ∧ Q .normal a w
  | fuel + 1, listed, a, w =>
    (Region.ready md ops listed = [] → Q .normal a w) ∧
    ∀ i ∈ Region.ready md ops listed, wpOp P ops Q i (fun a' w' => (S0 w' ∧ (bar i = true ∨ (S w → S w'))) ∧ wpAnyB P md ops Q S0 S bar fuel (listed.setIfInBounds i true) a' w') a w
section
variable {md : Region.Mode} {S0 S : World → Prop} {bar : Nat → Bool}
theorem wpAny_of_bar : ∀ (fuel : Nat) (listed : Array Bool) (a : Act) (w : World), wpAnyB P md ops Q S0 S bar fuel listed a w → wpAny P md ops Q fuel listed a w
  | 0, _, _, _, h => h
  | fuel + 1, _, _, _, h => ⟨h.1, fun i hi => wpOp_mono (fun a' w' h' => wpAny_of_bar fuel _ a' w' h'.2) (h.2 i hi)⟩
theorem free_set {i j : Nat} {oi : Oper} {listed : Array Bool} (hjun : listed.getD j true = false)
    (hfree : ∀ j oj, ops[j]? = some oj → j ≠ i → listed.getD j true = false → (∀ e ∈ oj.after, Region.binds md e = true → e.on ≠ i) → oi.apart ops oj = true) :
    ∀ k ok, ops[k]? = some ok → k ≠ i → (listed.setIfInBounds j true).getD k true = false → (∀ e ∈ ok.after, Region.binds md e = true → e.on ≠ i) → oi.apart ops ok = true := fun k ok hk hki hun hno => by
  refine hfree k ok hk hki ?_ hno
  by_cases hjk : j = k
  · subst hjk; exact hjun
  · rw [getD_set_ne true hjk] at hun; exact hun
theorem not_waits {i : Nat} {oj : Oper} {listed : Array Bool} (hr : i ∈ Region.ready md ops listed) (hall : ∀ e ∈ oj.after, Region.binds md e = true → listed.getD e.on false = true) : ∀ e ∈ oj.after, Region.binds md e = true → e.on ≠ i := fun e he hb heq => by
  have h1 := hall e he hb
  have h0 := (mem_ready.1 hr).1
  rw [heq] at h1
  rcases Nat.lt_or_ge i listed.size with h' | h'
  · simp [h'] at h0 h1; rw [h0] at h1; cases h1
  · simp [Array.getElem?_eq_none h'] at h1
theorem wpAnyB_first {i : Nat} {oi : Oper} {v : Value} (hi : ops[i]? = some oi) (hsel : ∀ (j : Nat) (o : Oper) cs b, ops[j]? = some o → o.op ≠ .select cs b)
    (hQ : ∀ c a w, Q (.panic c) (a.put oi.dst v) w → Q (.panic c) a w) :
    ∀ (fuel : Nat) (listed : Array Bool) (a : Act) (w : World),
      (∀ j oj, ops[j]? = some oj → j ≠ i → listed.getD j true = false → (∀ e ∈ oj.after, Region.binds md e = true → e.on ≠ i) → oi.apart ops oj = true) →
      (∀ j oj, ops[j]? = some oj → j ≠ i → listed.getD j true = false → bar j = true → ∃ e ∈ oj.after, Region.binds md e = true ∧ e.on = i) →
      i ∈ Region.ready md ops listed → YieldsIf P ops S oi v a → S0 w → S w →
      wpAnyB P md ops Q S0 S bar fuel (listed.setIfInBounds i true) (a.put oi.dst v) w → wpAnyB P md ops Q S0 S bar (fuel + 1) listed a w := by
  intro fuel
  induction fuel with
  | zero =>
    intro listed a w _ _ hr hy h0 hS H
    refine ⟨fun h => (by rw [h] at hr; cases hr), fun j hj => ?_⟩
    by_cases hji : j = i
    · subst hji; exact hy.wpOp hi hS ⟨⟨h0, .inr id⟩, H⟩
    · have := ready_mono hj hji
      rw [H.1] at this
      cases this
  | succ fuel ih =>
    intro listed a w hfree hbar hr hy h0 hS H
    refine ⟨fun h => (by rw [h] at hr; cases hr), fun j hj => ?_⟩
    by_cases hji : j = i
    · subst hji; exact hy.wpOp hi hS ⟨⟨h0, .inr id⟩, H⟩
    · have h1 := H.2 j (ready_mono hj hji)
      obtain ⟨hjun, oj, hoj, hall⟩ := mem_ready.1 hj
      have hnot := not_waits hr hall
      have h2 := wpOp_putIf hoj (hfree j oj hoj hji hjun hnot) (fun cs b => hsel i oi cs b hi) (fun cs b => hsel j oj cs b hoj) hQ hy h1
      have hbar' : ∀ k ok, ops[k]? = some ok → k ≠ i → (listed.setIfInBounds j true).getD k true = false → bar k = true → ∃ e ∈ ok.after, Region.binds md e = true ∧ e.on = i := fun k ok hk hki hun hb => by
        refine hbar k ok hk hki ?_ hb
        by_cases hjk : j = k
        · subst hjk; exact hjun
        · rw [getD_set_ne true hjk] at hun; exact hun
      refine wpOp_mono (fun a' w' h3 => ?_) h2
      have hS' : S w' := by
        rcases h3.2.1.2 with hb | hS'
        · obtain ⟨e, he, hbd, hon⟩ := hbar j oj hoj hji hjun hb
          exact absurd hon (hnot e he hbd)
        · exact hS' hS
      refine ⟨h3.2.1, ih (listed.setIfInBounds j true) a' w' (free_set hjun hfree) hbar' (ready_mono hr (Ne.symm hji)) h3.1 h3.2.1.1 hS' ?_⟩
      rw [Array.setIfInBounds_comm _ _ hji]
      exact h3.2.2
/-- an operation that looks at no more than S0 may be taken first, whatever the others do -/
theorem wpAnyB_firstP {i : Nat} {oi : Oper} {v : Value} (hi : ops[i]? = some oi) (hsel : ∀ (j : Nat) (o : Oper) cs b, ops[j]? = some o → o.op ≠ .select cs b)
    (hQ : ∀ c a w, Q (.panic c) (a.put oi.dst v) w → Q (.panic c) a w) :
    ∀ (fuel : Nat) (listed : Array Bool) (a : Act) (w : World),
      (∀ j oj, ops[j]? = some oj → j ≠ i → listed.getD j true = false → (∀ e ∈ oj.after, Region.binds md e = true → e.on ≠ i) → oi.apart ops oj = true) →
      i ∈ Region.ready md ops listed → YieldsIf P ops S0 oi v a → S0 w →
      wpAnyB P md ops Q S0 S bar fuel (listed.setIfInBounds i true) (a.put oi.dst v) w → wpAnyB P md ops Q S0 S bar (fuel + 1) listed a w := by
  intro fuel
  induction fuel with
  | zero =>
    intro listed a w _ hr hy h0 H
    refine ⟨fun h => (by rw [h] at hr; cases hr), fun j hj => ?_⟩
    by_cases hji : j = i
    · subst hji; exact hy.wpOp hi h0 ⟨⟨h0, .inr id⟩, H⟩
    · have := ready_mono hj hji
      rw [H.1] at this
      cases this
  | succ fuel ih =>
    intro listed a w hfree hr hy h0 H
    refine ⟨fun h => (by rw [h] at hr; cases hr), fun j hj => ?_⟩
    by_cases hji : j = i
    · subst hji; exact hy.wpOp hi h0 ⟨⟨h0, .inr id⟩, H⟩
    · have h1 := H.2 j (ready_mono hj hji)
      obtain ⟨hjun, oj, hoj, hall⟩ := mem_ready.1 hj
      have hnot := not_waits hr hall
      have h2 := wpOp_putIf hoj (hfree j oj hoj hji hjun hnot) (fun cs b => hsel i oi cs b hi) (fun cs b => hsel j oj cs b hoj) hQ hy h1
      refine wpOp_mono (fun a' w' h3 => ?_) h2
      refine ⟨h3.2.1, ih (listed.setIfInBounds j true) a' w' (free_set hjun hfree) (ready_mono hr (Ne.symm hji)) h3.1 h3.2.1.1 ?_⟩
      rw [Array.setIfInBounds_comm _ _ hji]
      exact h3.2.2
end
/-- every barrier that has not come up waits for operation i -/
def barB (ops : Array Oper) (bars : List Nat) (listed : Array Bool) (i : Nat) : Bool :=
  bars.all fun j => j == i || (listed.getD j true || match ops[j]? with | some o => o.after.any fun e => Region.binds .any e && e.on == i | none => true)
theorem barB_spec {bars : List Nat} {listed : Array Bool} {i : Nat} (h : barB ops bars listed i = true) :
    ∀ j oj, ops[j]? = some oj → j ≠ i → listed.getD j true = false → bars.contains j = true → ∃ e ∈ oj.after, Region.binds .any e = true ∧ e.on = i := fun j oj hj hji hl hb => by
  have h1 := List.all_eq_true.1 h j (by simpa using hb)
  rw [hl, hj] at h1
  have : (j == i) = false := by simpa using hji
  rw [this] at h1
  simp only [Bool.false_or] at h1
  obtain ⟨e, he, h2⟩ := Array.any_eq_true'.1 h1
  simp only [Bool.and_eq_true, beq_iff_eq] at h2
  exact ⟨e, he, h2.1, h2.2⟩
/-- a panic's post does not look at the temporaries -/
def PanicOk (Q : Exit → Act → World → Prop) : Prop := ∀ c a a' w, a.defers = a'.defers → Q (.panic c) a w → Q (.panic c) a' w
theorem PanicOk.body {fn : Func} {R : Ending → World → Prop} : PanicOk (bodyPost P fn R) := fun c a a' w h q => ⟨h ▸ q.1, q.2⟩
theorem PanicOk.next {N : Act → World → Prop} (h : PanicOk Q) : PanicOk (Exit.then N Q) := fun c a a' w e q => h c a a' w e q
theorem PanicOk.block {i : Nat} (h : PanicOk Q) : PanicOk (Exit.inBlock i Q) := fun c a a' w e q => h c a a' w e q
def TA (P : Program) (n : Nat) (w0 : World) (L : List (Nat × Value)) (K : List Ent) (ops : Array Oper) (KS : List Ent) (bars : List Nat) (fuel : Nat) (listed : Array Bool) (Q : Exit → Act → World → Prop) : Prop :=
  ∀ a w, FrOk n L a → KOk w0 K w → wpAnyB P .any ops Q (KOk w0 []) (KOk w0 KS) (fun j => bars.contains j) fuel listed a w
theorem KOk.any {w : World} (k : KOk w0 K w) : KOk w0 [] w := ⟨k.bel, trivial⟩
section
variable {KS : List Ent} {bars : List Nat} {fuel : Nat} {listed : Array Bool}
theorem T.any {i m : Nat} {ls : Array Bool} (KS : List Ent) (bars : List Nat) (hm : P.follows .mixedOrders = true) (hl : l.length = m) (hls : Array.replicate m false = ls) (h : TA P n w0 L K l.toArray KS bars m ls Q) : T P n w0 L K (.region i l.toArray true) Q :=
  fun a w f k => by
    refine wp_region_any hm (wpAny_of_bar (S0 := KOk w0 []) (S := KOk w0 KS) (bar := fun j => bars.contains j) _ _ _ _ ?_)
    subst hls hl
    simpa using h a _ f k.drew
/-- an operation with its guard, if any, met -/
def met (L : List (Nat × Value)) (ops : Array Oper) (o : Oper) : Bool := match o.guard with
  | none => true
  | some (j, b) => match gd L ops j with
    | some c => c == b
    | none => false
theorem FrOk.met {a : Act} (f : FrOk n L a) {o : Oper} (h : met L ops o = true) : Region.wanted o (yielded ops a.tmps) = true := by
  unfold Go.Proofs.Ytaoepaonjeilgaa.met at h
  unfold Region.wanted
  split at h
  · rename_i hg; simp [hg]
  · rename_i j b hg
    split at h
    · rename_i c hc
      have : c = b := by simpa using h
      subst this
      simp [hg, f.gd hc]
    · cases h
theorem TA.take {i d : Nat} {o : Oper} {op : Op} {ty : TypeId} {v : Value} {ls : Array Bool} (hi : ops[i]? = some o) (ho : o.op = op) (hty : o.type = ty) (hdst : o.dst = some d) (hg : met L ops o = true) (hs : Region.noSelect ops = true) (hf : Region.free .any ops listed i = true) (hr : (Region.ready .any ops listed).contains i = true)
    (hb : barB ops bars listed i = true) (hQ : PanicOk Q) (pm : Perm K KS) (h : OpV P n w0 L KS op ty v) (hd : Nat.blt d n = true) (hls : listed.setIfInBounds i true = ls) (nx : TA P n w0 ((d, v) :: L) K ops KS bars fuel ls Q) : TA P n w0 L K ops KS bars (fuel + 1) listed Q := fun a w f k => by
  subst hls
  refine wpAnyB_first hi (Region.noSelect_spec hs) (fun c a w q => hQ c (a.put o.dst _) a w (by rw [hdst]; rfl) q) fuel listed a w (Region.free_spec hi hf) (barB_spec hb) (by simpa using hr) (.inl ⟨f.met hg, fun w' hw' => h a w' _ ho hty f hw'⟩) k.any (pm.kle w k) (by rw [hdst]; exact nx _ w (f.put hd v) k)
theorem TA.takeP {i d : Nat} {o : Oper} {op : Op} {ty : TypeId} {v : Value} {ls : Array Bool} (hi : ops[i]? = some o) (ho : o.op = op) (hty : o.type = ty) (hdst : o.dst = some d) (hg : met L ops o = true) (hs : Region.noSelect ops = true) (hf : Region.free .any ops listed i = true) (hr : (Region.ready .any ops listed).contains i = true)
    (hQ : PanicOk Q) (h : OpV P n w0 L [] op ty v) (hd : Nat.blt d n = true) (hls : listed.setIfInBounds i true = ls) (nx : TA P n w0 ((d, v) :: L) K ops KS bars fuel ls Q) : TA P n w0 L K ops KS bars (fuel + 1) listed Q := fun a w f k => by
  subst hls
  refine wpAnyB_firstP hi (Region.noSelect_spec hs) (fun c a w q => hQ c (a.put o.dst _) a w (by rw [hdst]; rfl) q) fuel listed a w (Region.free_spec hi hf) (by simpa using hr) (.inl ⟨f.met hg, fun w' hw' => h a w' _ ho hty f hw'⟩) k.any (by rw [hdst]; exact nx _ w (f.put hd v) k)
theorem TA.skip {i d j : Nat} {b : Bool} {op : Op} {ty : TypeId} {pos : String} {af : Array Edge} {ls : Array Bool} (hi : ops[i]? = some ⟨some d, op, ty, pos, af, some (j, b)⟩) (hg : gd L ops j = some (!b)) (hs : Region.noSelect ops = true) (hf : Region.free .any ops listed i = true) (hr : (Region.ready .any ops listed).contains i = true)
    (hQ : PanicOk Q) (hd : Nat.blt d n = true) (hls : listed.setIfInBounds i true = ls) (nx : TA P n w0 ((d, undef) :: L) K ops KS bars fuel ls Q) : TA P n w0 L K ops KS bars (fuel + 1) listed Q := fun a w f k => by
  subst hls
  refine wpAnyB_firstP hi (Region.noSelect_spec hs) (fun c a w q => hQ c (a.put (some d) _) a w rfl q) fuel listed a w (Region.free_spec hi hf) (by simpa using hr) (.inr ⟨?_, rfl⟩) k.any (nx _ w (f.put hd undef) k)
  simp only [Region.wanted, f.gd hg]; cases b <;> rfl
/-- what stands behind an operation that is carried out in its turn -/
def NA (P : Program) (w0 : World) (ops : Array Oper) (KS : List Ent) (bars : List Nat) (fuel : Nat) (ls : Array Bool) (Q : Exit → Act → World → Prop) (i : Nat) (w1 : World) : Act → World → Prop :=
  fun a w => (KOk w0 [] w ∧ (bars.contains i = true ∨ (KOk w0 KS w1 → KOk w0 KS w))) ∧ wpAnyB P .any ops Q (KOk w0 []) (KOk w0 KS) (fun j => bars.contains j) fuel ls a w
theorem wpOp_of_TL {i : Nat} {o : Oper} {N : Act → World → Prop} (hi : ops[i]? = some o) (h : TL P n w0 L K ops [o] (Exit.then N Q)) {a : Act} {w : World} (f : FrOk n L a) (k : KOk w0 K w) : wpOp P ops Q i N a w := by
  have h1 := h a w f k
  unfold wpOp
  rw [hi]
  unfold wpList at h1
  exact h1
theorem TA.one {i : Nat} {o : Oper} {ls : Array Bool} (hr : Region.ready .any ops listed = [i]) (hi : ops[i]? = some o) (hls : listed.setIfInBounds i true = ls) (h : ∀ w1, TL P n w0 L K ops [o] (Exit.then (NA P w0 ops KS bars fuel ls Q i w1) Q)) : TA P n w0 L K ops KS bars (fuel + 1) listed Q := fun a w f k => by
  subst hls
  refine ⟨fun h0 => (by rw [hr] at h0; cases h0), fun j hj => ?_⟩
  rw [hr] at hj
  obtain rfl := List.mem_singleton.1 hj
  exact wpOp_of_TL hi (h w) f k
theorem TA.two {i i' : Nat} {o o' : Oper} {ls ls' : Array Bool} (hr : Region.ready .any ops listed = [i, i']) (hi : ops[i]? = some o) (hi' : ops[i']? = some o') (hls : listed.setIfInBounds i true = ls) (hls' : listed.setIfInBounds i' true = ls') (h : ∀ w1, TL P n w0 L K ops [o] (Exit.then (NA P w0 ops KS bars fuel ls Q i w1) Q))
    (h' : ∀ w1, TL P n w0 L K ops [o'] (Exit.then (NA P w0 ops KS bars fuel ls' Q i' w1) Q)) : TA P n w0 L K ops KS bars (fuel + 1) listed Q := fun a w f k => by
  subst hls hls'
  refine ⟨fun h0 => (by rw [hr] at h0; cases h0), fun j hj => ?_⟩
  rw [hr] at hj
  rcases List.mem_cons.1 hj with rfl | hj
  · exact wpOp_of_TL hi (h w) f k
  · obtain rfl := List.mem_singleton.1 hj
    exact wpOp_of_TL hi' (h' w) f k
theorem TA.cont {i : Nat} {ls : Array Bool} {w1 : World} {Q' : Exit → Act → World → Prop} (pm : Perm K KS) (h : TA P n w0 L K ops KS bars fuel ls Q) : TE n w0 L K .normal (Exit.then (NA P w0 ops KS bars fuel ls Q i w1) Q') := fun a w f k => ⟨⟨k.any, .inr fun _ => pm.kle w k⟩, h a w f k⟩
theorem TA.bar {i : Nat} {ls : Array Bool} {w1 : World} {Q' : Exit → Act → World → Prop} (hb : bars.contains i = true) (h : TA P n w0 L K ops KS bars fuel ls Q) : TE n w0 L K .normal (Exit.then (NA P w0 ops KS bars fuel ls Q i w1) Q') := fun a w f k => ⟨⟨k.any, .inl hb⟩, h a w f k⟩
theorem TA.done (hr : Region.ready .any ops listed = []) (h : TE n w0 L K .normal Q) : TA P n w0 L K ops KS bars fuel listed Q := fun a w f k => by
  cases fuel with
  | zero => exact ⟨hr, h a w f k⟩
  | succ m => exact ⟨fun _ => h a w f k, by rw [hr]; simp⟩
theorem TA.kle (h : Kle w0 K K') (hT : TA P n w0 L K' ops KS bars fuel listed Q) : TA P n w0 L K ops KS bars fuel listed Q := fun a w f k => hT a w f (h w k)
theorem TA.said {t : Nat} {v u : Value} (h : lk t L = some v) (e : v = u) (nx : TA P n w0 ((t, u) :: L) K ops KS bars fuel listed Q) : TA P n w0 L K ops KS bars fuel listed Q := by
  subst e
  exact fun a w f k => nx a w (f.again h) k
end
end
end Go.Proofs.Ytaoepaonjeilgaa
