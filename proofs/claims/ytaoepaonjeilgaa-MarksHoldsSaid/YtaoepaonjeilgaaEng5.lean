/-
  More on calls and on memory. No condition; no program in sight.
-/
import Derived.Test.YtaoepaonjeilgaaEng4
namespace Go.Proofs.Ytaoepaonjeilgaa
open Go.RowKit
set_option linter.unusedSimpArgs false
set_option linter.unusedVariables false
section
variable {P : Program} {n : Nat} {w0 : World} {L : List (Nat × Value)} {K : List Ent} {Q : Exit → Act → World → Prop} {ops : Array Oper} {l : List Oper}
/-- a call that changes what is known of memory -/
theorem TL.callk {d g : Nat} {x : Operand} {xs : List Operand} {vs : List Value} {ts : Array TypeId} {ty : TypeId} {pos : String} {af : Array Edge} {v : Value} {K2 : List Ent} (hx : ev L x = some (.func (.func g) #[] #[])) (hg : isGo P g = true) (hv : evs L xs = some vs)
    (hc : ∀ w, KOk w0 K w → Calls P g vs.toArray w (fun e w' => e = .returned v ∧ KOk w0 K2 w')) (hd : Nat.blt d n = true) (nx : TL P n w0 ((d, v) :: L) K2 ops l Q) :
    TL P n w0 L K ops (⟨some d, .call ⟨.value x, xs.toArray, ts⟩, ty, pos, af, none⟩ :: l) Q := fun a w f k => wpList_plain rfl fun K' hK' => by
  unfold Oper.wp
  rw [run_opCall (ty := ty) f rfl hx hg hv w]
  refine Calls.mono (hc w k) fun e w' ⟨he, hb⟩ => ?_
  subst he
  exact hK' _ _ (nx _ _ (f.put hd v) hb)
/-! ### What is known of memory, for some contents -/
theorem TL.ex {ι : Type} {R : ι → Prop} {K2 : ι → List Ent} (h : ∀ w, KOk w0 K w → ∃ i, R i ∧ KOk w0 (K2 i) w) (nx : ∀ i, R i → TL P n w0 L (K2 i) ops l Q) : TL P n w0 L K ops l Q := fun a w f k => by
  obtain ⟨i, r, k2⟩ := h w k
  exact nx i r a w f k2
theorem T.ex {ι : Type} {c : Code} {R : ι → Prop} {K2 : ι → List Ent} (h : ∀ w, KOk w0 K w → ∃ i, R i ∧ KOk w0 (K2 i) w) (nx : ∀ i, R i → T P n w0 L (K2 i) c Q) : T P n w0 L K c Q := fun a w f k => by
  obtain ⟨i, r, k2⟩ := h w k
  exact nx i r a w f k2
/-- m elements of z cells each, in memory that is a row's -/
def RowOk (σ : Nat → Option Obj) (A : Option Addr) (m c z : Nat) (xs : List Value) : Prop :=
  xs.length = m * z ∧ m ≤ c ∧ c ≤ 9223372036854775807 ∧ (A = none → c = 0) ∧ (0 < m → ∃ b, A = some ⟨b, 0, none⟩ ∧ Ats σ b 0 xs)
theorem KOk.rowOwn {w : World} {e z m c : Nat} {A : Option Addr} {xs : List Value} (k : KOk w0 (.row e z A m c xs :: K) w) : ∃ σ, RowOk σ A m c z xs ∧ KOk w0 (.own σ :: K) w := by
  obtain ⟨h1, h2⟩ := k.all.1
  rcases h2 with ⟨hv, hm⟩ | ⟨g, cap, cur, hv, hb, hg, hc, hcap, hsz, htk⟩
  · cases hv
    exact ⟨fun _ => Option.none, ⟨h1, by omega, by omega, fun _ => rfl, fun h => absurd h (by omega)⟩, k.bel, fun b o h => (by cases h), fun e' _ _ x hx => absurd rfl hx, k.all.2.2⟩
  · cases hv
    refine ⟨σ1 g (.cells cur e (0, 0)), ⟨h1, hc, by simpa [maxLen] using hcap, fun h => (by cases h), fun _ => ⟨g, rfl, fun j v hj => ⟨cur, e, (0, 0), σ1_self _ _, ?_⟩⟩⟩, k.bel, fun b o h => ?_, fun e' he' hm x hx => k.all.2.1 e' he' rfl x ?_, k.all.2.2⟩
    · rw [Nat.zero_add]
      rw [← htk, List.getElem?_take] at hj
      split at hj
      · simpa using hj
      · cases hj
    · obtain ⟨rfl, rfl⟩ := σ1_some h
      exact ⟨hb, hg⟩
    · cases hs : σ1 g (.cells cur e (0, 0)) x with
      | none => exact absurd hs hx
      | some o =>
        obtain ⟨rfl, rfl⟩ := σ1_some hs
        rfl
theorem Ats.mono {σ τ : Nat → Option Obj} {b o : Nat} {cs : List Value} (h : Ats σ b o cs) (hs : ∀ b o, σ b = some o → τ b = some o) : Ats τ b o cs := fun j v hj => by
  obtain ⟨X, T, f, h1, h2⟩ := h j v hj
  exact ⟨X, T, f, hs _ _ h1, h2⟩
theorem RowOk.mono {σ τ : Nat → Option Obj} {A : Option Addr} {m c z : Nat} {xs : List Value} (h : RowOk σ A m c z xs) (hs : ∀ b o, σ b = some o → τ b = some o) : RowOk τ A m c z xs :=
  ⟨h.1, h.2.1, h.2.2.1, h.2.2.2.1, fun hm => by obtain ⟨b, e, ha⟩ := h.2.2.2.2 hm; exact ⟨b, e, ha.mono hs⟩⟩
theorem σ2_l {σ τ : Nat → Option Obj} (b : Nat) (o : Obj) (h : σ b = some o) : σ2 σ τ b = some o := by simp [σ2, h]
theorem σ2_r {σ τ : Nat → Option Obj} (hd : ∀ x, σ x ≠ none → ¬ τ x ≠ none) (b : Nat) (o : Obj) (h : τ b = some o) : σ2 σ τ b = some o := by
  cases hs : σ b with
  | none => simp [σ2, hs, h]
  | some q => exact absurd (by rw [h]; simp) (hd b (by rw [hs]; simp))
theorem KOk.own2 {w : World} {σ τ : Nat → Option Obj} (k : KOk w0 (.own σ :: .own τ :: K) w) : ∃ ρ, ((∀ b o, σ b = some o → ρ b = some o) ∧ ∀ b o, τ b = some o → ρ b = some o) ∧ KOk w0 (.own ρ :: K) w :=
  ⟨σ2 σ τ, ⟨σ2_l, σ2_r fun x hx hy => k.all.2.1 (.own τ) (by simp) rfl x hx hy⟩, Kle.own2 w k⟩
/-- a row becomes memory of the call's own, with what is already its own -/
theorem KOk.rowInto {w : World} {e z m c : Nat} {A : Option Addr} {xs : List Value} {τ : Nat → Option Obj} {K1 K2 : List Ent} (k : KOk w0 K w) (p : Pick K (.row e z A m c xs) K1) (p2 : Pick K1 (.own τ) K2) :
    ∃ ρ, (RowOk ρ A m c z xs ∧ ∀ b o, τ b = some o → ρ b = some o) ∧ KOk w0 (.own ρ :: K2) w := by
  obtain ⟨σ, h1, k1⟩ := (k.pick p).rowOwn
  obtain ⟨ρ, h2, k2⟩ := (k1.pick (.there p2)).pick (.there .here) |>.own2
  exact ⟨ρ, ⟨h1.mono h2.1, h2.2⟩, k2⟩
/-- what a call made for itself is new to its caller -/
theorem KOk.add {w w1 : World} {σ : Nat → Option Obj} {K' : List Ent} (k : KOk w0 K w) (k2 : KOk w (.own σ :: K') w1) : KOk w0 (.own σ :: K) w1 := by
  refine ⟨k.bel.trans (k2.bel.mono k.bel.size), fun b o h => ⟨Nat.le_trans k.bel.size (k2.all.1 b o h).1, (k2.all.1 b o h).2⟩, fun e' he' _ x hx hy => ?_, (k.below k2.bel).all⟩
  have h1 := k.all.lt e' he' x hy
  have h2 := Ent.ge k2.all.1 rfl x hx
  omega
/-! ### One block of the call's own, by itself -/
def upd (σ : Nat → Option Obj) (b : Nat) (o : Obj) : Nat → Option Obj := fun x => if x = b then some o else σ x
def del (σ : Nat → Option Obj) (b : Nat) : Nat → Option Obj := fun x => if x = b then Option.none else σ x
theorem upd_self (σ : Nat → Option Obj) (b : Nat) (o : Obj) : upd σ b o b = some o := by simp [upd]
theorem upd_ne (σ : Nat → Option Obj) {b x : Nat} (o : Obj) (h : x ≠ b) : upd σ b o x = σ x := by simp [upd, h]
theorem del_ne (σ : Nat → Option Obj) {b x : Nat} (h : x ≠ b) : del σ b x = σ x := by simp [del, h]
theorem Kle.carve {σ : Nat → Option Obj} {b : Nat} {cs : List Value} {T : TypeId} (h : σ b = some (.cells cs.toArray T (0, 0))) : Kle w0 (.own σ :: K) (.blk b cs T :: .own (del σ b) :: K) := fun w k => by
  have hd : ∀ x o, del σ b x = some o → x ≠ b ∧ σ x = some o := fun x o hx => by
    by_cases e : x = b
    · simp [del, e] at hx
    · exact ⟨e, by rwa [del_ne σ e] at hx⟩
  have hdn : ∀ x, del σ b x ≠ Option.none → x ≠ b ∧ σ x ≠ Option.none := fun x hx => by
    cases hs : del σ b x with
    | none => exact absurd hs hx
    | some o => exact ⟨(hd x o hs).1, by rw [(hd x o hs).2]; simp⟩
  refine ⟨k.bel, k.all.1 b _ h, fun e' he' _ x hx hy => ?_, fun x o hx => k.all.1 x o (hd x o hx).2, fun e' he' _ x hx hy => ?_, k.all.2.2⟩
  · cases hx
    rcases List.mem_cons.1 he' with rfl | he'
    · exact (hdn b hy).1 rfl
    · exact k.all.2.1 e' he' rfl b (by show σ b ≠ Option.none; rw [h]; simp) hy
  · exact k.all.2.1 e' he' rfl x (hdn x hx).2 hy
theorem Kle.uncarve {τ : Nat → Option Obj} {b : Nat} {cs : List Value} {T : TypeId} : Kle w0 (.blk b cs T :: .own τ :: K) (.own (upd τ b (.cells cs.toArray T (0, 0))) :: K) := fun w k => by
  refine ⟨k.bel, fun x o hx => ?_, fun e' he' _ x hx hy => ?_, k.all.2.2.2.2⟩
  · by_cases e : x = b
    · subst e
      rw [upd_self] at hx
      cases hx
      exact k.all.1
    · rw [upd_ne τ _ e] at hx
      exact k.all.2.2.1 x o hx
  · by_cases e : x = b
    · subst e
      exact k.all.2.1 e' (List.mem_cons_of_mem _ he') rfl x rfl hy
    · have hx2 : τ x ≠ Option.none := fun h0 => hx (by show upd τ b _ x = Option.none; rw [upd_ne τ _ e]; exact h0)
      exact k.all.2.2.2.1 e' he' rfl x hx2 hy
theorem KOk.ownNil {w : World} (k : KOk w0 K w) : KOk w0 (.own (fun _ => Option.none) :: K) w := ⟨k.bel, fun b o h => (by cases h), fun e' _ _ x hx => absurd rfl hx, k.all⟩
/-- the caller's view of a call that hands over memory that it made -/
theorem own_x {w : World} {ι : Type} {g : FuncId} {vs : Array Value} {V : ι → Value} {R : ι → Prop} {σ : ι → Nat → Option Obj} (k : KOk w0 K w) (hc : Calls P g vs w (fun e w' => ∃ i, e = .returned (V i) ∧ R i ∧ KOk w [.own (σ i)] w')) :
    Calls P g vs w (fun e w' => ∃ i, e = .returned (V i) ∧ R i ∧ KOk w0 (.own (σ i) :: K) w') := Calls.mono hc fun e w' ⟨i, h1, h2, h3⟩ => ⟨i, h1, h2, k.add h3⟩
theorem KOk.has {w : World} {e : Ent} (k : KOk w0 K w) (m : e ∈ K) : e.ok w0.heap.size w := k.all.mem e m
theorem KOk.frs {w : World} {σ τ : Nat → Option Obj} (h : ∀ b o, σ b = some o → w.heap[b]? = some o) (h' : ∀ b o, τ b = some o → w.heap[b]? = some o) : KOk w [.fr σ, .fr τ] w :=
  ⟨Below.refl _ _, h, fun e he hm => (by rw [List.mem_singleton.1 he] at hm; cases hm), h', fun e he => (by simp at he), trivial⟩
theorem TA.part {KS : List Ent} {bars : List Nat} {fuel : Nat} {listed : Array Bool} {t : Nat} {b : Bool} (h : lk t L = some (.bool b)) (h1 : b = true → TA P n w0 ((t, .bool true) :: L) K ops KS bars fuel listed Q) (h2 : b = false → TA P n w0 ((t, .bool false) :: L) K ops KS bars fuel listed Q) : TA P n w0 L K ops KS bars fuel listed Q := by
  cases b
  · exact fun a w f k => h2 rfl a w (f.again h) k
  · exact fun a w f k => h1 rfl a w (f.again h) k
/-! ### Parts of slices -/
def subA (A : Option Addr) (c lo z : Nat) : Option Addr := if c = lo then A else A.map fun a => a.add (lo * z)
theorem OpV.sliceHi {t e z m c hi : Nat} {A : Option Addr} {x y : Operand} {ty : TypeId} {k : IntKind} {q : Int} (he : sEl P t = some (e, z)) (hx : ev L x = some (.slice A m c)) (hy : ev L y = some (.int k q)) (hq : q = (hi : Int)) (hh : hi ≤ c) :
    OpV P n w0 L K (.slice t x none (some y) none) ty (.slice (subA A c 0 z) hi c) := fun a w o' eo _ f _ => by
  obtain ⟨h1, i, h2, h3⟩ := sEl_spec he
  subst hq
  simp [execOp, eo, f.ev hx, f.ev hy, Instr.sliceAt, Instr.slice, Instr.sliceBounds, Instr.sliceBound, asIntOf, run_underlying h1, sizeOf, typeInfo, h2, h3, hh, subA]
theorem OpV.sliceLo {t e z m c lo : Nat} {A : Option Addr} {x y : Operand} {ty : TypeId} {k : IntKind} {q : Int} (he : sEl P t = some (e, z)) (hx : ev L x = some (.slice A m c)) (hy : ev L y = some (.int k q)) (hq : q = (lo : Int)) (hh : lo ≤ m) :
    OpV P n w0 L K (.slice t x (some y) none none) ty (.slice (subA A c lo z) (m - lo) (c - lo)) := fun a w o' eo _ f _ => by
  obtain ⟨h1, i, h2, h3⟩ := sEl_spec he
  subst hq
  simp [execOp, eo, f.ev hx, f.ev hy, Instr.sliceAt, Instr.slice, Instr.sliceBounds, Instr.sliceBound, asIntOf, run_underlying h1, sizeOf, typeInfo, h2, h3, hh, subA]
theorem OpV.sliceLH {t e z m c lo hi : Nat} {A : Option Addr} {x y y' : Operand} {ty : TypeId} {k k' : IntKind} {q q' : Int} (he : sEl P t = some (e, z)) (hx : ev L x = some (.slice A m c)) (hy : ev L y = some (.int k q)) (hy' : ev L y' = some (.int k' q')) (hq : q = (lo : Int)) (hq' : q' = (hi : Int)) (hh : lo ≤ hi) (hc : hi ≤ c) :
    OpV P n w0 L K (.slice t x (some y) (some y') none) ty (.slice (subA A c lo z) (hi - lo) (c - lo)) := fun a w o' eo _ f _ => by
  obtain ⟨h1, i, h2, h3⟩ := sEl_spec he
  subst hq hq'
  simp [execOp, eo, f.ev hx, f.ev hy, f.ev hy', Instr.sliceAt, Instr.slice, Instr.sliceBounds, Instr.sliceBound, asIntOf, run_underlying h1, sizeOf, typeInfo, h2, h3, hh, hc, subA]
end
end Go.Proofs.Ytaoepaonjeilgaa
