/-
  The operations that write or make memory; calls; entry and return. No condition; no program in sight.
-/
import Derived.Test.YtaoepaonjeilgaaEng2
import Derived.Laws.MakeOwn
import Derived.Test.YtaoepaonjeilgaaOwn
namespace Go.Proofs.Ytaoepaonjeilgaa
open Go.RowKit
set_option linter.unusedSimpArgs false
set_option linter.unusedVariables false
section
variable {P : Program} {n : Nat} {w0 : World} {L : List (Nat × Value)} {K K' : List Ent} {Q : Exit → Act → World → Prop} {ops : Array Oper} {l : List Oper}

/-! ### What is known of memory, said otherwise -/
def Kle (w0 : World) (K K' : List Ent) : Prop := ∀ w, KOk w0 K w → KOk w0 K' w
theorem Kle.refl : Kle w0 K K := fun _ h => h
theorem Kle.trans {K'' : List Ent} (h : Kle w0 K K') (h' : Kle w0 K' K'') : Kle w0 K K'' := fun w k => h' w (h w k)
theorem Kle.pick {e : Ent} {K1 : List Ent} (p : Pick K e K1) : Kle w0 K (e :: K1) := fun w k => k.pick p
theorem Kle.drop {e : Ent} : Kle w0 (e :: K) K := fun w k => k.tail
theorem KAll.cons {B : Nat} {w : World} {e : Ent} (h1 : e.ok B w) (h2 : ∀ e' ∈ K, Apart e e') (h3 : KAll B w K) : KAll B w (e :: K) := ⟨h1, h2, h3⟩
theorem Kle.cons {e : Ent} {K1 K2 : List Ent} (p : Pick K e K1) (h : Kle w0 K1 K2) (hs : ∀ x ∈ K2, x ∈ K1) : Kle w0 K (e :: K2) := fun w k => by
  have k1 := k.pick p
  exact ⟨k1.bel, k1.all.1, fun e' he' => k1.all.2.1 e' (hs e' he'), (h w k1.tail).all⟩
/-- K' is K, in another order, or less. -/
inductive Perm : List Ent → List Ent → Prop where
  | nil {K : List Ent} : Perm K []
  | cons {K K1 K2 : List Ent} {e : Ent} : Pick K e K1 → Perm K1 K2 → Perm K (e :: K2)
  | all {K : List Ent} : Perm K K
  | drop {K K' : List Ent} {e : Ent} : Perm K K' → Perm (e :: K) K'
theorem Perm.mem (h : Perm K K') : ∀ x ∈ K', x ∈ K := by
  induction h with
  | nil => intro x hx; cases hx
  | drop _ ih => intro x hx; exact List.mem_cons_of_mem _ (ih x hx)
  | @cons K K1 K2 e p _ ih =>
    intro x hx
    rcases List.mem_cons.1 hx with rfl | hx
    · exact (p.mem x).2 (.inl rfl)
    · exact (p.mem x).2 (.inr (ih x hx))
  | all => intro x hx; exact hx
theorem Perm.kle (h : Perm K K') : Kle w0 K K' := by
  induction h with
  | nil => exact fun w k => ⟨k.bel, trivial⟩
  | drop _ ih => exact fun w k => ih w k.tail
  | cons p h ih => exact Kle.cons p ih h.mem
  | all => exact Kle.refl
theorem TE.met {L' : List (Nat × Value)} {Q' : Exit → Act → World → Prop} (s : Sub L L') (hK : Kle w0 K K') : TE n w0 L K .normal (Exit.then (fun a w => FrOk n L' a ∧ KOk w0 K' w) Q') := fun a w f k => ⟨f.sub s, hK w k⟩
theorem T.kle {c : Code} (h : Kle w0 K K') (hT : T P n w0 L K' c Q) : T P n w0 L K c Q := fun a w f k => hT a w f (h w k)
theorem TL.kle (h : Kle w0 K K') (hT : TL P n w0 L K' ops l Q) : TL P n w0 L K ops l Q := fun a w f k => hT a w f (h w k)
theorem TE.kle {e : Exit} (h : Kle w0 K K') (hT : TE n w0 L K' e Q) : TE n w0 L K e Q := fun a w f k => hT a w f (h w k)
/-- a nil slice may be appended to -/
theorem Kle.nilRow (e z : Nat) : Kle w0 K (.row e z none 0 0 [] :: K) := fun w k =>
  ⟨k.bel, World.ownsRow_nil w _ e z, (fun e' _ _ x hx => by simp [Ent.dom, Value.ownBlock] at hx), k.all⟩
/-- the cells of a row are known -/
def σ1 (b : Nat) (o : Obj) : Nat → Option Obj := fun x => if x = b then some o else none
theorem σ1_self (b : Nat) (o : Obj) : σ1 b o b = some o := by simp [σ1]
theorem σ1_some {b : Nat} {o : Obj} {x : Nat} {y : Obj} (h : σ1 b o x = some y) : x = b ∧ y = o := by
  unfold σ1 at h
  split at h
  · cases h; exact ⟨‹_›, rfl⟩
  · cases h
/-- a known block, seen as one of the call's own blocks -/
theorem Kle.blkOwn {b : Nat} {cs : List Value} {T : TypeId} : Kle w0 (.blk b cs T :: K) (.own (σ1 b (.cells cs.toArray T (0, 0))) :: K) := fun w k => by
  obtain ⟨h1, h2, h3⟩ := k.all
  refine ⟨k.bel, fun x y h => ?_, fun e' he' _ x hx => ?_, h3⟩
  · obtain ⟨rfl, rfl⟩ := σ1_some h
    exact h1
  · refine h2 e' he' rfl x ?_
    cases hs : σ1 b (Obj.cells cs.toArray T (0, 0)) x with
    | none => exact absurd hs hx
    | some y => exact (σ1_some hs).1
theorem Kle.ownFr {σ : Nat → Option Obj} : Kle w0 (.own σ :: K) (.fr σ :: K) := fun w k => by
  obtain ⟨h1, h2, h3⟩ := k.all
  exact ⟨k.bel, fun b o h => (h1 b o h).2, fun e' he' hm x hx => h2 e' he' rfl x hx, h3⟩
/-- two sets of blocks as one -/
def σ2 (σ τ : Nat → Option Obj) : Nat → Option Obj := fun x => match σ x with | some o => some o | none => τ x
theorem Kle.own2 {σ τ : Nat → Option Obj} : Kle w0 (.own σ :: .own τ :: K) (.own (σ2 σ τ) :: K) := fun w k => by
  obtain ⟨h1, h2, h3, h4, h5⟩ := k.all
  refine ⟨k.bel, fun x y h => ?_, fun e' he' _ x hx => ?_, h5⟩
  · unfold σ2 at h
    split at h
    · cases h; exact h1 x _ ‹_›
    · exact h3 x y h
  · have hx' : σ2 σ τ x ≠ none := hx
    unfold σ2 at hx'
    split at hx'
    · exact h2 e' (by simp [he']) rfl x (by show σ x ≠ none; rw [‹σ x = _›]; simp)
    · exact h4 e' he' rfl x hx'
theorem Kle.fr2 {σ τ : Nat → Option Obj} : Kle w0 (.fr σ :: .fr τ :: K) (.fr (σ2 σ τ) :: .fr σ :: .fr τ :: K) := fun w k => by
  obtain ⟨h1, h2, h3, h4, h5⟩ := k.all
  refine ⟨k.bel, fun x y h => ?_, fun e' he' hm x hx => ?_, h1, h2, h3, h4, h5⟩
  · unfold σ2 at h
    split at h
    · cases h; exact h1 x _ ‹_›
    · exact h3 x y h
  · have hm' : e'.mine = true := by simpa [Ent.mine] using hm
    have hx' : σ2 σ τ x ≠ none := hx
    have he2 : e' ∈ K := by
      rcases List.mem_cons.1 he' with rfl | h
      · cases hm'
      · rcases List.mem_cons.1 h with rfl | h
        · cases hm'
        · exact h
    unfold σ2 at hx'
    split at hx'
    · exact h2 e' (by simp [he2]) (by simp [hm']) x (by show σ x ≠ none; rw [‹σ x = _›]; simp)
    · exact h4 e' he2 (by simp [hm']) x hx'
theorem Kle.dup {σ : Nat → Option Obj} : Kle w0 (.fr σ :: K) (.fr σ :: .fr σ :: K) := fun w k => by
  obtain ⟨h1, h2, h3⟩ := k.all
  refine ⟨k.bel, h1, fun e' he' hm x hx => ?_, h1, h2, h3⟩
  rcases List.mem_cons.1 he' with rfl | h
  · cases hm
  · exact h2 e' h hm x hx

/-! ### Operations that write or make memory -/
def putL (cs : List Value) (o : Nat) (vs : List Value) : List Value := cs.take o ++ vs ++ cs.drop (o + vs.length)
theorem length_putL (cs : List Value) (o : Nat) (vs : List Value) (h : o + vs.length ≤ cs.length) : (putL cs o vs).length = cs.length := by
  simp only [putL, List.length_append, List.length_take, List.length_drop]; omega
theorem run_storeV {w : World} {t z b o : Nat} {v : Value} {vs cs : List Value} {T : TypeId} (hz : (sizeOf t).run P w = .ok z w) (hv : v.cells = vs.toArray) (hl : vs.length = z) (h1 : ∀ u ∈ vs, u.oneCell' = true)
    (hb : w.heap[b]? = some (.cells cs.toArray T (0, 0))) (hf : o + vs.length ≤ cs.length) :
    (Instr.storeAt t (.pointer (some ⟨b, o, none⟩)) v).run P w = .ok () (w.setRow b (putL cs o vs).toArray) := by
  have hs := run_storeCells_at P b o T vs 0 cs.toArray w hb (by simpa using hf) h1
  have h2 : ¬ (vs.toArray.size ≠ z) := by simpa using hl
  simp only [Instr.storeAt, Instr.sureAddr, storeVar, Sem.run_bind, Sem.run_pure, Result.andThen_ok, hz, hv, if_neg h2, List.toList_toArray]
  simpa [putL] using hs
theorem KOk.setRow {w : World} {b : Nat} {cs vs : List Value} {T : TypeId} (h : KOk w0 (.blk b cs T :: K) w) : KOk w0 (.blk b vs T :: K) (w.setRow b vs.toArray) := by
  have h0 := h.all.1
  exact h.write rfl ⟨h0.1, setRow_heap w b _ _ T _ h0.2⟩ rfl (fun x hx => .inl hx) (by simp) (fun x _ hx => setRow_other w b x _ hx) ⟨rfl, rfl, rfl⟩
def sz (P : Program) (t : TypeId) : Option Nat := (P.info? t).map (·.size)
theorem run_sz {t z : Nat} (h : sz P t = some z) (w : World) : (sizeOf t).run P w = .ok z w := by
  obtain ⟨i, h1, h2⟩ := Option.map_eq_some_iff.1 h
  simp [sizeOf, typeInfo, h1, h2]
theorem TL.store {t z b o : Nat} {x y : Operand} {ty : TypeId} {pos : String} {af : Array Edge} {v : Value} {vs cs cs' : List Value} {T : TypeId} {K1 : List Ent}
    (hx : ev L x = some (.pointer (some ⟨b, o, none⟩))) (hy : ev L y = some v) (hz : sz P t = some z) (hv : v.cells = vs.toArray) (hl : vs.length = z) (h1 : (vs.all fun u => u.oneCell') = true)
    (p : Pick K (.blk b cs T) K1) (hf : o + vs.length ≤ cs.length) (hp : putL cs o vs = cs') (nx : TL P n w0 L (.blk b cs' T :: K1) ops l Q) :
    TL P n w0 L K ops (⟨none, .store t x y, ty, pos, af, none⟩ :: l) Q := fun a w f k => wpList_plain rfl fun K' hK' => by
  subst hp
  have k1 := k.pick p
  unfold Oper.wp
  simp only [execOp, f.ev hx, f.ev hy, Sem.run_bind, run_storeV (P := P) (run_sz hz w) hv hl (fun u hu => List.all_eq_true.1 h1 u hu) k1.all.1.2 hf, Result.andThen_ok, Sem.run_pure]
  exact hK' _ _ (nx _ _ f k1.setRow)
theorem putL_all (cs vs : List Value) (h : cs.length = vs.length) : putL cs 0 vs = vs := by
  rw [putL, List.take_zero, List.nil_append, Nat.zero_add, ← h, List.drop_length, List.append_nil]
theorem TL.storeAll {t z b : Nat} {x y : Operand} {ty : TypeId} {pos : String} {af : Array Edge} {v : Value} {vs cs : List Value} {T : TypeId} {K1 : List Ent}
    (hx : ev L x = some (.pointer (some ⟨b, 0, none⟩))) (hy : ev L y = some v) (hz : sz P t = some z) (hv : v.cells = vs.toArray) (hl : vs.length = z) (h1 : (vs.all fun u => u.oneCell') = true)
    (p : Pick K (.blk b cs T) K1) (hf : cs.length = vs.length) (nx : TL P n w0 L (.blk b vs T :: K1) ops l Q) :
    TL P n w0 L K ops (⟨none, .store t x y, ty, pos, af, none⟩ :: l) Q :=
  TL.store hx hy hz hv hl h1 p (by omega) (putL_all cs vs hf) nx
def zOf (P : Program) (t : TypeId) : Option (List Value) := ((P.info? t).bind (·.zero)).map (·.cells.toList)
theorem TL.alloc {d t : Nat} {ty : TypeId} {pos : String} {af : Array Edge} {cs : List Value} (hz : zOf P t = some cs) (hd : Nat.blt d n = true)
    (nx : ∀ b, TL P n w0 ((d, .pointer (some ⟨b, 0, none⟩)) :: L) (.blk b cs t :: K) ops l Q) : TL P n w0 L K ops (⟨some d, .alloc t, ty, pos, af, none⟩ :: l) Q := fun a w f k => wpList_plain rfl fun K' hK' => by
  obtain ⟨v, h1, h2⟩ := Option.map_eq_some_iff.1 hz
  obtain ⟨i, h3, h4⟩ := Option.bind_eq_some_iff.1 h1
  have hr : (Instr.alloc t true (.tuple #[])).run P w = .ok (.pointer (some ⟨w.heap.size, 0, none⟩)) (w.alloc (.cells v.cells t)) := by
    simp [Instr.alloc, zeroValue, typeInfo, h3, h4, newVar, newRow]
  unfold Oper.wp
  simp only [execOp, Sem.run_bind, hr, Result.andThen_ok, Sem.run_pure]
  refine hK' _ _ (nx w.heap.size _ _ (f.put hd _) ?_)
  have := k.alloc cs t
  rw [← h2, Array.toArray_toList] at this
  rw [← h2]
  exact this
theorem TL.boxA {d t : Nat} {x : Operand} {ty : TypeId} {pos : String} {af : Array Edge} {cs : List Value} (hx : ev L x = some (.agg cs.toArray)) (hd : Nat.blt d n = true)
    (nx : ∀ b, TL P n w0 ((d, .pointer (some ⟨b, 0, none⟩)) :: L) (.blk b cs t :: K) ops l Q) : TL P n w0 L K ops (⟨some d, .box t x, ty, pos, af, none⟩ :: l) Q := fun a w f k => wpList_plain rfl fun K' hK' => by
  have hr : (Instr.box t (.agg cs.toArray)).run P w = .ok (.pointer (some ⟨w.heap.size, 0, none⟩)) (w.alloc (.cells cs.toArray t)) := by
    simp [Instr.box, newVar, newRow, Value.cells]
  unfold Oper.wp
  simp only [execOp, f.ev hx, Sem.run_bind, hr, Result.andThen_ok, Sem.run_pure]
  exact hK' _ _ (nx w.heap.size _ _ (f.put hd _) (k.alloc cs t))
theorem TL.box1 {d t : Nat} {x : Operand} {ty : TypeId} {pos : String} {af : Array Edge} {v : Value} (hx : ev L x = some v) (hv : v.oneCell' = true) (hd : Nat.blt d n = true)
    (nx : ∀ b, TL P n w0 ((d, .pointer (some ⟨b, 0, none⟩)) :: L) (.blk b [v] t :: K) ops l Q) : TL P n w0 L K ops (⟨some d, .box t x, ty, pos, af, none⟩ :: l) Q := fun a w f k => wpList_plain rfl fun K' hK' => by
  have hc : v.cells = #[v] := by cases v <;> first | rfl | cases hv
  have hr : (Instr.box t v).run P w = .ok (.pointer (some ⟨w.heap.size, 0, none⟩)) (w.alloc (.cells #[v] t)) := by
    simp [Instr.box, newVar, newRow, hc]
  unfold Oper.wp
  simp only [execOp, f.ev hx, Sem.run_bind, hr, Result.andThen_ok, Sem.run_pure]
  exact hK' _ _ (nx w.heap.size _ _ (f.put hd _) (k.alloc [v] t))
/-- a slice's literal: the new row is a block of its own -/
theorem TL.slit {d t m e : Nat} {ps : Array (Nat × Operand)} {qs : Array (Nat × Value)} {ty : TypeId} {pos : String} {af : Array Edge} {cs : List Value} (hp : ∀ a, FrOk n L a → (ps.map fun (i, x) => (i, a.eval x)) = qs)
    (hr : ∀ w : World, (Instr.buildSlice t m qs).run P w = .ok (.slice (some ⟨w.heap.size, 0, none⟩) m m) (w.alloc (.cells cs.toArray e))) (hd : Nat.blt d n = true)
    (nx : ∀ b, TL P n w0 ((d, .slice (some ⟨b, 0, none⟩) m m) :: L) (.blk b cs e :: K) ops l Q) : TL P n w0 L K ops (⟨some d, .buildSlice t m ps, ty, pos, af, none⟩ :: l) Q := fun a w f k => wpList_plain rfl fun K' hK' => by
  unfold Oper.wp
  have hp' := hp a f
  simp only [execOp, hp', Sem.run_bind, hr w, Result.andThen_ok, Sem.run_pure]
  exact hK' _ _ (nx w.heap.size _ _ (f.put hd _) (k.alloc cs e))
/-- m zero elements of z cells each -/
def zeros (z : List Value) : Nat → List Value
  | 0 => []
  | m + 1 => z ++ zeros z m
theorem length_zeros (z : List Value) : ∀ m, (zeros z m).length = m * z.length
  | 0 => by simp [zeros]
  | m + 1 => by rw [zeros, List.length_append, length_zeros z m, Nat.succ_mul]; omega
theorem zeros_get (z : List Value) : ∀ (m i j : Nat), i < m → j < z.length → (zeros z m)[i * z.length + j]? = z[j]?
  | m + 1, 0, j, _, hj => by rw [zeros, Nat.zero_mul, Nat.zero_add, List.getElem?_append_left hj]
  | m + 1, i + 1, j, hi, hj => by
    rw [zeros, List.getElem?_append_right (by rw [Nat.succ_mul]; omega), show (i + 1) * z.length + j - z.length = i * z.length + j by rw [Nat.succ_mul]; omega]
    exact zeros_get z m i j (by omega) hj
theorem made_zeros (z : Array Value) (hz : 0 < z.size) (m : Nat) : (madeCells z (m * z.size)).toList = zeros z.toList m := by
  have hl : z.toList.length = z.size := by simp
  apply List.ext_getElem?
  intro q
  by_cases hq : q < m * z.size
  · have h1 : q / z.size < m := (Nat.div_lt_iff_lt_mul hz).2 hq
    have h2 : q % z.size < z.size := Nat.mod_lt _ hz
    have h3 := zeros_get z.toList m (q / z.size) (q % z.size) h1 (by rw [hl]; exact h2)
    rw [hl, Nat.mul_comm, Nat.div_add_mod] at h3
    rw [h3]
    simp [madeCells, hq, h2]
  · rw [List.getElem?_eq_none (by simp [size_madeCells]; omega), List.getElem?_eq_none (by rw [length_zeros, hl]; omega)]
theorem TL.make {d t m e z : Nat} {x : Operand} {ty : TypeId} {pos : String} {af : Array Edge} {k1 : IntKind} {q : Int} {cs : List Value} {i : TypeInfo} {zv : Value} (ht : P.underlying t = some (.slice e)) (hi : P.info? e = some i) (hz : i.zero = some zv) (hs : i.size = z) (hc : zv.cells.toList = cs) (hl : cs.length = z) (hp : 0 < z)
    (hx : ev L x = some (.int k1 q)) (hq : q = (m : Int)) (hb : i.bytes * m ≤ 281474976710656) (hm : m ≤ 9223372036854775807) (hd : Nat.blt d n = true)
    (nx : ∀ b, TL P n w0 ((d, .slice (some ⟨b, 0, none⟩) m m) :: L) (.blk b (zeros cs m) e :: K) ops l Q) : TL P n w0 L K ops (⟨some d, .makeSlice t x x, ty, pos, af, none⟩ :: l) Q := fun a w f k => wpList_plain rfl fun K' hK' => by
  subst hq
  have hb' : (i.bytes : Int) * (m : Int) ≤ 281474976710656 := by
    have h : ((i.bytes * m : Nat) : Int) ≤ 281474976710656 := by omega
    rwa [Int.natCast_mul] at h
  have hr := run_make (P := P) w t e i zv ht hi hz k1 k1 (m : Int) (m : Int) (by omega) (Int.le_refl _) hb' (by omega)
  have hsz : zv.cells.size = z := by rw [← hl, ← hc]; simp
  unfold Oper.wp
  simp only [execOp, f.ev hx, Sem.run_bind, hr, Result.andThen_ok, Sem.run_pure, Int.toNat_natCast]
  have hmz := made_zeros zv.cells (by omega) m
  rw [hsz, hc] at hmz
  refine hK' _ _ (nx w.heap.size _ _ (f.put hd _) ?_)
  have := k.alloc (zeros cs m) e
  rw [← hmz, Array.toArray_toList] at this
  rw [hs, ← hmz]
  exact this
/-- what is appended -/
def Src (w0 : World) (K : List Ent) (A : Option Addr) (m z : Nat) (xs : List Value) : Prop := ∀ w, KOk w0 K w → Sl w A m z xs
theorem Src.nil {A : Option Addr} {z : Nat} : Src w0 K A 0 z [] := fun _ _ => Sl.nil
theorem Src.blk {K1 : List Ent} {b m z : Nat} {cs : List Value} {T : TypeId} (p : Pick K (.blk b cs T) K1) (h : cs.length = m * z) : Src w0 K (some ⟨b, 0, none⟩) m z cs := fun w k => by
  have h1 := (k.get p).2
  refine ⟨h, fun _ => ⟨b, 0, rfl, lt_of_some h1, fun j _ => ?_⟩⟩
  simp [World.cell?, h1]
theorem Src.row {K1 : List Ent} {e z m c : Nat} {A : Option Addr} {xs : List Value} (p : Pick K (.row e z A m c xs) K1) : Src w0 K A m z xs := fun w k => sl_of_own (k.get p)
theorem TL.append {d t e z m c m2 c2 by_ : Nat} {x y : Operand} {ty : TypeId} {pos : String} {af : Array Edge} {A A2 : Option Addr} {xs news : List Value} {i : TypeInfo} {zv : Value} {K1 : List Ent}
    (hx : ev L x = some (.slice A m c)) (hy : ev L y = some (.slice A2 m2 c2)) (ht : P.underlying t = some (.slice e)) (hi : P.info? e = some i) (hz : i.zero = some zv) (hs : i.size = z) (hby : i.bytes = by_) (hzs : zv.cells.size = z) (hp : 0 < z)
    (p : Pick K (.row e z A m c xs) K1) (hsrc : Src w0 K A2 m2 z news) (hn : A2 = none → c2 = 0) (h1 : (news.all fun u => u.oneCell') = true) (h63 : m + m2 ≤ 9223372036854775807) (hb : (m + m2) * by_ ≤ 140737488355328) (hd : Nat.blt d n = true)
    (nx : ∀ A' c', (A' = none → c' = 0) → TL P n w0 ((d, .slice A' (m + m2) c') :: L) (.row e z A' (m + m2) c' (xs ++ news) :: K1) ops l Q) :
    TL P n w0 L K ops (⟨some d, .call ⟨.builtin .append, #[x, y], #[t, t]⟩, ty, pos, af, none⟩ :: l) Q := fun a w f k => by
  have k1 := k.pick p
  have hown := k1.all.1
  refine wpList_append_sl (P := P) w rfl x y t rfl w0.heap.size e i zv z by_ ht hi hz hs hby hzs hp (.slice A m c) m xs (f.ev hx) hown A2 m2 c2 news (f.ev hy) (hsrc w k) hn (fun u hu => List.all_eq_true.1 h1 u hu) (by simpa [maxLen] using h63) hb k.bel.size ?_
  intro A' N c' w' hN hnil hown' hg hat
  subst hN
  refine nx A' c' hnil _ _ (f.put hd _) (k1.write rfl hown' rfl (fun q hq => ?_) hg.size (fun q hq hne => hg.block q hq fun he => hne he.symm) ⟨hg.os, hg.tape, hg.output⟩)
  rcases hat with h | h
  · exact .inl (h.symm.trans hq)
  · have hq' : (Value.slice A' (m + m2) c').ownBlock = some q := hq
    rw [h] at hq'
    cases hq'
    exact .inr (Nat.le_refl _)

/-! ### Calls -/
def evs (L : List (Nat × Value)) : List Operand → Option (List Value)
  | [] => some []
  | x :: xs => match ev L x, evs L xs with
    | some v, some vs => some (v :: vs)
    | _, _ => none
theorem FrOk.evs {a : Act} (f : FrOk n L a) : ∀ {xs : List Operand} {vs : List Value}, evs L xs = some vs → xs.map a.eval = vs
  | [], vs, h => by cases h; rfl
  | x :: xs, vs, h => by
    unfold Go.Proofs.Ytaoepaonjeilgaa.evs at h
    split at h
    · rename_i v vs' h1 h2
      cases h
      rw [List.map_cons, f.ev h1, FrOk.evs f h2]
    · cases h
/-- function f is one of the program's own, with a body -/
def isGo (P : Program) (f : FuncId) : Bool := match P.funcs[f]? with
  | some fn => fn.body.isSome && !(fn.name == "runtime.NumGoroutine")
  | none => false
theorem run_callGo {f : FuncId} (h : isGo P f = true) (args : Array Value) (w : World) : (callFunc f args).run P w = .ok (.enter f args) w := by
  unfold isGo at h
  cases hf : P.funcs[f]? with
  | none => rw [hf] at h; cases h
  | some fn =>
    rw [hf] at h
    simp only [Bool.and_eq_true, Bool.not_eq_true'] at h
    obtain ⟨hb, hn⟩ := h
    have hb' : ¬ fn.body = none := by intro h0; rw [h0] at hb; cases hb
    have hn' : ¬ fn.name = "runtime.NumGoroutine" := by simpa using hn
    simp [callFunc, hf, hn', hb']
theorem run_opCall {a : Act} (f : FrOk n L a) {x : Operand} {g : FuncId} {xs : List Operand} {vs : List Value} {ts : Array TypeId} {o : Oper} {ty : TypeId} (ho : o.op = .call ⟨.value x, xs.toArray, ts⟩) (hx : ev L x = some (.func (.func g) #[] #[])) (hg : isGo P g = true) (hv : evs L xs = some vs) (w : World) :
    (execOp a.eval o).run P w = .ok (.enter g vs.toArray) w := by
  have h1 := f.evs hv
  simp only [execOp, ho, resolve, f.ev hx, Deferred.ofValue, Sem.run_bind, Sem.run_pure, Result.andThen_ok, invoke, List.map_toArray, h1]
  simpa using run_callGo hg vs.toArray w
/-- a call that hands back a value and lays new blocks at the most -/
theorem TL.call {d g : Nat} {x : Operand} {xs : List Operand} {vs : List Value} {ts : Array TypeId} {ty : TypeId} {pos : String} {af : Array Edge} {v : Value} (hx : ev L x = some (.func (.func g) #[] #[])) (hg : isGo P g = true) (hv : evs L xs = some vs)
    (hc : ∀ w, KOk w0 K w → Calls P g vs.toArray w (fun e w' => e = .returned v ∧ Below w.heap.size w w')) (hd : Nat.blt d n = true) (nx : TL P n w0 ((d, v) :: L) K ops l Q) :
    TL P n w0 L K ops (⟨some d, .call ⟨.value x, xs.toArray, ts⟩, ty, pos, af, none⟩ :: l) Q := fun a w f k => wpList_plain rfl fun K' hK' => by
  unfold Oper.wp
  rw [run_opCall (ty := ty) f rfl hx hg hv w]
  refine Calls.mono (hc w k) fun e w' ⟨he, hb⟩ => ?_
  subst he
  exact hK' _ _ (nx _ _ (f.put hd v) (k.below hb))
/-- a call whose outcome is one of a family -/
theorem TL.callx {ι : Type} {d g : Nat} {x : Operand} {xs : List Operand} {vs : List Value} {ts : Array TypeId} {ty : TypeId} {pos : String} {af : Array Edge} {V : ι → Value} {R : ι → Prop} {K2 : ι → List Ent} (hx : ev L x = some (.func (.func g) #[] #[])) (hg : isGo P g = true) (hv : evs L xs = some vs)
    (hc : ∀ w, KOk w0 K w → Calls P g vs.toArray w (fun e w' => ∃ i, e = .returned (V i) ∧ R i ∧ KOk w0 (K2 i) w')) (hd : Nat.blt d n = true) (nx : ∀ i, R i → TL P n w0 ((d, V i) :: L) (K2 i) ops l Q) :
    TL P n w0 L K ops (⟨some d, .call ⟨.value x, xs.toArray, ts⟩, ty, pos, af, none⟩ :: l) Q := fun a w f k => wpList_plain rfl fun K' hK' => by
  unfold Oper.wp
  rw [run_opCall (ty := ty) f rfl hx hg hv w]
  refine Calls.mono (hc w k) fun e w' ⟨i, he, hi, hb⟩ => ?_
  subst he
  exact hK' _ _ (nx i hi _ _ (f.put hd _) hb)

/-! ### In and out -/
def argL (i : Nat) : List Value → List (Nat × Value)
  | [] => []
  | v :: vs => (i, v) :: argL (i + 1) vs
theorem lk_argL : ∀ (vs : List Value) (i t : Nat) (v : Value), lk t (argL i vs) = some v → i ≤ t ∧ vs[t - i]? = some v
  | [], i, t, v, h => by cases h
  | u :: vs, i, t, v, h => by
    simp only [argL, lk] at h
    cases hb : Nat.beq i t
    · rw [hb, cond_false] at h
      have hne : i ≠ t := Nat.ne_of_beq_eq_false hb
      obtain ⟨h1, h2⟩ := lk_argL vs (i + 1) t v h
      refine ⟨by omega, ?_⟩
      rw [show t - i = (t - (i + 1)) + 1 by omega, List.getElem?_cons_succ]
      exact h2
    · rw [hb, cond_true] at h
      cases h
      obtain rfl := Nat.eq_of_beq_eq_true hb
      simp
theorem calls_T {f : FuncId} {fn : Func} {c : Code} {vs : List Value} {L0 : List (Nat × Value)} {R : Ending → World → Prop} {w : World} (hf : P.funcs[f]? = some fn) (hb : fn.body = some c) (hn : fn.ntmps = n) (hl : Nat.ble vs.length n = true) (hL : argL 0 vs = L0)
    (hk : KOk w0 K w) (h : T P n w0 L0 K c (bodyPost P fn R)) : Calls P f vs.toArray w R := by
  have hl' : vs.length ≤ n := Nat.le_of_ble_eq_true hl
  refine calls_of_wp hf hb (h _ w ⟨?_, rfl, fun t v ht => ?_⟩ hk)
  · simp only [Array.size_append, List.size_toArray, Array.size_replicate, hn]; omega
  · subst hL
    obtain ⟨_, h2⟩ := lk_argL vs 0 t v ht
    rw [Nat.sub_zero] at h2
    have : t < vs.length := (List.getElem?_eq_some_iff.1 h2).1
    rw [Array.getElem?_append_left (by simpa using this)]
    simpa using h2
theorem KOk.start (w : World) : KOk w [.fr fun b => w.heap[b]?] w := ⟨Below.refl _ _, fun b o h => h, fun e he => by simp at he, trivial⟩
theorem KOk.none (w : World) : KOk w [] w := ⟨Below.refl _ _, trivial⟩
theorem KOk.fr1 {w : World} {σ : Nat → Option Obj} (h : ∀ b o, σ b = some o → w.heap[b]? = some o) : KOk w [.fr σ] w := ⟨Below.refl _ _, h, fun e he => by simp at he, trivial⟩
/-- a result -/
def ResV (P : Program) (n : Nat) (w0 : World) (L : List (Nat × Value)) (K : List Ent) (r : ResultVar) (v : Value) : Prop := ∀ a w, FrOk n L a → KOk w0 K w → ((match r with
    | .tmp t => pure (a.tmps.getD t undef)
    | .cell b t => do loadVar t (← asAddr (a.tmps.getD b undef)) : Sem Value)).run P w = .ok v w
theorem FrOk.getD {a : Act} (f : FrOk n L a) {t : Nat} {v : Value} (h : lk t L = some v) : a.tmps.getD t undef = v := by
  have := f.kn t v h
  simp [Array.getD_eq_getD_getElem?, this]
theorem ResV.tmp {t : Nat} {v : Value} (h : lk t L = some v) : ResV P n w0 L K (.tmp t) v := fun a w f k => by
  simp only [f.getD h]; rfl
theorem ResV.cellA {s t z b o : Nat} {cs : List Value} (h : lk s L = some (.pointer (some ⟨b, o, none⟩))) (ht : aggT P t = some z) (hc : Cels w0 K b o z cs) : ResV P n w0 L K (.cell s t) (.agg cs.toArray) := fun a w f k => by
  obtain ⟨h1, h2⟩ := aggT_spec ht w
  have h3 := run_loadCells_len (P := P) (w := w) (a := ⟨b, o, none⟩) hc.1 fun j v hv => by rw [add_plain]; exact hc.2 j v hv w k
  simp [f.getD h, asAddr, loadVar, h1, h2, h3]
theorem ResV.cell {s t b o : Nat} {v : Value} (h : lk s L = some (.pointer (some ⟨b, o, none⟩))) (ht : plainT P t = true) (hc : Cel w0 K b o v) : ResV P n w0 L K (.cell s t) v := fun a w f k => by
  simp [f.getD h, asAddr, loadVar, plain_agg ht, hc w k]
inductive ResL (P : Program) (n : Nat) (w0 : World) (L : List (Nat × Value)) (K : List Ent) : List ResultVar → List Value → Prop where
  | nil : ResL P n w0 L K [] []
  | cons {r : ResultVar} {v : Value} {rs : List ResultVar} {vs : List Value} : ResV P n w0 L K r v → ResL P n w0 L K rs vs → ResL P n w0 L K (r :: rs) (v :: vs)
theorem ResL.run {rs : List ResultVar} {vs : List Value} (h : ResL P n w0 L K rs vs) {a : Act} {w : World} (f : FrOk n L a) (k : KOk w0 K w) : (rs.mapM (fun r => ((match r with
    | .tmp t => pure (a.tmps.getD t undef)
    | .cell b t => do loadVar t (← asAddr (a.tmps.getD b undef)) : Sem Value)))).run P w = .ok vs w := by
  induction h with
  | nil => simp
  | cons h1 _ ih =>
    rw [List.mapM_cons]
    simp only [Sem.run_bind, h1 a w f k, Result.andThen_ok, ih, Sem.run_pure]
theorem run_results {fn : Func} {rs : List ResultVar} {vs : List Value} (hr : fn.results = rs.toArray) (h : ResL P n w0 L K rs vs) {a : Act} {w : World} (f : FrOk n L a) (k : KOk w0 K w) :
    (results fn a.tmps).run P w = .ok (match vs with | [v] => v | _ => .tuple vs.toArray) w := by
  have h1 := h.run f k
  unfold results
  rw [hr, List.mapM_toArray]
  rw [Sem.run_bind, Sem.run_map]
  erw [h1]
  simp only [Result.andThen_ok, Sem.run_pure]
  congr 1
  match vs with
  | [] => rfl
  | [v] => rfl
  | v :: u :: vs => simp
theorem TE.ret1 {fn : Func} {r : ResultVar} {v : Value} {R : Ending → World → Prop} (hr : fn.results = #[r]) (h : ResV P n w0 L K r v) (hR : ∀ w, KOk w0 K w → R (.returned v) w) : TE n w0 L K .ret (bodyPost P fn R) :=
  fun a w f k => ⟨f.df, v, run_results (rs := [r]) hr (.cons h .nil) f k, hR w k⟩
theorem TE.ret0 {fn : Func} {R : Ending → World → Prop} (hr : fn.results = #[]) (hR : ∀ w, KOk w0 K w → R (.returned (.tuple #[])) w) : TE n w0 L K .ret (bodyPost P fn R) :=
  fun a w f k => ⟨f.df, _, run_results (P := P) (rs := []) hr .nil f k, hR w k⟩
theorem TE.end0 {fn : Func} {R : Ending → World → Prop} (hr : fn.results = #[]) (hR : ∀ w, KOk w0 K w → R (.returned (.tuple #[])) w) : TE n w0 L K .normal (bodyPost P fn R) :=
  fun a w f k => ⟨f.df, _, run_results (P := P) (rs := []) hr .nil f k, hR w k⟩
theorem TE.retN {fn : Func} {r r' : ResultVar} {rs : List ResultVar} {v v' : Value} {vs : List Value} {R : Ending → World → Prop} (hr : fn.results = (r :: r' :: rs).toArray) (h : ResL P n w0 L K (r :: r' :: rs) (v :: v' :: vs)) (hR : ∀ w, KOk w0 K w → R (.returned (.tuple (v :: v' :: vs).toArray)) w) : TE n w0 L K .ret (bodyPost P fn R) :=
  fun a w f k => ⟨f.df, _, run_results (rs := r :: r' :: rs) hr h f k, hR w k⟩
end
end Go.Proofs.Ytaoepaonjeilgaa
