/-
  The operations that yield a value and leave the world as it is. No condition; no program in sight.
-/
import Derived.Test.YtaoepaonjeilgaaEng
import Derived.IntWalk
namespace Go.Proofs.Ytaoepaonjeilgaa
open Go.RowKit
set_option linter.unusedSimpArgs false
set_option linter.unusedVariables false
section
variable {P : Program} {n : Nat} {w0 : World} {L : List (Nat × Value)} {K : List Ent} {Q : Exit → Act → World → Prop} {ops : Array Oper} {l : List Oper}

/-! ### Operations that yield a value and leave the world as it is -/
def OpV (P : Program) (n : Nat) (w0 : World) (L : List (Nat × Value)) (K : List Ent) (o : Op) (ty : TypeId) (v : Value) : Prop :=
  ∀ (a : Act) (w : World) (o' : Oper), o'.op = o → o'.type = ty → FrOk n L a → KOk w0 K w → (execOp a.eval o').run P w = .ok (.value v) w
theorem TL.val {d : Nat} {op : Op} {ty : TypeId} {pos : String} {af : Array Edge} {v : Value} (h : OpV P n w0 L K op ty v) (hd : Nat.blt d n = true) (nx : TL P n w0 ((d, v) :: L) K ops l Q) :
    TL P n w0 L K ops (⟨some d, op, ty, pos, af, none⟩ :: l) Q := fun a w f k => wpList_plain rfl fun K' hK' => by
  unfold Oper.wp
  rw [h a w _ rfl rfl f k]
  exact hK' _ _ (nx _ _ (f.put hd v) k)
theorem TL.val0 {op : Op} {ty : TypeId} {pos : String} {af : Array Edge} {v : Value} (h : OpV P n w0 L K op ty v) (nx : TL P n w0 L K ops l Q) :
    TL P n w0 L K ops (⟨none, op, ty, pos, af, none⟩ :: l) Q := fun a w f k => wpList_plain rfl fun K' hK' => by
  unfold Oper.wp
  rw [h a w _ rfl rfl f k]
  exact hK' _ _ (nx _ _ f k)
/-- the guard's truth value -/
def gd (L : List (Nat × Value)) (ops : Array Oper) (j : Nat) : Option Bool :=
  match (ops[j]?).bind (·.dst) with
  | some t => match lk t L with
    | some (.bool b) => some b
    | _ => none
  | none => none
theorem FrOk.gd {a : Act} (f : FrOk n L a) {j : Nat} {b : Bool} (h : gd L ops j = some b) : yielded ops a.tmps j = some b := by
  unfold Go.Proofs.Ytaoepaonjeilgaa.gd at h
  unfold yielded
  cases hd : (ops[j]?).bind (·.dst) with
  | none => rw [hd] at h; cases h
  | some t =>
    rw [hd] at h
    simp only at h
    cases hl : lk t L with
    | none => rw [hl] at h; cases h
    | some v =>
      rw [hl] at h
      cases v <;> simp only at h <;> first | cases h | skip
      rw [Option.bind_some, f.kn t _ hl]
theorem TL.open {o : Oper} {j : Nat} {b : Bool} (hg : o.guard = some (j, b)) (h : gd L ops j = some b) (nx : TL P n w0 L K ops ({ o with guard := none } :: l) Q) : TL P n w0 L K ops (o :: l) Q := fun a w f k => by
  have h1 := nx a w f k
  have h2 := f.gd h
  have e : o.wp P = ({ o with guard := none } : Oper).wp P := rfl
  have e2 : o.asks P = ({ o with guard := none } : Oper).asks P := rfl
  unfold wpList at h1 ⊢
  simp only [Region.wanted, hg, h2, beq_self_eq_true, if_true] at h1 ⊢
  exact h1
theorem TL.shut {d : Nat} {op : Op} {ty : TypeId} {pos : String} {af : Array Edge} {j : Nat} {b : Bool} (h : gd L ops j = some (!b)) (hd : Nat.blt d n = true) (nx : TL P n w0 ((d, undef) :: L) K ops l Q) :
    TL P n w0 L K ops (⟨some d, op, ty, pos, af, some (j, b)⟩ :: l) Q := fun a w f k => by
  have h2 := f.gd h
  unfold wpList
  have : Region.wanted ⟨some d, op, ty, pos, af, some (j, b)⟩ (yielded ops a.tmps) = false := by
    simp only [Region.wanted, h2]; cases b <;> rfl
  rw [this]
  exact nx _ _ (f.put hd undef) k
/-- a guard that was not run -/
def gdu (L : List (Nat × Value)) (ops : Array Oper) (j : Nat) : Bool :=
  match (ops[j]?).bind (·.dst) with
  | some t => match lk t L with
    | some (.tuple _) => true
    | _ => false
  | none => false
theorem FrOk.gdu {a : Act} (f : FrOk n L a) {j : Nat} (h : gdu L ops j = true) : yielded ops a.tmps j = none := by
  unfold Go.Proofs.Ytaoepaonjeilgaa.gdu at h
  unfold yielded
  cases hd : (ops[j]?).bind (·.dst) with
  | none => rfl
  | some t =>
    rw [hd] at h
    simp only at h
    cases hl : lk t L with
    | none => rw [hl] at h; cases h
    | some v =>
      rw [hl] at h
      cases v <;> simp only at h <;> first | cases h | skip
      rw [Option.bind_some, f.kn t _ hl]
theorem TL.shutU {d : Nat} {op : Op} {ty : TypeId} {pos : String} {af : Array Edge} {j : Nat} {b : Bool} (h : gdu L ops j = true) (hd : Nat.blt d n = true) (nx : TL P n w0 ((d, undef) :: L) K ops l Q) :
    TL P n w0 L K ops (⟨some d, op, ty, pos, af, some (j, b)⟩ :: l) Q := fun a w f k => by
  have h2 := f.gdu h
  unfold wpList
  have : Region.wanted ⟨some d, op, ty, pos, af, some (j, b)⟩ (yielded ops a.tmps) = false := by
    simp only [Region.wanted, h2]; rfl
  rw [this]
  exact nx _ _ (f.put hd undef) k
theorem TL.sub {L' : List (Nat × Value)} (s : Sub L L') (h : TL P n w0 L' K ops l Q) : TL P n w0 L K ops l Q := fun a w f k => h a w (f.sub s) k

theorem OpV.move {x : Operand} {ty : TypeId} {v : Value} (h : ev L x = some v) : OpV P n w0 L K (.move x) ty v := fun a w o e _ f k => by
  simp only [execOp, e, f.ev h]; rfl
theorem OpV.assign {x : Operand} {ty : TypeId} {v : Value} (h : ev L x = some v) : OpV P n w0 L K (.assign x) ty v := fun a w o e _ f k => by
  simp only [execOp, e, f.ev h]; rfl
theorem OpV.pick_t {c x y : Operand} {ty : TypeId} {v : Value} (hc : ev L c = some (.bool true)) (h : ev L x = some v) : OpV P n w0 L K (.pick c x y) ty v := fun a w o e _ f k => by
  simp [execOp, e, f.ev hc, f.ev h, asBool]
theorem OpV.pick_f {c x y : Operand} {ty : TypeId} {v : Value} (hc : ev L c = some (.bool false)) (h : ev L y = some v) : OpV P n w0 L K (.pick c x y) ty v := fun a w o e _ f k => by
  simp [execOp, e, f.ev hc, f.ev h, asBool]
theorem OpV.not {t : TypeId} {x : Operand} {ty : TypeId} {b : Bool} (h : ev L x = some (.bool b)) : OpV P n w0 L K (.unOp .not t x) ty (.bool (!b)) := fun a w o e _ f k => by
  simp [execOp, e, f.ev h, Op.unary]
theorem OpV.neg {t : TypeId} {x : Operand} {ty : TypeId} {k : IntKind} {m r : Int} (h : ev L x = some (.int k m)) (hr : k.wrap (0 - m) = r) : OpV P n w0 L K (.unOp .neg t x) ty (.int k r) := fun a w o e _ f k => by
  simp [execOp, e, f.ev h, Op.unary, Op.intArith, ← hr]
theorem OpV.add {t u : TypeId} {x y : Operand} {ty : TypeId} {k : IntKind} {p q r : Int} (hx : ev L x = some (.int k p)) (hy : ev L y = some (.int k q)) (hr : k.wrap (p + q) = r) : OpV P n w0 L K (.binOp .add t x y u) ty (.int k r) := fun a w o e _ f _ => by
  simp [execOp, e, f.ev hx, f.ev hy, eqGuard, binOp, Op.intArith, hr]
theorem OpV.sub {t u : TypeId} {x y : Operand} {ty : TypeId} {k : IntKind} {p q r : Int} (hx : ev L x = some (.int k p)) (hy : ev L y = some (.int k q)) (hr : k.wrap (p - q) = r) : OpV P n w0 L K (.binOp .sub t x y u) ty (.int k r) := fun a w o e _ f _ => by
  simp [execOp, e, f.ev hx, f.ev hy, eqGuard, binOp, Op.intArith, hr]
theorem OpV.mul {t u : TypeId} {x y : Operand} {ty : TypeId} {k : IntKind} {p q r : Int} (hx : ev L x = some (.int k p)) (hy : ev L y = some (.int k q)) (hr : k.wrap (p * q) = r) : OpV P n w0 L K (.binOp .mul t x y u) ty (.int k r) := fun a w o e _ f _ => by
  simp [execOp, e, f.ev hx, f.ev hy, eqGuard, binOp, Op.intArith, hr]
theorem OpV.lss {t u : TypeId} {x y : Operand} {ty : TypeId} {k : IntKind} {p q : Int} (hx : ev L x = some (.int k p)) (hy : ev L y = some (.int k q)) : OpV P n w0 L K (.binOp .lss t x y u) ty (.bool (decide (p < q))) := fun a w o e _ f _ => by
  simp [execOp, e, f.ev hx, f.ev hy, eqGuard, binOp, Op.intCmp]
theorem OpV.leq {t u : TypeId} {x y : Operand} {ty : TypeId} {k : IntKind} {p q : Int} (hx : ev L x = some (.int k p)) (hy : ev L y = some (.int k q)) : OpV P n w0 L K (.binOp .leq t x y u) ty (.bool (decide (p ≤ q))) := fun a w o e _ f _ => by
  simp [execOp, e, f.ev hx, f.ev hy, eqGuard, binOp, Op.intCmp]
theorem OpV.gtr {t u : TypeId} {x y : Operand} {ty : TypeId} {k : IntKind} {p q : Int} (hx : ev L x = some (.int k p)) (hy : ev L y = some (.int k q)) : OpV P n w0 L K (.binOp .gtr t x y u) ty (.bool (decide (q < p))) := fun a w o e _ f _ => by
  simp [execOp, e, f.ev hx, f.ev hy, eqGuard, binOp, Op.intCmp]
theorem OpV.geq {t u : TypeId} {x y : Operand} {ty : TypeId} {k : IntKind} {p q : Int} (hx : ev L x = some (.int k p)) (hy : ev L y = some (.int k q)) : OpV P n w0 L K (.binOp .geq t x y u) ty (.bool (decide (q ≤ p))) := fun a w o e _ f _ => by
  simp [execOp, e, f.ev hx, f.ev hy, eqGuard, binOp, Op.intCmp]
theorem OpV.eql {t u : TypeId} {x y : Operand} {ty : TypeId} {k : IntKind} {p q : Int} (hx : ev L x = some (.int k p)) (hy : ev L y = some (.int k q)) : OpV P n w0 L K (.binOp .eql t x y u) ty (.bool (p == q)) := fun a w o e _ f _ => by
  simp [execOp, e, f.ev hx, f.ev hy, eqGuard, binOp, Op.intCmp]
theorem OpV.neq {t u : TypeId} {x y : Operand} {ty : TypeId} {k : IntKind} {p q : Int} (hx : ev L x = some (.int k p)) (hy : ev L y = some (.int k q)) : OpV P n w0 L K (.binOp .neq t x y u) ty (.bool (p != q)) := fun a w o e _ f _ => by
  simp [execOp, e, f.ev hx, f.ev hy, eqGuard, binOp, Op.intCmp]
theorem OpV.seql {t u : TypeId} {x y : Operand} {ty : TypeId} {p q : ByteArray} (hx : ev L x = some (.string p)) (hy : ev L y = some (.string q)) : OpV P n w0 L K (.binOp .eql t x y u) ty (.bool (p.toList == q.toList)) := fun a w o e _ f _ => by
  simp [execOp, e, f.ev hx, f.ev hy, eqGuard, binOp, Op.stringOp]
theorem OpV.sneq {t u : TypeId} {x y : Operand} {ty : TypeId} {p q : ByteArray} (hx : ev L x = some (.string p)) (hy : ev L y = some (.string q)) : OpV P n w0 L K (.binOp .neq t x y u) ty (.bool (!(p.toList == q.toList))) := fun a w o e _ f _ => by
  simp [execOp, e, f.ev hx, f.ev hy, eqGuard, binOp, Op.stringOp]
theorem OpV.sadd {t u : TypeId} {x y : Operand} {ty : TypeId} {p q : ByteArray} (hx : ev L x = some (.string p)) (hy : ev L y = some (.string q)) (hs : p.size + q.size ≤ 9223372036854775807) : OpV P n w0 L K (.binOp .add t x y u) ty (.string (p ++ q)) := fun a w o e _ f _ => by
  have : ¬ (((p.size + q.size : Nat) : Int) > IntKind.i64.max) := by simp only [IntKind.max, IntKind.signed, IntKind.bits]; simp; omega
  simp only [execOp, e, f.ev hx, f.ev hy, eqGuard, binOp, Op.stringOp, if_neg this]
  simp
theorem run_eqInB (d : Nat) (w : World) (t : TypeId) (ht : P.underlying t = some .bool) (p q : Bool) : (Op.equalIn (d + 1) t (.bool p) (.bool q)).run P w = .ok (p == q) w := by
  simp [Op.equalIn, run_underlying ht]
theorem run_eqB (w : World) (t : TypeId) (ht : P.underlying t = some .bool) (p q : Bool) : (Op.equal t (.bool p) (.bool q)).run P w = .ok (p == q) w := run_eqInB 9999 w t ht p q
theorem run_eqInP (d : Nat) (w : World) (t e : TypeId) (ht : P.underlying t = some (.pointer e)) (p : Option Addr) : (Op.equalIn (d + 1) t (.pointer p) (.pointer none)).run P w = .ok p.isNone w := by
  cases p <;> simp [Op.equalIn, run_underlying ht]
theorem run_eqP (w : World) (t e : TypeId) (ht : P.underlying t = some (.pointer e)) (p : Option Addr) : (Op.equal t (.pointer p) (.pointer none)).run P w = .ok p.isNone w := run_eqInP 9999 w t e ht p
theorem OpV.beql {t u : TypeId} {x y : Operand} {ty : TypeId} {p q : Bool} (ht : P.underlying t = some .bool) (hx : ev L x = some (.bool p)) (hy : ev L y = some (.bool q)) : OpV P n w0 L K (.binOp .eql t x y u) ty (.bool (p == q)) := fun a w o e _ f _ => by
  simp [execOp, e, f.ev hx, f.ev hy, eqGuard, binOp, run_eqB w t ht]
theorem OpV.bneq {t u : TypeId} {x y : Operand} {ty : TypeId} {p q : Bool} (ht : P.underlying t = some .bool) (hx : ev L x = some (.bool p)) (hy : ev L y = some (.bool q)) : OpV P n w0 L K (.binOp .neq t x y u) ty (.bool (p != q)) := fun a w o e _ f _ => by
  simp [execOp, e, f.ev hx, f.ev hy, eqGuard, binOp, run_eqB w t ht, bne]
/-- structs and arrays: how they compare is a fact on the type -/
theorem OpV.aeql {t u : TypeId} {x y : Operand} {ty : TypeId} {p q : Array Value} {b : Bool} (hx : ev L x = some (.agg p)) (hy : ev L y = some (.agg q)) (hg : P.eqGuardType P.depth t = false) (h : ∀ w, (Op.equal t (.agg p) (.agg q)).run P w = .ok b w) :
    OpV P n w0 L K (.binOp .eql t x y u) ty (.bool b) := fun a w o e _ f _ => by
  simp [execOp, e, f.ev hx, f.ev hy, eqGuard, hg, binOp, h w]
theorem OpV.aneq {t u : TypeId} {x y : Operand} {ty : TypeId} {p q : Array Value} {b : Bool} (hx : ev L x = some (.agg p)) (hy : ev L y = some (.agg q)) (hg : P.eqGuardType P.depth t = false) (h : ∀ w, (Op.equal t (.agg p) (.agg q)).run P w = .ok b w) :
    OpV P n w0 L K (.binOp .neq t x y u) ty (.bool (!b)) := fun a w o e _ f _ => by
  simp [execOp, e, f.ev hx, f.ev hy, eqGuard, hg, binOp, h w]
theorem OpV.peql {t u e0 : TypeId} {x y : Operand} {ty : TypeId} {p : Option Addr} (ht : P.underlying t = some (.pointer e0)) (hx : ev L x = some (.pointer p)) (hy : ev L y = some (.pointer none)) : OpV P n w0 L K (.binOp .eql t x y u) ty (.bool p.isNone) := fun a w o e _ f _ => by
  cases p <;> simp [execOp, e, f.ev hx, f.ev hy, eqGuard, binOp, run_eqP w t e0 ht]
theorem OpV.pneq {t u e0 : TypeId} {x y : Operand} {ty : TypeId} {p : Option Addr} (ht : P.underlying t = some (.pointer e0)) (hx : ev L x = some (.pointer p)) (hy : ev L y = some (.pointer none)) : OpV P n w0 L K (.binOp .neq t x y u) ty (.bool (!p.isNone)) := fun a w o e _ f _ => by
  cases p <;> simp [execOp, e, f.ev hx, f.ev hy, eqGuard, binOp, run_eqP w t e0 ht]
theorem OpV.conv {s d : TypeId} {x : Operand} {ty : TypeId} {k k' : IntKind} {m r : Int} {us : TypeDesc} (hs : P.underlying s = some us) (hd : P.underlying d = some (.int k)) (h : ev L x = some (.int k' m)) (hr : k.wrap m = r) : OpV P n w0 L K (.convert s d x) ty (.int k r) := fun a w o e _ f _ => by
  simp [execOp, e, f.ev h, convert, run_underlying hs, run_underlying hd, Conv.intToInt, hr]
theorem OpV.convs {s d : TypeId} {x : Operand} {ty : TypeId} {k' : IntKind} {m : Int} {us : TypeDesc} (hs : P.underlying s = some us) (hd : P.underlying d = some .string) (h : ev L x = some (.int k' m)) : OpV P n w0 L K (.convert s d x) ty (.string (Utf8.encode m)) := fun a w o e _ f _ => by
  simp [execOp, e, f.ev h, convert, run_underlying hs, run_underlying hd, Conv.intToString]
theorem OpV.nil {x : Operand} {ty : TypeId} {p : Addr} (h : ev L x = some (.pointer (some p))) : OpV P n w0 L K (.nilCheck x) ty (.pointer (some p)) := fun a w o e _ f _ => by
  simp [execOp, e, f.ev h]
def nth (i : Nat) : List Value → Option Value
  | [] => none
  | v :: l => match i with
    | 0 => some v
    | i + 1 => nth i l
theorem nth_eq : ∀ (l : List Value) (i : Nat), nth i l = l[i]?
  | [], i => by simp [nth]
  | v :: l, 0 => rfl
  | v :: l, i + 1 => by rw [nth, nth_eq l i]; simp
theorem OpV.extract {x : Operand} {i : Nat} {ty : TypeId} {vs : Array Value} {v : Value} (h : ev L x = some (.tuple vs)) (hv : nth i vs.toList = some v) : OpV P n w0 L K (.extract x i) ty v := fun a w o e _ f _ => by
  have hv' : vs[i]? = some v := by rw [nth_eq] at hv; simpa using hv
  simp [execOp, e, f.ev h, Instr.extract, hv']
/-- a type of one cell that is no struct and no array -/
def plainT (P : Program) (t : TypeId) : Bool := match P.underlying t with
  | some (.struct _) | some (.array _ _) | none => false
  | some _ => true
theorem plain_agg {t : TypeId} (h : plainT P t = true) (w : World) : (isAgg t).run P w = .ok false w := by
  unfold plainT at h
  cases hu : P.underlying t with
  | none => rw [hu] at h; cases h
  | some d =>
    rw [hu] at h
    unfold isAgg
    rw [Sem.run_bind, run_underlying hu w]
    cases d <;> first | rfl | cases h
theorem add_plain (b o k : Nat) : (⟨b, o, none⟩ : Addr).add k = ⟨b, o + k, none⟩ := by unfold Addr.add; split <;> simp_all
/-- the offset of a field -/
def fOff (P : Program) (s i : Nat) : Option Nat :=
  match P.underlying s with
  | some (.struct fs) => match fs[i]? with
    | some f => if (P.info? f.type).any (fun i => i.size != 0) then some f.offset else none
    | none => none
  | _ => none
theorem run_fieldAt {s i k : Nat} (h : fOff P s i = some k) (b o : Nat) (w : World) : (Instr.fieldAt s (.pointer (some ⟨b, o, none⟩)) i).run P w = .ok (.pointer (some ⟨b, o + k, none⟩)) w := by
  unfold fOff at h
  split at h
  · rename_i fs hu
    split at h
    · rename_i f hf
      split at h
      · rename_i hs
        cases h
        obtain ⟨ti, h1, h2⟩ := (Option.any_eq_true _ _).1 hs
        have h3 : ¬ ti.size = 0 := by simpa using h2
        simp [Instr.fieldAt, run_underlying hu, hf, Instr.sureAddr, fieldPlace, sizeOf, typeInfo, h1, h3, add_plain]
      · cases h
    · cases h
  · cases h
theorem OpV.fieldAddr {s : TypeId} {i k b o : Nat} {x : Operand} {ty : TypeId} (h : ev L x = some (.pointer (some ⟨b, o, none⟩))) (hk : fOff P s i = some k) : OpV P n w0 L K (.fieldAddr s x i) ty (.pointer (some ⟨b, o + k, none⟩)) := fun a w o e _ f _ => by
  simp [execOp, e, f.ev h, run_fieldAt hk]
/-- the element type of a slice, and its size -/
def sEl (P : Program) (t : TypeId) : Option (TypeId × Nat) :=
  match P.underlying t with
  | some (.slice e) => (P.info? e).map fun i => (e, i.size)
  | _ => none
theorem sEl_spec {t e z : Nat} (h : sEl P t = some (e, z)) : P.underlying t = some (.slice e) ∧ ∃ i, P.info? e = some i ∧ i.size = z := by
  unfold sEl at h
  split at h
  · rename_i e' hu
    cases hi : P.info? e' with
    | none => rw [hi] at h; cases h
    | some i =>
      rw [hi] at h
      cases h
      exact ⟨hu, i, hi, rfl⟩
  · cases h
theorem OpV.indexAddr {t e z b o m c j : Nat} {A : Option Addr} {x y : Operand} {ty : TypeId} {k : IntKind} {q : Int} (he : sEl P t = some (e, z)) (hx : ev L x = some (.slice A m c)) (hA : A = some ⟨b, o, none⟩) (hy : ev L y = some (.int k q)) (hq : q = (j : Int)) (hj : j < m) :
    OpV P n w0 L K (.indexAddr t x y) ty (.pointer (some ⟨b, o + j * z, none⟩)) := fun a w o' eo _ f _ => by
  obtain ⟨h1, i, h2, h3⟩ := sEl_spec he
  subst hq hA
  have : (0 : Int) ≤ (j : Int) ∧ (j : Int) < (m : Int) := by omega
  simp [execOp, eo, f.ev hx, f.ev hy, Instr.indexAt, asIntOf, run_underlying h1, sizeOf, typeInfo, h2, h3, hj, add_plain]
/-- the element type of an array, its length and an element's size -/
def aEl (P : Program) (t : TypeId) : Option (TypeId × Nat × Nat) :=
  match P.underlying t with
  | some (.array m e) => (P.info? e).map fun i => (e, m, i.size)
  | _ => none
theorem aEl_spec {t e m z : Nat} (h : aEl P t = some (e, m, z)) : P.underlying t = some (.array m e) ∧ ∃ i, P.info? e = some i ∧ i.size = z := by
  unfold aEl at h
  split at h
  · rename_i m' e' hu
    cases hi : P.info? e' with
    | none => rw [hi] at h; cases h
    | some i =>
      rw [hi] at h
      cases h
      exact ⟨hu, i, hi, rfl⟩
  · cases h
theorem OpV.indexAddrA {t e z b o m j : Nat} {x y : Operand} {ty : TypeId} {k : IntKind} {q : Int} (he : aEl P t = some (e, m, z)) (hx : ev L x = some (.pointer (some ⟨b, o, none⟩))) (hy : ev L y = some (.int k q)) (hq : q = (j : Int)) (hj : j < m) :
    OpV P n w0 L K (.indexAddr t x y) ty (.pointer (some ⟨b, o + j * z, none⟩)) := fun a w o' eo _ f _ => by
  obtain ⟨h1, i, h2, h3⟩ := aEl_spec he
  subst hq
  have : (0 : Int) ≤ (j : Int) ∧ (j : Int) < (m : Int) := by omega
  simp [execOp, eo, f.ev hx, f.ev hy, Instr.indexAt, asIntOf, run_underlying h1, sizeOf, typeInfo, h2, h3, hj, add_plain, Instr.sureAddr]
theorem OpV.indexA1 {t e m j : Nat} {x y : Operand} {ty : TypeId} {k : IntKind} {q : Int} {cs : Array Value} {v : Value} (he : aEl P t = some (e, m, 1)) (hp : plainT P e = true) (hx : ev L x = some (.agg cs)) (hy : ev L y = some (.int k q)) (hq : q = (j : Int)) (hj : j < m) (hv : cs[j]? = some v) :
    OpV P n w0 L K (.index t x y) ty v := fun a w o' eo _ f _ => by
  obtain ⟨h1, i, h2, h3⟩ := aEl_spec he
  subst hq
  have hpl := plain_agg hp w
  simp [execOp, eo, f.ev hx, f.ev hy, Instr.index, asIntOf, run_underlying h1, sizeOf, typeInfo, h2, h3, hj, part, hpl, hv]
theorem OpV.rem {t u : TypeId} {x y : Operand} {ty : TypeId} {k : IntKind} {p q r : Int} (hx : ev L x = some (.int k p)) (hy : ev L y = some (.int k q)) (hq : q ≠ 0) (hr : p.tmod q = r) : OpV P n w0 L K (.binOp .rem t x y u) ty (.int k r) := fun a w o e _ f _ => by
  simp [execOp, e, f.ev hx, f.ev hy, eqGuard, binOp, Op.intDiv, hq, hr]
theorem OpV.quo {t u : TypeId} {x y : Operand} {ty : TypeId} {k : IntKind} {p q r : Int} (hx : ev L x = some (.int k p)) (hy : ev L y = some (.int k q)) (hq : q ≠ 0) (hr : k.wrap (p.tdiv q) = r) : OpV P n w0 L K (.binOp .quo t x y u) ty (.int k r) := fun a w o e _ f _ => by
  simp [execOp, e, f.ev hx, f.ev hy, eqGuard, binOp, Op.intDiv, hq, hr]
theorem OpV.indexStr {t : TypeId} {j : Nat} {x y : Operand} {ty : TypeId} {k : IntKind} {q : Int} {s : ByteArray} {u : UInt8} (ht : P.underlying t = some .string) (hx : ev L x = some (.string s)) (hy : ev L y = some (.int k q)) (hq : q = (j : Int)) (hj : s[j]? = some u) :
    OpV P n w0 L K (.index t x y) ty (.int .u8 u.toNat) := fun a w o' eo _ f _ => by
  subst hq
  have : (0 : Int) ≤ (j : Int) := by omega
  simp [execOp, eo, f.ev hx, f.ev hy, Instr.index, asIntOf, run_underlying ht, hj]
theorem OpV.len {t : TypeId} {e : TypeId} {x : Operand} {ty : TypeId} {A : Option Addr} {m c : Nat} (ht : P.underlying t = some (.slice e)) (hx : ev L x = some (.slice A m c)) : OpV P n w0 L K (.call ⟨.builtin .len, #[x], #[t]⟩) ty (.int .i64 (m : Int)) := fun a w o eo _ f _ => by
  simp [execOp, eo, resolve, invoke, builtin, f.ev hx, Builtin.len_, run_underlying ht, goInt]
theorem OpV.lenS {t : TypeId} {x : Operand} {ty : TypeId} {s : ByteArray} (ht : P.underlying t = some .string) (hx : ev L x = some (.string s)) : OpV P n w0 L K (.call ⟨.builtin .len, #[x], #[t]⟩) ty (.int .i64 (s.size : Int)) := fun a w o eo _ f _ => by
  simp [execOp, eo, resolve, invoke, builtin, f.ev hx, Builtin.len_, run_underlying ht, goInt]
theorem OpV.min {ts : Array TypeId} {x y : Operand} {ty : TypeId} {k : IntKind} {p q : Int} (hx : ev L x = some (.int k p)) (hy : ev L y = some (.int k q)) : OpV P n w0 L K (.call ⟨.builtin .min, #[x, y], ts⟩) ty (.int k (if q < p then q else p)) := fun a w o eo _ f _ => by
  simp [execOp, eo, resolve, invoke, builtin, f.ev hx, f.ev hy, Builtin.min_, Builtin.min2]
theorem OpV.max {ts : Array TypeId} {x y : Operand} {ty : TypeId} {k : IntKind} {p q : Int} (hx : ev L x = some (.int k p)) (hy : ev L y = some (.int k q)) : OpV P n w0 L K (.call ⟨.builtin .max, #[x, y], ts⟩) ty (.int k (if p < q then q else p)) := fun a w o eo _ f _ => by
  simp [execOp, eo, resolve, invoke, builtin, f.ev hx, f.ev hy, Builtin.max_, Builtin.max2]
/-- a part of a struct's value -/
def fVal (P : Program) (s i : Nat) (cs : Array Value) : Option Value :=
  match P.underlying s with
  | some (.struct fs) => match fs[i]? with
    | some f => match P.underlying f.type with
      | some (.struct _) | some (.array _ _) => none
      | some _ => cs[f.offset]?
      | none => none
    | none => none
  | _ => none
theorem OpV.field {s : TypeId} {i : Nat} {x : Operand} {ty : TypeId} {cs : Array Value} {v : Value} (h : ev L x = some (.agg cs)) (hv : ∀ w : World, (Instr.field s (.agg cs) i).run P w = .ok v w) : OpV P n w0 L K (.field s x i) ty v := fun a w o e _ f _ => by
  simp [execOp, e, f.ev h, hv w]
theorem OpV.build {t : TypeId} {ps : Array (Nat × Operand)} {qs : Array (Nat × Value)} {ty : TypeId} {v : Value} (hp : ∀ a, FrOk n L a → (ps.map fun (i, x) => (i, a.eval x)) = qs) (hv : ∀ w : World, (Instr.build t qs).run P w = .ok v w) : OpV P n w0 L K (.build t ps) ty v := fun a w o e _ f _ => by
  have := hp a f
  simp [execOp, e, this, hv w]

/-! ### Memory that is read -/
/-- the cell o of block b holds v, wherever K is known -/
def Cel (w0 : World) (K : List Ent) (b o : Nat) (v : Value) : Prop := ∀ w, KOk w0 K w → w.cell? ⟨b, o, none⟩ = some v
def At (σ : Nat → Option Obj) (b o : Nat) (v : Value) : Prop := ∃ X T f, σ b = some (.cells X T f) ∧ X[o]? = some v
theorem At.of_cell {w : World} {b o : Nat} {v : Value} (h : w.cell? ⟨b, o, none⟩ = some v) : At (fun b => w.heap[b]?) b o v := by
  unfold World.cell? at h
  split at h
  · rename_i X T f hb
    exact ⟨X, T, f, hb, by simpa using h⟩
  · cases h
theorem Cel.blk {K' : List Ent} {b o : Nat} {cs : List Value} {T : TypeId} {v : Value} (p : Pick K (.blk b cs T) K') (h : cs[o]? = some v) : Cel w0 K b o v := fun w k => by
  have := (k.get p).2
  simp [World.cell?, this, h]
theorem at_cell {σ : Nat → Option Obj} {b o : Nat} {v : Value} {w : World} (h : At σ b o v) (hw : ∀ b o, σ b = some o → w.heap[b]? = some o) : w.cell? ⟨b, o, none⟩ = some v := by
  obtain ⟨X, T, f, h1, h2⟩ := h
  simp [World.cell?, hw _ _ h1, h2]
theorem Cel.fr {K' : List Ent} {σ : Nat → Option Obj} {b o : Nat} {v : Value} (p : Pick K (.fr σ) K') (h : At σ b o v) : Cel w0 K b o v := fun w k => at_cell h (k.get p)
theorem Cel.own {K' : List Ent} {σ : Nat → Option Obj} {b o : Nat} {v : Value} (p : Pick K (.own σ) K') (h : At σ b o v) : Cel w0 K b o v := fun w k => at_cell h fun b o hs => ((k.get p) b o hs).2
theorem Cel.row {K' : List Ent} {e z m c b o : Nat} {s : Option Nat} {xs : List Value} {v : Value} (p : Pick K (.row e z (some ⟨b, 0, none⟩) m c xs) K') (h : xs[o]? = some v) : Cel w0 K b o v := fun w k => by
  have := World.ownsRow.cells (k.get p) (g := b) rfl o v h
  rwa [add_plain, Nat.zero_add] at this
theorem OpV.load {t : TypeId} {x : Operand} {ty : TypeId} {b o : Nat} {v : Value} (ht : plainT P t = true) (hx : ev L x = some (.pointer (some ⟨b, o, none⟩))) (hc : Cel w0 K b o v) : OpV P n w0 L K (.load t x) ty v := fun a w o' e _ f k => by
  simp [execOp, e, f.ev hx, Instr.loadAt, Instr.sureAddr, loadVar, plain_agg ht, hc w k]
/-- a struct or an array of z cells -/
def aggT (P : Program) (t : TypeId) : Option Nat := match P.underlying t with
  | some (.struct _) | some (.array _ _) => (P.info? t).map (·.size)
  | _ => none
theorem aggT_spec {t z : Nat} (h : aggT P t = some z) (w : World) : (isAgg t).run P w = .ok true w ∧ (sizeOf t).run P w = .ok z w := by
  unfold aggT at h
  split at h
  all_goals first | (cases h; done) | skip
  all_goals
    rename_i hu
    obtain ⟨i, h1, h2⟩ := Option.map_eq_some_iff.1 h
    exact ⟨by simp [isAgg, run_underlying hu], by simp [sizeOf, typeInfo, h1, h2]⟩
theorem run_loadCells_len {w : World} {a : Addr} {cs : List Value} {z : Nat} (hz : cs.length = z) (h : ∀ j v, cs[j]? = some v → w.cell? (a.add j) = some v) : (loadCells a z).run P w = .ok cs.toArray w := by
  subst hz
  exact run_loadCells_list (P := P) w a cs h
/-- z cells from o on -/
def Cels (w0 : World) (K : List Ent) (b o z : Nat) (cs : List Value) : Prop := cs.length = z ∧ ∀ j v, cs[j]? = some v → Cel w0 K b (o + j) v
def Ats (σ : Nat → Option Obj) (b o : Nat) (cs : List Value) : Prop := ∀ j v, cs[j]? = some v → At σ b (o + j) v
def subL (cs : List Value) (o z : Nat) : Option (List Value) := bif Nat.beq o 0 && Nat.beq cs.length z then some cs else bif Nat.ble (o + z) cs.length then some ((cs.drop o).take z) else none
theorem subL_spec {cs vs : List Value} {o z : Nat} (h : subL cs o z = some vs) : vs.length = z ∧ ∀ j v, vs[j]? = some v → cs[o + j]? = some v := by
  unfold subL at h
  cases h1 : (Nat.beq o 0 && Nat.beq cs.length z)
  · rw [h1, cond_false] at h
    cases h2 : Nat.ble (o + z) cs.length
    · rw [h2, cond_false] at h; cases h
    · rw [h2, cond_true] at h
      cases h
      have h3 := Nat.le_of_ble_eq_true h2
      refine ⟨by simp; omega, fun j v hj => ?_⟩
      rw [List.getElem?_take] at hj
      split at hj
      · rwa [List.getElem?_drop] at hj
      · cases hj
  · rw [h1, cond_true] at h
    cases h
    simp only [Bool.and_eq_true] at h1
    obtain rfl := Nat.eq_of_beq_eq_true h1.1
    exact ⟨Nat.eq_of_beq_eq_true h1.2, fun j v hj => by rwa [Nat.zero_add]⟩
theorem Cels.blk {K' : List Ent} {b o z : Nat} {cs vs : List Value} {T : TypeId} (p : Pick K (.blk b cs T) K') (h : subL cs o z = some vs) : Cels w0 K b o z vs :=
  ⟨(subL_spec h).1, fun j v hj => Cel.blk p ((subL_spec h).2 j v hj)⟩
theorem Cels.blkAt {K' : List Ent} {b o z : Nat} {cs : List Value} (vs : List Value) {T : TypeId} (p : Pick K (.blk b cs T) K') (h : (cs.drop o).take z = vs) (hz : vs.length = z) : Cels w0 K b o z vs :=
  ⟨hz, fun j v hj => Cel.blk p (by
    subst h
    rw [List.getElem?_take] at hj
    split at hj
    · rwa [List.getElem?_drop] at hj
    · cases hj)⟩
theorem Cels.fr {K' : List Ent} {σ : Nat → Option Obj} {b o z : Nat} {cs : List Value} (p : Pick K (.fr σ) K') (h : Ats σ b o cs) (hz : cs.length = z) : Cels w0 K b o z cs := ⟨hz, fun j v hj => Cel.fr p (h j v hj)⟩
theorem Cels.own {K' : List Ent} {σ : Nat → Option Obj} {b o z : Nat} {cs : List Value} (p : Pick K (.own σ) K') (h : Ats σ b o cs) (hz : cs.length = z) : Cels w0 K b o z cs := ⟨hz, fun j v hj => Cel.own p (h j v hj)⟩
theorem OpV.loadA {t : TypeId} {x : Operand} {ty : TypeId} {b o z : Nat} {cs : List Value} (ht : aggT P t = some z) (hx : ev L x = some (.pointer (some ⟨b, o, none⟩))) (hc : Cels w0 K b o z cs) : OpV P n w0 L K (.load t x) ty (.agg cs.toArray) := fun a w o' e _ f k => by
  obtain ⟨h1, h2⟩ := aggT_spec ht w
  have h3 := run_loadCells_len (P := P) (w := w) (a := ⟨b, o, none⟩) hc.1 fun j v hv => by rw [add_plain]; exact hc.2 j v hv w k
  simp [execOp, e, f.ev hx, Instr.loadAt, Instr.sureAddr, loadVar, h1, h2, h3]
theorem Cel.frA {K' : List Ent} {σ : Nat → Option Obj} {b o : Nat} {v : Value} (h : At σ b o v) (p : Pick K (.fr σ) K' := by first | exact P0 | exact P1 | exact P2 | exact P3 | exact P4 | exact P5 | exact P6 | exact P7 | exact P8) : Cel w0 K b o v := Cel.fr p h
theorem Cel.ownA {K' : List Ent} {σ : Nat → Option Obj} {b o : Nat} {v : Value} (h : At σ b o v) (p : Pick K (.own σ) K' := by first | exact P0 | exact P1 | exact P2 | exact P3 | exact P4 | exact P5 | exact P6 | exact P7 | exact P8) : Cel w0 K b o v := Cel.own p h
theorem Cels.frA {K' : List Ent} {σ : Nat → Option Obj} {b o z : Nat} {cs : List Value} (h : Ats σ b o cs) (hz : cs.length = z) (p : Pick K (.fr σ) K' := by first | exact P0 | exact P1 | exact P2 | exact P3 | exact P4 | exact P5 | exact P6 | exact P7 | exact P8) : Cels w0 K b o z cs := Cels.fr p h hz
theorem Cels.ownA {K' : List Ent} {σ : Nat → Option Obj} {b o z : Nat} {cs : List Value} (h : Ats σ b o cs) (hz : cs.length = z) (p : Pick K (.own σ) K' := by first | exact P0 | exact P1 | exact P2 | exact P3 | exact P4 | exact P5 | exact P6 | exact P7 | exact P8) : Cels w0 K b o z cs := Cels.own p h hz
theorem FrOk.again {a : Act} (f : FrOk n L a) {t : Nat} {v : Value} (h : lk t L = some v) : FrOk n ((t, v) :: L) a := ⟨f.sz, f.df, fun u x hu => by
  simp only [lk] at hu
  cases hb : Nat.beq t u
  · rw [hb, cond_false] at hu; exact f.kn u x hu
  · rw [hb, cond_true] at hu
    cases hu
    rw [← Nat.eq_of_beq_eq_true hb]; exact f.kn t v h⟩
theorem TL.part {t : Nat} {b : Bool} (h : lk t L = some (.bool b)) (h1 : b = true → TL P n w0 ((t, .bool true) :: L) K ops l Q) (h2 : b = false → TL P n w0 ((t, .bool false) :: L) K ops l Q) : TL P n w0 L K ops l Q := by
  cases b
  · exact fun a w f k => h2 rfl a w (f.again h) k
  · exact fun a w f k => h1 rfl a w (f.again h) k
/-- what a slot holds, said otherwise -/
theorem TL.said {t : Nat} {v u : Value} (h : lk t L = some v) (e : v = u) (nx : TL P n w0 ((t, u) :: L) K ops l Q) : TL P n w0 L K ops l Q := by
  subst e
  exact fun a w f k => nx a w (f.again h) k
theorem T.said {t : Nat} {v u : Value} {c : Code} (h : lk t L = some v) (e : v = u) (nx : T P n w0 ((t, u) :: L) K c Q) : T P n w0 L K c Q := by
  subst e
  exact fun a w f k => nx a w (f.again h) k
end
end Go.Proofs.Ytaoepaonjeilgaa
