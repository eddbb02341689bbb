/-
  Copies, and strings of runes. No condition; no program in sight.
-/
import Derived.Test.YtaoepaonjeilgaaEng5
import Derived.Laws.Cover4
namespace Go.Proofs.Ytaoepaonjeilgaa
open Go.RowKit
set_option linter.unusedSimpArgs false
set_option linter.unusedVariables false
section
variable {P : Program} {n : Nat} {w0 : World} {L : List (Nat × Value)} {K : List Ent} {Q : Exit → Act → World → Prop} {ops : Array Oper} {l : List Oper}
theorem OpV.slice3 {t e z m c hi : Nat} {A : Option Addr} {x y y' : Operand} {ty : TypeId} {k k' : IntKind} {q q' : Int} (he : sEl P t = some (e, z)) (hx : ev L x = some (.slice A m c)) (hy : ev L y = some (.int k q)) (hy' : ev L y' = some (.int k' q')) (hq : q = (hi : Int)) (hq' : q' = (hi : Int)) (hh : hi ≤ c) :
    OpV P n w0 L K (.slice t x none (some y) (some y')) ty (.slice (subA A hi 0 z) hi hi) := fun a w o' eo _ f _ => by
  obtain ⟨h1, i, h2, h3⟩ := sEl_spec he
  subst hq hq'
  simp [execOp, eo, f.ev hx, f.ev hy, f.ev hy', Instr.sliceAt, Instr.slice, Instr.sliceBounds, Instr.sliceBound, asIntOf, run_underlying h1, sizeOf, typeInfo, h2, h3, hh, subA]
theorem OpV.sliceStrHi {t hi : Nat} {x y : Operand} {ty : TypeId} {k : IntKind} {q : Int} {s : ByteArray} (ht : P.underlying t = some .string) (hx : ev L x = some (.string s)) (hy : ev L y = some (.int k q)) (hq : q = (hi : Int)) (hh : hi ≤ s.size) :
    OpV P n w0 L K (.slice t x none (some y) none) ty (.string (s.extract 0 hi)) := fun a w o' eo _ f _ => by
  subst hq
  simp [execOp, eo, f.ev hx, f.ev hy, Instr.sliceAt, Instr.slice, Instr.sliceBounds, Instr.sliceBound, asIntOf, run_underlying ht, hh]
/-- what was appended to, or came in, is copied into a block of the call's own -/
theorem TL.copy {d dT sT e z b o dl dc m2 c2 : Nat} {x y : Operand} {ty : TypeId} {pos : String} {af : Array Edge} {A2 : Option Addr} {cs vs cs' : List Value} {T : TypeId} {K1 : List Ent}
    (he : sEl P dT = some (e, z)) (hx : ev L x = some (.slice (some ⟨b, o, none⟩) dl dc)) (hy : ev L y = some (.slice A2 m2 c2)) (hm : m2 ≤ dl) (p : Pick K (.blk b cs T) K1) (src : Src w0 K A2 m2 z vs) (h1 : (vs.all fun u => u.oneCell') = true)
    (hf : o + vs.length ≤ cs.length) (hp : putL cs o vs = cs') (hd : Nat.blt d n = true) (nx : TL P n w0 ((d, .int .i64 (m2 : Int)) :: L) (.blk b cs' T :: K1) ops l Q) :
    TL P n w0 L K ops (⟨some d, .call ⟨.builtin .copy, #[x, y], #[dT, sT]⟩, ty, pos, af, none⟩ :: l) Q := fun a w f k => wpList_plain rfl fun K' hK' => by
  subst hp
  obtain ⟨e1, i, e2, e3⟩ := sEl_spec he
  have k1 := k.pick p
  obtain ⟨s1, s2⟩ := src w k
  have hst := run_storeCells_at P b o T vs 0 cs.toArray w k1.all.1.2 (by simpa using hf) (fun u hu => List.all_eq_true.1 h1 u hu)
  have hmin : Nat.min m2 dl = m2 := Nat.min_eq_left hm
  have hfc : (Builtin.firstCells z m2 (.slice A2 m2 c2)).run P w = .ok vs.toArray w := by
    by_cases h0 : 0 < m2
    · obtain ⟨b2, o2, hA, _, hc⟩ := s2 h0
      subst hA
      have := run_loadCells_list (P := P) w ⟨b2, o2, none⟩ vs fun j v hj => by
        rw [add_plain, hc j (by rw [← s1]; exact (List.getElem?_eq_some_iff.1 hj).1)]
        exact hj
      rw [s1] at this
      exact this
    · have hv : vs = [] := List.length_eq_zero_iff.1 (by rw [s1, Nat.eq_zero_of_not_pos h0, Nat.zero_mul])
      subst hv
      have hm0 := Nat.eq_zero_of_not_pos h0
      cases A2 with
      | none => simp [Builtin.firstCells]
      | some q =>
        have := run_loadCells_list (P := P) w q [] (by simp)
        simpa [Builtin.firstCells, hm0] using this
  have hrun : (Builtin.copy_ #[dT, sT] ty #[.slice (some ⟨b, o, none⟩) dl dc, .slice A2 m2 c2]).run P w = .ok (.int .i64 (m2 : Int)) (w.setRow b (putL cs o vs).toArray) := by
    simp [Builtin.copy_, run_underlying e1, Builtin.lenOf, sizeOf, typeInfo, e2, e3, hmin, hfc, hst, putL, goInt]
  unfold Oper.wp
  simp [execOp, resolve, invoke, builtin, f.ev hx, f.ev hy, hrun]
  exact hK' _ _ (nx _ _ (f.put hd _) k1.setRow)
/-- the bytes of runes -/
def encs (xs : List Int) : ByteArray := runesBytes xs
theorem OpV.runes {s d e m c : Nat} {x : Operand} {ty : TypeId} {A : Option Addr} {xs : List Int} (hs : P.underlying s = some (.slice e)) (he : P.underlying e = some (.int .i32)) (hd : P.underlying d = some .string) (h : ev L x = some (.slice A m c)) (src : Src w0 K A m 1 (xs.map (Value.int .i32))) (hm : 0 < m) :
    OpV P n w0 L K (.convert s d x) ty (.string (encs xs)) := fun a w o eo _ f k => by
  obtain ⟨s1, s2⟩ := src w k
  obtain ⟨b2, o2, hA, _, hc⟩ := s2 hm
  subst hA
  have hl := run_loadCells_list (P := P) w ⟨b2, o2, none⟩ (xs.map (Value.int .i32)) fun j v hj => by
    rw [add_plain, hc j (by have := (List.getElem?_eq_some_iff.1 hj).1; omega)]
    exact hj
  rw [s1, Nat.mul_one] at hl
  have hrun := run_runesToString (P := P) w ⟨b2, o2, none⟩ m c xs hl
  simp [execOp, eo, f.ev h, convert, run_underlying hs, run_underlying hd, run_underlying he, hrun, encs]
end
end Go.Proofs.Ytaoepaonjeilgaa
