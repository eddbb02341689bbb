/-
  Rows that are written. No condition.
-/
import Derived.Test.YtdmpodpdpncobaaDoorRep
namespace Go.Proofs.YtdmpodpdpncobaaDoor
open Go.RowKit
set_option linter.unusedSimpArgs false
set_option linter.unusedVariables false
/-! ### Rows in memory of the call's own, to be written -/
theorem putL_append (ys r vs : List Value) (o : Nat) (ho : o + vs.length ≤ ys.length) : putL (ys ++ r) o vs = putL ys o vs ++ r := by
  unfold putL
  rw [List.take_append_of_le_length (by omega), List.drop_append_of_le_length ho]
  simp [List.append_assoc]
theorem take_putL {cs ys vs : List Value} {o : Nat} (h : cs.take ys.length = ys) (ho : o + vs.length ≤ ys.length) : (putL cs o vs).take (putL ys o vs).length = putL ys o vs := by
  have e : cs = ys ++ cs.drop ys.length := by
    have := (List.take_append_drop ys.length cs).symm
    rwa [h] at this
  rw [e, putL_append _ _ _ _ ho, List.take_left']
  rfl
theorem putL_behind (a ys vs : List Value) (o : Nat) : putL (a ++ ys) (a.length + o) vs = a ++ putL ys o vs := by
  unfold putL
  rw [List.take_length_add_append, Nat.add_assoc, List.drop_length_add_append]
  simp [List.append_assoc]
theorem putL_fl : ∀ (xs : List Cl) (k : Nat) (x : Cl), k < xs.length → putL (fl xs) (k * 16) x.l = fl (xs.set k x)
  | [], k, x, h => by simp at h
  | y :: l, 0, x, _ => by
    have e : fl (y :: l) = y.l ++ fl l := rfl
    rw [e, putL, Nat.zero_mul, List.take_zero, List.nil_append, Nat.zero_add, Cl.l_length, ← Cl.l_length y, List.drop_left]
    rfl
  | y :: l, k + 1, x, h => by
    have e : fl (y :: l) = y.l ++ fl l := rfl
    have e2 : (k + 1) * 16 = y.l.length + k * 16 := by rw [Cl.l_length]; omega
    rw [e, e2, putL_behind, putL_fl l k x (by simpa using h)]
    rfl
/-- row l's cells are a block of σ, known as far as they go -/
def OwR (T : TypeId) (σ : Nat → Option Obj) (b : Nat) (cells : List Cl) : Prop := ∃ cs : List Value, σ b = some (.cells cs.toArray T (0, 0)) ∧ cs.take (fl cells).length = fl cells
theorem OwR.keep {T : TypeId} {σ : Nat → Option Obj} {b b' : Nat} {cells : List Cl} {o : Obj} (h : OwR T σ b cells) (hb : b ≠ b') : OwR T (upd (del σ b') b' o) b cells := by
  obtain ⟨cs, h1, h2⟩ := h
  exact ⟨cs, by rw [upd_ne _ _ hb, del_ne _ hb]; exact h1, h2⟩
theorem OwR.set {T : TypeId} {σ : Nat → Option Obj} {b k : Nat} {cells : List Cl} {cs : List Value} (h2 : cs.take (fl cells).length = fl cells) (hk : k < cells.length) (x : Cl) : OwR T (upd (del σ b) b (.cells (putL cs (k * 16) x.l).toArray T (0, 0))) b (cells.set k x) := by
  refine ⟨_, upd_self _ _ _, ?_⟩
  rw [← putL_fl cells k x hk]
  exact take_putL h2 (by rw [length_fl, Cl.l_length]; omega)
/-- rows of m cells each, each in a block of its own -/
def WR (T : TypeId) (σ : Nat → Option Obj) (m : Nat) (ls : List LnA) : Prop :=
  (∀ l ∈ ls, ∃ b, l.A = some ⟨b, 0, none⟩ ∧ l.n = m ∧ l.cells.length = m ∧ m ≤ l.c ∧ l.c ≤ 9223372036854775807 ∧ OwR T σ b l.cells) ∧ (ls.map LnA.A).Nodup
def LnA.put (l : LnA) (k : Nat) (x : Cl) : LnA := { l with cells := l.cells.set k x }
theorem WR.get {T : TypeId} {σ : Nat → Option Obj} {m : Nat} {ls : List LnA} (h : WR T σ m ls) {r : Nat} {l : LnA} (hl : ls[r]? = some l) : ∃ (b : Nat) (cs : List Value), l.A = some ⟨b, 0, none⟩ ∧ l.n = m ∧ l.cells.length = m ∧ σ b = some (.cells cs.toArray T (0, 0)) ∧ cs.take (fl l.cells).length = fl l.cells := by
  obtain ⟨b, h1, h2, h3, _, _, cs, h4, h5⟩ := h.1 l (List.mem_of_getElem? hl)
  exact ⟨b, cs, h1, h2, h3, h4, h5⟩
theorem WR.put {T : TypeId} {σ : Nat → Option Obj} {m : Nat} {ls : List LnA} (h : WR T σ m ls) {r k b : Nat} {l : LnA} {cs : List Value} (hl : ls[r]? = some l) (hA : l.A = some ⟨b, 0, none⟩) (hcs : cs.take (fl l.cells).length = fl l.cells) (hk : k < m) (x : Cl) :
    WR T (upd (del σ b) b (.cells (putL cs (k * 16) x.l).toArray T (0, 0))) m (ls.set r (l.put k x)) := by
  have hr := (List.getElem?_eq_some_iff.1 hl).1
  have hmap : (ls.set r (l.put k x)).map LnA.A = ls.map LnA.A := by
    rw [List.map_set]
    apply List.ext_getElem?
    intro j
    rw [List.getElem?_set]
    split
    · rename_i e
      subst e
      rw [if_pos (by simpa using hr), List.getElem?_map, hl]
      rfl
    · rfl
  refine ⟨fun l' hl' => ?_, by rw [hmap]; exact h.2⟩
  obtain ⟨j, hj, e⟩ := List.getElem_of_mem hl'
  have hj2 : (ls.set r (l.put k x))[j]? = some l' := by rw [List.getElem?_eq_getElem hj, e]
  rw [List.getElem?_set] at hj2
  split at hj2
  · rename_i e2
    cases hj2
    obtain ⟨b2, g1, g2, g3, g4, g5, _⟩ := h.1 l (List.mem_of_getElem? hl)
    rw [hA] at g1
    cases g1
    exact ⟨b, hA, g2, by simp [LnA.put, g3], g4, g5, OwR.set hcs (by omega) x⟩
  · rename_i hne
    obtain ⟨b2, g1, g2, g3, g4, g5, g6⟩ := h.1 l' (List.mem_of_getElem? hj2)
    refine ⟨b2, g1, g2, g3, g4, g5, g6.keep fun e3 => hne ?_⟩
    have hjl := (List.getElem?_eq_some_iff.1 hj2).1
    have h1 : (ls.map LnA.A)[r]? = (ls.map LnA.A)[j]? := by rw [List.getElem?_map, List.getElem?_map, hl, hj2, Option.map_some, Option.map_some, hA, g1, e3]
    exact (List.getElem?_inj (by simpa using hr) h.2).1 h1
/-! ### A row that was appended to becomes one of the call's own blocks -/
theorem rowIntoW {w0 w : World} {K K1 K2 : List Ent} {e z m c : Nat} {A : Option Addr} {xs : List Value} {τ : Nat → Option Obj} (k : KOk w0 K w) (p : Pick K (.row e z A m c xs) K1) (p2 : Pick K1 (.own τ) K2) (hm : 0 < m) :
    ∃ (b : Nat) (cs : List Value) (ρ : Nat → Option Obj), (A = some ⟨b, 0, none⟩ ∧ RowOk ρ A m c z xs ∧ ρ b = some (.cells cs.toArray e (0, 0)) ∧ cs.take xs.length = xs ∧ τ b = none ∧ ∀ x o, τ x = some o → ρ x = some o) ∧ KOk w0 (.own ρ :: K2) w := by
  have k1 := (k.pick p).pick (.there p2)
  have k2 := k1.pick (.there .here)
  obtain ⟨h1, h2⟩ := k2.all.1
  rcases h2 with ⟨hv, hm0⟩ | ⟨g, cap, cur, hv, hb, hg, hc, hcap, hsz, htk⟩
  · omega
  · cases hv
    have hn : τ g = none := by
      cases hs : τ g with
      | none => rfl
      | some o => exact absurd (show τ g ≠ none by rw [hs]; simp) (k2.all.2.1 (.own τ) (by simp) rfl g rfl)
    have hk : KOk w0 (.own (σ1 g (.cells cur e (0, 0))) :: .own τ :: K2) w := by
      refine ⟨k2.bel, fun b o h => ?_, fun e' he' hm x hx => k2.all.2.1 e' he' rfl x ?_, k2.all.2.2⟩
      · obtain ⟨rfl, rfl⟩ := σ1_some h
        exact ⟨hb, hg⟩
      · cases hs : σ1 g (.cells cur e (0, 0)) x with
        | none => exact absurd hs hx
        | some o =>
          obtain ⟨rfl, rfl⟩ := σ1_some hs
          rfl
    have hg2 : σ2 (σ1 g (.cells cur e (0, 0))) τ g = some (.cells cur e (0, 0)) := σ2_l _ _ (σ1_self _ _)
    refine ⟨g, cur.toList, σ2 (σ1 g (.cells cur e (0, 0))) τ, ⟨rfl, ⟨h1, hc, by simpa [maxLen] using hcap, fun h => (by cases h), fun _ => ⟨g, rfl, fun j v hj => ⟨cur, e, (0, 0), hg2, ?_⟩⟩⟩, ?_, by rw [h1]; exact htk, hn, fun x o hx => ?_⟩, Kle.own2 w hk⟩
    · rw [Nat.zero_add]
      rw [← htk, List.getElem?_take] at hj
      split at hj
      · simpa using hj
      · cases hj
    · rw [Array.toArray_toList]
      exact hg2
    · have hx2 : x ≠ g := fun e => by subst e; rw [hn] at hx; cases hx
      have : σ1 g (Obj.cells cur e (0, 0)) x = none := if_neg hx2
      simp [σ2, this, hx]
theorem OwR.mono {T : TypeId} {σ τ : Nat → Option Obj} {b : Nat} {cells : List Cl} (h : OwR T σ b cells) (hs : ∀ b o, σ b = some o → τ b = some o) : OwR T τ b cells := by
  obtain ⟨cs, h1, h2⟩ := h
  exact ⟨cs, hs _ _ h1, h2⟩
theorem OwR.csr {T : TypeId} {σ : Nat → Option Obj} {b m c : Nat} {cells : List Cl} (h : OwR T σ b cells) (hm : cells.length = m) (hc : m ≤ c) (hc2 : c ≤ 9223372036854775807) : CsR σ (some ⟨b, 0, none⟩) m c cells := by
  obtain ⟨cs, h1, h2⟩ := h
  refine CsR.of_row ⟨by rw [length_fl, hm], hc, hc2, fun h => (by cases h), fun _ => ⟨b, rfl, fun j v hj => ⟨_, _, _, h1, ?_⟩⟩⟩ hm
  rw [Nat.zero_add, List.getElem?_toArray]
  rw [← h2, List.getElem?_take] at hj
  split at hj
  · exact hj
  · cases hj
theorem WR.nil {T : TypeId} {σ : Nat → Option Obj} {m : Nat} : WR T σ m [] := ⟨fun l hl => (by cases hl), by simp⟩
theorem WR.csr {T : TypeId} {σ : Nat → Option Obj} {m : Nat} {ls : List LnA} (h : WR T σ m ls) : ∀ l ∈ ls, CsR σ l.A l.n l.c l.cells := fun l hl => by
  obtain ⟨b, h1, h2, h3, h4, h5, h6⟩ := h.1 l hl
  rw [h1, h2]
  exact h6.csr h3 h4 h5
theorem WR.mono {T : TypeId} {σ τ : Nat → Option Obj} {m : Nat} {ls : List LnA} (h : WR T σ m ls) (hs : ∀ b o, σ b = some o → τ b = some o) : WR T τ m ls :=
  ⟨fun l hl => by obtain ⟨b, h1, h2, h3, h4, h5, h6⟩ := h.1 l hl; exact ⟨b, h1, h2, h3, h4, h5, h6.mono hs⟩, h.2⟩
theorem WR.snoc {T : TypeId} {τ ρ : Nat → Option Obj} {m b : Nat} {ls : List LnA} {l : LnA} (h : WR T τ m ls) (hs : ∀ b o, τ b = some o → ρ b = some o) (hA : l.A = some ⟨b, 0, none⟩) (hn : l.n = m) (hl : l.cells.length = m) (hc : m ≤ l.c) (hc2 : l.c ≤ 9223372036854775807) (ho : OwR T ρ b l.cells) (hb : τ b = none) : WR T ρ m (ls ++ [l]) := by
  refine ⟨fun l' hl' => ?_, ?_⟩
  · rcases List.mem_append.1 hl' with hl' | hl'
    · exact (h.mono hs).1 l' hl'
    · obtain rfl := List.mem_singleton.1 hl'
      exact ⟨b, hA, hn, hl, hc, hc2, ho⟩
  · rw [List.map_append, List.nodup_append]
    refine ⟨h.2, by simp, fun x hx y hy e => ?_⟩
    obtain ⟨l', hl', rfl⟩ := List.mem_map.1 hx
    simp only [List.map_cons, List.map_nil, List.mem_singleton] at hy
    obtain ⟨b', h1, _, _, _, _, cs, h2, _⟩ := h.1 l' hl'
    rw [← e, h1] at hy
    rw [hA] at hy
    cases hy
    rw [hb] at h2
    cases h2
/-- rows, their cells in blocks that are apart from each other and from the rows' own -/
def LsW (T : TypeId) (σ : Nat → Option Obj) (m : Nat) (A : Option Addr) (n c : Nat) (ls : List LnA) : Prop := SlR 2 (fun x cs => cs = x.l) σ A n c ls ∧ WR T σ m ls ∧ ∀ l ∈ ls, ∀ b o b', l.A = some ⟨b, 0, none⟩ → A = some ⟨b', o, none⟩ → b ≠ b'
theorem LsW.lsA {T : TypeId} {σ : Nat → Option Obj} {m n c : Nat} {A : Option Addr} {ls : List LnA} (h : LsW T σ m A n c ls) : LsA σ A n c ls := ⟨h.1, h.2.1.csr⟩
theorem LsW.nil {T : TypeId} {σ : Nat → Option Obj} {m : Nat} : LsW T σ m none 0 0 [] := ⟨SlR.nil, WR.nil, fun l hl => by cases hl⟩
theorem LsW.of_rows {T : TypeId} {τ ρ : Nat → Option Obj} {m n c b : Nat} {A : Option Addr} {ls : List LnA} (h : WR T τ m ls) (hs : ∀ b o, τ b = some o → ρ b = some o) (hA : A = some ⟨b, 0, none⟩) (hb : τ b = none) (hr : SlR 2 (fun x cs => cs = x.l) ρ A n c ls) : LsW T ρ m A n c ls :=
  ⟨hr, h.mono hs, fun l hl b1 o b2 h1 h2 e => by
    obtain ⟨b3, h3, _, _, _, _, cs, h4, _⟩ := h.1 l hl
    rw [h1] at h3
    rw [hA] at h2
    cases h2
    cases h3
    rw [e, hb] at h4
    cases h4⟩
/-- memory is as it was but for one block -/
theorem SlR.upd {α : Type} {z : Nat} {E : α → List Value → Prop} {σ : Nat → Option Obj} {A : Option Addr} {n c b : Nat} {xs : List α} {ob : Obj} (h : SlR z E σ A n c xs) (hne : ∀ b' o, A = some ⟨b', o, none⟩ → b ≠ b') : SlR z E (upd (del σ b) b ob) A n c xs :=
  ⟨h.1, h.2.1, h.2.2.1, h.2.2.2.1, fun hn => by
    obtain ⟨b', o, hA, hc⟩ := h.2.2.2.2 hn
    refine ⟨b', o, hA, fun i x hx => ?_⟩
    obtain ⟨cs, h1, h2, h3⟩ := hc i x hx
    refine ⟨cs, h1, h2, fun j v hj => ?_⟩
    obtain ⟨X, T, f, g1, g2⟩ := h3 j v hj
    have := hne b' o hA
    exact ⟨X, T, f, by rw [upd_ne _ _ (Ne.symm this), del_ne _ (Ne.symm this)]; exact g1, g2⟩⟩
theorem length_putL_cl {cs : List Value} {k : Nat} {n : Nat} {cells : List Cl} {x : Cl} (h2 : cs.take (fl cells).length = fl cells) (hn : cells.length = n) (hk : k < n) : k * 16 + x.l.length ≤ cs.length := by
  have h3 := congrArg List.length h2
  rw [List.length_take, length_fl] at h3
  rw [Cl.l_length]
  have : n * 16 ≤ cs.length := by rw [hn] at h3; omega
  omega
/-- a cell of a row that is a block of the call's own -/
theorem Cels.own_row {w0 : World} {K K1 : List Ent} {b k : Nat} {cs : List Value} {T : TypeId} {cells : List Cl} {x : Cl} (p : Pick K (.blk b cs T) K1) (h2 : cs.take (fl cells).length = fl cells) (hx : cells[k]? = some x) : Cels w0 K b (k * 16) 16 x.l :=
  ⟨rfl, fun j v hj => Cel.blk p (by
    have h1 := get_flat Cl.l_length cells k j x v hx hj
    rw [← fl, ← h2, List.getElem?_take] at h1
    split at h1
    · exact h1
    · cases h1)⟩
theorem Ats.sub {σ : Nat → Option Obj} {b o : Nat} {cs vs : List Value} (h : Ats σ b o cs) (k z : Nat) (e : (cs.drop k).take z = vs) : Ats σ b (o + k) vs := fun j v hj => by
  subst e
  rw [List.getElem?_take] at hj
  split at hj
  · rw [List.getElem?_drop] at hj
    rw [Nat.add_assoc]
    exact h _ v hj
  · cases hj
theorem SlR.put {σ : Nat → Option Obj} {A : Option Addr} {n c r k : Nat} {ls : List LnA} {l : LnA} {x : Cl} (h : SlR 2 (fun x cs => cs = x.l) σ A n c ls) (hl : ls[r]? = some l) : SlR 2 (fun x cs => cs = x.l) σ A n c (ls.set r (l.put k x)) :=
  ⟨by rw [List.length_set]; exact h.1, h.2.1, h.2.2.1, h.2.2.2.1, fun hn => by
    obtain ⟨b, o, hA, hc⟩ := h.2.2.2.2 hn
    refine ⟨b, o, hA, fun i y hy => ?_⟩
    rw [List.getElem?_set] at hy
    split at hy
    · rename_i e
      subst e
      split at hy
      · cases hy
        exact hc _ l hl
      · cases hy
    · exact hc i y hy⟩
theorem fl_rep_succ (k : Nat) (x : Cl) : fl (List.replicate (k + 1) x) = fl (List.replicate k x) ++ x.l := by rw [List.replicate_succ', fl_snoc]
theorem putL_flAt : ∀ (xs : List Cl) (k j : Nat) (y y' : Cl) (vs : List Value), xs[k]? = some y → j + vs.length ≤ 16 → putL y.l j vs = y'.l → putL (fl xs) (k * 16 + j) vs = fl (xs.set k y')
  | [], k, j, y, y', vs, h, _, _ => by simp at h
  | z :: l, 0, j, y, y', vs, h, hj, e => by
    simp only [List.getElem?_cons_zero, Option.some.injEq] at h
    subst h
    have e1 : fl (z :: l) = z.l ++ fl l := rfl
    rw [e1, Nat.zero_mul, Nat.zero_add, putL_append _ _ _ _ (by rw [Cl.l_length]; exact hj), e]
    rfl
  | z :: l, k + 1, j, y, y', vs, h, hj, e => by
    simp only [List.getElem?_cons_succ] at h
    have e1 : fl (z :: l) = z.l ++ fl l := rfl
    have e2 : (k + 1) * 16 + j = z.l.length + (k * 16 + j) := by rw [Cl.l_length]; omega
    rw [e1, e2, putL_behind, putL_flAt l k j y y' vs h hj e]
    rfl
/-- a part of a cell of a row is written -/
theorem fl_store {cs vs : List Value} {ys : List Cl} {i j : Nat} {y y' : Cl} (h : cs.take (fl ys).length = fl ys) (hy : ys[i]? = some y) (hj : j + vs.length ≤ 16) (e : putL y.l j vs = y'.l) :
    (putL cs (i * 16 + j) vs).take (fl (ys.set i y')).length = fl (ys.set i y') ∧ i * 16 + j + vs.length ≤ cs.length := by
  have hi := (List.getElem?_eq_some_iff.1 hy).1
  have h1 : i * 16 + j + vs.length ≤ (fl ys).length := by rw [length_fl]; omega
  have h2 := congrArg List.length h
  rw [List.length_take] at h2
  refine ⟨?_, by omega⟩
  rw [← putL_flAt ys i j y y' vs hy hj e]
  exact take_putL h h1
theorem WR.setRow {T : TypeId} {σ : Nat → Option Obj} {m : Nat} {ls : List LnA} (h : WR T σ m ls) {r b : Nat} {l : LnA} {cs : List Value} {cells : List Cl} (hl : ls[r]? = some l) (hA : l.A = some ⟨b, 0, none⟩) (hcs : cs.take (fl cells).length = fl cells) (hm : cells.length = m) :
    WR T (upd (del σ b) b (.cells cs.toArray T (0, 0))) m (ls.set r { l with cells := cells }) := by
  have hr := (List.getElem?_eq_some_iff.1 hl).1
  have hmap : (ls.set r { l with cells := cells }).map LnA.A = ls.map LnA.A := by
    rw [List.map_set]
    apply List.ext_getElem?
    intro j
    rw [List.getElem?_set]
    split
    · rename_i e
      subst e
      rw [if_pos (by simpa using hr), List.getElem?_map, hl]
      rfl
    · rfl
  refine ⟨fun l' hl' => ?_, by rw [hmap]; exact h.2⟩
  obtain ⟨j, hj, e⟩ := List.getElem_of_mem hl'
  have hj2 : (ls.set r { l with cells := cells })[j]? = some l' := by rw [List.getElem?_eq_getElem hj, e]
  rw [List.getElem?_set] at hj2
  split at hj2
  · rename_i e2
    cases hj2
    obtain ⟨b2, g1, g2, g3, g4, g5, _⟩ := h.1 l (List.mem_of_getElem? hl)
    rw [hA] at g1
    cases g1
    exact ⟨b, hA, g2, hm, g4, g5, _, upd_self _ _ _, hcs⟩
  · rename_i hne
    obtain ⟨b2, g1, g2, g3, g4, g5, g6⟩ := h.1 l' (List.mem_of_getElem? hj2)
    refine ⟨b2, g1, g2, g3, g4, g5, g6.keep fun e3 => hne ?_⟩
    have h1 : (ls.map LnA.A)[r]? = (ls.map LnA.A)[j]? := by rw [List.getElem?_map, List.getElem?_map, hl, hj2, Option.map_some, Option.map_some, hA, g1, e3]
    exact (List.getElem?_inj (by simpa using hr) h.2).1 h1
/-- a row is written -/
theorem LsW.setRow {T : TypeId} {σ : Nat → Option Obj} {m n c : Nat} {A : Option Addr} {ls : List LnA} (h : LsW T σ m A n c ls) {r b : Nat} {l : LnA} {cs : List Value} {cells : List Cl} (hl : ls[r]? = some l) (hA : l.A = some ⟨b, 0, none⟩) (hcs : cs.take (fl cells).length = fl cells) (hm : cells.length = m) :
    LsW T (upd (del σ b) b (.cells cs.toArray T (0, 0))) m A n c (ls.set r { l with cells := cells }) := by
  refine ⟨?_, h.2.1.setRow hl hA hcs hm, fun l' hl' b1 o b2 h1 h2 => ?_⟩
  · have h1 := SlR.upd (b := b) (ob := Obj.cells cs.toArray T (0, 0)) h.1 fun b' o hb' => h.2.2 l (List.mem_of_getElem? hl) b o b' hA hb'
    refine ⟨by rw [List.length_set]; exact h1.1, h1.2.1, h1.2.2.1, h1.2.2.2.1, fun hn => ?_⟩
    obtain ⟨b', o, hb', hc⟩ := h1.2.2.2.2 hn
    refine ⟨b', o, hb', fun i y hy => ?_⟩
    rw [List.getElem?_set] at hy
    split at hy
    · rename_i e
      subst e
      split at hy
      · cases hy
        exact hc _ l hl
      · cases hy
    · exact hc i y hy
  · obtain ⟨j, hj, e⟩ := List.getElem_of_mem hl'
    have hj2 : (ls.set r { l with cells := cells })[j]? = some l' := by rw [List.getElem?_eq_getElem hj, e]
    rw [List.getElem?_set] at hj2
    split at hj2
    · rw [if_pos (List.getElem?_eq_some_iff.1 hl).1] at hj2
      cases hj2
      exact h.2.2 l (List.mem_of_getElem? hl) b1 o b2 h1 h2
    · exact h.2.2 l' (List.mem_of_getElem? hj2) b1 o b2 h1 h2
theorem CsR.of_blk {b m : Nat} {ys : List Cl} {T : TypeId} (hm : ys.length = m) (hb : m ≤ 9223372036854775807) : CsR (σ1 b (.cells (fl ys).toArray T (0, 0))) (some ⟨b, 0, none⟩) m m ys :=
  CsR.of_row ⟨by rw [length_fl, hm], Nat.le_refl _, hb, fun h => (by cases h), fun _ => ⟨b, rfl, fun j v hj => ⟨_, _, _, σ1_self _ _, by rw [Nat.zero_add, List.getElem?_toArray]; exact hj⟩⟩⟩ hm
theorem zeros_fl : ∀ m, zeros Cl.zero.l m = fl (List.replicate m Cl.zero)
  | 0 => rfl
  | m + 1 => by rw [zeros, zeros_fl m, List.replicate_succ]; rfl
end Go.Proofs.YtdmpodpdpncobaaDoor
