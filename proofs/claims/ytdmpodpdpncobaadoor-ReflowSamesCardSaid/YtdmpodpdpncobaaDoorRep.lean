/-
  Slices as lists. No condition.
-/
import Derived.Test.YtdmpodpdpncobaaDoorDat
import Derived.Test.YtdmpodpdpncobaaDoorEng5
namespace Go.Proofs.YtdmpodpdpncobaaDoor
open Go.RowKit
set_option linter.unusedSimpArgs false
set_option linter.unusedVariables false

/-- a slice of elements of z cells each -/
def SlR {α : Type} (z : Nat) (E : α → List Value → Prop) (σ : Nat → Option Obj) (A : Option Addr) (n c : Nat) (xs : List α) : Prop :=
  xs.length = n ∧ n ≤ c ∧ c ≤ 9223372036854775807 ∧ (A = none → c = 0) ∧ (0 < n → ∃ b o, A = some ⟨b, o, none⟩ ∧ ∀ i x, xs[i]? = some x → ∃ cs, E x cs ∧ cs.length = z ∧ Ats σ b (o + i * z) cs)
/-- a slice of cells -/
def CsR (σ : Nat → Option Obj) (A : Option Addr) (n c : Nat) (xs : List Cl) : Prop := SlR 16 (fun x cs => cs = x.l) σ A n c xs
theorem CsR.pos {σ : Nat → Option Obj} {A : Option Addr} {n c : Nat} {xs : List Cl} (h : CsR σ A n c xs) (hn : 0 < n) : ∃ b o, A = some ⟨b, o, none⟩ ∧ ∀ (i : Nat) (x : Cl), xs[i]? = some x → Ats σ b (o + i * 16) x.l := by
  obtain ⟨b, o, hA, hc⟩ := h.2.2.2.2 hn
  exact ⟨b, o, hA, fun i x hx => by obtain ⟨cs, rfl, _, hats⟩ := hc i x hx; exact hats⟩
theorem SlR.mono {α : Type} {z : Nat} {E : α → List Value → Prop} {σ τ : Nat → Option Obj} {A : Option Addr} {n c : Nat} {xs : List α} (h : SlR z E σ A n c xs) (hs : ∀ b o, σ b = some o → τ b = some o) : SlR z E τ A n c xs :=
  ⟨h.1, h.2.1, h.2.2.1, h.2.2.2.1, fun hn => by
    obtain ⟨b, o, hA, hc⟩ := h.2.2.2.2 hn
    exact ⟨b, o, hA, fun i x hx => by obtain ⟨cs, h1, h2, h3⟩ := hc i x hx; exact ⟨cs, h1, h2, h3.mono hs⟩⟩⟩
theorem CsR.mono {σ τ : Nat → Option Obj} {A : Option Addr} {n c : Nat} {xs : List Cl} (h : CsR σ A n c xs) (hs : ∀ b o, σ b = some o → τ b = some o) : CsR τ A n c xs := SlR.mono h hs
theorem get_of_lt {α : Type} {xs : List α} {n i : Nat} (h : xs.length = n) (hi : i < n) : ∃ x, xs[i]? = some x := ⟨xs[i], List.getElem?_eq_getElem (by omega)⟩
/-! ### Lists that were appended to -/
theorem get_flat {α : Type} {z : Nat} {f : α → List Value} (hf : ∀ x, (f x).length = z) : ∀ (xs : List α) (i j : Nat) (x : α) (v : Value), xs[i]? = some x → (f x)[j]? = some v → (xs.flatMap f)[i * z + j]? = some v
  | [], i, j, x, v, h, _ => by simp at h
  | y :: l, 0, j, x, v, h, hv => by
    simp only [List.getElem?_cons_zero, Option.some.injEq] at h
    subst h
    have hj := (List.getElem?_eq_some_iff.1 hv).1
    rw [Nat.zero_mul, Nat.zero_add, List.flatMap_cons, List.getElem?_append_left hj]
    exact hv
  | y :: l, i + 1, j, x, v, h, hv => by
    simp only [List.getElem?_cons_succ] at h
    have e : (i + 1) * z + j = (f y).length + (i * z + j) := by rw [hf, Nat.add_mul]; omega
    rw [List.flatMap_cons, e, List.getElem?_append_right (by omega), Nat.add_sub_cancel_left]
    exact get_flat hf l i j x v h hv
theorem length_flat {α : Type} {z : Nat} {f : α → List Value} (hf : ∀ x, (f x).length = z) : ∀ xs : List α, (xs.flatMap f).length = xs.length * z
  | [] => by simp
  | y :: l => by rw [List.flatMap_cons, List.length_append, hf, length_flat hf l, List.length_cons, Nat.add_mul]; omega
theorem flat_snoc {α : Type} (f : α → List Value) (xs : List α) (x : α) : (xs ++ [x]).flatMap f = xs.flatMap f ++ f x := by simp
theorem SlR.of_row {α : Type} {z : Nat} {f : α → List Value} (hf : ∀ x, (f x).length = z) {σ : Nat → Option Obj} {A : Option Addr} {m c : Nat} {xs : List α} (h : RowOk σ A m c z (xs.flatMap f)) (hm : xs.length = m) : SlR z (fun x cs => cs = f x) σ A m c xs :=
  ⟨hm, h.2.1, h.2.2.1, h.2.2.2.1, fun hn => by
    obtain ⟨b, e, ha⟩ := h.2.2.2.2 hn
    exact ⟨b, 0, e, fun i x hx => ⟨f x, rfl, hf x, fun j v hj => by
      rw [Nat.zero_add]
      have := ha (i * z + j) v (get_flat hf xs i j x v hx hj)
      rwa [Nat.zero_add] at this⟩⟩⟩
theorem Cl.l_length (c : Cl) : c.l.length = 16 := rfl
def fl (xs : List Cl) : List Value := xs.flatMap Cl.l
theorem fl_snoc (xs : List Cl) (x : Cl) : fl (xs ++ [x]) = fl xs ++ x.l := flat_snoc _ xs x
theorem fl_append (xs ys : List Cl) : fl (xs ++ ys) = fl xs ++ fl ys := by simp [fl]
theorem length_fl (xs : List Cl) : (fl xs).length = xs.length * 16 := length_flat Cl.l_length xs
theorem one_fl (xs : List Cl) : ((fl xs).all fun u => u.oneCell') = true := by
  induction xs with
  | nil => rfl
  | cons c t ih =>
    rw [fl, List.flatMap_cons, List.all_append, ← fl, ih]
    rfl
theorem CsR.of_row {σ : Nat → Option Obj} {A : Option Addr} {m c : Nat} {xs : List Cl} (h : RowOk σ A m c 16 (fl xs)) (hm : xs.length = m) : CsR σ A m c xs := SlR.of_row Cl.l_length h hm
/-- a row, and where its cells lie -/
structure LnA where
  A : Option Addr
  n : Nat
  c : Nat
  cells : List Cl
  soft : Bool
def LnA.l (x : LnA) : List Value := [.slice x.A x.n x.c, .bool x.soft]
def LnA.ln (x : LnA) : Ln := ⟨x.cells, x.soft⟩
theorem LnA.l_length (x : LnA) : x.l.length = 2 := rfl
def LsA (σ : Nat → Option Obj) (A : Option Addr) (n c : Nat) (ls : List LnA) : Prop := SlR 2 (fun x cs => cs = x.l) σ A n c ls ∧ ∀ l ∈ ls, CsR σ l.A l.n l.c l.cells
/-- a slice of rows -/
def LsR (σ : Nat → Option Obj) (A : Option Addr) (n c : Nat) (xs : List Ln) : Prop := ∃ ls : List LnA, LsA σ A n c ls ∧ ls.map LnA.ln = xs
theorem LsA.mono {σ τ : Nat → Option Obj} {A : Option Addr} {n c : Nat} {xs : List LnA} (h : LsA σ A n c xs) (hs : ∀ b o, σ b = some o → τ b = some o) : LsA τ A n c xs := ⟨SlR.mono h.1 hs, fun l hl => (h.2 l hl).mono hs⟩
theorem LsR.mono {σ τ : Nat → Option Obj} {A : Option Addr} {n c : Nat} {xs : List Ln} (h : LsR σ A n c xs) (hs : ∀ b o, σ b = some o → τ b = some o) : LsR τ A n c xs := by
  obtain ⟨ls, h1, h2⟩ := h
  exact ⟨ls, h1.mono hs, h2⟩
def fll (xs : List LnA) : List Value := xs.flatMap LnA.l
theorem fll_snoc (xs : List LnA) (x : LnA) : fll (xs ++ [x]) = fll xs ++ x.l := flat_snoc _ xs x
theorem SlR.nil {α : Type} {z : Nat} {E : α → List Value → Prop} {σ : Nat → Option Obj} : SlR z E σ none 0 0 ([] : List α) := ⟨rfl, by omega, by omega, fun _ => rfl, fun h => absurd h (by omega)⟩
theorem CsR_nil (σ : Nat → Option Obj) : CsR σ none 0 0 [] := SlR.nil
theorem LsA.of_blk {w : World} {b n : Nat} {ls : List LnA} {T : TypeId} {f : Nat × Nat} (hb : w.heap[b]? = some (.cells (fll ls).toArray T f)) (hn : ls.length = n) (hl : ∀ l ∈ ls, CsR (fun b => w.heap[b]?) l.A l.n l.c l.cells) (hn63 : n ≤ 9223372036854775807 := by decide) : LsA (fun b => w.heap[b]?) (some ⟨b, 0, none⟩) n n ls := by
  refine ⟨SlR.of_row LnA.l_length ⟨by rw [← hn]; exact length_flat LnA.l_length ls, Nat.le_refl _, hn63, fun h => (by cases h), fun _ => ⟨b, rfl, fun j v hj => ⟨_, _, _, hb, ?_⟩⟩⟩ hn, hl⟩
  rw [Nat.zero_add, List.getElem?_toArray]
  exact hj
/-- a slice, and the memory that it lies in -/
structure SV where
  A : Option Addr
  n : Nat
  c : Nat
  σ : Nat → Option Obj
def SV.v (x : SV) : Value := .slice x.A x.n x.c
/-- what an append reads -/
theorem Src.cs {w0 : World} {K K1 : List Ent} {σ : Nat → Option Obj} {A : Option Addr} {m c : Nat} {xs : List Cl} (p : Pick K (.fr σ) K1) (h : CsR σ A m c xs) : Src w0 K A m 16 (fl xs) := fun w k => by
  refine ⟨by rw [length_fl, h.1], fun hn => ?_⟩
  obtain ⟨b, o, hA, hc⟩ := h.pos hn
  have hcell : ∀ j, j < m * 16 → ∃ v, (fl xs)[j]? = some v ∧ w.cell? ⟨b, o + j, none⟩ = some v := fun j hj => by
    have hi : j / 16 < m := by omega
    obtain ⟨x, hx⟩ := get_of_lt h.1 hi
    have hj2 : j % 16 < x.l.length := by rw [Cl.l_length]; omega
    have hv : x.l[j % 16]? = some x.l[j % 16] := List.getElem?_eq_getElem hj2
    have e : j / 16 * 16 + j % 16 = j := by omega
    refine ⟨x.l[j % 16], ?_, ?_⟩
    · have := get_flat Cl.l_length xs _ _ x _ hx hv
      rwa [e] at this
    · have := at_cell (hc _ x hx _ _ hv) (k.get p)
      rwa [Nat.add_assoc, e] at this
  refine ⟨b, o, hA, ?_, fun j hj => ?_⟩
  · obtain ⟨v, _, h2⟩ := hcell 0 (by omega)
    unfold World.cell? at h2
    split at h2
    · rename_i X T f hb
      exact lt_of_some hb
    · cases h2
  · obtain ⟨v, h1, h2⟩ := hcell j hj
    rw [h1, h2]
theorem SlR.slice {α : Type} {z : Nat} {E : α → List Value → Prop} {σ : Nat → Option Obj} {A : Option Addr} {n c lo hi : Nat} {xs : List α} (h : SlR z E σ A n c xs) (h1 : lo ≤ hi) (h2 : hi ≤ n) : SlR z E σ (subA A c lo z) (hi - lo) (c - lo) ((xs.take hi).drop lo) := by
  refine ⟨by have := h.1; simp; omega, by have := h.2.1; omega, by have := h.2.2.1; omega, fun hA => ?_, fun hn => ?_⟩
  · unfold subA at hA
    split at hA
    · omega
    · cases A with
      | none => have := h.2.2.2.1 rfl; omega
      | some a => cases hA
  · obtain ⟨b, o, hA, hc⟩ := h.2.2.2.2 (by omega)
    have hcl : ¬ c = lo := by have := h.2.1; omega
    refine ⟨b, o + lo * z, by rw [subA, if_neg hcl, hA, Option.map_some, add_plain], fun i x hx => ?_⟩
    rw [List.getElem?_drop, List.getElem?_take] at hx
    split at hx
    · obtain ⟨cs, e1, e2, e3⟩ := hc _ x hx
      refine ⟨cs, e1, e2, ?_⟩
      rw [Nat.add_assoc, ← Nat.add_mul]
      exact e3
    · cases hx
theorem CsR.slice {σ : Nat → Option Obj} {A : Option Addr} {n c lo hi : Nat} {xs : List Cl} (h : CsR σ A n c xs) (h1 : lo ≤ hi) (h2 : hi ≤ n) : CsR σ (subA A c lo 16) (hi - lo) (c - lo) ((xs.take hi).drop lo) := SlR.slice h h1 h2
end Go.Proofs.YtdmpodpdpncobaaDoor
