/-
  Marks and commands in memory. No condition.
-/
import Derived.Test.YtaoepaonjeilgaaMrk
import Derived.Test.YtaoepaonjeilgaaEng6
import Derived.Test.YtaoepaonjeilgaaBase
namespace Go.Proofs.Ytaoepaonjeilgaa
open Go.RowKit
set_option linter.unusedSimpArgs false
set_option linter.unusedVariables false
/-! ### Slices as lists -/
/-- a slice of elements of z cells each -/
def SlR {α : Type} (z : Nat) (f : α → List Value) (σ : Nat → Option Obj) (A : Option Addr) (n c : Nat) (xs : List α) : Prop :=
  xs.length = n ∧ n ≤ c ∧ c ≤ 9223372036854775807 ∧ (A = none → c = 0) ∧ (0 < n → ∃ b o, A = some ⟨b, o, none⟩ ∧ ∀ i x, xs[i]? = some x → Ats σ b (o + i * z) (f x))
theorem SlR.pos {α : Type} {z : Nat} {f : α → List Value} {σ : Nat → Option Obj} {A : Option Addr} {n c : Nat} {xs : List α} (h : SlR z f σ A n c xs) (hn : 0 < n) : ∃ b o, A = some ⟨b, o, none⟩ ∧ ∀ (i : Nat) (x : α), xs[i]? = some x → Ats σ b (o + i * z) (f x) := h.2.2.2.2 hn
theorem SlR.mono {α : Type} {z : Nat} {f : α → List Value} {σ τ : Nat → Option Obj} {A : Option Addr} {n c : Nat} {xs : List α} (h : SlR z f σ A n c xs) (hs : ∀ b o, σ b = some o → τ b = some o) : SlR z f τ A n c xs :=
  ⟨h.1, h.2.1, h.2.2.1, h.2.2.2.1, fun hn => by
    obtain ⟨b, o, hA, hc⟩ := h.2.2.2.2 hn
    exact ⟨b, o, hA, fun i x hx => (hc i x hx).mono hs⟩⟩
theorem get_of_lt {α : Type} {xs : List α} {n i : Nat} (h : xs.length = n) (hi : i < n) : ∃ x, xs[i]? = some x := ⟨xs[i], List.getElem?_eq_getElem (by omega)⟩
theorem get_flat {α : Type} {z : Nat} {f : α → List Value} (hf : ∀ x, (f x).length = z) : ∀ (xs : List α) (i j : Nat) (x : α) (v : Value), xs[i]? = some x → (f x)[j]? = some v → (xs.flatMap f)[i * z + j]? = some v
  | [], i, j, x, v, h, _ => by simp at h
  | y :: l, 0, j, x, v, h, hv => by
    simp only [List.getElem?_cons_zero, Option.some.injEq] at h
    subst h
    have hj := (List.getElem?_eq_some_iff.1 hv).1
    rw [Nat.zero_mul, Nat.zero_add, List.flatMap_cons, List.getElem?_append_left hj]
    exact hv
  | y :: l, i + 1, j, x, v, h, hv => by
    simp only [List.getElem?_cons_succ] at h
    have e : (i + 1) * z + j = (f y).length + (i * z + j) := by rw [hf, Nat.add_mul]; omega
    rw [List.flatMap_cons, e, List.getElem?_append_right (by omega), Nat.add_sub_cancel_left]
    exact get_flat hf l i j x v h hv
theorem length_flat {α : Type} {z : Nat} {f : α → List Value} (hf : ∀ x, (f x).length = z) : ∀ xs : List α, (xs.flatMap f).length = xs.length * z
  | [] => by simp
  | y :: l => by rw [List.flatMap_cons, List.length_append, hf, length_flat hf l, List.length_cons, Nat.add_mul]; omega
theorem flat_snoc {α : Type} (f : α → List Value) (xs : List α) (x : α) : (xs ++ [x]).flatMap f = xs.flatMap f ++ f x := by simp
theorem one_flat {α : Type} {f : α → List Value} (hf : ∀ x, ((f x).all fun u => u.oneCell') = true) (xs : List α) : ((xs.flatMap f).all fun u => u.oneCell') = true := by
  induction xs with
  | nil => rfl
  | cons c t ih =>
    rw [List.flatMap_cons, List.all_append, ih, hf]
    rfl
theorem SlR.nil {α : Type} {z : Nat} {f : α → List Value} {σ : Nat → Option Obj} : SlR z f σ none 0 0 ([] : List α) := ⟨rfl, by omega, by omega, fun _ => rfl, fun h => absurd h (by omega)⟩
theorem SlR.of_row {α : Type} {z : Nat} {f : α → List Value} (hf : ∀ x, (f x).length = z) {σ : Nat → Option Obj} {A : Option Addr} {m c : Nat} {xs : List α} (h : RowOk σ A m c z (xs.flatMap f)) (hm : xs.length = m) : SlR z f σ A m c xs :=
  ⟨hm, h.2.1, h.2.2.1, h.2.2.2.1, fun hn => by
    obtain ⟨b, e, ha⟩ := h.2.2.2.2 hn
    exact ⟨b, 0, e, fun i x hx j v hj => by
      rw [Nat.zero_add]
      have := ha (i * z + j) v (get_flat hf xs i j x v hx hj)
      rwa [Nat.zero_add] at this⟩⟩
theorem SlR.of_blk {α : Type} {z : Nat} {f : α → List Value} (hf : ∀ x, (f x).length = z) {σ : Nat → Option Obj} {b n : Nat} {xs : List α} {T : TypeId} {q : Nat × Nat} (hb : σ b = some (.cells (xs.flatMap f).toArray T q)) (hn : xs.length = n) (hn63 : n ≤ 9223372036854775807 := by decide) : SlR z f σ (some ⟨b, 0, none⟩) n n xs :=
  SlR.of_row hf ⟨by rw [← hn]; exact length_flat hf xs, Nat.le_refl _, hn63, fun h => (by cases h), fun _ => ⟨b, rfl, fun j v hj => ⟨_, _, _, hb, by rw [Nat.zero_add, List.getElem?_toArray]; exact hj⟩⟩⟩ hn
/-- what an append reads -/
theorem Src.sl {w0 : World} {K : List Ent} {α : Type} {z : Nat} {f : α → List Value} (hf : ∀ x, (f x).length = z) (hz : 0 < z) {σ : Nat → Option Obj} {A : Option Addr} {m c : Nat} {xs : List α} (p : ∀ w, KOk w0 K w → ∀ b o, σ b = some o → w.heap[b]? = some o) (h : SlR z f σ A m c xs) : Src w0 K A m z (xs.flatMap f) := fun w k => by
  refine ⟨by rw [length_flat hf, h.1], fun hn => ?_⟩
  obtain ⟨b, o, hA, hc⟩ := h.2.2.2.2 hn
  have hcell : ∀ j, j < m * z → ∃ v, (xs.flatMap f)[j]? = some v ∧ w.cell? ⟨b, o + j, none⟩ = some v := fun j hj => by
    have hi : j / z < m := (Nat.div_lt_iff_lt_mul hz).2 hj
    obtain ⟨x, hx⟩ := get_of_lt h.1 hi
    have hj2 : j % z < (f x).length := by rw [hf]; exact Nat.mod_lt _ hz
    have hv : (f x)[j % z]? = some (f x)[j % z] := List.getElem?_eq_getElem hj2
    have e : j / z * z + j % z = j := by rw [Nat.mul_comm]; exact Nat.div_add_mod j z
    refine ⟨(f x)[j % z], ?_, ?_⟩
    · have := get_flat hf xs _ _ x _ hx hv
      rwa [e] at this
    · have := at_cell (hc _ x hx _ _ hv) (p w k)
      rwa [Nat.add_assoc, e] at this
  refine ⟨b, o, hA, ?_, fun j hj => ?_⟩
  · obtain ⟨v, _, h2⟩ := hcell 0 (Nat.mul_pos hn hz)
    unfold World.cell? at h2
    split at h2
    · rename_i X T q hb
      exact lt_of_some hb
    · cases h2
  · obtain ⟨v, h1, h2⟩ := hcell j hj
    rw [h1, h2]
theorem SlR.slice {α : Type} {z : Nat} {f : α → List Value} {σ : Nat → Option Obj} {A : Option Addr} {n c lo : Nat} {xs : List α} (h : SlR z f σ A n c xs) (h1 : lo ≤ n) : SlR z f σ (subA A c lo z) (n - lo) (c - lo) (xs.drop lo) := by
  refine ⟨by have := h.1; simp; omega, by have := h.2.1; omega, by have := h.2.2.1; omega, fun hA => ?_, fun hn => ?_⟩
  · unfold subA at hA
    split at hA
    · omega
    · cases A with
      | none => have := h.2.2.2.1 rfl; omega
      | some a => cases hA
  · obtain ⟨b, o, hA, hc⟩ := h.2.2.2.2 (by omega)
    have hcl : ¬ c = lo := by have := h.2.1; omega
    refine ⟨b, o + lo * z, by rw [subA, if_neg hcl, hA, Option.map_some, add_plain], fun i x hx => ?_⟩
    rw [List.getElem?_drop] at hx
    have := hc _ x hx
    rwa [Nat.add_mul, ← Nat.add_assoc] at this
/-! ### Rows that are written -/
theorem rowBlk {w0 w : World} {K K1 : List Ent} {e z m c : Nat} {A : Option Addr} {xs : List Value} (k : KOk w0 K w) (p : Pick K (.row e z A m c xs) K1) (hm : 0 < m) :
    ∃ q : Nat × List Value, (A = some ⟨q.1, 0, none⟩ ∧ q.2.length = c * z ∧ q.2.take (m * z) = xs ∧ m ≤ c ∧ c ≤ 9223372036854775807) ∧ KOk w0 (.blk q.1 q.2 e :: K1) w := by
  have k1 := k.pick p
  obtain ⟨h1, h2⟩ := k1.all.1
  rcases h2 with ⟨hv, hm0⟩ | ⟨g, cap, cur, hv, hb, hg, hc, hcap, hsz, htk⟩
  · omega
  · cases hv
    refine ⟨⟨g, cur.toList⟩, ⟨rfl, by simpa using hsz, htk, hc, by simpa [maxLen] using hcap⟩, k1.bel, ⟨hb, by rw [Array.toArray_toList]; exact hg⟩, fun e' he' hm x hx => k1.all.2.1 e' he' rfl x ?_, k1.all.2.2⟩
    cases hx
    rfl
theorem Kle.blkRow2 {w0 : World} {K : List Ent} {b m c z : Nat} {cs xs : List Value} {e : TypeId} (hl : cs.length = c * z) (ht : cs.take (m * z) = xs) (hx : xs.length = m * z) (hm : m ≤ c) (hc : c ≤ 9223372036854775807) : Kle w0 (.blk b cs e :: K) (.row e z (some ⟨b, 0, none⟩) m c xs :: K) := fun w k => by
  obtain ⟨h1, h2, h3⟩ := k.all
  refine ⟨k.bel, ⟨hx, .inr ⟨b, c, cs.toArray, rfl, h1.1, h1.2, hm, by simpa [maxLen] using hc, by simpa using hl, by simpa using ht⟩⟩, fun e' he' _ x hx => ?_, h3⟩
  cases hx
  exact h2 e' he' rfl b rfl
theorem Kle.blkRow {w0 : World} {K : List Ent} {b m z : Nat} {cs : List Value} {e : TypeId} (hm : cs.length = m * z) (h63 : m ≤ 9223372036854775807) : Kle w0 (.blk b cs e :: K) (.row e z (some ⟨b, 0, none⟩) m m cs :: K) := Kle.blkRow2 hm (by rw [← hm, List.take_length]) hm (Nat.le_refl _) h63
theorem KOk.row_bds {w0 w : World} {K K1 : List Ent} {e z m c : Nat} {A : Option Addr} {xs : List Value} (k : KOk w0 K w) (p : Pick K (.row e z A m c xs) K1) : m ≤ c ∧ c ≤ 9223372036854775807 := by
  obtain ⟨h1, h2⟩ := k.get p
  rcases h2 with ⟨hv, hm0⟩ | ⟨g, cap, cur, hv, hb, hg, hc, hcap, hsz, htk⟩
  · cases hv
    omega
  · cases hv
    exact ⟨hc, by simpa [maxLen] using hcap⟩
/-- a row, read where it lies -/
theorem KOk.row_sl {w0 w : World} {K K1 : List Ent} {e m c : Nat} {A : Option Addr} {α : Type} {z : Nat} {f : α → List Value} (hf : ∀ x, (f x).length = z) {xs : List α} (k : KOk w0 K w) (p : Pick K (.row e z A m c (xs.flatMap f)) K1) (hm : xs.length = m) : SlR z f (fun b => w.heap[b]?) A m c xs := by
  obtain ⟨σ, h1, k1⟩ := (k.pick p).rowOwn
  exact (SlR.of_row hf h1 hm).mono fun b o hb => (k1.all.1 b o hb).2
/-- cells in the middle are written -/
theorem putL_mid (a m c vs : List Value) (o : Nat) (ho : o + vs.length ≤ m.length) : putL (a ++ (m ++ c)) (a.length + o) vs = a ++ (putL m o vs ++ c) := by
  unfold putL
  rw [List.take_length_add_append, Nat.add_assoc, List.drop_length_add_append, List.take_append_of_le_length (by omega), List.drop_append_of_le_length ho]
  simp [List.append_assoc]
/-- what a call made is new to its caller -/
theorem Ent.le {B B' : Nat} {w : World} {e : Ent} (h : e.ok B w) (hb : B' ≤ B) : e.ok B' w := by
  cases e with
  | blk b cs T => exact ⟨Nat.le_trans hb h.1, h.2⟩
  | row e z A n c xs =>
    refine ⟨h.1, ?_⟩
    rcases h.2 with hn | ⟨g, cap, cur, hv, hb2, hg, r⟩
    · exact .inl hn
    · exact .inr ⟨g, cap, cur, hv, Nat.le_trans hb hb2, hg, r⟩
  | own σ => exact fun b o hs => ⟨Nat.le_trans hb (h b o hs).1, (h b o hs).2⟩
  | fr σ => exact h
theorem KAll.addL {B B' : Nat} {w1 : World} {K : List Ent} (hb : B' ≤ B) (hK : KAll B' w1 K) (hlt : ∀ e ∈ K, ∀ x, e.dom x → x < B) : ∀ {K' : List Ent}, (∀ e ∈ K', e.mine = true) → KAll B w1 K' → KAll B' w1 (K' ++ K)
  | [], _, _ => hK
  | e :: K', hm, ⟨h1, h2, h3⟩ => ⟨Ent.le h1 hb, fun e' he' hmm x hx hy => by
      rcases List.mem_append.1 he' with he' | he'
      · exact h2 e' he' hmm x hx hy
      · have g1 := Ent.ge h1 (hm e (by simp)) x hx
        have g2 := hlt e' he' x hy
        omega, KAll.addL hb hK hlt (fun e' he' => hm e' (by simp [he'])) h3⟩
theorem KOk.addL {w0 w w1 : World} {K K' : List Ent} (k : KOk w0 K w) (k2 : KOk w K' w1) (hm : ∀ e ∈ K', e.mine = true) : KOk w0 (K' ++ K) w1 :=
  ⟨k.bel.trans (k2.bel.mono k.bel.size), KAll.addL k.bel.size (k.below k2.bel).all (fun e he => k.all.lt e he) hm k2.all⟩
theorem add_x {P : Program} {w0 w : World} {K : List Ent} {ι : Type} {g : FuncId} {vs : Array Value} {V : ι → Value} {R : ι → Prop} {K' : ι → List Ent} (k : KOk w0 K w) (hc : Calls P g vs w (fun e w' => ∃ i, e = .returned (V i) ∧ R i ∧ KOk w (K' i) w')) (hm : ∀ i, ∀ e ∈ K' i, e.mine = true := by intro i e he; simp only [List.mem_cons, List.not_mem_nil, or_false] at he; rcases he with rfl | rfl <;> rfl) :
    Calls P g vs w (fun e w' => ∃ i, e = .returned (V i) ∧ R i ∧ KOk w0 (K' i ++ K) w') := Calls.mono hc fun e w' ⟨i, h1, h2, h3⟩ => ⟨i, h1, h2, k.addL h3 (hm i)⟩
section
variable {P : Program} {n : Nat} {w0 : World} {L : List (Nat × Value)} {K : List Ent}
theorem run_eqInS (d : Nat) (w : World) (t e : TypeId) (ht : P.underlying t = some (.slice e)) (A : Option Addr) (m c : Nat) : (Op.equalIn (d + 1) t (.slice A m c) (.slice none 0 0)).run P w = .ok A.isNone w := by
  cases A <;> simp [Op.equalIn, run_underlying ht]
theorem run_eqS (w : World) (t e : TypeId) (ht : P.underlying t = some (.slice e)) (A : Option Addr) (m c : Nat) : (Op.equal t (.slice A m c) (.slice none 0 0)).run P w = .ok A.isNone w := run_eqInS 9999 w t e ht A m c
theorem opv_slnil {t u e0 : TypeId} {x y : Operand} {ty : TypeId} {A : Option Addr} {m c : Nat} (ht : P.underlying t = some (.slice e0)) (hx : ev L x = some (.slice A m c)) (hy : ev L y = some (.slice none 0 0)) : OpV P n w0 L K (.binOp .eql t x y u) ty (.bool A.isNone) := fun a w o e _ f _ => by
  cases A <;> simp [execOp, e, f.ev hx, f.ev hy, eqGuard, binOp, run_eqS w t e0 ht]
end
/-! ### Marks, kinds and commands in memory -/
def ml (xs : List Mk) : List Value := xs.flatMap Mk.l
def cl (xs : List Cm) : List Value := xs.flatMap Cm.l
def iL (x : Int) : List Value := [.int .i64 x]
def il (xs : List Int) : List Value := xs.flatMap iL
theorem iL_length (x : Int) : (iL x).length = 1 := rfl
theorem ml_one (xs : List Mk) : ((ml xs).all fun u => u.oneCell') = true := one_flat (fun _ => rfl) xs
theorem cl_one (xs : List Cm) : ((cl xs).all fun u => u.oneCell') = true := one_flat (fun _ => rfl) xs
theorem il_one (xs : List Int) : ((il xs).all fun u => u.oneCell') = true := one_flat (fun _ => rfl) xs
theorem ml_len (xs : List Mk) : (ml xs).length = xs.length * 3 := length_flat Mk.l_length xs
theorem cl_len (xs : List Cm) : (cl xs).length = xs.length * 9 := length_flat Cm.l_length xs
theorem il_len (xs : List Int) : (il xs).length = xs.length * 1 := length_flat iL_length xs
theorem ml_snoc (xs : List Mk) (x : Mk) : ml (xs ++ [x]) = ml xs ++ x.l := flat_snoc _ xs x
theorem cl_snoc (xs : List Cm) (x : Cm) : cl (xs ++ [x]) = cl xs ++ x.l := flat_snoc _ xs x
theorem il_snoc (xs : List Int) (x : Int) : il (xs ++ [x]) = il xs ++ iL x := flat_snoc _ xs x
abbrev MsR := SlR 3 Mk.l
abbrev CmR := SlR 9 Cm.l
abbrev IsR := SlR 1 iL
/-- a slice, and the memory that it lies in -/
structure SV where
  A : Option Addr
  n : Nat
  c : Nat
  σ : Nat → Option Obj
def SV.v (x : SV) : Value := .slice x.A x.n x.c
/-- marks at a pointer, read -/
def MoR (σ : Nat → Option Obj) (b : Nat) (xs : List Mk) : Prop := ∃ A c, At σ b 0 (.slice A xs.length c) ∧ MsR σ A xs.length c xs
theorem At.mono {σ τ : Nat → Option Obj} {b o : Nat} {v : Value} (h : At σ b o v) (hs : ∀ b o, σ b = some o → τ b = some o) : At τ b o v := by
  obtain ⟨X, T, f, h1, h2⟩ := h
  exact ⟨X, T, f, hs _ _ h1, h2⟩
theorem MoR.mono {σ τ : Nat → Option Obj} {b : Nat} {xs : List Mk} (h : MoR σ b xs) (hs : ∀ b o, σ b = some o → τ b = some o) : MoR τ b xs := by
  obtain ⟨A, c, h1, h2⟩ := h
  exact ⟨A, c, h1.mono hs, h2.mono hs⟩
theorem KOk.mo {w0 w : World} {K K1 K2 : List Ent} {b c T e : Nat} {A : Option Addr} {xs : List Mk} (k : KOk w0 K w) (p : Pick K (.blk b [.slice A xs.length c] T) K1) (p2 : Pick K (.row e 3 A xs.length c (ml xs)) K2) : MoR (fun b => w.heap[b]?) b xs :=
  ⟨A, c, ⟨_, _, _, (k.get p).2, rfl⟩, k.row_sl Mk.l_length p2 rfl⟩
theorem KOk.mo2 {w0 w : World} {K K1 K2 : List Ent} {b n c T e : Nat} {A : Option Addr} {xs : List Mk} (k : KOk w0 K w) (hn : xs.length = n) (p : Pick K (.blk b [.slice A n c] T) K1) (p2 : Pick K (.row e 3 A n c (ml xs)) K2) : MoR (fun b => w.heap[b]?) b xs := by
  subst hn
  exact k.mo p p2

theorem TE.end1 {P : Program} {n : Nat} {w0 : World} {L : List (Nat × Value)} {K : List Ent} {fn : Func} {r : ResultVar} {v : Value} {R : Ending → World → Prop} (hr : fn.results = #[r]) (h : ResV P n w0 L K r v) (hR : ∀ w, KOk w0 K w → R (.returned v) w) : TE n w0 L K .normal (bodyPost P fn R) :=
  fun a w f k => ⟨f.df, v, run_results (rs := [r]) hr (.cons h .nil) f k, hR w k⟩
/-- a call that lays new blocks at the most, with a result of a family -/
theorem bel_x {P : Program} {w0 w : World} {K : List Ent} {ι : Type} {g : FuncId} {vs : Array Value} {V : ι → Value} {R : ι → Prop} (k : KOk w0 K w) (hc : Calls P g vs w (fun e w' => ∃ i, e = .returned (V i) ∧ R i ∧ Below w.heap.size w w')) :
    Calls P g vs w (fun e w' => ∃ i, e = .returned (V i) ∧ R i ∧ KOk w0 K w') := Calls.mono hc fun e w' ⟨i, h1, h2, h3⟩ => ⟨i, h1, h2, k.below h3⟩
theorem KOk.rowA {w0 w : World} {K K1 : List Ent} {e z m c : Nat} {A : Option Addr} {xs : List Value} (k : KOk w0 K w) (p : Pick K (.row e z A m c xs) K1) : ∃ b, (0 < m → A = some ⟨b, 0, Option.none⟩) ∧ KOk w0 K w := by
  by_cases hm : 0 < m
  · obtain ⟨q, h, _⟩ := rowBlk k p hm
    exact ⟨q.1, fun _ => h.1, k⟩
  · exact ⟨0, fun h => absurd h hm, k⟩
theorem ret_b {P Q : Bool} {w w' : World} (h : P = Q) : Ending.returned (.bool P) = Ending.returned (.bool Q) := by rw [h]
/-! ### The last command of a row -/
theorem rowMid {w0 w : World} {K K1 : List Ent} {e c : Nat} {A : Option Addr} {O : List Cm} {Z : Cm} (k : KOk w0 K w) (p : Pick K (.row e 9 A (O.length + 1) c (cl (O ++ [Z]))) K1) :
    ∃ q : Nat × List Value, (A = some ⟨q.1, 0, none⟩ ∧ (O.length + 1) * 9 + q.2.length = c * 9 ∧ O.length + 1 ≤ c ∧ c ≤ 9223372036854775807) ∧ KOk w0 (.blk q.1 (cl O ++ (Z.l ++ q.2)) e :: K1) w := by
  obtain ⟨⟨b, cs⟩, ⟨h1, h2, h3, h4, h5⟩, k2⟩ := rowBlk k p (by omega)
  have e1 : cs = cl O ++ (Z.l ++ cs.drop ((O.length + 1) * 9)) := by
    have h6 := (List.take_append_drop ((O.length + 1) * 9) cs).symm
    rw [show cs.take ((O.length + 1) * 9) = cl (O ++ [Z]) from h3, cl_snoc, List.append_assoc] at h6
    exact h6
  refine ⟨⟨b, cs.drop ((O.length + 1) * 9)⟩, ⟨h1, ?_, h4, h5⟩, ?_⟩
  · have h2' : cs.length = c * 9 := h2
    rw [List.length_drop]
    omega
  · show KOk w0 (.blk b (cl O ++ (Z.l ++ cs.drop ((O.length + 1) * 9))) e :: K1) w
    rw [← e1]
    exact k2
theorem Kle.midRow {w0 : World} {K : List Ent} {b c e : Nat} {O : List Cm} {Z : Cm} {post : List Value} (h1 : (O.length + 1) * 9 + post.length = c * 9) (h2 : O.length + 1 ≤ c) (h3 : c ≤ 9223372036854775807) : Kle w0 (.blk b (cl O ++ (Z.l ++ post)) e :: K) (.row e 9 (some ⟨b, 0, none⟩) (O.length + 1) c (cl (O ++ [Z])) :: K) := by
  refine Kle.blkRow2 (by rw [List.length_append, List.length_append, cl_len, Cm.l_length]; omega) ?_ (by rw [cl_len]; simp) h2 h3
  rw [cl_snoc, ← List.append_assoc, List.take_left']
  rw [List.length_append, cl_len, Cm.l_length]
  omega
theorem mid_store {O : List Cm} {Z Z' : Cm} {post vs : List Value} {j : Nat} (h : putL Z.l j vs = Z'.l) (hj : j + vs.length ≤ 9) : putL (cl O ++ (Z.l ++ post)) (O.length * 9 + j) vs = cl O ++ (Z'.l ++ post) := by
  rw [← cl_len, putL_mid _ _ _ _ _ hj, h]
theorem mid_take {O : List Cm} {Z : Cm} {post : List Value} : ((cl O ++ (Z.l ++ post)).drop (0 + O.length * 9)).take 9 = Z.l := by
  rw [Nat.zero_add, ← cl_len, List.drop_left]
  rfl
theorem mid_len {O : List Cm} {Z : Cm} {post : List Value} {j k : Nat} (h : j + k ≤ 9) : O.length * 9 + j + k ≤ (cl O ++ (Z.l ++ post)).length := by
  rw [List.length_append, List.length_append, cl_len, Cm.l_length]
  omega
/-! ### A mark in the middle of a row -/
theorem rowAt {w0 w : World} {K K1 : List Ent} {e n c : Nat} {A : Option Addr} {p r : List Mk} {x : Mk} (k : KOk w0 K w) (hn : (p ++ x :: r).length = n) (q : Pick K (.row e 3 A n c (ml (p ++ x :: r))) K1) :
    ∃ q : Nat × List Value, (A = some ⟨q.1, 0, none⟩ ∧ n * 3 + q.2.length = c * 3 ∧ n ≤ c ∧ c ≤ 9223372036854775807) ∧ KOk w0 (.blk q.1 (ml p ++ (x.l ++ (ml r ++ q.2))) e :: K1) w := by
  have hl : (p ++ x :: r).length = p.length + (r.length + 1) := by simp
  obtain ⟨⟨b, cs⟩, ⟨h1, h2, h3, h4, h5⟩, k2⟩ := rowBlk k q (by omega)
  have e1 : cs = ml p ++ (x.l ++ (ml r ++ cs.drop (n * 3))) := by
    have h6 := (List.take_append_drop (n * 3) cs).symm
    have h7 : ml (p ++ x :: r) = ml p ++ (x.l ++ ml r) := by simp [ml]
    rw [show cs.take (n * 3) = ml (p ++ x :: r) from h3, h7, List.append_assoc, List.append_assoc] at h6
    exact h6
  refine ⟨⟨b, cs.drop (n * 3)⟩, ⟨h1, ?_, h4, h5⟩, ?_⟩
  · have h2' : cs.length = c * 3 := h2
    rw [List.length_drop]
    omega
  · show KOk w0 (.blk b (ml p ++ (x.l ++ (ml r ++ cs.drop (n * 3)))) e :: K1) w
    rw [← e1]
    exact k2
theorem Kle.atRow {w0 : World} {K : List Ent} {b n c e : Nat} {p r : List Mk} {x : Mk} {post : List Value} (hn : (p ++ x :: r).length = n) (h1 : n * 3 + post.length = c * 3) (h2 : n ≤ c) (h3 : c ≤ 9223372036854775807) : Kle w0 (.blk b (ml p ++ (x.l ++ (ml r ++ post))) e :: K) (.row e 3 (some ⟨b, 0, none⟩) n c (ml (p ++ x :: r)) :: K) := by
  have h7 : ml (p ++ x :: r) = ml p ++ (x.l ++ ml r) := by simp [ml]
  have hl : (ml (p ++ x :: r)).length = n * 3 := by rw [ml_len, hn]
  have h8 : ml p ++ (x.l ++ (ml r ++ post)) = ml (p ++ x :: r) ++ post := by rw [h7]; simp only [List.append_assoc]
  rw [h8]
  exact Kle.blkRow2 (by rw [List.length_append, hl]; omega) (by rw [← hl, List.take_left']; rfl) hl h2 h3
theorem at_store {p : List Mk} {x x' : Mk} {post vs : List Value} {j : Nat} (h : putL x.l j vs = x'.l) (hj : j + vs.length ≤ 3) : putL (ml p ++ (x.l ++ post)) (p.length * 3 + j) vs = ml p ++ (x'.l ++ post) := by
  rw [← ml_len, putL_mid _ _ _ _ _ hj, h]
theorem at_take {p : List Mk} {x : Mk} {post : List Value} {i : Nat} (hi : p.length = i) : ((ml p ++ (x.l ++ post)).drop (0 + i * 3)).take 3 = x.l := by
  rw [Nat.zero_add, ← hi, ← ml_len, List.drop_left]
  rfl
theorem at_len {p : List Mk} {x : Mk} {post : List Value} {j k : Nat} (h : j + k ≤ 3) : p.length * 3 + j + k ≤ (ml p ++ (x.l ++ post)).length := by
  rw [List.length_append, List.length_append, ml_len, Mk.l_length]
  omega
/-- the first marks, spoiled -/
def spo (xs : List Mk) (i : Nat) : List Mk := (xs.take i).map fun x => { x with ln := 77 }
theorem spo_len {xs : List Mk} {i : Nat} (h : i ≤ xs.length) : (spo xs i).length = i := by simp [spo, h]
theorem spo_succ {xs : List Mk} {i : Nat} {x : Mk} (h : xs[i]? = some x) : spo xs (i + 1) = spo xs i ++ [{ x with ln := 77 }] := by simp [spo, take_snoc h]
theorem ml_at {xs : List Mk} {i : Nat} {x : Mk} (h : xs[i]? = some x) : ((ml xs).drop (0 + i * 3)).take 3 = x.l := by
  have e : ml xs = ml (xs.take i) ++ (x.l ++ ml (xs.drop (i + 1))) := by
    have h9 : xs = xs.take i ++ x :: xs.drop (i + 1) := by rw [← drop_get h, List.take_append_drop]
    conv => lhs; rw [h9]
    simp [ml]
  have hi := (List.getElem?_eq_some_iff.1 h).1
  rw [e]
  exact at_take (by rw [List.length_take]; omega)
end Go.Proofs.Ytaoepaonjeilgaa
