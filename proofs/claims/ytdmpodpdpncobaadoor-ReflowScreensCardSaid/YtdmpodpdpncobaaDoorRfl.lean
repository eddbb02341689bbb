/-
  Rows at another width, as plain data and in memory; what the laws ask. No condition.
-/
import Derived.Test.YtdmpodpdpncobaaDoorAnd
namespace Go.Proofs.YtdmpodpdpncobaaDoor
open Go.RowKit
set_option linter.unusedSimpArgs false
set_option linter.unusedVariables false
/-! ### Rows at another width -/
def flowV (G : List Lg) (cols : Int) : List Ln := G.flatMap fun g => wrapV g.cells cols
def reflV (X : List Ln) (cols : Int) (as_ : List (Int × Int)) : List Ln := if carE X cols as_ = 0 then flowV (lgG [] 0 X) cols else []
theorem flowV_snoc {G : List Lg} {cols : Int} {i : Nat} {g : Lg} (h : G[i]? = some g) : flowV (G.take (i + 1)) cols = flowV (G.take i) cols ++ wrapV g.cells cols := by
  rw [flowV, take_snoc h, List.flatMap_append]
  simp [flowV]
theorem wrapV_len {xs : List Cl} {cols : Int} (h : vW xs cols = true) : ((wrapV xs cols).length : Int) = rowsV xs cols := by
  have hb := (plR_bd cols xs).2.1
  rw [wrapV_ref h, refW_length, rows_eq h, rowsN]
  omega
theorem flowV_len {G : List Lg} {cols : Int} (h : ∀ g ∈ G, vW g.cells cols = true) : ((flowV G cols).length : Int) = rwS cols G := by
  induction G with
  | nil => rfl
  | cons g t ih =>
    have h1 := ih fun g hg => h g (List.mem_cons_of_mem _ hg)
    have h2 := wrapV_len (h g (List.mem_cons_self ..))
    have e : rwS cols (g :: t) = rowsV g.cells cols + rwS cols t := by simp [rwS]
    rw [e, flowV, List.flatMap_cons, List.length_append, ← flowV]
    omega
theorem rowsV_len (xs : List Cl) (cols : Int) : 0 ≤ rowsV xs cols ∧ rowsV xs cols ≤ (xs.length : Int) + 1 := by
  cases h : vW xs cols with
  | false => rw [rowsV, h, if_neg (by decide)]; omega
  | true =>
    have h1 := rows_eq h
    have h2 := plR_bd cols xs
    omega
theorem rwS_len {cols : Int} : ∀ G : List Lg, (∀ g ∈ G, g.cells.length ≤ 20000000) → 0 ≤ rwS cols G ∧ rwS cols G ≤ 20000001 * (G.length : Int)
  | [], _ => by simp [rwS]
  | g :: t, h => by
    have h1 := rwS_len (cols := cols) t fun g hg => h g (List.mem_cons_of_mem _ hg)
    have h2 := rowsV_len g.cells cols
    have h3 := h g (List.mem_cons_self ..)
    have e : rwS cols (g :: t) = rowsV g.cells cols + rwS cols t := by simp [rwS]
    rw [e, List.length_cons]
    omega
/-! ### Rows in memory, one list behind another -/
theorem WR.app {T : TypeId} {σ τ ρ : Nat → Option Obj} {m : Nat} {ls ms : List LnA} (h : WR T σ m ls) (h2 : WR T τ m ms) (hs : ∀ b o, σ b = some o → ρ b = some o) (ht : ∀ b o, τ b = some o → ρ b = some o) (hd : ∀ b o, σ b = some o → τ b = none) : WR T ρ m (ls ++ ms) := by
  refine ⟨fun l hl => ?_, ?_⟩
  · rcases List.mem_append.1 hl with hl | hl
    · exact (h.mono hs).1 l hl
    · exact (h2.mono ht).1 l hl
  · rw [List.map_append, List.nodup_append]
    refine ⟨h.2, h2.2, fun x hx y hy e => ?_⟩
    obtain ⟨l, hl, rfl⟩ := List.mem_map.1 hx
    obtain ⟨l2, hl2, rfl⟩ := List.mem_map.1 hy
    obtain ⟨b, e1, _, _, _, _, cs, e2, _⟩ := h.1 l hl
    obtain ⟨b2, f1, _, _, _, _, cs2, f2, _⟩ := h2.1 l2 hl2
    rw [e1, f1] at e
    cases e
    rw [hd b _ e2] at f2
    cases f2
theorem LsW.mono {T : TypeId} {σ τ : Nat → Option Obj} {m n c : Nat} {A : Option Addr} {ls : List LnA} (h : LsW T σ m A n c ls) (hs : ∀ b o, σ b = some o → τ b = some o) : LsW T τ m A n c ls := ⟨SlR.mono h.1 hs, h.2.1.mono hs, h.2.2⟩
/-- what an append reads, in memory that is known -/
theorem Src.slK {α : Type} {f : α → List Value} {z : Nat} (hf : ∀ x, (f x).length = z) (hz : 0 < z) {w0 : World} {K : List Ent} {σ : Nat → Option Obj} {A : Option Addr} {m c : Nat} {xs : List α} (hk : ∀ w, KOk w0 K w → ∀ b o, σ b = some o → w.heap[b]? = some o) (h : SlR z (fun x cs => cs = f x) σ A m c xs) : Src w0 K A m z (xs.flatMap f) := fun w k => by
  refine ⟨by rw [length_flat hf, h.1], fun hn => ?_⟩
  obtain ⟨b, o, hA, hc⟩ := h.2.2.2.2 hn
  have hcell : ∀ j, j < m * z → ∃ v, (xs.flatMap f)[j]? = some v ∧ w.cell? ⟨b, o + j, none⟩ = some v := fun j hj => by
    have hi : j / z < m := (Nat.div_lt_iff_lt_mul hz).2 hj
    obtain ⟨x, hx⟩ := get_of_lt h.1 hi
    obtain ⟨_, rfl, _, hat⟩ := hc _ x hx
    have hj2 : j % z < (f x).length := by rw [hf]; exact Nat.mod_lt _ hz
    have hv : (f x)[j % z]? = some (f x)[j % z] := List.getElem?_eq_getElem hj2
    have e : j / z * z + j % z = j := by rw [Nat.mul_comm]; exact Nat.div_add_mod j z
    refine ⟨(f x)[j % z], ?_, ?_⟩
    · have := get_flat hf xs _ _ x _ hx hv
      rwa [e] at this
    · have := at_cell (hat _ _ hv) (hk w k)
      rwa [Nat.add_assoc, e] at this
  refine ⟨b, o, hA, ?_, fun j hj => ?_⟩
  · obtain ⟨v, _, h2⟩ := hcell 0 (Nat.mul_pos hn hz)
    unfold World.cell? at h2
    split at h2
    · rename_i X T f hb
      exact lt_of_some hb
    · cases h2
  · obtain ⟨v, h1, h2⟩ := hcell j hj
    rw [h1, h2]
theorem oneC_fll (xs : List LnA) : ((fll xs).all fun u => u.oneCell') = true := by
  induction xs with
  | nil => rfl
  | cons c t ih =>
    rw [fll, List.flatMap_cons, List.all_append, ← fll, ih]
    rfl
theorem fll_append (xs ys : List LnA) : fll (xs ++ ys) = fll xs ++ fll ys := by simp [fll]
/-- rows of m cells each that are the call's own to write, if they have cells -/
def LsO (T : TypeId) (σ : Nat → Option Obj) (m : Nat) (A : Option Addr) (n c : Nat) (ls : List LnA) : Prop := LsA σ A n c ls ∧ (∀ l ∈ ls, l.n = m) ∧ (0 < m → LsW T σ m A n c ls)
theorem LsW.lsO {T : TypeId} {σ : Nat → Option Obj} {m n c : Nat} {A : Option Addr} {ls : List LnA} (h : LsW T σ m A n c ls) : LsO T σ m A n c ls :=
  ⟨h.lsA, fun l hl => by obtain ⟨b, _, e, _⟩ := h.2.1.1 l hl; exact e, fun _ => h⟩
theorem LsO.mono {T : TypeId} {σ τ : Nat → Option Obj} {m n c : Nat} {A : Option Addr} {ls : List LnA} (h : LsO T σ m A n c ls) (hs : ∀ b o, σ b = some o → τ b = some o) : LsO T τ m A n c ls := ⟨h.1.mono hs, h.2.1, fun hm => (h.2.2 hm).mono hs⟩
/-- a flow in memory: where its rows are, and the blocks of their cells -/
structure FV where
  A : Option Addr
  c : Nat
  ls : List LnA
  σ : Nat → Option Obj
def flL (A : Option Addr) (n c : Nat) (cols : Int) : List Value := [.slice A n c, .int .i64 cols]
/-- two slices, and the memory that they lie in -/
structure RV where
  A : Option Addr
  n : Nat
  c : Nat
  A2 : Option Addr
  n2 : Nat
  c2 : Nat
  σ : Nat → Option Obj
def RV.v (v : RV) : Value := .slice v.A v.n v.c
def RV.v2 (v : RV) : Value := .slice v.A2 v.n2 v.c2
theorem okG_cells {X : List Ln} (hv : vLs X = true) (hn : X.length ≤ 20000) : ∀ g ∈ lgG [] 0 X, g.cells.length ≤ 20000000 := fun g hg => by
  have h1 := (linesV_bd (fun x hx => vLs_row hv hx) g hg).1
  have h4 : X.length * 1000 ≤ 20000 * 1000 := Nat.mul_le_mul_right _ hn
  omega
theorem fine_all {G : List Lg} {cols : Int} (h : fineB G cols = true) : ∀ g ∈ G, vW g.cells cols = true := by
  rw [fineB, Bool.and_eq_true, List.all_eq_true] at h
  exact h.2
/-- do rows have the same logical lines? -/
def sameV (X Y : List Ln) : Bool := vLs X && (vLs Y && decide ((lgG [] 0 X).map Lg.cells = (lgG [] 0 Y).map Lg.cells))
theorem map_cells (gs : List LgA) : (gs.map LgA.lg).map Lg.cells = gs.map LgA.cells := by rw [List.map_map]; rfl
section
variable {P : Program} {n : Nat} {w0 : World} {L : List (Nat × Value)} {K : List Ent}
theorem run_eqInS (d : Nat) (w : World) (t e : TypeId) (ht : P.underlying t = some (.slice e)) (A : Option Addr) (m c : Nat) : (Op.equalIn (d + 1) t (.slice A m c) (.slice none 0 0)).run P w = .ok A.isNone w := by
  cases A <;> simp [Op.equalIn, run_underlying ht]
theorem run_eqS (w : World) (t e : TypeId) (ht : P.underlying t = some (.slice e)) (A : Option Addr) (m c : Nat) : (Op.equal t (.slice A m c) (.slice none 0 0)).run P w = .ok A.isNone w := run_eqInS 9999 w t e ht A m c
theorem opv_slnil {t u e0 : TypeId} {x y : Operand} {ty : TypeId} {A : Option Addr} {m c : Nat} (ht : P.underlying t = some (.slice e0)) (hx : ev L x = some (.slice A m c)) (hy : ev L y = some (.slice none 0 0)) : OpV P n w0 L K (.binOp .eql t x y u) ty (.bool A.isNone) := fun a w o e _ f _ => by
  cases A <;> simp [execOp, e, f.ev hx, f.ev hy, eqGuard, binOp, run_eqS w t e0 ht]
end
/-! ### Even rows, and the screen -/
def hdN (X : List Ln) : Nat := match X[0]? with
  | some x => x.cells.length
  | none => 0
def evenV (X : List Ln) : Bool := vLs X && X.all fun x => decide (x.cells.length = hdN X)
theorem hdN_get {X : List Ln} {x : Ln} (h : X[0]? = some x) : hdN X = x.cells.length := by rw [hdN, h]
theorem even_row {X : List Ln} (h : evenV X = true) {i : Nat} {x : Ln} (hx : X[i]? = some x) : x.cells.length = hdN X := by
  rw [evenV, Bool.and_eq_true, List.all_eq_true] at h
  exact of_decide_eq_true (h.2 x (List.mem_of_getElem? hx))
theorem even_no {X : List Ln} {i : Nat} {x : Ln} (hx : X[i]? = some x) (hne : x.cells.length ≠ hdN X) : evenV X = false := by
  cases h : evenV X with
  | false => rfl
  | true => exact absurd (even_row h hx) hne
def topV (n rows must : Int) : Int := if must < (if 0 < n - rows then n - rows else 0) then must else (if 0 < n - rows then n - rows else 0)
def blankR (m : Nat) : Ln := ⟨List.replicate m (blank Pen.zero), false⟩
def screenV (X : List Ln) (rows must : Int) : List Ln := (X.take (min X.length ((topV X.length rows must).toNat + rows.toNat))).drop (topV X.length rows must).toNat ++ List.replicate (rows.toNat - (min X.length ((topV X.length rows must).toNat + rows.toNat) - (topV X.length rows must).toNat)) (blankR (hdN X))
def scrE (X : List Ln) (rows must : Int) : Int := if evenV X && (decide (1 ≤ rows) && decide (rows ≤ 1000)) then (if decide (0 ≤ must) && decide (must < (X.length : Int)) then 0 else 3) else 2
def scrT (X : List Ln) (rows must : Int) : Int := if scrE X rows must = 0 then topV X.length rows must else 0
def scrV (X : List Ln) (rows must : Int) : List Ln := if scrE X rows must = 0 then screenV X rows must else []
/-- rows in memory that are the call's own if they have cells -/
def RO (T : TypeId) (σ : Nat → Option Obj) (m : Nat) (ls : List LnA) : Prop := (∀ l ∈ ls, CsR σ l.A l.n l.c l.cells ∧ l.n = m) ∧ (0 < m → WR T σ m ls)
theorem RO.nil {T : TypeId} {σ : Nat → Option Obj} {m : Nat} : RO T σ m [] := ⟨fun l hl => (by cases hl), fun _ => WR.nil⟩
theorem RO.snoc {T : TypeId} {τ ρ π : Nat → Option Obj} {m : Nat} {ls : List LnA} {l : LnA} (h : RO T τ m ls) (f1 : ∀ b o, ρ b = some o → π b = some o) (f2 : ∀ b o, τ b = some o → π b = some o) (f3 : ∀ b o, ρ b = some o → τ b = none) (hc : CsR ρ l.A l.n l.c l.cells) (hn : l.n = m) (ho : 0 < m → ∃ b, l.A = some ⟨b, 0, none⟩ ∧ OwR T ρ b l.cells) : RO T π m (ls ++ [l]) := by
  refine ⟨fun l' hl' => ?_, fun hm => ?_⟩
  · rcases List.mem_append.1 hl' with hl' | hl'
    · exact ⟨(h.1 l' hl').1.mono f2, (h.1 l' hl').2⟩
    · obtain rfl := List.mem_singleton.1 hl'
      exact ⟨hc.mono f1, hn⟩
  · obtain ⟨b, e1, e2⟩ := ho hm
    have e3 := e2
    obtain ⟨cs, e4, _⟩ := e3
    exact (h.2 hm).snoc f2 e1 hn (by rw [hc.1, hn]) (by rw [← hn]; exact hc.2.1) hc.2.2.1 (e2.mono f1) (f3 _ _ e4)
theorem RO.lsO {T : TypeId} {τ ρ : Nat → Option Obj} {m n c b : Nat} {A : Option Addr} {ls : List LnA} (h : RO T τ m ls) (hs : ∀ b o, τ b = some o → ρ b = some o) (hA : A = some ⟨b, 0, none⟩) (hb : τ b = none) (hr : SlR 2 (fun x cs => cs = x.l) ρ A n c ls) : LsO T ρ m A n c ls :=
  ⟨⟨hr, fun l hl => (h.1 l hl).1.mono hs⟩, fun l hl => (h.1 l hl).2, fun hm => LsW.of_rows (h.2 hm) hs hA hb hr⟩
theorem LsO.nil {T : TypeId} {σ : Nat → Option Obj} {m : Nat} : LsO T σ m none 0 0 [] := LsW.nil.lsO
theorem set_rep (q m : Nat) (hq : q < m) (a b : Cl) : (List.replicate q a ++ List.replicate (m - q) b).set q a = List.replicate (q + 1) a ++ List.replicate (m - (q + 1)) b := by
  have := set_end (List.replicate q a) (m - q) b a (by omega)
  rw [List.length_replicate] at this
  rw [this, List.replicate_succ', show m - q - 1 = m - (q + 1) by omega]
/-! ### What the laws ask -/
def flowsV (X : List Ln) (cols : Int) (as_ : List (Int × Int)) (want : List Ln) (places : List (Int × Int)) (no : Int) : Bool := decide (reflV X cols as_ = want) && (decide (carV X cols as_ = places) && carE X cols as_ == no)
def partsV (X : List Ln) (rows must top : Int) (want : List Ln) (no : Int) : Bool := scrT X rows must == top && (decide (scrV X rows must = want) && scrE X rows must == no)
theorem KOk.frs4 {w : World} {σ τ υ ω : Nat → Option Obj} (h : ∀ b o, σ b = some o → w.heap[b]? = some o) (h' : ∀ b o, τ b = some o → w.heap[b]? = some o) (h2 : ∀ b o, υ b = some o → w.heap[b]? = some o) (h3 : ∀ b o, ω b = some o → w.heap[b]? = some o) : KOk w [.fr σ, .fr τ, .fr υ, .fr ω] w :=
  ⟨Below.refl _ _, h, fun e he hm => (by simp only [List.mem_cons, List.not_mem_nil, or_false] at he; rcases he with rfl | rfl | rfl <;> cases hm), h', fun e he hm => (by simp only [List.mem_cons, List.not_mem_nil, or_false] at he; rcases he with rfl | rfl <;> cases hm), h2, fun e he hm => (by rw [List.mem_singleton.1 he] at hm; cases hm), h3, fun e he => (by simp at he), trivial⟩
theorem LsR.pre {σ : Nat → Option Obj} {A : Option Addr} {n c hi : Nat} {X : List Ln} (h : LsR σ A n c X) (hh : hi ≤ n) : LsR σ (subA A c 0 2) hi c (X.take hi) := by
  obtain ⟨ls, h1, rfl⟩ := h
  have h2 := SlR.slice h1.1 (lo := 0) (hi := hi) (Nat.zero_le _) hh
  rw [Nat.sub_zero, Nat.sub_zero, List.drop_zero] at h2
  exact ⟨ls.take hi, ⟨h2, fun l hl => h1.2 l (List.mem_of_mem_take hl)⟩, by rw [List.map_take]⟩
/-! ### What the laws of chapter 30 ask -/
theorem flows_bad {X : List Ln} {cols : Int} {as_ : List (Int × Int)} (h : vLs X = false ∨ fineB (lgG [] 0 X) cols = false) : flowsV X cols as_ [] [] 2 = true := by
  have he : carE X cols as_ = 2 := by
    unfold carE
    rcases h with h | h
    · rw [h]; rfl
    · rw [h]; split <;> rfl
  simp [flowsV, reflV, carV, he]
theorem flows_out {X : List Ln} {cols : Int} {l : List (Int × Int)} (hv : vLs X = true) (hf : fineB (lgG [] 0 X) cols = true) {a : Int × Int} (ha : a ∈ l) (hp : hasP X a = false) : flowsV X cols l [] [] 3 = true := by
  have he : carE X cols l = 3 := by
    rw [carE, hv, hf, show l.all (hasP X) = false by rw [List.all_eq_false]; exact ⟨a, ha, by rw [hp]; decide⟩]
    rfl
  simp [flowsV, reflV, carV, he]
theorem flows_ok {X : List Ln} {cols : Int} {l : List (Int × Int)} (hv : vLs X = true) (hf : fineB (lgG [] 0 X) cols = true) (hp : l.all (hasP X) = true) : flowsV X cols l (flowV (lgG [] 0 X) cols) (l.map (car1 X cols)) 0 = true := by
  have he : carE X cols l = 0 := by
    rw [carE, hv, hf, hp]
    rfl
  simp [flowsV, reflV, carV, he]
theorem refl_ok {X : List Ln} {cols : Int} (hv : vLs X = true) (hf : fineB (lgG [] 0 X) cols = true) : carE X cols [] = 0 ∧ reflV X cols [] = flowV (lgG [] 0 X) cols := by
  have he : carE X cols [] = 0 := by
    rw [carE, hv, hf]
    rfl
  exact ⟨he, by rw [reflV, if_pos he]⟩
theorem parts_bad {X : List Ln} {rows must : Int} (h : evenV X = false ∨ rows < 1 ∨ 1000 < rows) : partsV X rows must 0 [] 2 = true := by
  have he : scrE X rows must = 2 := by
    rw [scrE]
    rcases h with h | h | h
    · rw [h]; rfl
    · rw [decide_eq_false (show ¬ 1 ≤ rows by omega), Bool.false_and, Bool.and_false]; rfl
    · rw [decide_eq_false (show ¬ rows ≤ 1000 by omega), Bool.and_false, Bool.and_false]; rfl
  simp [partsV, scrT, scrV, he]
theorem scrE_in {X : List Ln} {rows must : Int} (hv : evenV X = true) (h1 : 1 ≤ rows ∧ rows ≤ 1000) : scrE X rows must = if decide (0 ≤ must) && decide (must < (X.length : Int)) then 0 else 3 := by
  rw [scrE, hv, decide_eq_true h1.1, decide_eq_true h1.2]
  rfl
theorem parts_out {X : List Ln} {rows must : Int} (hv : evenV X = true) (h1 : 1 ≤ rows ∧ rows ≤ 1000) (h : must < 0 ∨ (X.length : Int) ≤ must) : partsV X rows must 0 [] 3 = true := by
  have he : scrE X rows must = 3 := by
    rw [scrE_in hv h1]
    rcases h with h | h
    · rw [decide_eq_false (show ¬ 0 ≤ must by omega)]; rfl
    · rw [decide_eq_false (show ¬ must < (X.length : Int) by omega), Bool.and_false]; rfl
  simp [partsV, scrT, scrV, he]
theorem scr_ok {X : List Ln} {rows must : Int} (hv : evenV X = true) (h1 : 1 ≤ rows ∧ rows ≤ 1000) (h : 0 ≤ must ∧ must < (X.length : Int)) : scrE X rows must = 0 ∧ scrT X rows must = topV X.length rows must ∧ scrV X rows must = screenV X rows must := by
  have he : scrE X rows must = 0 := by
    rw [scrE_in hv h1, decide_eq_true h.1, decide_eq_true h.2]
    rfl
  exact ⟨he, by rw [scrT, if_pos he], by rw [scrV, if_pos he]⟩
theorem parts_ok {X : List Ln} {rows must : Int} (hv : evenV X = true) (h1 : 1 ≤ rows ∧ rows ≤ 1000) (h : 0 ≤ must ∧ must < (X.length : Int)) : partsV X rows must (topV X.length rows must) (screenV X rows must) 0 = true := by
  obtain ⟨e1, e2, e3⟩ := scr_ok hv h1 h
  simp [partsV, e1, e2, e3]
/-! ### How many rows there are -/
def cellN (G : List Lg) : Nat := (G.map fun g => g.cells.length).sum
theorem trim_le (l : List Cl) : (trimV l).length ≤ l.length := by
  obtain ⟨k, h1, e⟩ := trimV_pre _ l rfl
  rw [e, List.length_take]
  exact Nat.min_le_right _ _
theorem sumL_app (a b : List (List Cl)) : sumL (a ++ b) = sumL a + sumL b := by simp [sumL]
theorem lg_total : ∀ (l cur : List Ln) (f : Nat), cellN (lgG cur f l) ≤ sumL ((cur ++ l).map Ln.cells)
  | [], cur, f => by simp [lgG, cellN]
  | x :: l, cur, f => by
    rw [lgG]
    split
    · have := lg_total l (cur ++ [x]) f
      rwa [List.append_assoc] at this
    · have h1 := lg_total l [] (f + cur.length + 1)
      have h2 := trim_le (allV ((cur ++ [x]).map Ln.cells))
      have h3 := allV_len ((cur ++ [x]).map Ln.cells)
      have e : cur ++ x :: l = (cur ++ [x]) ++ l := by simp
      rw [e, List.map_append (l₁ := cur ++ [x]) (l₂ := l), sumL_app]
      rw [List.nil_append] at h1
      have e2 : ∀ (g : Lg) (t : List Lg), cellN (g :: t) = g.cells.length + cellN t := fun g t => by simp [cellN]
      rw [e2]
      simp only
      omega
theorem rwS_tot {cols : Int} : ∀ G : List Lg, rwS cols G ≤ (cellN G : Int) + (G.length : Int)
  | [] => by simp [rwS, cellN]
  | g :: t => by
    have h1 := rwS_tot (cols := cols) t
    have h2 := rowsV_len g.cells cols
    have e : rwS cols (g :: t) = rowsV g.cells cols + rwS cols t := by simp [rwS]
    have e2 : cellN (g :: t) = g.cells.length + cellN t := by simp [cellN]
    rw [e, e2, List.length_cons]
    omega
theorem sumL_16 {l : List (List Cl)} (h : ∀ x ∈ l, x.length ≤ 16) : sumL l ≤ l.length * 16 := by
  induction l with
  | nil => exact Nat.le_refl _
  | cons x l ih =>
    have h1 := ih fun y hy => h y (List.mem_cons_of_mem _ hy)
    have h2 := h x (List.mem_cons_self ..)
    simp only [sumL, List.map_cons, List.sum_cons, List.length_cons] at h1 ⊢
    omega
theorem flow_few {X : List Ln} {cols : Int} (h : few29V X = true) (hf : fineB (lgG [] 0 X) cols = true) : (flowV (lgG [] 0 X) cols).length ≤ 204 := by
  obtain ⟨h1, h2⟩ := few29_bd h
  have h3 := flowV_len (cols := cols) (fine_all hf)
  have h4 := rwS_tot (cols := cols) (lgG [] 0 X)
  have h5 := lg_total X [] 0
  have h6 := sumL_16 (l := X.map Ln.cells) fun x hx => by obtain ⟨y, hy, rfl⟩ := List.mem_map.1 hx; exact h2 y hy
  have h7 := lgG_count X [] 0
  rw [List.length_map] at h6
  rw [List.nil_append] at h5
  omega
/-! ### What is reflowed has the same logical lines -/
theorem trim_idem {l : List Cl} (h : ∀ x, l[l.length - 1]? = some x → isB x = false) : trimV l = l := by
  rcases Nat.eq_zero_or_pos l.length with h0 | h0
  · obtain rfl := List.length_eq_zero_iff.1 h0
    rfl
  · obtain ⟨x, hx⟩ : ∃ x, l[l.length - 1]? = some x := ⟨_, List.getElem?_eq_getElem (by omega)⟩
    have e : l = l.take (l.length - 1) ++ [x] := by
      have := take_snoc hx
      rwa [show l.length - 1 + 1 = l.length by omega, List.take_length] at this
    have := trimV_snoc (l.take (l.length - 1)) x
    rw [← e, h x hx, if_neg (by decide)] at this
    exact this
theorem okG_trim {X : List Ln} : ∀ (G : List Lg) (n : Nat), OkG X n G → ∀ g ∈ G, trimV g.cells = g.cells
  | [], _, _, g, h => by cases h
  | y :: t, n, h, g, hg => by
    obtain ⟨r, _, _, _, _, _, e6, _, ht⟩ := h
    rcases List.mem_cons.1 hg with rfl | hg
    · exact trim_idem e6
    · exact okG_trim t _ ht g hg
theorem lgG_block : ∀ (l cur rest : List Ln) (f : Nat), 0 < l.length → (∀ i x, l[i]? = some x → x.soft = decide (i + 1 < l.length)) → lgG cur f (l ++ rest) = ⟨trimV (allV ((cur ++ l).map Ln.cells)), (f : Int), ((cur.length + l.length : Nat) : Int)⟩ :: lgG [] (f + cur.length + l.length) rest
  | [], _, _, _, h, _ => by simp at h
  | [x], cur, rest, f, _, hs => by
    have := hs 0 x rfl
    rw [List.cons_append, List.nil_append, lgG, this]
    simp
  | x :: y :: l, cur, rest, f, _, hs => by
    have h0 := hs 0 x rfl
    rw [List.cons_append, lgG, h0]
    have h1 : (decide (0 + 1 < (x :: y :: l).length) && !(y :: l ++ rest).isEmpty) = true := by simp
    rw [h1, if_pos rfl, lgG_block (y :: l) (cur ++ [x]) rest f (by simp) fun i z hz => by
      have := hs (i + 1) z (by simpa using hz)
      rw [this]
      simp]
    simp only [List.append_assoc, List.cons_append, List.nil_append, List.length_append, List.length_cons, List.length_nil]
    congr 2
    all_goals omega
/-- a logical line that may be wrapped, and is one again -/
def GoodG (n : Nat) (g : Lg) : Prop := vW g.cells (n : Int) = true ∧ NoB g.cells ∧ trimV g.cells = g.cells
theorem flow_lines {n : Nat} (hn : 2 ≤ n) : ∀ (G : List Lg) (f : Nat), (∀ g ∈ G, GoodG n g) → (lgG [] f (flowV G (n : Int))).map Lg.cells = G.map Lg.cells
  | [], f, _ => rfl
  | g :: t, f, h => by
    obtain ⟨h1, h2, h3⟩ := h g (List.mem_cons_self ..)
    have hch := wrapV_ch h1 hn
    obtain ⟨k, hk⟩ := ch_all hn hch h2
    rw [flowV, List.flatMap_cons, lgG_block _ _ _ _ hch.ne fun i x hx => (hch.rows i x hx).2.2]
    rw [List.map_cons, List.nil_append, hk, trim_blanks, h3, List.map_cons, ← flowV, flow_lines hn t _ fun g hg => h g (List.mem_cons_of_mem _ hg)]
theorem flow_cells {G G2 : List Lg} {cols : Int} (h : G.map Lg.cells = G2.map Lg.cells) : flowV G cols = flowV G2 cols := by
  have : ∀ G : List Lg, flowV G cols = (G.map Lg.cells).flatMap fun c => wrapV c cols := fun G => by rw [flowV, List.flatMap_map]
  rw [this, this, h]
theorem flow_rows {n : Nat} (hn : 2 ≤ n) : ∀ (G : List Lg), (∀ g ∈ G, GoodG n g) → ∀ x ∈ flowV G (n : Int), x.cells.length = n ∧ rowR x.cells = true
  | [], _, x, hx => by cases hx
  | g :: t, h, x, hx => by
    rw [flowV, List.flatMap_cons, List.mem_append] at hx
    rcases hx with hx | hx
    · obtain ⟨i, hi, e⟩ := List.getElem_of_mem hx
      have := (wrapV_ch (h g (List.mem_cons_self ..)).1 hn).rows i x (by rw [List.getElem?_eq_getElem hi, e])
      exact ⟨this.1, this.2.1⟩
    · exact flow_rows hn t (fun g hg => h g (List.mem_cons_of_mem _ hg)) x hx
theorem flow_ne {n : Nat} (hn : 2 ≤ n) {G : List Lg} (h : ∀ g ∈ G, GoodG n g) (h0 : 0 < G.length) : 0 < (flowV G (n : Int)).length := by
  cases G with
  | nil => simp at h0
  | cons g t =>
    have := (wrapV_ch (h g (List.mem_cons_self ..)).1 hn).ne
    rw [flowV, List.flatMap_cons, List.length_append]
    omega
/-- what the law asks of rows that were reflowed -/
theorem flow_holds {X : List Ln} {n : Nat} (hv : vLs X = true) (hX : X.length ≤ 1000) (hs : ∀ g ∈ lgG [] 0 X, NoB g.cells) (hn : 2 ≤ n) (hn2 : n ≤ 1000) (hF : (flowV (lgG [] 0 X) (n : Int)).length ≤ 20000) :
    vLs (flowV (lgG [] 0 X) (n : Int)) = true ∧ (lgG [] 0 (flowV (lgG [] 0 X) (n : Int))).map Lg.cells = (lgG [] 0 X).map Lg.cells ∧ sameV X (flowV (lgG [] 0 X) (n : Int)) = true ∧ evenV (flowV (lgG [] 0 X) (n : Int)) = true ∧ (∀ cols : Int, 1 ≤ cols ∧ cols ≤ 1000 → fineB (lgG [] 0 (flowV (lgG [] 0 X) (n : Int))) cols = true) ∧ (decide (0 < (flowV (lgG [] 0 X) (n : Int)).length) = decide (0 < X.length)) := by
  have hf := fine_of (cols := (n : Int)) hv hX (by omega)
  have hok := ok_lines hv
  have hG : ∀ g ∈ lgG [] 0 X, GoodG n g := fun g hg => ⟨fine_all hf g hg, hs g hg, okG_trim _ 0 hok g hg⟩
  have hr := flow_rows hn _ hG
  have hl := flow_lines hn _ 0 hG
  have hvF : vLs (flowV (lgG [] 0 X) (n : Int)) = true := by
    refine vLs_ok (by omega) ?_
    rw [List.all_eq_true]
    intro x hx
    obtain ⟨h1, h2⟩ := hr x hx
    rw [vLine, h1, h2, Bool.and_true]
    exact decide_eq_true (by omega)
  refine ⟨hvF, hl, by rw [sameV, hv, hvF, hl]; simp, ?_, fun cols hc => ?_, ?_⟩
  · rw [evenV, hvF, Bool.true_and, List.all_eq_true]
    intro x hx
    obtain ⟨y, hy⟩ : ∃ y, (flowV (lgG [] 0 X) (n : Int))[0]? = some y := ⟨_, List.getElem?_eq_getElem (List.length_pos_of_mem hx)⟩
    rw [hdN_get hy, (hr x hx).1, (hr y (List.mem_of_getElem? hy)).1]
    exact decide_eq_true rfl
  · have h0 : vW [] cols = true := by simp [vW, hc, rowR, rowFrom]
    rw [fineB, h0, Bool.true_and, List.all_eq_true]
    intro g hg
    have hm : g.cells ∈ (lgG [] 0 X).map Lg.cells := by rw [← hl]; exact List.mem_map_of_mem hg
    obtain ⟨g2, hg2, e⟩ := List.mem_map.1 hm
    rw [← e]
    have := vW_parts (hG g2 hg2).1
    simp [vW, this, hc]
  · have h1 := lgG_count X [] 0
    rw [decide_eq_decide]
    constructor
    · intro h
      cases X with
      | nil => simp [lgG, flowV] at h
      | cons => simp
    · intro h
      refine flow_ne hn hG ?_
      cases hG0 : lgG [] 0 X with
      | nil => rw [hG0, OkG] at hok; omega
      | cons => simp
theorem same_flows {X Y : List Ln} (h1 : vLs X = true) (h2 : vLs Y = true) (h : (lgG [] 0 X).map Lg.cells = (lgG [] 0 Y).map Lg.cells) : sameV X Y = true := by rw [sameV, h1, h2, h]; simp
/-! ### The screen's rows -/
theorem screen_at {X : List Ln} {r k : Nat} (h0 : k < X.length) (hr : 1 ≤ r) : ∃ tp : Nat, topV X.length (r : Int) (k : Int) = (tp : Int) ∧ (tp ≤ k ∧ k < tp + r) ∧ (screenV X (r : Int) (k : Int)).length = r ∧ (screenV X (r : Int) (k : Int))[k - tp]? = X[k]? := by
  obtain ⟨tp, htp⟩ : ∃ q : Nat, topV (X.length : Int) (r : Int) (k : Int) = (q : Int) := ⟨(topV (X.length : Int) (r : Int) (k : Int)).toNat, by unfold topV; (repeat' split) <;> omega⟩
  have htq : tp ≤ k ∧ k < tp + r := by
    have h9 : (if (k : Int) < (if 0 < (X.length : Int) - r then (X.length : Int) - r else 0) then (k : Int) else (if 0 < (X.length : Int) - r then (X.length : Int) - r else 0)) = (tp : Int) := htp
    (repeat' split at h9) <;> omega
  refine ⟨tp, htp, htq, ?_, ?_⟩
  · rw [screenV, htp, Int.toNat_natCast, Int.toNat_natCast, List.length_append, List.length_drop, List.length_take, List.length_replicate]
    omega
  · rw [screenV, htp, Int.toNat_natCast, Int.toNat_natCast, List.getElem?_append_left (by rw [List.length_drop, List.length_take]; omega), List.getElem?_drop, List.getElem?_take, if_pos (by omega), show tp + (k - tp) = k by omega]
theorem top_many {m : Nat} (hm : 1 ≤ m) : topV (m : Int) 2 ((m : Int) - 1) = if ((m : Int) - 2) < 0 then 0 else (m : Int) - 2 := by
  unfold topV
  (repeat' split) <;> omega
/-! ### Many rows of one cell -/
def manyR (m : Nat) : List Ln := List.replicate m ⟨[xC], false⟩
theorem many_lg : ∀ (m f : Nat), (lgG [] f (manyR m)).map Lg.cells = List.replicate m [xC]
  | 0, f => rfl
  | m + 1, f => by
    rw [manyR, List.replicate_succ, lgG]
    have e : trimV (allV (([] ++ [(⟨[xC], false⟩ : Ln)]).map Ln.cells)) = [xC] := by decide
    simp only [Bool.false_and, Bool.false_eq_true, if_false]
    rw [List.map_cons, e, ← manyR, many_lg m, List.replicate_succ]
theorem many_ok {m : Nat} (hm : m ≤ 20000) (h1 : 1 ≤ m) : vLs (manyR m) = true ∧ fineB (lgG [] 0 (manyR m)) 1 = true ∧ (flowV (lgG [] 0 (manyR m)) 1).length = m ∧ evenV (manyR m) = true := by
  have hv : vLs (manyR m) = true := by
    refine vLs_ok (by rw [manyR, List.length_replicate]; omega) ?_
    rw [List.all_eq_true]
    intro x hx
    rw [List.eq_of_mem_replicate hx]
    decide
  have hx1 : vW [xC] 1 = true := by decide
  have hf : fineB (lgG [] 0 (manyR m)) 1 = true := by
    rw [fineB, show vW [] 1 = true by decide, Bool.true_and, List.all_eq_true]
    intro g hg
    have hm : g.cells ∈ (lgG [] 0 (manyR m)).map Lg.cells := List.mem_map_of_mem hg
    rw [many_lg] at hm
    rw [List.eq_of_mem_replicate hm]
    exact hx1
  refine ⟨hv, hf, ?_, ?_⟩
  · have h := flowV_len (cols := 1) (fine_all hf)
    have e : ∀ G : List Lg, rwS 1 G = ((G.map Lg.cells).map fun c => rowsV c 1).sum := fun G => by rw [rwS, List.map_map]; rfl
    rw [e, many_lg, List.map_replicate, show rowsV [xC] 1 = 1 by decide] at h
    have e2 : ∀ k : Nat, (List.replicate k (1 : Int)).sum = (k : Int) := fun k => by
      induction k with
      | zero => rfl
      | succ k ih => rw [List.replicate_succ, List.sum_cons, ih]; omega
    rw [e2] at h
    omega
  · have h0 : hdN (manyR m) = 1 := by
      cases m with
      | zero => omega
      | succ m => rfl
    rw [evenV, hv, Bool.true_and, List.all_eq_true, h0]
    intro x hx
    rw [List.eq_of_mem_replicate hx]
    rfl
theorem putL_fll : ∀ (xs : List LnA) (k : Nat) (x : LnA), k < xs.length → putL (fll xs) (k * 2) x.l = fll (xs.set k x)
  | [], k, x, h => by simp at h
  | y :: l, 0, x, _ => by
    have e : fll (y :: l) = y.l ++ fll l := rfl
    rw [e, putL, Nat.zero_mul, List.take_zero, List.nil_append, Nat.zero_add, LnA.l_length, ← LnA.l_length y, List.drop_left]
    rfl
  | y :: l, k + 1, x, h => by
    have e : fll (y :: l) = y.l ++ fll l := rfl
    have e2 : (k + 1) * 2 = y.l.length + k * 2 := by rw [LnA.l_length]; omega
    rw [e, e2, putL_behind, putL_fll l k x (by simpa using h)]
    rfl
def zL : LnA := ⟨none, 0, 0, [], false⟩
theorem zeros_fll : ∀ m, zeros zL.l m = fll (List.replicate m zL)
  | 0 => rfl
  | m + 1 => by rw [zeros, zeros_fll m, List.replicate_succ]; rfl
theorem set_fll {ys : List LnA} {m i : Nat} (h : ys.length = i) (hi : i < m) (y : LnA) : putL (fll (ys ++ List.replicate (m - i) zL)) (i * 2) y.l = fll ((ys ++ [y]) ++ List.replicate (m - (i + 1)) zL) := by
  rw [putL_fll _ _ _ (by rw [List.length_append, List.length_replicate]; omega)]
  have := set_end ys (m - i) zL y (by omega)
  rw [h] at this
  rw [this, show m - i - 1 = m - (i + 1) by omega]
theorem length_fll (xs : List LnA) : (fll xs).length = xs.length * 2 := length_flat LnA.l_length xs
/-- a call that leaves memory as it is, and answers one of a family -/
theorem bel_x {P : Program} {w0 w : World} {K : List Ent} {ι : Type} {g : FuncId} {vs : Array Value} {V : ι → Value} {R : ι → Prop} (k : KOk w0 K w) (hc : Calls P g vs w (fun e w' => ∃ i, e = .returned (V i) ∧ R i ∧ Below w.heap.size w w')) :
    Calls P g vs w (fun e w' => ∃ i, e = .returned (V i) ∧ R i ∧ KOk w0 K w') := Calls.mono hc fun e w' ⟨i, h1, h2, h3⟩ => ⟨i, h1, h2, k.below h3⟩
theorem pos_neq {a b : Nat} (h : decide (0 < a) = decide (0 < b)) : (decide ((0 : Int) < (a : Int)) != decide ((0 : Int) < (b : Int))) = false := by
  have e : ∀ k : Nat, decide ((0 : Int) < (k : Int)) = decide (0 < k) := fun k => by rw [decide_eq_decide]; omega
  rw [e, e, h]
  simp
end Go.Proofs.YtdmpodpdpncobaaDoor
