/-
  Logical lines in memory. No condition.
-/
import Derived.Test.YtdmpodpdpncobaaDoorUa
import Derived.Test.YtdmpodpdpncobaaDoorSto
namespace Go.Proofs.YtdmpodpdpncobaaDoor
open Go.RowKit
set_option linter.unusedSimpArgs false
set_option linter.unusedVariables false
/-! ### Logical lines in memory -/
structure LgA where
  A : Option Addr
  n : Nat
  c : Nat
  cells : List Cl
  frm : Int
  rows : Int
def LgA.l (x : LgA) : List Value := [.slice x.A x.n x.c, .int .i64 x.frm, .int .i64 x.rows]
def LgA.lg (x : LgA) : Lg := ⟨x.cells, x.frm, x.rows⟩
theorem LgA.l_length (x : LgA) : x.l.length = 3 := rfl
def flg (xs : List LgA) : List Value := xs.flatMap LgA.l
theorem flg_snoc (xs : List LgA) (x : LgA) : flg (xs ++ [x]) = flg xs ++ x.l := flat_snoc _ xs x
def GsA (σ : Nat → Option Obj) (A : Option Addr) (n c : Nat) (ls : List LgA) : Prop := SlR 3 (fun x cs => cs = x.l) σ A n c ls ∧ ∀ l ∈ ls, CsR σ l.A l.n l.c l.cells
def GsR (σ : Nat → Option Obj) (A : Option Addr) (n c : Nat) (xs : List Lg) : Prop := ∃ ls : List LgA, GsA σ A n c ls ∧ ls.map LgA.lg = xs
theorem GsA.mono {σ τ : Nat → Option Obj} {A : Option Addr} {n c : Nat} {xs : List LgA} (h : GsA σ A n c xs) (hs : ∀ b o, σ b = some o → τ b = some o) : GsA τ A n c xs := ⟨SlR.mono h.1 hs, fun l hl => (h.2 l hl).mono hs⟩
/-- their cells, in blocks of the call's own, apart from each other -/
def OG (T : TypeId) (σ : Nat → Option Obj) (ls : List LgA) : Prop :=
  (∀ l ∈ ls, ∃ b, l.A = some ⟨b, 0, none⟩ ∧ l.cells.length = l.n ∧ l.n ≤ l.c ∧ l.c ≤ 9223372036854775807 ∧ OwR T σ b l.cells) ∧ (ls.map LgA.A).Nodup
theorem OG.nil {T : TypeId} {σ : Nat → Option Obj} : OG T σ [] := ⟨fun l hl => (by cases hl), by simp⟩
theorem OG.csr {T : TypeId} {σ : Nat → Option Obj} {ls : List LgA} (h : OG T σ ls) : ∀ l ∈ ls, CsR σ l.A l.n l.c l.cells := fun l hl => by
  obtain ⟨b, h1, h3, h4, h5, h6⟩ := h.1 l hl
  rw [h1]
  exact h6.csr h3 h4 h5
theorem OG.mono {T : TypeId} {σ τ : Nat → Option Obj} {ls : List LgA} (h : OG T σ ls) (hs : ∀ b o, σ b = some o → τ b = some o) : OG T τ ls :=
  ⟨fun l hl => by obtain ⟨b, h1, h3, h4, h5, h6⟩ := h.1 l hl; exact ⟨b, h1, h3, h4, h5, h6.mono hs⟩, h.2⟩
theorem OG.snoc {T : TypeId} {τ ρ : Nat → Option Obj} {b : Nat} {ls : List LgA} {l : LgA} (h : OG T τ ls) (hs : ∀ b o, τ b = some o → ρ b = some o) (hA : l.A = some ⟨b, 0, none⟩) (hl : l.cells.length = l.n) (hc : l.n ≤ l.c) (hc2 : l.c ≤ 9223372036854775807) (ho : OwR T ρ b l.cells) (hb : τ b = none) : OG T ρ (ls ++ [l]) := by
  refine ⟨fun l' hl' => ?_, ?_⟩
  · rcases List.mem_append.1 hl' with hl' | hl'
    · exact (h.mono hs).1 l' hl'
    · obtain rfl := List.mem_singleton.1 hl'
      exact ⟨b, hA, hl, hc, hc2, ho⟩
  · rw [List.map_append, List.nodup_append]
    refine ⟨h.2, by simp, fun x hx y hy e => ?_⟩
    obtain ⟨l', hl', rfl⟩ := List.mem_map.1 hx
    simp only [List.map_cons, List.map_nil, List.mem_singleton] at hy
    obtain ⟨b', h1, _, _, _, cs, h2, _⟩ := h.1 l' hl'
    rw [← e, h1] at hy
    rw [hA] at hy
    cases hy
    rw [hb] at h2
    cases h2
theorem OG.setRow {T : TypeId} {σ : Nat → Option Obj} {ls : List LgA} (h : OG T σ ls) {r b : Nat} {l : LgA} {cs : List Value} {cells : List Cl} (hl : ls[r]? = some l) (hA : l.A = some ⟨b, 0, none⟩) (hcs : cs.take (fl cells).length = fl cells) (hm : cells.length = l.n) :
    OG T (upd (del σ b) b (.cells cs.toArray T (0, 0))) (ls.set r { l with cells := cells }) := by
  have hr := (List.getElem?_eq_some_iff.1 hl).1
  have hmap : (ls.set r { l with cells := cells }).map LgA.A = ls.map LgA.A := by
    rw [List.map_set]
    apply List.ext_getElem?
    intro j
    rw [List.getElem?_set]
    split
    · rename_i e
      subst e
      rw [if_pos (by simpa using hr), List.getElem?_map, hl]
      rfl
    · rfl
  refine ⟨fun l' hl' => ?_, by rw [hmap]; exact h.2⟩
  obtain ⟨j, hj, e⟩ := List.getElem_of_mem hl'
  have hj2 : (ls.set r { l with cells := cells })[j]? = some l' := by rw [List.getElem?_eq_getElem hj, e]
  rw [List.getElem?_set] at hj2
  split at hj2
  · cases hj2
    obtain ⟨b2, g1, g3, g4, g5, _⟩ := h.1 l (List.mem_of_getElem? hl)
    rw [hA] at g1
    cases g1
    exact ⟨b, hA, hm, g4, g5, _, upd_self _ _ _, hcs⟩
  · rename_i hne
    obtain ⟨b2, g1, g3, g4, g5, g6⟩ := h.1 l' (List.mem_of_getElem? hj2)
    refine ⟨b2, g1, g3, g4, g5, g6.keep fun e3 => hne ?_⟩
    have h1 : (ls.map LgA.A)[r]? = (ls.map LgA.A)[j]? := by rw [List.getElem?_map, List.getElem?_map, hl, hj2, Option.map_some, Option.map_some, hA, g1, e3]
    exact (List.getElem?_inj (by simpa using hr) h.2).1 h1
def GsW (T : TypeId) (σ : Nat → Option Obj) (A : Option Addr) (n c : Nat) (ls : List LgA) : Prop := SlR 3 (fun x cs => cs = x.l) σ A n c ls ∧ OG T σ ls ∧ ∀ l ∈ ls, ∀ b o b', l.A = some ⟨b, 0, none⟩ → A = some ⟨b', o, none⟩ → b ≠ b'
theorem GsW.gsA {T : TypeId} {σ : Nat → Option Obj} {n c : Nat} {A : Option Addr} {ls : List LgA} (h : GsW T σ A n c ls) : GsA σ A n c ls := ⟨h.1, h.2.1.csr⟩
theorem GsW.nil {T : TypeId} {σ : Nat → Option Obj} : GsW T σ none 0 0 [] := ⟨SlR.nil, OG.nil, fun l hl => by cases hl⟩
theorem GsW.of_rows {T : TypeId} {τ ρ : Nat → Option Obj} {n c b : Nat} {A : Option Addr} {ls : List LgA} (h : OG T τ ls) (hs : ∀ b o, τ b = some o → ρ b = some o) (hA : A = some ⟨b, 0, none⟩) (hb : τ b = none) (hr : SlR 3 (fun x cs => cs = x.l) ρ A n c ls) : GsW T ρ A n c ls :=
  ⟨hr, h.mono hs, fun l hl b1 o b2 h1 h2 e => by
    obtain ⟨b3, h3, _, _, _, cs, h4, _⟩ := h.1 l hl
    rw [h1] at h3
    rw [hA] at h2
    cases h2
    cases h3
    rw [e, hb] at h4
    cases h4⟩
theorem GsW.setRow {T : TypeId} {σ : Nat → Option Obj} {n c : Nat} {A : Option Addr} {ls : List LgA} (h : GsW T σ A n c ls) {r b : Nat} {l : LgA} {cs : List Value} {cells : List Cl} (hl : ls[r]? = some l) (hA : l.A = some ⟨b, 0, none⟩) (hcs : cs.take (fl cells).length = fl cells) (hm : cells.length = l.n) :
    GsW T (upd (del σ b) b (.cells cs.toArray T (0, 0))) A n c (ls.set r { l with cells := cells }) := by
  refine ⟨?_, h.2.1.setRow hl hA hcs hm, fun l' hl' b1 o b2 h1 h2 => ?_⟩
  · have h1 := SlR.upd (b := b) (ob := Obj.cells cs.toArray T (0, 0)) h.1 fun b' o hb' => h.2.2 l (List.mem_of_getElem? hl) b o b' hA hb'
    refine ⟨by rw [List.length_set]; exact h1.1, h1.2.1, h1.2.2.1, h1.2.2.2.1, fun hn => ?_⟩
    obtain ⟨b', o, hb', hc⟩ := h1.2.2.2.2 hn
    refine ⟨b', o, hb', fun i y hy => ?_⟩
    rw [List.getElem?_set] at hy
    split at hy
    · rename_i e
      subst e
      split at hy
      · cases hy
        exact hc _ l hl
      · cases hy
    · exact hc i y hy
  · obtain ⟨j, hj, e⟩ := List.getElem_of_mem hl'
    have hj2 : (ls.set r { l with cells := cells })[j]? = some l' := by rw [List.getElem?_eq_getElem hj, e]
    rw [List.getElem?_set] at hj2
    split at hj2
    · rw [if_pos (List.getElem?_eq_some_iff.1 hl).1] at hj2
      cases hj2
      exact h.2.2 l (List.mem_of_getElem? hl) b1 o b2 h1 h2
    · exact h.2.2 l' (List.mem_of_getElem? hj2) b1 o b2 h1 h2
theorem own2d {w0 w : World} {K : List Ent} {σ τ : Nat → Option Obj} (k : KOk w0 (.own σ :: .own τ :: K) w) : ∃ ρ, ((∀ b o, σ b = some o → ρ b = some o) ∧ (∀ b o, τ b = some o → ρ b = some o) ∧ ∀ b o, σ b = some o → τ b = none) ∧ KOk w0 (.own ρ :: K) w := by
  obtain ⟨ρ, h1, k2⟩ := k.own2
  refine ⟨ρ, ⟨h1.1, h1.2, fun b o h => ?_⟩, k2⟩
  cases ht : τ b with
  | none => rfl
  | some q => exact absurd (show τ b ≠ none by rw [ht]; simp) (k.all.2.1 (.own τ) (by simp) rfl b (show σ b ≠ none by rw [h]; simp))
theorem subA_zero (b c z : Nat) : subA (some ⟨b, 0, none⟩) c 0 z = some ⟨b, 0, none⟩ := by
  unfold subA
  split
  · rfl
  · simp [add_plain]
theorem subA_at (b c d z : Nat) (hd : d ≤ c) : ∃ o, subA (some ⟨b, 0, none⟩) c d z = some ⟨b, o, none⟩ ∧ (d < c → o = d * z) ∧ o ≤ d * z := by
  unfold subA
  split
  · exact ⟨0, rfl, fun h => by omega, Nat.zero_le _⟩
  · exact ⟨d * z, by simp [add_plain], fun _ => rfl, Nat.le_refl _⟩
/-- cells are copied to others -/
def cpy (ys : List Cl) (d : Nat) (kp : List Cl) : List Cl := ys.take d ++ kp ++ ys.drop (d + kp.length)
theorem fl_take (ys : List Cl) (d : Nat) : (fl ys).take (d * 16) = fl (ys.take d) := by
  by_cases h : d ≤ ys.length
  · have e : fl ys = fl (ys.take d) ++ fl (ys.drop d) := by rw [← fl_append, List.take_append_drop]
    rw [e, List.take_left' (by rw [length_fl, List.length_take, Nat.min_eq_left h])]
  · rw [List.take_of_length_le (by rw [length_fl]; omega), List.take_of_length_le (by omega)]
theorem fl_drop (ys : List Cl) (d : Nat) : (fl ys).drop (d * 16) = fl (ys.drop d) := by
  by_cases h : d ≤ ys.length
  · have e : fl ys = fl (ys.take d) ++ fl (ys.drop d) := by rw [← fl_append, List.take_append_drop]
    rw [e, List.drop_left' (by rw [length_fl, List.length_take, Nat.min_eq_left h])]
  · rw [List.drop_of_length_le (by rw [length_fl]; omega), List.drop_of_length_le (by omega)]; rfl
theorem putL_copy {ys kp : List Cl} {d o : Nat} (hd : d ≤ ys.length) (ho : 0 < kp.length → o = d * 16) : putL (fl ys) o (fl kp) = fl (cpy ys d kp) := by
  by_cases h : 0 < kp.length
  · rw [ho h, putL, length_fl, ← Nat.add_mul, fl_take, fl_drop, cpy, fl_append, fl_append]
  · obtain rfl : kp = [] := List.length_eq_zero_iff.1 (by omega)
    have e0 : fl [] = [] := rfl
    rw [e0, cpy, putL, List.length_nil, List.length_nil, Nat.add_zero, Nat.add_zero, List.append_nil, List.append_nil, List.take_append_drop, List.take_append_drop]
theorem cpy_length {ys kp : List Cl} {d : Nat} (h : d + kp.length ≤ ys.length) : (cpy ys d kp).length = ys.length := by simp [cpy]; omega
theorem cpy_take {ys kp done : List Cl} (h : ys.take done.length = done) (hl : done.length ≤ ys.length) : (cpy ys done.length kp).take (done ++ kp).length = done ++ kp := by
  rw [cpy, h, List.take_left]
theorem kept1_take (x : List Cl) (l : List (List Cl)) : ∃ k, k ≤ x.length ∧ x.length ≤ k + 1 ∧ kept1 x l = x.take k ∧ (l = [] → k = x.length) ∧ ∀ y t, l = y :: t → k = keptN x y := by
  cases l with
  | nil => exact ⟨x.length, Nat.le_refl _, by omega, by rw [List.take_length]; rfl, fun _ => rfl, fun y t h => by cases h⟩
  | cons y l =>
    refine ⟨keptN x y, keptN_le x y, ?_, rfl, fun h => (by cases h), fun y' t h => (by cases h; rfl)⟩
    unfold keptN
    split
    · split <;> omega
    · omega
theorem drop_get {α : Type} {X : List α} {i : Nat} {x : α} (h : X[i]? = some x) : X.drop i = x :: X.drop (i + 1) := by
  obtain ⟨hi, e⟩ := List.getElem?_eq_some_iff.1 h
  rw [List.drop_eq_getElem_cons hi, e]
theorem LsA.slice {σ : Nat → Option Obj} {A : Option Addr} {n c lo hi : Nat} {ls : List LnA} (h : LsA σ A n c ls) (h1 : lo ≤ hi) (h2 : hi ≤ n) : LsA σ (subA A c lo 2) (hi - lo) (c - lo) ((ls.take hi).drop lo) :=
  ⟨SlR.slice h.1 h1 h2, fun l hl => h.2 l (List.mem_of_mem_take (List.mem_of_mem_drop hl))⟩
theorem LsA.len {σ : Nat → Option Obj} {A : Option Addr} {n c : Nat} {ls : List LnA} (h : LsA σ A n c ls) (hv : vLs (ls.map LnA.ln) = true) : ∀ x ∈ ls.map LnA.cells, x.length ≤ 1000 := fun x hx => by
  obtain ⟨l, hl, rfl⟩ := List.mem_map.1 hx
  rw [vLs, Bool.and_eq_true, List.all_eq_true] at hv
  have h1 := hv.2 l.ln (List.mem_map_of_mem hl)
  rw [vLine, Bool.and_eq_true] at h1
  have h2 := of_decide_eq_true h1.1
  simp only [LnA.ln] at h2
  omega
theorem lgG_bd : ∀ (l cur : List Ln) (f : Nat), (∀ x ∈ cur ++ l, x.cells.length ≤ 1000) → ∀ y ∈ lgG cur f l, y.cells.length ≤ (cur.length + l.length) * 1000 ∧ ((f : Int) ≤ y.frm ∧ y.frm + y.rows ≤ (f + cur.length + l.length : Nat)) ∧ 1 ≤ y.rows
  | [], cur, f, h, y, hy => by simp [lgG] at hy
  | x :: l, cur, f, h, y, hy => by
    rw [lgG] at hy
    split at hy
    · have := lgG_bd l (cur ++ [x]) f (by simpa using h) y hy
      simp only [List.length_append, List.length_cons, List.length_nil] at this ⊢
      rw [show cur.length + (l.length + 1) = cur.length + (0 + 1) + l.length by omega]
      refine ⟨this.1, ⟨this.2.1.1, ?_⟩, this.2.2⟩
      have := this.2.1.2
      omega
    · rcases List.mem_cons.1 hy with rfl | hy
      · obtain ⟨k, hk, e⟩ := trimV_pre _ (allV ((cur ++ [x]).map Ln.cells)) rfl
        have h1 := allV_len ((cur ++ [x]).map Ln.cells)
        have h2 := sumL_le (l := (cur ++ [x]).map Ln.cells) (fun z hz => by
          obtain ⟨w, hw, rfl⟩ := List.mem_map.1 hz
          exact h w (by rcases List.mem_append.1 hw with hw | hw <;> simp_all))
        have h3 : (trimV (allV ((cur ++ [x]).map Ln.cells))).length ≤ (allV ((cur ++ [x]).map Ln.cells)).length := by rw [e, List.length_take]; exact Nat.min_le_right _ _
        simp only [List.length_map, List.length_append, List.length_cons, List.length_nil] at h2 ⊢
        refine ⟨?_, ⟨?_, ?_⟩, ?_⟩
        · omega
        · omega
        · omega
        · omega
      · have := lgG_bd l [] (f + cur.length + 1) (fun z hz => h z (by simp at hz; simp [hz])) y hy
        simp only [List.length_nil, List.length_cons] at this ⊢
        refine ⟨by omega, ⟨by omega, by omega⟩, this.2.2⟩
theorem linesV_bd {X : List Ln} (h : ∀ x ∈ X, x.cells.length ≤ 1000) : ∀ y ∈ lgG [] 0 X, y.cells.length ≤ X.length * 1000 ∧ (0 ≤ y.frm ∧ y.frm + y.rows ≤ X.length) ∧ 1 ≤ y.rows := fun y hy => by
  have := lgG_bd X [] 0 (by simpa using h) y hy
  simp only [List.length_nil, Nat.zero_add] at this
  exact ⟨this.1, ⟨by omega, by omega⟩, this.2.2⟩
theorem cur_snoc {X : List Ln} {f i : Nat} {x : Ln} (hx : X[i]? = some x) (hf : f ≤ i) : (X.take (i + 1)).drop f = (X.take i).drop f ++ [x] := by
  have hi := (List.getElem?_eq_some_iff.1 hx).1
  rw [take_snoc hx, List.drop_append_of_le_length (by rw [List.length_take]; omega)]
theorem cur_nil (X : List Ln) (i : Nat) : (X.take i).drop i = [] := by
  rw [List.drop_eq_nil_iff, List.length_take]; omega
/-- a block may be appended to -/
theorem Kle.blkRow {w0 : World} {K : List Ent} {b m z : Nat} {cs : List Value} {e : TypeId} (hm : cs.length = m * z) (h63 : m ≤ 9223372036854775807) : Kle w0 (.blk b cs e :: K) (.row e z (some ⟨b, 0, none⟩) m m cs :: K) := fun w k => by
  obtain ⟨h1, h2, h3⟩ := k.all
  refine ⟨k.bel, ⟨hm, .inr ⟨b, m, cs.toArray, rfl, h1.1, h1.2, Nat.le_refl _, by simpa [maxLen] using h63, by simpa using hm, by simp [← hm]⟩⟩, fun e' he' _ x hx => ?_, h3⟩
  cases hx
  exact h2 e' he' rfl b rfl
def strL (ss : List ByteArray) : List Value := ss.flatMap fun s => [.string s]
def SsR (σ : Nat → Option Obj) (A : Option Addr) (n c : Nat) (xs : List ByteArray) : Prop := SlR 1 (fun x cs => cs = [Value.string x]) σ A n c xs
theorem lgG_count : ∀ (l cur : List Ln) (f : Nat), (lgG cur f l).length ≤ l.length
  | [], _, _ => Nat.le_refl _
  | x :: l, cur, f => by
    rw [lgG]
    split
    · have := lgG_count l (cur ++ [x]) f
      simp only [List.length_cons]; omega
    · have := lgG_count l [] (f + cur.length + 1)
      simp only [List.length_cons]; omega
theorem SsR.of_blk {w : World} {b n : Nat} {ss : List ByteArray} {T : TypeId} {f : Nat × Nat} (hb : w.heap[b]? = some (.cells (strL ss).toArray T f)) (hn : ss.length = n) (hn63 : n ≤ 9223372036854775807 := by decide) : SsR (fun b => w.heap[b]?) (some ⟨b, 0, none⟩) n n ss :=
  SlR.of_row (f := fun s => [Value.string s]) (fun _ => rfl) ⟨by rw [← hn]; exact length_flat (f := fun s => [Value.string s]) (fun _ => rfl) ss, Nat.le_refl _, hn63, fun h => (by cases h), fun _ => ⟨b, rfl, fun j v hj => ⟨_, _, _, hb, by rw [Nat.zero_add, List.getElem?_toArray]; exact hj⟩⟩⟩ hn
theorem GsA.of_blk {w : World} {b n : Nat} {ls : List LgA} {T : TypeId} {f : Nat × Nat} (hb : w.heap[b]? = some (.cells (flg ls).toArray T f)) (hn : ls.length = n) (hl : ∀ l ∈ ls, CsR (fun b => w.heap[b]?) l.A l.n l.c l.cells) (hn63 : n ≤ 9223372036854775807 := by decide) : GsA (fun b => w.heap[b]?) (some ⟨b, 0, none⟩) n n ls :=
  ⟨SlR.of_row LgA.l_length ⟨by rw [← hn]; exact length_flat LgA.l_length ls, Nat.le_refl _, hn63, fun h => (by cases h), fun _ => ⟨b, rfl, fun j v hj => ⟨_, _, _, hb, by rw [Nat.zero_add, List.getElem?_toArray]; exact hj⟩⟩⟩ hn, hl⟩
theorem LsR_nil (σ : Nat → Option Obj) : LsR σ none 0 0 [] := ⟨[], ⟨SlR.nil, fun l hl => by cases hl⟩, rfl⟩
end Go.Proofs.YtdmpodpdpncobaaDoor
