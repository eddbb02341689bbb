/-
  Plain data that came in, read to its cells, whatever its shape; a listed variable's cells; what a law's row asks behind the call. No condition; no program in sight.
-/
import Derived.WalkKit
import Derived.ProofKit
import Derived.OpenShut
import Derived.Deep.Slices
import Derived.Lib.Hide
namespace Go.Proofs.Ytaoepaonjeilgaa
open Go.ChangeShapes Go.WideShapes Go.RowKit

/-- The shape of plain data: numbers, bools, strings, what stands one behind the other, and slices of these. -/
inductive Sh where
  | int (k : IntKind) | bool | str | unit
  | pair (a b : Sh)
  | sl (s : Sh)
def Sh.size : Sh → Nat
  | .int _ | .bool | .str | .sl _ => 1
  | .unit => 0
  | .pair a b => a.size + b.size
def Rd (w : World) : Sh → List Value → Prop
  | .int k, cs => ∃ n, cs = [.int k n] ∧ (Lit.int k n).wf = true
  | .bool, cs => ∃ b, cs = [.bool b]
  | .str, cs => ∃ s : ByteArray, cs = [.string s] ∧ s.size ≤ maxLen
  | .unit, cs => cs = []
  | .pair a b, cs => ∃ x y, cs = x ++ y ∧ Rd w a x ∧ Rd w b y
  | .sl s, cs => ∃ A len cap, cs = [.slice A len cap] ∧ len ≤ cap ∧ cap ≤ maxLen ∧ (A = none → len = 0 ∧ cap = 0) ∧
      ∀ a, A = some a → ∀ i, i < len → a.block < w.heap.size ∧ ∃ es, Rd w s es ∧ ∀ j, j < s.size → w.cell? (a.add (i * s.size + j)) = es[j]?
theorem Rd.length {w : World} : ∀ {s : Sh} {cs : List Value}, Rd w s cs → cs.length = s.size
  | .int _, _, ⟨_, e, _⟩ => by rw [e]; rfl
  | .bool, _, ⟨_, e⟩ => by rw [e]; rfl
  | .str, _, ⟨_, e, _⟩ => by rw [e]; rfl
  | .unit, _, e => by rw [Rd] at e; rw [e]; rfl
  | .pair a b, _, ⟨x, y, e, hx, hy⟩ => by rw [e, List.length_append, hx.length, hy.length]; rfl
  | .sl _, _, ⟨_, _, _, e, _⟩ => by rw [e]; rfl
mutual
def shapeOk (P : Program) : Nat → TypeId → Sh → Bool
  | 0, _, _ => false
  | n + 1, t, S =>
    match P.underlying t, S with
    | some .bool, .bool => true
    | some (.int k), .int k' => k == k'
    | some .string, .str => true
    | some (.slice e), .sl s => P.cellsOf e == s.size && (decide (0 < s.size) && shapeOk P n e s)
    | some (.struct fs), S => P.cellsOf t == S.size && fieldsOk P n fs.toList 0 S
    | some (.array k e), S => P.cellsOf t == S.size && arrOk P n k e 0 S
    | _, _ => false
def fieldsOk (P : Program) : Nat → List Field → Nat → Sh → Bool
  | 0, _, _, _ => false
  | _ + 1, [], _, .unit => true
  | n + 1, f :: fs, off, .pair a b => f.offset == off && (P.cellsOf f.type == a.size && (shapeOk P n f.type a && fieldsOk P n fs (off + a.size) b))
  | _ + 1, _, _, _ => false
def arrOk (P : Program) : Nat → Nat → TypeId → Nat → Sh → Bool
  | 0, _, _, _, _ => false
  | _ + 1, 0, _, _, .unit => true
  | n + 1, k + 1, e, i, .pair a b => P.cellsOf e == a.size && (shapeOk P n e a && arrOk P n k e (i + 1) b)
  | _ + 1, _, _, _, _ => false
end
section
variable {H : Type} {enc : TypeId × Value → H} {P : Program} {w : World} {spare : Nat → Bool} {held : Bool}
theorem cell_some_lt {a : Addr} {u : Value} (h : w.cell? a = some u) : a.block < w.heap.size := by
  rcases Nat.lt_or_ge a.block w.heap.size with hlt | hge
  · exact hlt
  · simp [World.cell?, Array.getElem?_eq_none hge] at h
/-- What a reading says of the cells: those of the first n that a part of the shape covers. -/
theorem rd_of_trod : ∀ (n : Nat),
    (∀ (t : TypeId) (S : Sh) (fuel : Nat) (cs : List Value) (x : DataW H × List MemPlace), shapeOk P n t S = true → DataW.trod enc P w 0 spare held fuel t cs = some x → Rd w S cs) ∧
    (∀ (fs : List Field) (off : Nat) (S : Sh) (m : Nat) (cs : List Value), fieldsOk P n fs off S = true → cs.length = off + S.size →
      (∀ f ∈ fs, ∃ y, DataW.trod enc P w 0 spare held m f.type ((cs.drop f.offset).take (P.cellsOf f.type)) = some y) → Rd w S (cs.drop off)) ∧
    (∀ (k : Nat) (e : TypeId) (i : Nat) (S : Sh) (m : Nat) (cs : List Value), arrOk P n k e i S = true → cs.length = i * P.cellsOf e + S.size →
      (∀ j, j < i + k → ∃ y, DataW.trod enc P w 0 spare held m e ((cs.drop (j * P.cellsOf e)).take (P.cellsOf e)) = some y) → Rd w S (cs.drop (i * P.cellsOf e)))
  | 0 => ⟨fun _ _ _ _ _ h => by simp [shapeOk] at h, fun _ _ _ _ _ h => by simp [fieldsOk] at h, fun _ _ _ _ _ _ h => by simp [arrOk] at h⟩
  | n + 1 => by
    obtain ⟨ih1, ih2, ih3⟩ := rd_of_trod n
    refine ⟨?_, ?_, ?_⟩
    · intro t S fuel cs x hs h
      unfold shapeOk at hs
      split at hs
      · rename_i hu
        obtain ⟨z, e, _⟩ := DataW.trod_bool hu h
        exact ⟨z, e⟩
      · rename_i k k' hu
        simp at hs
        subst hs
        obtain ⟨z, e, _, hw⟩ := DataW.trod_int hu h
        exact ⟨z, e, hw⟩
      · rename_i hu
        obtain ⟨z, e, _, hw⟩ := DataW.trod_string hu h
        exact ⟨z, e, hw⟩
      · rename_i e s hu
        simp only [Bool.and_eq_true, beq_iff_eq, decide_eq_true_eq] at hs
        obtain ⟨hc, hpos, hs⟩ := hs
        rcases Deep.open_slice hu h with ⟨e0, _⟩ | ⟨a, len, cap, m, nn, D, Pl, e0, hb, hl, hm, hmm, _, hi⟩
        · exact ⟨none, 0, 0, e0, Nat.le_refl _, Nat.zero_le _, fun _ => ⟨rfl, rfl⟩, fun a ha => by cases ha⟩
        · refine ⟨some a, len, cap, e0, hl, hm, fun h => (by cases h), fun a' ha i hlt => ?_⟩
          obtain rfl := Option.some.inj ha
          obtain ⟨cs', hc', ht'⟩ := hi i (by rw [hmm]; split <;> omega)
          obtain ⟨_, hl', hcell⟩ := World.cells?_some hc'
          rw [hc] at hc' hl' hcell
          have hadd : ∀ j, (a.add (i * s.size)).add j = a.add (i * s.size + j) := fun j => Deep.add_add _ _ _
          have h0 := hcell 0 hpos
          have hbl : a.block < w.heap.size := by
            rw [List.getElem?_eq_getElem (by omega)] at h0
            have := cell_some_lt h0
            rw [hadd] at this
            unfold Addr.add at this
            split at this <;> exact this
          exact ⟨hbl, cs', ih1 e s nn cs' _ hs ht', fun j hj => by rw [← hadd]; exact hcell j hj⟩
      · rename_i fs hu
        simp only [Bool.and_eq_true, beq_iff_eq] at hs
        obtain ⟨xs, m, _, _, hl, hlen, hf⟩ := DataW.trod_struct hu h
        have := ih2 fs.toList 0 _ m cs hs.2 (by rw [hl, hs.1]; omega) (fun f hf' => by
          obtain ⟨i, hi, e⟩ := List.getElem_of_mem hf'
          have hi' : i < fs.size := by simpa using hi
          have h1 := hf i f (by rw [Array.getElem?_eq_getElem hi']; simpa using e)
          rw [List.getElem?_eq_getElem (by omega)] at h1
          exact ⟨_, h1⟩)
        simpa using this
      · rename_i k e hu
        simp only [Bool.and_eq_true, beq_iff_eq] at hs
        obtain ⟨xs, m, _, _, hl, hlen, hf⟩ := DataW.trod_array hu h
        have := ih3 k e 0 _ m cs hs.2 (by rw [hl, hs.1]; omega) (fun j hj => by
          have h1 := hf j (by omega)
          rw [List.getElem?_eq_getElem (by omega)] at h1
          exact ⟨_, h1⟩)
        simpa using this
      · cases hs
    · intro fs off S m cs hs hl hf
      cases fs with
      | nil =>
        cases S with
        | unit =>
          rw [Rd]
          simp [Sh.size] at hl
          simp [hl]
        | _ => simp [fieldsOk] at hs
      | cons f fs =>
        cases S with
        | pair a b =>
          simp only [fieldsOk, Bool.and_eq_true, beq_iff_eq] at hs
          obtain ⟨h1, h2, h3, h4⟩ := hs
          simp only [Sh.size] at hl
          obtain ⟨y, hy⟩ := hf f (by simp)
          refine ⟨(cs.drop off).take a.size, cs.drop (off + a.size), ?_, ?_, ?_⟩
          · rw [← List.drop_drop, List.take_append_drop]
          · have := ih1 _ _ _ _ _ h3 hy
            rwa [h1, h2] at this
          · exact ih2 fs (off + a.size) b m cs h4 (by omega) (fun f hf' => hf f (by simp [hf']))
        | _ => simp [fieldsOk] at hs
    · intro k e i S m cs hs hl hf
      cases k with
      | zero =>
        cases S with
        | unit =>
          rw [Rd]
          simp [Sh.size] at hl
          simp [hl]
        | _ => simp [arrOk] at hs
      | succ k =>
        cases S with
        | pair a b =>
          simp only [arrOk, Bool.and_eq_true, beq_iff_eq] at hs
          obtain ⟨h2, h3, h4⟩ := hs
          simp only [Sh.size] at hl
          obtain ⟨y, hy⟩ := hf i (by omega)
          refine ⟨(cs.drop (i * P.cellsOf e)).take a.size, cs.drop ((i + 1) * P.cellsOf e), ?_, ?_, ?_⟩
          · rw [Nat.succ_mul, ← List.drop_drop, h2, List.take_append_drop]
          · have := ih1 _ _ _ _ _ h3 hy
            rwa [h2] at this ⊢
          · exact ih3 k e (i + 1) b m cs h4 (by rw [Nat.succ_mul]; omega) (fun j hj => hf j (by omega))
        | _ => simp [arrOk] at hs
/-- an argument's cells -/
theorem rd_arg (n : Nat) {t : TypeId} {S : Sh} {v : Value} {d : DataW H} {p : List MemPlace} (hs : shapeOk P n t S = true) (h : DataW.Trod enc P w 0 spare held t v d p) : Rd w S v.cells.toList := by
  obtain ⟨fuel, hf⟩ := h
  exact (rd_of_trod n).1 t S fuel _ _ hs hf
/-- the cells that a plain datum is read from -/
def flatD : DataW H → Option (List Value)
  | .lit (.int k n) => some [.int k n]
  | .lit (.bool b) => some [.bool b]
  | .lit (.string l) => some [.string ⟨l.toArray⟩]
  | .agg l => go l
  | _ => none
where go : List (DataW H) → Option (List Value)
  | [] => some []
  | d :: ds => (flatD d).bind fun x => (go ds).map (x ++ ·)

/-- The cells of plain data are what the datum says. -/
theorem flat_of_trod : ∀ (n : Nat),
    (∀ (t : TypeId) (S : Sh) (fuel : Nat) (cs l : List Value) (x : DataW H × List MemPlace), shapeOk P n t S = true → DataW.trod enc P w 0 spare held fuel t cs = some x → flatD x.1 = some l → cs = l) ∧
    (∀ (fs : List Field) (off : Nat) (S : Sh) (m : Nat) (cs l : List Value) (ys : List (DataW H × List MemPlace)), fieldsOk P n fs off S = true → cs.length = off + S.size → ys.length = fs.length →
      (∀ (i : Nat) (f : Field), fs[i]? = some f → DataW.trod enc P w 0 spare held m f.type ((cs.drop f.offset).take (P.cellsOf f.type)) = ys[i]?) → flatD.go (ys.map (·.1)) = some l → cs.drop off = l) ∧
    (∀ (k : Nat) (e : TypeId) (i : Nat) (S : Sh) (m : Nat) (cs l : List Value) (ys : List (DataW H × List MemPlace)), arrOk P n k e i S = true → cs.length = i * P.cellsOf e + S.size → ys.length = k →
      (∀ j, j < k → DataW.trod enc P w 0 spare held m e ((cs.drop ((i + j) * P.cellsOf e)).take (P.cellsOf e)) = ys[j]?) → flatD.go (ys.map (·.1)) = some l → cs.drop (i * P.cellsOf e) = l)
  | 0 => ⟨fun _ _ _ _ _ _ h => by simp [shapeOk] at h, fun _ _ _ _ _ _ _ h => by simp [fieldsOk] at h, fun _ _ _ _ _ _ _ _ h => by simp [arrOk] at h⟩
  | n + 1 => by
    obtain ⟨ih1, ih2, ih3⟩ := flat_of_trod n
    refine ⟨?_, ?_, ?_⟩
    · intro t S fuel cs l x hs h hl
      unfold shapeOk at hs
      split at hs
      · rename_i hu
        obtain ⟨z, e, e2⟩ := DataW.trod_bool hu h
        rw [e2] at hl
        rw [e]
        simpa [flatD] using hl
      · rename_i k k' hu
        simp at hs
        subst hs
        obtain ⟨z, e, e2, hw⟩ := DataW.trod_int hu h
        rw [e2] at hl
        rw [e]
        simpa [flatD] using hl
      · rename_i hu
        obtain ⟨z, e, e2, _⟩ := DataW.trod_string hu h
        rw [e2] at hl
        rw [e]
        simpa [flatD] using hl
      · rename_i e s hu
        rcases Deep.open_slice hu h with ⟨e0, e1⟩ | ⟨a, len, cap, m, nn, D, Pl, e0, hb, _, hm, hmm, e1, hi⟩
        · rw [e1] at hl; simp [flatD] at hl
        · rw [e1] at hl; simp [flatD] at hl
      · rename_i fs hu
        simp only [Bool.and_eq_true, beq_iff_eq] at hs
        obtain ⟨xs, m, _, e1, hlc, hlen, hf⟩ := DataW.trod_struct hu h
        rw [e1] at hl
        have := ih2 fs.toList 0 _ m cs l xs hs.2 (by rw [hlc, hs.1]; omega) (by simpa using hlen) (fun i f hf' => hf i f (by simpa using hf')) hl
        simpa using this
      · rename_i k e hu
        simp only [Bool.and_eq_true, beq_iff_eq] at hs
        obtain ⟨xs, m, _, e1, hlc, hlen, hf⟩ := DataW.trod_array hu h
        rw [e1] at hl
        have := ih3 k e 0 _ m cs l xs hs.2 (by rw [hlc, hs.1]; omega) hlen (fun j hj => by simpa using hf j hj) hl
        simpa using this
      · cases hs
    · intro fs off S m cs l ys hs hlen hy hf hl
      cases fs with
      | nil =>
        cases S with
        | unit =>
          simp at hy
          subst hy
          simp [Sh.size] at hlen
          rw [List.drop_of_length_le (by omega)]
          simpa [flatD.go] using hl
        | _ => simp [fieldsOk] at hs
      | cons f fs =>
        cases S with
        | pair a b =>
          cases ys with
          | nil => simp at hy
          | cons y ys =>
            simp only [fieldsOk, Bool.and_eq_true, beq_iff_eq] at hs
            obtain ⟨h1, h2, h3, h4⟩ := hs
            simp only [Sh.size] at hlen
            simp only [List.map_cons, flatD.go, Option.bind_eq_some_iff, Option.map_eq_some_iff] at hl
            obtain ⟨l1, e1, l2, e2, rfl⟩ := hl
            have h0 := ih1 _ _ _ _ l1 _ h3 (hf 0 f rfl) e1
            rw [h1, h2] at h0
            have ht := ih2 fs (off + a.size) b m cs l2 ys h4 (by omega) (by simpa using hy) (fun i g hg => by simpa using hf (i + 1) g (by simpa using hg)) e2
            rw [← h0, ← ht, ← List.drop_drop, List.take_append_drop]
        | _ => simp [fieldsOk] at hs
    · intro k e i S m cs l ys hs hlen hy hf hl
      cases k with
      | zero =>
        cases S with
        | unit =>
          simp at hy
          subst hy
          simp [Sh.size] at hlen
          rw [List.drop_of_length_le (by omega)]
          simpa [flatD.go] using hl
        | _ => simp [arrOk] at hs
      | succ k =>
        cases S with
        | pair a b =>
          cases ys with
          | nil => simp at hy
          | cons y ys =>
            simp only [arrOk, Bool.and_eq_true, beq_iff_eq] at hs
            obtain ⟨h2, h3, h4⟩ := hs
            simp only [Sh.size] at hlen
            simp only [List.map_cons, flatD.go, Option.bind_eq_some_iff, Option.map_eq_some_iff] at hl
            obtain ⟨l1, e1, l2, e2, rfl⟩ := hl
            have h0 := ih1 _ _ _ _ l1 _ h3 (by simpa using hf 0 (by omega)) e1
            have ht := ih3 k e (i + 1) b m cs l2 ys h4 (by rw [Nat.succ_mul]; omega) (by simpa using hy) (fun j hj => by
              have := hf (j + 1) (by omega)
              rw [show i + (j + 1) = i + 1 + j by omega] at this
              simpa using this) e2
            rw [← h0, ← ht, Nat.succ_mul, ← List.drop_drop, List.take_append_drop]
        | _ => simp [arrOk] at hs

/-- A listed variable's cells are those of its datum. -/
theorem laid_cell {l : List (String × DataW Unit)} {ps : List MemPlace} (h : DataW.LaidVars P w l ps) {name : String} {D : DataW Unit} {cs : List Value} {g t : Nat} {S : Sh} (n : Nat) (hm : (name, D) ∈ l)
    (hg : P.globalNamed name = some g) (ht : (P.globals[g]?).map (·.type) = some t) (hs : shapeOk P n t S = true) (hf : flatD D = some cs) : g < w.heap.size ∧ ∀ i, w.cell? ⟨g, i, none⟩ = cs[i]? := by
  induction l generalizing ps with
  | nil => simp at hm
  | cons a l ih =>
    obtain ⟨n', D'⟩ := a
    obtain ⟨g', t', cs', fuel, p, q, h1, h2, h3, h4, h5, _⟩ := h
    rcases List.mem_cons.1 hm with e | e
    · simp only [Prod.mk.injEq] at e
      obtain ⟨rfl, rfl⟩ := e
      obtain rfl := Option.some.inj (hg.symm.trans h1)
      obtain rfl := Option.some.inj (ht.symm.trans h2)
      have := (flat_of_trod n).1 _ _ _ _ _ _ hs h4 hf
      refine ⟨?_, fun i => ?_⟩
      · simp only [World.var?, hg, Option.bind_some] at h3
        rcases Nat.lt_or_ge g w.heap.size with hlt | hge
        · exact hlt
        · simp [Array.getElem?_eq_none hge] at h3
      · rw [World.var?_cell h1 h3 i, ← this]
        simp
    · exact ih h5 e
theorem trodAll_len {b : Nat} : ∀ {ts : List TypeId} {vs : List Value} {ds : List (DataW H)} {ps : List MemPlace}, DataW.TrodAll enc P w b spare held ts vs ds ps → ds.length = ts.length := by
  intro ts
  induction ts with
  | nil =>
    intro vs ds ps h
    obtain ⟨rfl, rfl, rfl⟩ := trodAll_nil h
    rfl
  | cons t ts ih =>
    intro vs ds ps h
    obtain ⟨v, vs', d, ds', p, q, rfl, rfl, rfl, h0, hs⟩ := trodAll_cons h
    simp [ih hs]
/-- Arguments read as before, where nothing has turned below the old heap's size. -/
theorem trodAll_below (hl : laidOutB P = true) {W W' : World} (hb : Below W.heap.size W W') : ∀ {ts : List TypeId} {vs : List Value} {ds : List (DataW H)} {ps : List MemPlace},
    (ts.all fun t => P.readableRec t && decide (t < P.types.size)) = true → (∀ x ∈ ps, x.block < W.heap.size) → DataW.TrodAll enc P W 0 (fun _ => true) true ts vs ds ps →
    DataW.TrodAll enc P W' 0 (fun b => decide (b < W.heap.size)) true ts vs ds ps := by
  intro ts
  induction ts with
  | nil =>
    intro vs ds ps _ _ h
    obtain ⟨rfl, rfl, rfl⟩ := trodAll_nil h
    rfl
  | cons t ts ih =>
    intro vs ds ps hr hlt h
    obtain ⟨v, vs', d, ds', p, q, rfl, rfl, rfl, h0, hs⟩ := trodAll_cons h
    simp only [List.all_cons, Bool.and_eq_true, decide_eq_true_eq] at hr
    exact ⟨p, q, Below.trod hl hr.1.1 hr.1.2 h0 hb (fun x hx => hlt x (by simp [hx])), ih (by simpa using hr.2) (fun x hx => hlt x (by simp [hx])) hs, rfl⟩
/-- What a law's row asks behind the call. -/
theorem post_law (hl : laidOutB P = true) {f : Func} {s : ChangeSpec} {apart : Bool} {W W' : World} {args : Array Value} {ds gs : List (DataW H)} {before : List MemPlace} {tb : TypeId}
    (hres : f.resultTypes = #[tb]) (htb : P.underlying tb = some .bool) (hvars : s.vars = []) (hr : (f.params.toList.all fun t => P.readableRec t && decide (t < P.types.size)) = true)
    (hW : DataW.Whole enc P f.params.toList s.vars apart W args.toList ds gs before)
    (hfn : ds.length = f.params.toList.length → s.fn H (ds ++ []) = { results := [.lit (.bool true)], args := ds })
    (hb : Below W.heap.size W W') : s.post enc P f apart true false false W args (.bool true) W' := by
  have hW' := hW
  obtain ⟨p, q, hA, hV, rfl, hfz, hnd⟩ := hW
  rw [hvars] at hV
  obtain ⟨rfl, rfl⟩ := trodVars_none hV
  have hlt := hW'.lt
  have hfn' := hfn (trodAll_len hA)
  refine ⟨ds, [], _, [], p, [], hW', ?_, ?_, ?_, hb.frame _, fun h => by cases h⟩
  · rw [hfn', hres]
    exact trodAll_mk1 (shut_bool htb true)
  · rw [hfn']
    exact trodAll_below hl hb hr (fun x hx => hlt x (by simp [hx])) hA
  · rw [hfn', hvars]
    rfl

theorem addr_plain {a : Addr} {v : Value} (h : w.cell? (a.add 0) = some v) : ∃ b off, a = ⟨b, off, none⟩ := by
  obtain ⟨b, off, spot⟩ := a
  have hspot : spot = none := by simpa [Addr.add] using World.cell?_spot h
  subst hspot
  exact ⟨b, off, rfl⟩
/-- a slice that came in: where it lies, and its elements' cells -/
theorem rd_sl {s : Sh} {A : Option Addr} {n c : Nat} (h : Rd w (.sl s) [.slice A n c]) (hs : 0 < s.size) :
    (A = none → n = 0 ∧ c = 0) ∧ n ≤ c ∧ c ≤ maxLen ∧ (0 < n → ∃ b off, A = some ⟨b, off, none⟩ ∧ b < w.heap.size ∧ ∀ i, i < n → ∃ es, Rd w s es ∧ ∀ j, j < s.size → w.cell? ⟨b, off + (i * s.size + j), none⟩ = es[j]?) := by
  obtain ⟨A', n', c', e, h1, h2, h3, h4⟩ := h
  simp at e
  obtain ⟨rfl, rfl, rfl⟩ := e
  refine ⟨h3, h1, h2, fun hn => ?_⟩
  cases A with
  | none => have := (h3 rfl).1; omega
  | some a =>
    obtain ⟨hb, es, hr, hc⟩ := h4 a rfl 0 hn
    have h0 := hc 0 hs
    rw [List.getElem?_eq_getElem (by rw [hr.length]; exact hs), Nat.zero_mul] at h0
    obtain ⟨b, off, rfl⟩ := addr_plain h0
    refine ⟨b, off, rfl, hb, fun i hi => ?_⟩
    obtain ⟨_, es', hr', hc'⟩ := h4 _ rfl i hi
    refine ⟨es', hr', fun j hj => ?_⟩
    rw [← hc' j hj]
    unfold Addr.add
    split <;> simp_all
end
end Go.Proofs.Ytaoepaonjeilgaa
