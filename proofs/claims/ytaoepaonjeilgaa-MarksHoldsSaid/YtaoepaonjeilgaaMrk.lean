/-
  Marks and commands, as plain data. No condition.
-/
import Derived.WalkKit
namespace Go.Proofs.Ytaoepaonjeilgaa
open Go.RowKit
set_option linter.unusedSimpArgs false
set_option linter.unusedVariables false
/-! ### Marks and commands -/
structure Mk where
  (ln kd st : Int)
  deriving DecidableEq
def Mk.l (x : Mk) : List Value := [.int .i64 x.ln, .int .i64 x.kd, .int .i64 x.st]
def Mk.zero : Mk := ⟨0, 0, 0⟩
theorem Mk.l_length (x : Mk) : x.l.length = 3 := rfl
structure Cm where
  (p c o e : Int)
  (hp hc ho he : Bool)
  (st : Int)
  deriving DecidableEq
def Cm.l (x : Cm) : List Value := [.int .i64 x.p, .int .i64 x.c, .int .i64 x.o, .int .i64 x.e, .bool x.hp, .bool x.hc, .bool x.ho, .bool x.he, .int .i64 x.st]
def Cm.zero : Cm := ⟨0, 0, 0, 0, false, false, false, false, 0⟩
theorem Cm.l_length (x : Cm) : x.l.length = 9 := rfl
def kindB (k : Int) : Bool := decide (1 ≤ k) && decide (k ≤ 4)
def okM (x : Mk) : Bool := decide ((0 ≤ x.ln ∧ x.ln ≤ 1099511627776) ∧ (1 ≤ x.kd ∧ x.kd ≤ 4) ∧ (0 ≤ x.st ∧ x.st ≤ 255) ∧ (x.st = 0 ∨ x.kd = 4))
def lastM (xs : List Mk) : Option Mk := xs[xs.length - 1]?
def beforeB (xs : List Mk) (x : Mk) : Bool := match lastM xs with
  | some y => decide (x.ln < y.ln)
  | none => false
def putE (xs : List Mk) (x : Mk) : Int := if okM x then (if beforeB xs x then 13 else if 1000 ≤ xs.length then 7 else 0) else 2
def putX (xs : List Mk) (x : Mk) : List Mk := if putE xs x = 0 then xs ++ [x] else xs
/-- how many marks come before a line -/
def evN (line : Int) : List Mk → Nat
  | [] => 0
  | x :: t => if x.ln < line then evN line t + 1 else 0
def evE (line : Int) : Int := if 0 ≤ line ∧ line ≤ 1099511627776 then 0 else 2
def evR (line : Int) (xs : List Mk) : Int := if evE line = 0 then (evN line xs : Int) else 0
def evX (line : Int) (xs : List Mk) : List Mk := if evE line = 0 then xs.drop (evN line xs) else xs
theorem evN_le (line : Int) : ∀ xs : List Mk, evN line xs ≤ xs.length
  | [] => Nat.le_refl _
  | x :: t => by
    have := evN_le line t
    rw [evN]
    split <;> simp <;> omega
def hasK (ks : List Int) (k : Int) : Bool := ks.any fun q => k == q
def chkE (ks : List Int) : Int := if ks.length = 0 ∨ ks.any (fun k => !kindB k) = true then 2 else 0
def nextP (line : Int) (ks : List Int) (x : Mk) : Bool := decide (line < x.ln) && hasK ks x.kd
def prevP (line : Int) (ks : List Int) (x : Mk) : Bool := decide (x.ln < line) && hasK ks x.kd
def fndV (o : Option Mk) (ks : List Int) : Mk := if chkE ks = 0 then o.getD Mk.zero else Mk.zero
def fndE (o : Option Mk) (ks : List Int) : Int := if chkE ks = 0 then (match o with | some _ => 0 | none => 9) else 2
def nextO (line : Int) (ks : List Int) (xs : List Mk) : Option Mk := xs.find? (nextP line ks)
def prevO (line : Int) (ks : List Int) (xs : List Mk) : Option Mk := xs.reverse.find? (prevP line ks)
/-! ### Commands -/
def setC (x : Mk) (c : Cm) : Cm :=
  if x.kd = 1 then { c with p := x.ln, hp := true } else if x.kd = 2 then { c with c := x.ln, hc := true } else if x.kd = 3 then { c with o := x.ln, ho := true }
  else if x.kd = 4 then { c with e := x.ln, he := true, st := x.st } else c
/-- commands but for the last one, the last one, and the lines -/
def newB (out : List Cm) (last : Int) (x : Mk) : Bool := (out.length : Int) == 0 || decide (x.kd ≤ last)
def grO (out : List Cm) (last : Int) (x : Mk) : List Cm := if newB out last x then out else out.dropLast
def grZ (out : List Cm) (last : Int) (x : Mk) : Cm := if newB out last x then Cm.zero else out.getLast?.getD Cm.zero
def grL (out : List Cm) (last : Int) (x : Mk) (li : List Int) : List Int := if newB out last x then li ++ [x.ln] else li
structure Gr where
  (out : List Cm)
  (li : List Int)
  (last : Int)
def grS (g : Gr) (x : Mk) : Gr := ⟨grO g.out g.last x ++ [setC x (grZ g.out g.last x)], grL g.out g.last x g.li, x.kd⟩
def grF (xs : List Mk) : Gr := xs.foldl grS ⟨[], [], 0⟩
def cmdsV (xs : List Mk) : List Cm := (grF xs).out
def linesV (xs : List Mk) : List Int := (grF xs).li
theorem grF_snoc (xs : List Mk) (x : Mk) : grF (xs ++ [x]) = grS (grF xs) x := by simp [grF]
theorem take_snoc {α : Type} {l : List α} {i : Nat} {x : α} (h : l[i]? = some x) : l.take (i + 1) = l.take i ++ [x] := by
  rw [List.take_add_one, h]
  rfl
theorem drop_get {α : Type} {l : List α} {i : Nat} {x : α} (h : l[i]? = some x) : l.drop i = x :: l.drop (i + 1) := by
  obtain ⟨h1, h2⟩ := List.getElem?_eq_some_iff.1 h
  rw [← h2]
  exact List.drop_eq_getElem_cons h1
theorem snoc_ind {α : Type} {motive : List α → Prop} (nil : motive []) (append_singleton : ∀ l a, motive l → motive (l ++ [a])) (l : List α) : motive l := by
  have h : ∀ r : List α, motive r.reverse := fun r => by
    induction r with
    | nil => exact nil
    | cons a t ih => rw [List.reverse_cons]; exact append_singleton _ _ ih
  rw [← List.reverse_reverse l]
  exact h _
theorem gr_last : ∀ (xs : List Mk) (x : Mk), (grF (xs ++ [x])).last = x.kd ∧ 0 < (grF (xs ++ [x])).out.length := fun xs x => by
  rw [grF_snoc]
  exact ⟨rfl, by simp [grS]⟩
/-- the reference's test is the same -/
theorem new_ref {xs : List Mk} {i : Nat} {x : Mk} (hx : xs[i]? = some x) : newB (grF (xs.take i)).out (grF (xs.take i)).last x = (((i : Int) == 0) || match xs[i - 1]? with | some y => decide (x.kd ≤ y.kd) | none => false) := by
  cases i with
  | zero => rfl
  | succ j =>
    have hj : j < xs.length := by have := (List.getElem?_eq_some_iff.1 hx).1; omega
    have hy : xs[j]? = some xs[j] := List.getElem?_eq_getElem hj
    obtain ⟨h1, h2⟩ := gr_last (xs.take j) xs[j]
    rw [← take_snoc hy] at h1 h2
    have e1 : (((grF (xs.take (j + 1))).out.length : Int) == 0) = false := beq_eq_false_iff_ne.2 (by omega)
    have e2 : (((j + 1 : Nat) : Int) == 0) = false := beq_eq_false_iff_ne.2 (by omega)
    rw [newB, e1, e2, h1, Nat.add_sub_cancel, hy]
theorem gr_len : ∀ xs : List Mk, (grF xs).out.length ≤ xs.length ∧ (grF xs).li.length = (grF xs).out.length := fun xs => by
  induction xs using snoc_ind with
  | nil => exact ⟨Nat.le_refl _, rfl⟩
  | append_singleton l x ih =>
    rw [grF_snoc]
    obtain ⟨i1, i2⟩ := ih
    unfold grS grO grL
    by_cases h : newB (grF l).out (grF l).last x = true
    · simp only [h, if_true, List.length_append, List.length_cons, List.length_nil]
      omega
    · have h0 : (grF l).out.length ≠ 0 := fun h0 => h (by rw [newB, h0]; rfl)
      simp only [h, if_false, List.length_append, List.length_cons, List.length_nil, List.length_dropLast, Bool.false_eq_true]
      omega
theorem dropLast_get {out : List Cm} (h : 0 < out.length) : out.dropLast ++ [out.getLast?.getD Cm.zero] = out := by
  revert h
  induction out using snoc_ind with
  | nil => intro h; simp at h
  | append_singleton l x _ => intro _; simp
def firstV (c : Cm) : Int := if c.hp then c.p else if c.hc then c.c else if c.ho then c.o else c.e
def hasF (c : Cm) (k : Int) : Bool := if k = 1 then c.hp else if k = 2 then c.hc else if k = 3 then c.ho else c.he
def flags (c : Cm) : Nat := c.hp.toNat + c.hc.toNat + c.ho.toNat + c.he.toNat
/-- a command whose last mark has kind k: no later one, and this one -/
def CmK (c : Cm) (k : Int) : Prop := (k < 2 → c.hc = false) ∧ (k < 3 → c.ho = false) ∧ (k < 4 → c.he = false) ∧ hasF c k = true
theorem set_new {x : Mk} (h : 1 ≤ x.kd ∧ x.kd ≤ 4) : CmK (setC x Cm.zero) x.kd ∧ firstV (setC x Cm.zero) = x.ln ∧ flags (setC x Cm.zero) = 1 := by
  obtain ⟨ln, kd, st⟩ := x
  simp only at h
  obtain rfl | rfl | rfl | rfl : kd = 1 ∨ kd = 2 ∨ kd = 3 ∨ kd = 4 := by omega
  all_goals simp [CmK, setC, hasF, firstV, flags, Cm.zero]
theorem set_on {x : Mk} {c : Cm} {k : Int} (h : 1 ≤ x.kd ∧ x.kd ≤ 4) (hk : 1 ≤ k) (hl : k < x.kd) (hc : CmK c k) : CmK (setC x c) x.kd ∧ firstV (setC x c) = firstV c ∧ flags (setC x c) = flags c + 1 := by
  obtain ⟨ln, kd, st⟩ := x
  obtain ⟨p, c, o, e, hp, hc', ho, he, st'⟩ := c
  simp only at h hl
  obtain ⟨h1, h2, h3, h4⟩ := hc
  simp only at h1 h2 h3
  obtain ⟨rfl, rfl⟩ | ⟨rfl, rfl⟩ | ⟨rfl, rfl⟩ | ⟨rfl, rfl⟩ | ⟨rfl, rfl⟩ | ⟨rfl, rfl⟩ : (k = 1 ∧ kd = 2) ∨ (k = 1 ∧ kd = 3) ∨ (k = 1 ∧ kd = 4) ∨ (k = 2 ∧ kd = 3) ∨ (k = 2 ∧ kd = 4) ∨ (k = 3 ∧ kd = 4) := by omega
  all_goals
    simp [hasF] at h4
    simp at h1 h2 h3
    simp_all [CmK, setC, hasF, firstV, flags]
  all_goals try omega
/-- what is known of the groups -/
def GrI (g : Gr) (n : Nat) : Prop := g.out.map firstV = g.li ∧ (g.out.map flags).sum = n ∧ (g.out = [] ∨ ∃ o z, g.out = o ++ [z] ∧ CmK z g.last ∧ 1 ≤ g.last)
theorem gr_inv : ∀ xs : List Mk, (∀ x ∈ xs, 1 ≤ x.kd ∧ x.kd ≤ 4) → GrI (grF xs) xs.length := fun xs => by
  induction xs using snoc_ind with
  | nil => exact fun _ => ⟨rfl, rfl, .inl rfl⟩
  | append_singleton l x ih =>
    intro h
    obtain ⟨i1, i2, i3⟩ := ih fun y hy => h y (by simp [hy])
    have hx := h x (by simp)
    rw [grF_snoc]
    by_cases hb : newB (grF l).out (grF l).last x = true
    · obtain ⟨s1, s2, s3⟩ := set_new hx
      have e1 : grO (grF l).out (grF l).last x = (grF l).out := by rw [grO, if_pos hb]
      have e2 : grZ (grF l).out (grF l).last x = Cm.zero := by rw [grZ, if_pos hb]
      have e3 : grL (grF l).out (grF l).last x (grF l).li = (grF l).li ++ [x.ln] := by rw [grL, if_pos hb]
      refine ⟨?_, ?_, .inr ⟨_, _, rfl, ?_, hx.1⟩⟩
      · simp only [grS, e1, e2, e3, List.map_append, i1, List.map_cons, List.map_nil, s2]
      · simp only [grS, e1, e2, List.map_append, List.map_cons, List.map_nil, List.sum_append, List.sum_cons, List.sum_nil, i2, s3, List.length_append, List.length_cons, List.length_nil, Nat.add_zero, Nat.zero_add]
      · simp only [grS, e2]; exact s1
    · obtain h0 | ⟨o, z, ho, hz, hk⟩ := i3
      · exact absurd (by rw [newB, h0]; rfl) hb
      · have hlt : (grF l).last < x.kd := by
          simp only [newB, Bool.or_eq_true, not_or, decide_eq_true_eq] at hb
          omega
        obtain ⟨s1, s2, s3⟩ := set_on hx hk hlt hz
        have e1 : grO (grF l).out (grF l).last x = o := by rw [grO, if_neg hb, ho, List.dropLast_concat]
        have e2 : grZ (grF l).out (grF l).last x = z := by rw [grZ, if_neg hb, ho, List.getLast?_concat]; rfl
        have e3 : grL (grF l).out (grF l).last x (grF l).li = (grF l).li := by rw [grL, if_neg hb]
        rw [ho] at i1 i2
        refine ⟨?_, ?_, .inr ⟨_, _, rfl, ?_, hx.1⟩⟩
        · simp only [grS, e1, e2, e3]
          rw [← i1]
          simp only [List.map_append, List.map_cons, List.map_nil, s2]
        · simp only [List.map_append, List.map_cons, List.map_nil, List.sum_append, List.sum_cons, List.sum_nil] at i2
          simp only [grS, e1, e2, List.map_append, List.map_cons, List.map_nil, List.sum_append, List.sum_cons, List.sum_nil, s3, List.length_append, List.length_cons, List.length_nil]
          omega
        · simp only [grS, e2]; exact s1
/-- the command of a line: from the end -/
def atO (line : Int) (cs : List Cm) (li : List Int) : Option Cm := ((cs.zip li).reverse.find? fun p => decide (p.2 ≤ line)).map (·.1)
def atV (line : Int) (xs : List Mk) : Cm := (atO line (cmdsV xs) (linesV xs)).getD Cm.zero
def atE (line : Int) (xs : List Mk) : Int := match atO line (cmdsV xs) (linesV xs) with
  | some _ => 0
  | none => 9
/-- .. as the law asks it: from the beginning -/
def atS (line : Int) (s : Cm × Int) (c : Cm) : Cm × Int := if firstV c ≤ line then (c, 0) else s
def atF (line : Int) (cs : List Cm) : Cm × Int := cs.foldl (atS line) (Cm.zero, 9)
theorem atF_snoc (line : Int) (cs : List Cm) (c : Cm) : atF line (cs ++ [c]) = atS line (atF line cs) c := by simp [atF]
theorem atF_eq (line : Int) : ∀ (cs : List Cm), atF line cs = match atO line cs (cs.map firstV) with | some c => (c, 0) | none => (Cm.zero, 9) := fun cs => by
  induction cs using snoc_ind with
  | nil => rfl
  | append_singleton l c ih =>
    rw [atF_snoc, atS, ih]
    have e : (l ++ [c]).zip ((l ++ [c]).map firstV) = l.zip (l.map firstV) ++ [(c, firstV c)] := by
      rw [List.map_append, List.zip_append (by simp)]
      rfl
    simp only [atO, e, List.reverse_append, List.reverse_cons, List.reverse_nil, List.nil_append, List.cons_append, List.find?_cons]
    by_cases h : firstV c ≤ line
    · simp [h]
    · simp [h]
/-! ### What marks there are keeps its order -/
def MOk (xs : List Mk) : Prop := (∀ x ∈ xs, okM x = true) ∧ xs.Pairwise (fun a b => a.ln ≤ b.ln) ∧ xs.length ≤ 1000
theorem MOk.nil : MOk [] := ⟨fun x h => (by cases h), .nil, by decide⟩
theorem okM_parts {x : Mk} (h : okM x = true) : (0 ≤ x.ln ∧ x.ln ≤ 1099511627776) ∧ (1 ≤ x.kd ∧ x.kd ≤ 4) ∧ (0 ≤ x.st ∧ x.st ≤ 255) ∧ (x.st = 0 ∨ x.kd = 4) := of_decide_eq_true h
theorem MOk.kinds {xs : List Mk} (h : MOk xs) : ∀ x ∈ xs, 1 ≤ x.kd ∧ x.kd ≤ 4 := fun x hx => (okM_parts (h.1 x hx)).2.1
theorem pw_last {xs : List Mk} (h : xs.Pairwise (fun a b => a.ln ≤ b.ln)) {y : Mk} (hy : lastM xs = some y) : ∀ x ∈ xs, x.ln ≤ y.ln := fun x hx => by
  obtain ⟨i, hi, e⟩ := List.getElem_of_mem hx
  obtain ⟨h1, h2⟩ := List.getElem?_eq_some_iff.1 hy
  by_cases he : i = xs.length - 1
  · subst he
    rw [← e, ← h2]
    exact Int.le_refl _
  · have := List.pairwise_iff_getElem.1 h i (xs.length - 1) hi h1 (by omega)
    rw [← e, ← h2]
    exact this
theorem last_of {xs : List Mk} (h : xs ≠ []) : ∃ y, lastM xs = some y := ⟨xs[xs.length - 1]'(by have := List.length_pos_iff.2 h; omega), List.getElem?_eq_getElem _⟩
theorem put_parts {xs : List Mk} {x : Mk} (h : putE xs x = 0) : okM x = true ∧ beforeB xs x = false ∧ xs.length < 1000 := by
  unfold putE at h
  split at h
  · split at h
    · cases h
    · split at h
      · cases h
      · exact ⟨‹_›, by simpa using ‹¬ beforeB xs x = true›, by omega⟩
  · cases h
theorem before_all {xs : List Mk} {x : Mk} (h : xs.Pairwise (fun a b => a.ln ≤ b.ln)) (hb : beforeB xs x = false) : ∀ y ∈ xs, y.ln ≤ x.ln := fun y hy => by
  obtain ⟨z, hz⟩ := last_of (List.ne_nil_of_mem hy)
  have h1 := pw_last h hz y hy
  rw [beforeB, hz] at hb
  have h2 := of_decide_eq_false hb
  omega
theorem MOk.put {xs : List Mk} (h : MOk xs) (x : Mk) : MOk (putX xs x) := by
  unfold putX
  split
  · obtain ⟨h1, h2, h3⟩ := put_parts ‹_›
    refine ⟨fun y hy => ?_, List.pairwise_append.2 ⟨h.2.1, List.pairwise_singleton _ _, fun a ha b hb => ?_⟩, by simp; omega⟩
    · rcases List.mem_append.1 hy with hy | hy
      · exact h.1 y hy
      · rw [List.mem_singleton.1 hy]; exact h1
    · rw [List.mem_singleton.1 hb]
      exact before_all h.2.1 h2 a ha
  · exact h
theorem MOk.drop {xs : List Mk} (h : MOk xs) (n : Nat) : MOk (xs.drop n) := ⟨fun x hx => h.1 x (List.mem_of_mem_drop hx), h.2.1.sublist (List.drop_sublist n xs), by have := h.2.2; simp; omega⟩
theorem MOk.ev {xs : List Mk} (h : MOk xs) (line : Int) : MOk (evX line xs) := by
  unfold evX
  split
  · exact h.drop _
  · exact h
theorem putE_rng (xs : List Mk) (x : Mk) : putE xs x = 0 ∨ putE xs x = 2 ∨ putE xs x = 7 ∨ putE xs x = 13 := by
  unfold putE
  split
  · split
    · simp
    · split <;> simp
  · simp
theorem at_law {xs : List Mk} (h : MOk xs) (line : Int) : atF line (cmdsV xs) = (atV line xs, atE line xs) := by
  have hg := (gr_inv xs h.kinds).1
  rw [atF_eq, cmdsV, hg, atV, atE, cmdsV, linesV]
  cases atO line (grF xs).out (grF xs).li <;> rfl
theorem find_at {α : Type} {p : α → Bool} {xs : List α} {i : Nat} {x : α} (h : (xs.take i).find? p = none) (hx : xs[i]? = some x) (hp : p x = true) : xs.find? p = some x := by
  have e : xs = xs.take i ++ x :: xs.drop (i + 1) := by rw [← drop_get hx, List.take_append_drop]
  rw [e, List.find?_append, h, Option.none_or, List.find?_cons, hp]
theorem find_on {α : Type} {p : α → Bool} {xs : List α} {i : Nat} {x : α} (h : (xs.take i).find? p = none) (hx : xs[i]? = some x) (hp : p x = false) : (xs.take (i + 1)).find? p = none := by
  rw [take_snoc hx, List.find?_append, h, Option.none_or, List.find?_cons, hp]
  rfl
theorem chkE_or (ks : List Int) : chkE ks = 0 ∨ chkE ks = 2 := by
  unfold chkE
  split
  · exact .inr rfl
  · exact .inl rfl
theorem fnd_bad {o : Option Mk} {ks : List Int} (h : chkE ks ≠ 0) : fndV o ks = Mk.zero ∧ fndE o ks = chkE ks := by
  unfold fndV fndE
  rw [if_neg h, if_neg h]
  exact ⟨rfl, ((chkE_or ks).resolve_left h).symm⟩
theorem fnd_some {x : Mk} {ks : List Int} (h : chkE ks = 0) : fndV (some x) ks = x ∧ fndE (some x) ks = 0 := by
  unfold fndV fndE
  rw [if_pos h, if_pos h]
  exact ⟨rfl, rfl⟩
theorem fnd_none {ks : List Int} (h : chkE ks = 0) : fndV none ks = Mk.zero ∧ fndE none ks = 9 := by
  unfold fndV fndE
  rw [if_pos h, if_pos h]
  exact ⟨rfl, rfl⟩
/-! ### The examples of the chapter -/
def knM : List Mk := [⟨3, 1, 0⟩, ⟨3, 2, 0⟩, ⟨4, 3, 0⟩, ⟨9, 4, 1⟩, ⟨9, 1, 0⟩, ⟨12, 3, 0⟩]
def knM3 : List Mk := [⟨9, 4, 1⟩, ⟨9, 1, 0⟩, ⟨12, 3, 0⟩]
def knOne : Cm := ⟨3, 3, 4, 9, true, true, true, true, 1⟩
def knTwo : Cm := ⟨9, 0, 12, 0, true, false, true, false, 0⟩
def knEnd : Cm := ⟨0, 0, 0, 9, false, false, false, true, 1⟩
theorem kn_put {i : Nat} {x : Mk} (h : knM[i]? = some x) : putE (knM.take i) x = 0 ∧ putX (knM.take i) x = knM.take (i + 1) := by
  match i, h with
  | 0, h => cases h; exact ⟨by decide, by decide⟩
  | 1, h => cases h; exact ⟨by decide, by decide⟩
  | 2, h => cases h; exact ⟨by decide, by decide⟩
  | 3, h => cases h; exact ⟨by decide, by decide⟩
  | 4, h => cases h; exact ⟨by decide, by decide⟩
  | 5, h => cases h; exact ⟨by decide, by decide⟩
  | i + 6, h => cases h
theorem kn_cmds : cmdsV knM = [knOne, knTwo] := by decide
theorem kn_cmds3 : cmdsV knM3 = [knEnd, knTwo] := by decide
/-! ### As many marks as there may be -/
def flM (n : Nat) : List Mk := (List.range n).map fun (j : Nat) => ⟨(j : Int), 1, 0⟩
theorem flM_len (n : Nat) : (flM n).length = n := by simp [flM]
theorem flM_get {n j : Nat} (h : j < n) : (flM n)[j]? = some ⟨(j : Int), 1, 0⟩ := by simp [flM, h]
theorem flM_succ (n : Nat) : flM (n + 1) = flM n ++ [⟨(n : Int), 1, 0⟩] := by simp [flM, List.range_succ]
theorem before_len {xs : List Mk} {x : Mk} (h : ∀ y, xs[xs.length - 1]? = some y → y.ln ≤ x.ln) : beforeB xs x = false := by
  unfold beforeB
  cases hl : lastM xs with
  | none => rfl
  | some y => exact decide_eq_false (by have := h y hl; omega)
theorem put_full {i : Nat} (h : i ≤ 1002) : putE (flM (min i 1000)) ⟨(i : Int), 1, 0⟩ = (if 1000 ≤ i then 7 else 0) ∧ putX (flM (min i 1000)) ⟨(i : Int), 1, 0⟩ = flM (min (i + 1) 1000) := by
  have hok : okM ⟨(i : Int), 1, 0⟩ = true := decide_eq_true (by show (0 ≤ (i : Int) ∧ (i : Int) ≤ 1099511627776) ∧ ((1 : Int) ≤ 1 ∧ (1 : Int) ≤ 4) ∧ ((0 : Int) ≤ 0 ∧ (0 : Int) ≤ 255) ∧ ((0 : Int) = 0 ∨ (1 : Int) = 4); omega)
  have hb : beforeB (flM (min i 1000)) ⟨(i : Int), 1, 0⟩ = false := before_len fun y hy => by
    rw [flM_len] at hy
    have hlt := (List.getElem?_eq_some_iff.1 hy).1
    rw [flM_len] at hlt
    rw [flM_get hlt] at hy
    cases hy
    simp only
    omega
  have hE : putE (flM (min i 1000)) ⟨(i : Int), 1, 0⟩ = (if 1000 ≤ i then 7 else 0) := by
    rw [putE, hok, hb, flM_len]
    by_cases h1 : 1000 ≤ i
    · rw [if_pos rfl, if_neg (by decide), if_pos (by omega), if_pos h1]
    · rw [if_pos rfl, if_neg (by decide), if_neg (by omega), if_neg h1]
  refine ⟨hE, ?_⟩
  rw [putX, hE]
  by_cases h1 : 1000 ≤ i
  · rw [if_pos h1, if_neg (by decide), show min i 1000 = min (i + 1) 1000 by omega]
  · rw [if_neg h1, if_pos rfl, show min i 1000 = i by omega, show min (i + 1) 1000 = i + 1 by omega, flM_succ]
theorem evN_eq {line : Int} : ∀ (k : Nat) (xs : List Mk), k ≤ xs.length → (∀ j x, j < k → xs[j]? = some x → x.ln < line) → (∀ x, xs[k]? = some x → line ≤ x.ln) → evN line xs = k
  | 0, [], _, _, _ => rfl
  | 0, x :: t, _, _, h2 => by
    have := h2 x rfl
    rw [evN, if_neg (by omega)]
  | k + 1, [], h, _, _ => by simp at h
  | k + 1, x :: t, h, h1, h2 => by
    have h0 := h1 0 x (by omega) rfl
    rw [evN, if_pos h0, evN_eq k t (by simpa using h) (fun j y hj hy => h1 (j + 1) y (by omega) hy) (fun y hy => h2 y hy)]
theorem ones_cmds : ∀ xs : List Mk, (∀ x ∈ xs, x.kd = 1) → (grF xs).out.length = xs.length ∧ (xs ≠ [] → (grF xs).last = 1) := fun xs => by
  induction xs using snoc_ind with
  | nil => exact fun _ => ⟨rfl, fun h => absurd rfl h⟩
  | append_singleton l x ih =>
    intro h
    obtain ⟨i1, i2⟩ := ih fun y hy => h y (by simp [hy])
    have hx := h x (by simp)
    rw [grF_snoc]
    have hb : newB (grF l).out (grF l).last x = true := by
      by_cases h0 : l = []
      · subst h0; rfl
      · rw [newB, i2 h0, hx]; simp
    refine ⟨?_, fun _ => hx⟩
    simp only [grS, grO, hb, if_true, List.length_append, List.length_cons, List.length_nil, i1]
theorem full_end {n g : Nat} (h1 : 998 ≤ n) (h2 : n ≤ 1000) (h3 : 1 ≤ g) (h4 : g ≤ 997) :
    (cmdsV (flM n)).length = n ∧ evR (g : Int) (flM n) = (g : Int) ∧ evE (g : Int) = 0 ∧ evX (g : Int) (flM n) = (flM n).drop g ∧ putE ((flM n).drop g) ⟨2000, 4, 0⟩ = 0 ∧ putX ((flM n).drop g) ⟨2000, 4, 0⟩ = (flM n).drop g ++ [⟨2000, 4, 0⟩] ∧
      (((flM n).drop g ++ [⟨2000, 4, 0⟩] : List Mk)).length = n - g + 1 ∧ (cmdsV ((flM n).drop g ++ [⟨2000, 4, 0⟩])).length = n - g ∧ ((flM n).drop g).length ≤ 1000 := by
  have hk : ∀ x ∈ flM n, x.kd = 1 := fun x hx => by
    obtain ⟨j, _, rfl⟩ := List.mem_map.1 hx
    rfl
  have hE : evE (g : Int) = 0 := by rw [evE, if_pos (by omega)]
  have hN : evN (g : Int) (flM n) = g := evN_eq g _ (by rw [flM_len]; omega) (fun j x hj hx => by rw [flM_get (by omega)] at hx; cases hx; simp only; omega) (fun x hx => by rw [flM_get (by omega)] at hx; cases hx; simp only; omega)
  have hl : ((flM n).drop g).length = n - g := by rw [List.length_drop, flM_len]
  have hb : beforeB ((flM n).drop g) ⟨2000, 4, 0⟩ = false := before_len fun y hy => by
    rw [hl, List.getElem?_drop, flM_get (by omega)] at hy
    cases hy
    simp only
    omega
  have hP : putE ((flM n).drop g) ⟨2000, 4, 0⟩ = 0 := by
    rw [putE, show okM ⟨2000, 4, 0⟩ = true by decide, hb, hl, if_pos rfl, if_neg (by decide), if_neg (by omega)]
  have hX : putX ((flM n).drop g) ⟨2000, 4, 0⟩ = (flM n).drop g ++ [⟨2000, 4, 0⟩] := by rw [putX, hP, if_pos rfl]
  obtain ⟨c1, c2⟩ := ones_cmds ((flM n).drop g) fun x hx => hk x (List.mem_of_mem_drop hx)
  have c3 := c2 (fun e => by rw [e] at hl; simp at hl; omega)
  refine ⟨(ones_cmds _ hk).1.trans (flM_len n), by rw [evR, hE, hN, if_pos rfl], hE, by rw [evX, hE, hN, if_pos rfl], hP, hX, by simp [hl], ?_, by rw [hl]; omega⟩
  rw [cmdsV, grF_snoc]
  have hb2 : newB (grF ((flM n).drop g)).out (grF ((flM n).drop g)).last ⟨2000, 4, 0⟩ = false := by
    rw [newB, c3, c1, hl, beq_eq_false_iff_ne.2 (by omega)]
    rfl
  simp only [grS, grO, hb2, if_false, List.length_append, List.length_cons, List.length_nil, List.length_dropLast, c1, hl, Bool.false_eq_true]
  omega
end Go.Proofs.Ytaoepaonjeilgaa
