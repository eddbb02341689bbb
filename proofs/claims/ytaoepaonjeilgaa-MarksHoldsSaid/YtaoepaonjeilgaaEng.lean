/-
  Triples over what is known of the frame and of memory. No condition; no program in sight.
-/
import Derived.WalkKit
import Derived.Lib.Hide
import Derived.Maps.AppendAt
import Derived.Laws.OwnMore
import Derived.Deep.Quiet
import Derived.OrdersHeld
import Derived.Deep.LoopGhost
namespace Go.Proofs.Ytaoepaonjeilgaa
open Go.RowKit
set_option linter.unusedSimpArgs false
set_option linter.unusedVariables false

/-! ### What is known of the frame -/
/-- The value of slot n in a list of known slots, the newest first. -/
def lk (n : Nat) : List (Nat × Value) → Option Value
  | [] => none
  | (m, v) :: l => bif Nat.beq m n then some v else lk n l
/-- A frame of n slots of which L is known. -/
structure FrOk (n : Nat) (L : List (Nat × Value)) (a : Act) : Prop where
  sz : a.tmps.size = n
  df : a.defers = []
  kn : ∀ t v, lk t L = some v → a.tmps[t]? = some v
theorem FrOk.put {n : Nat} {L : List (Nat × Value)} {a : Act} (h : FrOk n L a) {d : Nat} (hd : Nat.blt d n = true) (v : Value) : FrOk n ((d, v) :: L) (a.put (some d) v) := by
  have hd' : d < n := Nat.le_of_ble_eq_true hd
  refine ⟨by simp [Act.put, h.sz], h.df, fun t u ht => ?_⟩
  simp only [lk] at ht
  by_cases e : d = t
  · subst e
    rw [Nat.beq_refl, cond_true] at ht
    cases ht
    simp [Act.put, h.sz, hd']
  · have : Nat.beq d t = false := by
      cases hb : Nat.beq d t
      · rfl
      · exact absurd (Nat.eq_of_beq_eq_true hb) e
    rw [this, cond_false] at ht
    simp [Act.put, Array.getElem?_setIfInBounds_ne e, h.kn t u ht]
theorem FrOk.put0 {n : Nat} {L : List (Nat × Value)} {a : Act} (h : FrOk n L a) (v : Value) : FrOk n L (a.put none v) := h
/-- What is known shrinks. -/
inductive Sub (L : List (Nat × Value)) : List (Nat × Value) → Prop where
  | nil : Sub L []
  | cons {L' : List (Nat × Value)} {t : Nat} {v : Value} : lk t L = some v → Sub L L' → Sub L ((t, v) :: L')
theorem Sub.lk {L L' : List (Nat × Value)} (h : Sub L L') : ∀ t v, lk t L' = some v → lk t L = some v := by
  induction h with
  | nil => intro t v h; cases h
  | @cons L' m u hm _ ih =>
    intro t v h
    simp only [Go.Proofs.Ytaoepaonjeilgaa.lk] at h
    cases hb : Nat.beq m t
    · rw [hb, cond_false] at h; exact ih t v h
    · rw [hb, cond_true] at h
      cases h
      rw [← Nat.eq_of_beq_eq_true hb]; exact hm
theorem FrOk.sub {n : Nat} {L L' : List (Nat × Value)} {a : Act} (h : FrOk n L a) (s : Sub L L') : FrOk n L' a := ⟨h.sz, h.df, fun t v e => h.kn t v (s.lk t v e)⟩
def ev (L : List (Nat × Value)) : Operand → Option Value
  | .tmp t => lk t L
  | .const v => some v
  | .global g => some (.pointer (some ⟨g, 0, none⟩))
  | .func f => some (.func (.func f) #[] #[])
theorem FrOk.ev {n : Nat} {L : List (Nat × Value)} {a : Act} (h : FrOk n L a) {x : Operand} {v : Value} (e : ev L x = some v) : a.eval x = v := by
  cases x with
  | tmp t => simp [Act.eval, h.kn t v e]
  | const u => cases e; rfl
  | global g => cases e; rfl
  | func f => cases e; rfl

/-! ### What is known of memory -/
inductive Ent where
  /-- a block of the call's own, known whole -/
  | blk (b : Nat) (cs : List Value) (T : TypeId)
  /-- a row of the call's own, appended to: '.slice A n c' of elements of type e, z cells each, that holds xs -/
  | row (e z : Nat) (A : Option Addr) (n c : Nat) (xs : List Value)
  /-- blocks of the call's own that nothing else reaches -/
  | own (σ : Nat → Option Obj)
  /-- blocks that are not written -/
  | fr (σ : Nat → Option Obj)
def Ent.dom : Ent → Nat → Prop
  | .blk b _ _, x => x = b
  | .row _ _ A n c _, x => (Value.slice A n c).ownBlock = some x
  | .own σ, x => σ x ≠ none
  | .fr σ, x => σ x ≠ none
def Ent.mine : Ent → Bool
  | .fr _ => false
  | _ => true
def Ent.ok (B : Nat) (w : World) (e : Ent) : Prop := match e with
  | .blk b cs T => B ≤ b ∧ w.heap[b]? = some (.cells cs.toArray T (0, 0))
  | .row e z A n c xs => w.ownsRow B e z (.slice A n c) n xs
  | .own σ => ∀ b o, σ b = some o → B ≤ b ∧ w.heap[b]? = some o
  | .fr σ => ∀ b o, σ b = some o → w.heap[b]? = some o
def Apart (e e' : Ent) : Prop := (e.mine || e'.mine) = true → ∀ x, e.dom x → ¬ e'.dom x
theorem Apart.symm {e e' : Ent} (h : Apart e e') : Apart e' e := fun hm x hx hy => h (by rw [Bool.or_comm]; exact hm) x hy hx
def KAll (B : Nat) (w : World) : List Ent → Prop
  | [] => True
  | e :: K => e.ok B w ∧ (∀ e' ∈ K, Apart e e') ∧ KAll B w K
/-- In world w, reached from w0, K is known. -/
structure KOk (w0 : World) (K : List Ent) (w : World) : Prop where
  bel : Below w0.heap.size w0 w
  all : KAll w0.heap.size w K
theorem lt_of_some {w : World} {b : Nat} {o : Obj} (h : w.heap[b]? = some o) : b < w.heap.size := (Array.getElem?_eq_some_iff.1 h).1
theorem Ent.lt {B : Nat} {w : World} {e : Ent} (h : e.ok B w) : ∀ x, e.dom x → x < w.heap.size := by
  intro x hx
  cases e with
  | blk b cs T => cases hx; exact lt_of_some h.2
  | row e z A n c xs => exact (World.ownsRow.lt h x hx).2
  | own σ =>
    cases hs : σ x with
    | none => exact absurd hs hx
    | some o => exact lt_of_some (h x o hs).2
  | fr σ =>
    cases hs : σ x with
    | none => exact absurd hs hx
    | some o => exact lt_of_some (h x o hs)
theorem Ent.ge {B : Nat} {w : World} {e : Ent} (h : e.ok B w) (hm : e.mine = true) : ∀ x, e.dom x → B ≤ x := by
  intro x hx
  cases e with
  | blk b cs T => cases hx; exact h.1
  | row e z A n c xs => exact (World.ownsRow.lt h x hx).1
  | own σ =>
    cases hs : σ x with
    | none => exact absurd hs hx
    | some o => exact (h x o hs).1
  | fr σ => cases hm
/-- An entry holds on where its blocks are as they were. -/
theorem Ent.keep {B : Nat} {w w' : World} {e : Ent} (h : e.ok B w) (hk : ∀ x, e.dom x → w'.heap[x]? = w.heap[x]?) : e.ok B w' := by
  cases e with
  | blk b cs T => exact ⟨h.1, (hk b rfl).trans h.2⟩
  | row e z A n c xs =>
    refine ⟨h.1, ?_⟩
    rcases h.2 with hn | ⟨g, cap, cur, hv, hb, hg, r⟩
    · exact .inl hn
    · refine .inr ⟨g, cap, cur, hv, hb, ?_, r⟩
      rw [hk g (by show Value.ownBlock _ = _; rw [hv]; rfl)]
      exact hg
  | own σ => exact fun b o hs => ⟨(h b o hs).1, (hk b (by show σ b ≠ none; rw [hs]; simp)).trans (h b o hs).2⟩
  | fr σ => exact fun b o hs => (hk b (by show σ b ≠ none; rw [hs]; simp)).trans (h b o hs)
theorem KAll.keep {B : Nat} {w w' : World} : ∀ {K : List Ent}, KAll B w K → (∀ e ∈ K, ∀ x, e.dom x → w'.heap[x]? = w.heap[x]?) → KAll B w' K
  | [], _, _ => trivial
  | e :: K, ⟨h1, h2, h3⟩, hk => ⟨Ent.keep h1 (hk e (by simp)), h2, KAll.keep h3 fun e' he' => hk e' (by simp [he'])⟩
theorem KAll.mem {B : Nat} {w : World} : ∀ {K : List Ent}, KAll B w K → ∀ e ∈ K, e.ok B w
  | e :: K, ⟨h1, h2, h3⟩, e', he' => by
    rcases List.mem_cons.1 he' with rfl | h
    · exact h1
    · exact KAll.mem h3 e' h
theorem KAll.lt {B : Nat} {w : World} {K : List Ent} (h : KAll B w K) : ∀ e ∈ K, ∀ x, e.dom x → x < w.heap.size := fun e he => Ent.lt (h.mem e he)
/-- what only lays new blocks keeps all -/
theorem KOk.below {w0 w w' : World} {K : List Ent} (h : KOk w0 K w) (b : Below w.heap.size w w') : KOk w0 K w' :=
  ⟨h.bel.trans (b.mono h.bel.size), h.all.keep fun e he x hx => b.block x (h.all.lt e he x hx)⟩
/-- K is e and K', in whatever order. -/
inductive Pick : List Ent → Ent → List Ent → Prop where
  | here {e : Ent} {K : List Ent} : Pick (e :: K) e K
  | there {d e : Ent} {K K' : List Ent} : Pick K e K' → Pick (d :: K) e (d :: K')
theorem P0 {e : Ent} {K : List Ent} : Pick (e :: K) e (K) := .here
theorem P1 {d0 e : Ent} {K : List Ent} : Pick (d0 :: e :: K) e (d0 :: K) := .there P0
theorem P2 {d0 d1 e : Ent} {K : List Ent} : Pick (d0 :: d1 :: e :: K) e (d0 :: d1 :: K) := .there P1
theorem P3 {d0 d1 d2 e : Ent} {K : List Ent} : Pick (d0 :: d1 :: d2 :: e :: K) e (d0 :: d1 :: d2 :: K) := .there P2
theorem P4 {d0 d1 d2 d3 e : Ent} {K : List Ent} : Pick (d0 :: d1 :: d2 :: d3 :: e :: K) e (d0 :: d1 :: d2 :: d3 :: K) := .there P3
theorem P5 {d0 d1 d2 d3 d4 e : Ent} {K : List Ent} : Pick (d0 :: d1 :: d2 :: d3 :: d4 :: e :: K) e (d0 :: d1 :: d2 :: d3 :: d4 :: K) := .there P4
theorem P6 {d0 d1 d2 d3 d4 d5 e : Ent} {K : List Ent} : Pick (d0 :: d1 :: d2 :: d3 :: d4 :: d5 :: e :: K) e (d0 :: d1 :: d2 :: d3 :: d4 :: d5 :: K) := .there P5
theorem P7 {d0 d1 d2 d3 d4 d5 d6 e : Ent} {K : List Ent} : Pick (d0 :: d1 :: d2 :: d3 :: d4 :: d5 :: d6 :: e :: K) e (d0 :: d1 :: d2 :: d3 :: d4 :: d5 :: d6 :: K) := .there P6
theorem P8 {d0 d1 d2 d3 d4 d5 d6 d7 e : Ent} {K : List Ent} : Pick (d0 :: d1 :: d2 :: d3 :: d4 :: d5 :: d6 :: d7 :: e :: K) e (d0 :: d1 :: d2 :: d3 :: d4 :: d5 :: d6 :: d7 :: K) := .there P7
theorem P9 {d0 d1 d2 d3 d4 d5 d6 d7 d8 e : Ent} {K : List Ent} : Pick (d0 :: d1 :: d2 :: d3 :: d4 :: d5 :: d6 :: d7 :: d8 :: e :: K) e (d0 :: d1 :: d2 :: d3 :: d4 :: d5 :: d6 :: d7 :: d8 :: K) := .there P8
theorem Pick.mem {K K' : List Ent} {e : Ent} (p : Pick K e K') : ∀ x, x ∈ K ↔ x = e ∨ x ∈ K' := by
  induction p with
  | here => intro x; simp
  | there _ ih => intro x; simp [ih]; constructor <;> rintro (h | h | h) <;> simp [h]
theorem Pick.all {B : Nat} {w : World} {K K' : List Ent} {e : Ent} (p : Pick K e K') (h : KAll B w K) : KAll B w (e :: K') := by
  induction p with
  | here => exact h
  | @there d e K K' p ih =>
    obtain ⟨h1, h2, h3⟩ := h
    obtain ⟨g1, g2, g3⟩ := ih h3
    refine ⟨g1, ?_, h1, fun e' he' => h2 e' ((p.mem e').2 (.inr he')), g3⟩
    intro e' he'
    rcases List.mem_cons.1 he' with rfl | h
    · exact (h2 e ((p.mem e).2 (.inl rfl))).symm
    · exact g2 e' h
theorem KOk.pick {w0 w : World} {K K' : List Ent} {e : Ent} (h : KOk w0 K w) (p : Pick K e K') : KOk w0 (e :: K') w := ⟨h.bel, p.all h.all⟩
theorem KOk.get {w0 w : World} {K K' : List Ent} {e : Ent} (h : KOk w0 K w) (p : Pick K e K') : e.ok w0.heap.size w := (h.pick p).all.1
/-- a new block -/
theorem KOk.alloc {w0 w : World} {K : List Ent} (h : KOk w0 K w) (cs : List Value) (T : TypeId) : KOk w0 (.blk w.heap.size cs T :: K) (w.alloc (.cells cs.toArray T)) := by
  refine ⟨h.bel.alloc h.bel.size _, ⟨h.bel.size, heap_alloc_new w _⟩, fun e' he' _ x hx hy => ?_, h.all.keep fun e he x hx => Below.heap_alloc w _ x (h.all.lt e he x hx)⟩
  cases hx
  exact Nat.lt_irrefl _ (h.all.lt e' he' _ hy)
theorem KOk.drew {w0 w : World} {K : List Ent} (h : KOk w0 K w) : KOk w0 K w.drew := ⟨h.bel.drew, h.all.keep fun _ _ _ _ => rfl⟩
/-- the blocks of the first entry are written -/
theorem KOk.write {w0 w w' : World} {K : List Ent} {e e' : Ent} (h : KOk w0 (e :: K) w) (hm : e.mine = true) (ho : e'.ok w0.heap.size w') (hm' : e'.mine = true)
    (hd : ∀ x, e'.dom x → e.dom x ∨ w.heap.size ≤ x) (hs : w.heap.size ≤ w'.heap.size) (hb : ∀ x, x < w.heap.size → ¬ e.dom x → w'.heap[x]? = w.heap[x]?) (he : w'.os = w.os ∧ w'.tape = w.tape ∧ w'.output = w.output) : KOk w0 (e' :: K) w' := by
  obtain ⟨hbel, h1, h2, h3⟩ := h
  have hk : ∀ d ∈ K, ∀ x, d.dom x → w'.heap[x]? = w.heap[x]? := fun d hdK x hx => hb x (h3.lt d hdK x hx) fun hex => h2 d hdK (by simp [hm]) x hex hx
  refine ⟨hbel.trans ⟨he.1, he.2.1, he.2.2, hs, fun k hkk => hb k (Nat.lt_of_lt_of_le hkk hbel.size) fun hex => ?_⟩, ho, fun d hdK _ x hx hy => ?_, h3.keep hk⟩
  · have := Ent.ge h1 hm k hex
    omega
  · rcases hd x hx with h | h
    · exact h2 d hdK (by simp [hm]) x h hy
    · have := h3.lt d hdK x hy
      omega
theorem KOk.tail {w0 w : World} {K : List Ent} {e : Ent} (h : KOk w0 (e :: K) w) : KOk w0 K w := ⟨h.bel, h.all.2.2⟩
/-- a store into one cell of a block of the call's own -/
theorem KOk.set {w0 w : World} {K : List Ent} {b : Nat} {cs : List Value} {T : TypeId} (h : KOk w0 (.blk b cs T :: K) w) (i : Nat) (v : Value) : KOk w0 (.blk b (cs.set i v) T :: K) (w.setCell ⟨b, i, none⟩ v) := by
  have h0 := h.all.1
  refine h.write rfl ⟨h0.1, ?_⟩ rfl (fun x hx => .inl hx) (by simp [World.setCell]) (fun x _ hx => Below.heap_setCell w _ v x hx) ⟨rfl, rfl, rfl⟩
  have := heap_setCell_same w b i cs.toArray T v h0.2
  rw [this]
  simp

/-! ### Triples -/
def T (P : Program) (n : Nat) (w0 : World) (L : List (Nat × Value)) (K : List Ent) (c : Code) (Q : Exit → Act → World → Prop) : Prop := ∀ a w, FrOk n L a → KOk w0 K w → c.wp P Q a w
def TL (P : Program) (n : Nat) (w0 : World) (L : List (Nat × Value)) (K : List Ent) (ops : Array Oper) (l : List Oper) (Q : Exit → Act → World → Prop) : Prop := ∀ a w, FrOk n L a → KOk w0 K w → wpList P ops Q l a w
def TE (n : Nat) (w0 : World) (L : List (Nat × Value)) (K : List Ent) (e : Exit) (Q : Exit → Act → World → Prop) : Prop := ∀ a w, FrOk n L a → KOk w0 K w → Q e a w
section
variable {P : Program} {n : Nat} {w0 : World} {L : List (Nat × Value)} {K : List Ent} {Q : Exit → Act → World → Prop} {ops : Array Oper} {l : List Oper}
theorem T.seq {x y : Code} (h : T P n w0 L K x (Exit.then (fun a w => y.wp P Q a w) Q)) : T P n w0 L K (.seq x y) Q := fun a w f k => wp_seq (h a w f k)
theorem T.skip (h : TE n w0 L K .normal Q) : T P n w0 L K .skip Q := fun a w f k => wp_skip (h a w f k)
theorem T.ret (h : TE n w0 L K .ret Q) : T P n w0 L K .ret Q := fun a w f k => wp_ret (h a w f k)
theorem T.exit {i : Nat} (h : TE n w0 L K (.exit i) Q) : T P n w0 L K (.exit i) Q := fun a w f k => wp_exit (h a w f k)
theorem T.block {i : Nat} {c : Code} (h : T P n w0 L K c (Exit.inBlock i Q)) : T P n w0 L K (.block i c) Q := fun a w f k => wp_block (h a w f k)
theorem T.region {i : Nat} (h : TL P n w0 L K l.toArray l Q) : T P n w0 L K (.region i l.toArray false) Q := fun a w f k => wp_region_lit (h a w f k)
theorem T.cond {c : Operand} {x y : Code} {b : Bool} (hc : ev L c = some (.bool b)) (h1 : b = true → T P n w0 L K x Q) (h2 : b = false → T P n w0 L K y Q) : T P n w0 L K (.cond c x y) Q :=
  fun a w f k => wp_cond_split (f.ev hc) (fun e => h1 e a w f k) (fun e => h2 e a w f k)
theorem T.yes {c : Operand} {x y : Code} (hc : ev L c = some (.bool true)) (h1 : T P n w0 L K x Q) : T P n w0 L K (.cond c x y) Q :=
  fun a w f k => wp_cond_true (f.ev hc) (h1 a w f k)
theorem T.no {c : Operand} {x y : Code} (hc : ev L c = some (.bool false)) (h1 : T P n w0 L K y Q) : T P n w0 L K (.cond c x y) Q :=
  fun a w f k => wp_cond_false (f.ev hc) (h1 a w f k)
theorem T.sub {c : Code} {L' : List (Nat × Value)} (s : Sub L L') (h : T P n w0 L' K c Q) : T P n w0 L K c Q := fun a w f k => h a w (f.sub s) k
theorem TL.nil (h : TE n w0 L K .normal Q) : TL P n w0 L K ops [] Q := fun a w f k => h a w f k
theorem TE.next {y : Code} {Q' : Exit → Act → World → Prop} (h : T P n w0 L K y Q) : TE n w0 L K .normal (Exit.then (fun a w => y.wp P Q a w) Q') := h
theorem TE.pass_exit {i : Nat} {nx : Act → World → Prop} (h : TE n w0 L K (.exit i) Q) : TE n w0 L K (.exit i) (Exit.then nx Q) := h
theorem TE.pass_ret {nx : Act → World → Prop} (h : TE n w0 L K .ret Q) : TE n w0 L K .ret (Exit.then nx Q) := h
theorem TE.out {i : Nat} (h : TE n w0 L K .normal Q) : TE n w0 L K .normal (Exit.inBlock i Q) := h
theorem TE.out_ret {i : Nat} (h : TE n w0 L K .ret Q) : TE n w0 L K .ret (Exit.inBlock i Q) := h
theorem TE.here {i : Nat} (h : TE n w0 L K .normal Q) : TE n w0 L K (.exit i) (Exit.inBlock i Q) := fun a w f k => by
  show (if i = i then _ else _)
  rw [if_pos rfl]; exact h a w f k
theorem TE.far {i j : Nat} (hij : Nat.beq i j = false) (h : TE n w0 L K (.exit i) Q) : TE n w0 L K (.exit i) (Exit.inBlock j Q) := fun a w f k => by
  show (if i = j then _ else _)
  rw [if_neg (Nat.ne_of_beq_eq_false hij)]; exact h a w f k
theorem TE.sub {e : Exit} {L' : List (Nat × Value)} (s : Sub L L') (h : TE n w0 L' K e Q) : TE n w0 L K e Q := fun a w f k => h a w (f.sub s) k
/-- a cut: R is what is known where the ways meet -/
theorem T.cut {c : Code} {nx : Act → World → Prop} (L' : List (Nat × Value)) (K' : List Ent) (h : T P n w0 L K c (Exit.then (fun a w => FrOk n L' a ∧ KOk w0 K' w) Q)) (h2 : TE n w0 L' K' .normal (Exit.then nx Q)) : T P n w0 L K c (Exit.then nx Q) :=
  fun a w f k => wp_mono (h a w f k) fun e a w q => by cases e <;> first | exact h2 a w q.1 q.2 | exact q
/-- a cut whose state is one of a family -/
theorem T.cutx {ι : Type} {c : Code} {nx : Act → World → Prop} (R : ι → Prop) (L' : ι → List (Nat × Value)) (K' : ι → List Ent) (h2 : ∀ x, R x → TE n w0 (L' x) (K' x) .normal (Exit.then nx Q))
    (h : T P n w0 L K c (Exit.then (fun a w => ∃ x, R x ∧ FrOk n (L' x) a ∧ KOk w0 (K' x) w) Q)) : T P n w0 L K c (Exit.then nx Q) :=
  fun a w f k => wp_mono (h a w f k) fun e a w q => by cases e <;> first | (obtain ⟨x, r, p⟩ := q; exact h2 x r a w p.1 p.2) | exact q
theorem TE.meet {Q' : Exit → Act → World → Prop} {ι : Type} {R : ι → Prop} {L' : ι → List (Nat × Value)} {K' : ι → List Ent} (x : ι) (r : R x) (s : Sub L (L' x)) (hK : ∀ w, KOk w0 K w → KOk w0 (K' x) w) :
    TE n w0 L K .normal (Exit.then (fun a w => ∃ x, R x ∧ FrOk n (L' x) a ∧ KOk w0 (K' x) w) Q') := fun a w f k => ⟨x, r, f.sub s, hK w k⟩
/-- a loop: the state at its head is one of a family -/
theorem T.loop {ι : Type} {c : Code} (R : ι → Prop) (μ : ι → Nat) (L' : ι → List (Nat × Value)) (K' : ι → List Ent) (x : ι) (r : R x) (s : Sub L (L' x)) (hK : ∀ w, KOk w0 K w → KOk w0 (K' x) w)
    (h : ∀ x, R x → T P n w0 (L' x) (K' x) c (Exit.then (fun a w => ∃ y, (R y ∧ μ y < μ x) ∧ FrOk n (L' y) a ∧ KOk w0 (K' y) w) Q)) : T P n w0 L K (.loop c) Q := by
  exact fun a w f k => wp_loop_ghost (fun m a w => ∃ x, μ x = m ∧ R x ∧ FrOk n (L' x) a ∧ KOk w0 (K' x) w) (μ x) ⟨x, rfl, r, f.sub s, hK w k⟩ fun m a w ⟨y, hy, ry, fy, ky⟩ => by
    refine wp_mono (h y ry a w fy ky) fun e a' w' q => ?_
    cases e <;> first | exact q | skip
    obtain ⟨z, ⟨rz, hz⟩, fz, kz⟩ := q
    exact ⟨μ z, by omega, z, rfl, rz, fz, kz⟩
end
end Go.Proofs.Ytaoepaonjeilgaa
