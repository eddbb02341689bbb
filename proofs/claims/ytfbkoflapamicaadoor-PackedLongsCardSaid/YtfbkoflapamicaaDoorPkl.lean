/-
  Groups of equal cells. No condition.
-/
import Derived.Test.YtfbkoflapamicaaDoorPkd
namespace Go.Proofs.YtfbkoflapamicaaDoor
open Go.RowKit
set_option linter.unusedSimpArgs false
set_option linter.unusedVariables false
/-! ### Groups of equal cells -/
def chn : Option W3 → List Rn → Prop
  | _, [] => True
  | pv, x :: l => 1 ≤ x.cnt ∧ okW x.w = true ∧ pv ≠ some x.w ∧ chn (some x.w) l
def lastW : Option W3 → List Rn → Option W3
  | pv, [] => pv
  | _, x :: l => lastW (some x.w) l
theorem chn_append : ∀ (l1 l2 : List Rn) (pv : Option W3), chn pv (l1 ++ l2) ↔ chn pv l1 ∧ chn (lastW pv l1) l2
  | [], l2, pv => by simp [chn, lastW]
  | x :: l, l2, pv => by
    rw [List.cons_append]
    simp only [chn, lastW, chn_append l l2, and_assoc]
theorem lastW_snoc : ∀ (l : List Rn) (x : Rn) (pv : Option W3), lastW pv (l ++ [x]) = some x.w
  | [], _, _ => rfl
  | _ :: l, x, _ => lastW_snoc l x _
theorem vRf_chn : ∀ (l : List Rn) (s : Int) (pv : Option W3), vRf s pv l = true → chn pv l
  | [], _, _, _ => trivial
  | x :: l, s, pv, h => by
    simp only [vRf, Bool.and_eq_true] at h
    obtain ⟨h1, h2, h3, _, h5⟩ := h
    exact ⟨(of_decide_eq_true h1).1, h3, of_decide_eq_true h2, vRf_chn l _ _ h5⟩
theorem flatR_append (a b : List Rn) : flatR (a ++ b) = flatR a ++ flatR b := by simp [flatR]
theorem flatR_cons (x : Rn) (l : List Rn) : flatR (x :: l) = List.replicate x.cnt.toNat (cellOf x.w) ++ flatR l := by simp [flatR]
theorem bump_snoc : ∀ (l : List Rn) (x : Rn), bump (l ++ [x]) = l ++ [{ x with cnt := x.cnt + 1 }]
  | [], _ => rfl
  | [y], x => rfl
  | y :: z :: l, x => by
    show y :: bump (z :: l ++ [x]) = _
    rw [bump_snoc (z :: l) x]
    rfl
theorem packF_rep (c : Cl) (pre : List Rn) (w : W3) (rest : List Cl) : ∀ (m : Nat) (k : Int), packF (some c) (pre ++ [⟨k, w⟩]) (List.replicate m c ++ rest) = packF (some c) (pre ++ [⟨k + m, w⟩]) rest
  | 0, k => by simp
  | m + 1, k => by
    rw [List.replicate_succ, List.cons_append, packF, gstep, if_pos rfl, bump_snoc, packF_rep c pre w rest m]
    rw [show k + 1 + (m : Int) = k + ((m + 1 : Nat) : Int) by omega]
theorem packF_group {c : Cl} {pv : Option Cl} (hp : pv ≠ some c) (out : List Rn) (k : Nat) (rest : List Cl) : packF pv out (List.replicate (k + 1) c ++ rest) = packF (some c) (out ++ [⟨((k + 1 : Nat) : Int), c.words⟩]) rest := by
  rw [List.replicate_succ, List.cons_append, packF, gstep, if_neg hp, packF_rep]
  rw [show (1 : Int) + (k : Int) = ((k + 1 : Nat) : Int) by omega]
theorem packF_flat : ∀ (l : List Rn) (pv : Option Cl) (out : List Rn), chn (pv.map Cl.words) l → InR l → packF pv out (flatR l) = out ++ l
  | [], pv, out, _, _ => by simp [flatR, packF]
  | x :: l, pv, out, h, hi => by
    obtain ⟨h1, h2, h3, h4⟩ := h
    obtain ⟨hb, _⟩ := cell_back (hi x (List.mem_cons_self ..)) h2
    obtain ⟨k, hk⟩ : ∃ k : Nat, x.cnt = ((k + 1 : Nat) : Int) := ⟨(x.cnt - 1).toNat, by omega⟩
    have hp : pv ≠ some (cellOf x.w) := fun e => h3 (by rw [e, Option.map_some, hb])
    rw [flatR_cons, hk, Int.toNat_natCast, packF_group hp, packF_flat l _ _ (by rw [Option.map_some, hb]; exact h4) fun y hy => hi y (List.mem_cons_of_mem _ hy), hb, List.append_assoc]
    congr 1
    rw [← hk]
    rfl
theorem group_of (c : Cl) : ∀ l : List Cl, ∃ k rest, l = List.replicate k c ++ rest ∧ rest.head? ≠ some c
  | [] => ⟨0, [], rfl, by simp⟩
  | d :: l => by
    by_cases h : d = c
    · subst h
      obtain ⟨k, rest, e, hr⟩ := group_of d l
      exact ⟨k + 1, rest, by rw [List.replicate_succ, List.cons_append, ← e], hr⟩
    · exact ⟨0, d :: l, rfl, by simpa using h⟩
theorem words_inj {c d : Cl} (hc : vCl c = true) (hd : vCl d = true) (ic : InP c.pen) (id : InP d.pen) (h : c.words = d.words) : c = d := by
  rw [← (words_back hc ic).2.2, ← (words_back hd id).2.2, h]
/-- what the runs of valid cells are -/
theorem packF_back : ∀ (m : Nat) (l : List Cl), l.length ≤ m → (∀ c ∈ l, vCl c = true ∧ InP c.pen) → ∀ (pv : Option Cl) (out : List Rn) (s : Int), (∀ c, pv = some c → vCl c = true ∧ InP c.pen) → (∀ c, l.head? = some c → pv ≠ some c) → 0 ≤ s → s + l.length ≤ 100000 →
    ∃ rs, packF pv out l = out ++ rs ∧ flatR rs = l ∧ vRf s (pv.map Cl.words) rs = true ∧ InR rs ∧ rs.length ≤ l.length := by
  intro m
  induction m with
  | zero =>
    intro l hl _ pv out s _ _ _ _
    obtain rfl := List.length_eq_zero_iff.1 (by omega : l.length = 0)
    exact ⟨[], by simp [packF], rfl, rfl, fun x hx => (by cases hx), Nat.le_refl _⟩
  | succ m ih =>
    intro l hl hv pv out s hpv hh hs hsl
    cases l with
    | nil => exact ⟨[], by simp [packF], rfl, rfl, fun x hx => (by cases hx), Nat.le_refl _⟩
    | cons c t =>
      obtain ⟨k, rest, e, hr⟩ := group_of c t
      have hp : pv ≠ some c := hh c rfl
      obtain ⟨vc, ic⟩ := hv c (List.mem_cons_self ..)
      obtain ⟨w1, w2, w3⟩ := words_back vc ic
      have el : c :: t = List.replicate (k + 1) c ++ rest := by rw [List.replicate_succ, List.cons_append, ← e]
      have hlen : (c :: t).length = k + 1 + rest.length := by rw [el, List.length_append, List.length_replicate]
      obtain ⟨rs, g1, g2, g3, g4, g5⟩ := ih rest (by omega) (fun d hd => hv d (by rw [el]; exact List.mem_append_right _ hd)) (some c) (out ++ [⟨((k + 1 : Nat) : Int), c.words⟩]) (s + (k + 1 : Nat)) (fun d hd => by cases hd; exact ⟨vc, ic⟩) (fun d hd e2 => hr (by cases e2; exact hd)) (by omega) (by omega)
      refine ⟨⟨((k + 1 : Nat) : Int), c.words⟩ :: rs, ?_, ?_, ?_, ?_, ?_⟩
      · rw [el, packF_group hp, g1, List.append_assoc]
        rfl
      · rw [flatR_cons, g2, el, Int.toNat_natCast, w3]
      · have hne : pv.map Cl.words ≠ some c.words := by
          intro e2
          cases pv with
          | none => cases e2
          | some d =>
            obtain ⟨vd, id⟩ := hpv d rfl
            simp only [Option.map_some, Option.some.injEq] at e2
            exact hp (by rw [words_inj vd vc id ic e2])
        simp only [vRf, Bool.and_eq_true]
        refine ⟨decide_eq_true ⟨by omega, by omega⟩, decide_eq_true hne, w2, decide_eq_true (by omega), ?_⟩
        exact g3
      · intro y hy
        rcases List.mem_cons.1 hy with rfl | hy
        · exact w1
        · exact g4 y hy
      · rw [List.length_cons]
        omega
theorem packE_ok {l : List Cl} (h : packE l = 0) : l.length ≤ 100000 ∧ l.all vCl = true := by
  unfold packE at h
  split at h
  · omega
  · split at h
    · exact ⟨by omega, by assumption⟩
    · omega
theorem packE_of {l : List Cl} (h : l.length ≤ 100000) (hv : l.all vCl = true) : packE l = 0 := by
  rw [packE, if_neg (by omega), if_pos hv]
/-- the runs of valid cells -/
theorem pack_back {l : List Cl} (h : packE l = 0) (hi : ∀ c ∈ l, InP c.pen) : flatR (packV l) = l ∧ vR (packV l) = true ∧ InR (packV l) ∧ (packV l).length ≤ l.length := by
  obtain ⟨h1, h2⟩ := packE_ok h
  obtain ⟨rs, g1, g2, g3, g4, g5⟩ := packF_back l.length l (Nat.le_refl _) (fun c hc => ⟨List.all_eq_true.1 h2 c hc, hi c hc⟩) none [] 0 (fun c hc => by cases hc) (fun c _ => by simp) (Int.le_refl _) (by omega)
  have e : packV l = rs := by rw [packV, if_pos h, g1]; rfl
  rw [e]
  exact ⟨g2, g3, g4, g5⟩
theorem flatR_ok {l : List Rn} (h : vR l = true) : (flatR l).all vCl = true ∧ (∀ c ∈ flatR l, InP c.pen) ∧ ((flatR l).length : Int) = sumR l := by
  obtain ⟨h1, h2, h3⟩ := vR_parts h
  have hm : ∀ c ∈ flatR l, vCl c = true ∧ InP c.pen := fun c hc => by
    obtain ⟨x, hx, hc⟩ := List.mem_flatMap.1 hc
    obtain rfl := List.eq_of_mem_replicate hc
    exact ⟨(okW_parts (h1 x hx).2).2.2.2, penOf_in⟩
  exact ⟨List.all_eq_true.2 fun c hc => (hm c hc).1, fun c hc => (hm c hc).2, (sum_bd fun x hx => (h1 x hx).1).2.2⟩
theorem join_chn {a b : List Rn} (ha : chn none a) (hb : chn none b) (ia : InR a) (ib : InR b) : chn none (joinL a b) ∧ flatR (joinL a b) = flatR a ++ flatR b ∧ InR (joinL a b) := by
  rcases List.eq_nil_or_concat a with rfl | ⟨a', x, rfl⟩
  · rw [joinL_nil (.inl rfl)]
    exact ⟨hb, rfl, ib⟩
  · cases b with
    | nil =>
      rw [joinL_nil (.inr rfl), List.append_nil]
      exact ⟨ha, by simp [flatR], ia⟩
    | cons y b' =>
      rw [List.concat_eq_append] at ha ia ⊢
      have hx : (a' ++ [x])[(a' ++ [x]).length - 1]? = some x := by simp
      have hy : (y :: b')[0]? = some y := rfl
      obtain ⟨ha1, ha2, ha3, ha4, _⟩ := (chn_append a' [x] none).1 ha
      obtain ⟨hb1, hb2, hb3, hb4⟩ := hb
      have ix := ia x (by simp)
      have iy := ib y (by simp)
      by_cases e : x.w = y.w
      · have ej : joinL (a' ++ [x]) (y :: b') = a' ++ { x with cnt := x.cnt + y.cnt } :: b' := by
          rw [joinL_yes hx hy e]
          simp
        rw [ej]
        refine ⟨(chn_append _ _ _).2 ⟨ha1, by show 1 ≤ x.cnt + y.cnt; omega, ha3, ha4, by rw [e]; exact hb4⟩, ?_, ?_⟩
        · rw [flatR_append, flatR_cons, flatR_append, flatR_cons, flatR_cons, ← e]
          show flatR a' ++ (List.replicate (x.cnt + y.cnt).toNat (cellOf x.w) ++ flatR b') = _
          rw [show (x.cnt + y.cnt).toNat = x.cnt.toNat + y.cnt.toNat by omega, ← List.replicate_append_replicate, show flatR [] = [] from rfl, List.append_nil, List.append_assoc, List.append_assoc]
        · intro z hz
          rcases List.mem_append.1 hz with hz | hz
          · exact ia z (List.mem_append_left _ hz)
          · rcases List.mem_cons.1 hz with rfl | hz
            · exact ix
            · exact ib z (List.mem_cons_of_mem _ hz)
      · rw [joinL_no hx hy e]
        refine ⟨(chn_append _ _ _).2 ⟨ha, hb1, hb2, by rw [lastW_snoc]; simpa using e, hb4⟩, flatR_append _ _, ?_⟩
        intro z hz
        rcases List.mem_append.1 hz with hz | hz
        · exact ia z hz
        · exact ib z hz
/-- the runs of both are the runs of all their cells -/
theorem join_pack {a b : List Rn} (ha : vR a = true) (hb : vR b = true) (ia : InR a) (ib : InR b) (hs : sumR a + sumR b ≤ 100000) : joinE a b = 0 ∧ joinV a b = packV (flatR a ++ flatR b) ∧ packE (flatR a ++ flatR b) = 0 := by
  obtain ⟨g1, g2, g3⟩ := join_chn (vRf_chn _ _ _ ha) (vRf_chn _ _ _ hb) ia ib
  have he : joinE a b = 0 := by rw [joinE, ha, hb, Bool.and_self, if_pos rfl, if_neg (by omega)]
  obtain ⟨a1, a2, a3⟩ := flatR_ok ha
  obtain ⟨b1, b2, b3⟩ := flatR_ok hb
  have hp : packE (flatR a ++ flatR b) = 0 := packE_of (by rw [List.length_append]; omega) (by rw [List.all_append, a1, b1]; rfl)
  refine ⟨he, ?_, hp⟩
  rw [joinV, if_pos he, packV, if_pos hp, ← g2, packF_flat _ none [] g1 g3]
  rfl
/-! ### What the laws ask -/
def fewB (x : Rn) : Bool := decide (60 < x.cnt) && decide (x.cnt < 99990)
def fewR (rs : List Rn) : Bool := (rs.take 11).all (fun x => !fewB x) && decide (rs.length ≤ 10)
theorem packs_ok (l : List Cl) : packsV l (packE l) (packV l) = true := by simp [packsV]
theorem count_len {rs : List Rn} (h : vR rs = true) : countV rs = ((flatR rs).length : Int) := by
  rw [countV, if_pos h, (flatR_ok h).2.2]
theorem unpacks_bad {rs : List Rn} (h : vR rs = false) : unpacksV rs 12 [] = true := by rw [unpacksV, unpackV, unpackE, h]; rfl
theorem unpacks_ok {rs : List Rn} (h : vR rs = true) : unpacksV rs 0 (flatR rs) = true := by rw [unpacksV, unpackV, unpackE, h]; simp
theorem joins_bad {a b : List Rn} (h : vR a = false ∨ vR b = false) : joinsV a b 12 [] = true := by
  have he : joinE a b = 12 := by
    rcases h with h | h
    · rw [joinE, h]; rfl
    · rw [joinE, h, Bool.and_false]; rfl
  rw [joinsV, joinV, he]
  rfl
theorem joins_long {a b : List Rn} (ha : vR a = true) (hb : vR b = true) (h : 100000 < sumR a + sumR b) : joinsV a b 5 [] = true := by
  have he : joinE a b = 5 := by rw [joinE, ha, hb]; exact if_pos h
  rw [joinsV, joinV, he]
  rfl
theorem joins_ok {a b : List Rn} (ha : vR a = true) (hb : vR b = true) (ia : InR a) (ib : InR b) (hs : sumR a + sumR b ≤ 100000) : joinsV a b 0 (packV (flatR a ++ flatR b)) = true := by
  obtain ⟨h1, h2, _⟩ := join_pack ha hb ia ib hs
  rw [joinsV, h1, h2]
  simp
theorem unpack_pack {l : List Cl} (h : packE l = 0) (hi : ∀ c ∈ l, InP c.pen) : unpacksV (packV l) 0 l = true := by
  obtain ⟨h1, h2, _⟩ := pack_back h hi
  have := unpacks_ok h2
  rwa [h1] at this
theorem join_packs {a b : List Cl} (ha : packE a = 0) (hb : packE b = 0) (ia : ∀ c ∈ a, InP c.pen) (ib : ∀ c ∈ b, InP c.pen) (hn : a.length + b.length ≤ 100000) : joinsV (packV a) (packV b) 0 (packV (a ++ b)) = true := by
  obtain ⟨a1, a2, a3, _⟩ := pack_back ha ia
  obtain ⟨b1, b2, b3, _⟩ := pack_back hb ib
  have ea := (flatR_ok a2).2.2
  have eb := (flatR_ok b2).2.2
  rw [a1] at ea
  rw [b1] at eb
  have := joins_ok a2 b2 a3 b3 (by omega)
  rwa [a1, b1] at this
theorem packE_both {a b : List Cl} (hn : a.length + b.length ≤ 100000) : (packE (a ++ b) = 0) ↔ (packE a = 0 ∧ packE b = 0) := by
  constructor
  · intro h
    have h2 := (packE_ok h).2
    rw [List.all_append, Bool.and_eq_true] at h2
    exact ⟨packE_of (by omega) h2.1, packE_of (by omega) h2.2⟩
  · rintro ⟨h1, h2⟩
    exact packE_of (by rw [List.length_append]; exact hn) (by rw [List.all_append, (packE_ok h1).2, (packE_ok h2).2]; rfl)
theorem prevC_succ {l : List Cl} {i : Nat} {c : Cl} (h : l[i]? = some c) : prevC l (i + 1) = some c := by simp [prevC, h]
/-- a group that ends -/
theorem group_step {xs : List Cl} {i j : Nat} {c : Cl} {out : List Rn} (hx : xs[i]? = some c) (hij : i < j) (hg : xs.drop i = List.replicate (j - i) c ++ xs.drop j) (hp : prevC xs i ≠ some c) (hq : packF (prevC xs i) out (xs.drop i) = packF none [] xs) :
    packF (prevC xs j) (out ++ [⟨(j : Int) - (i : Int), c.words⟩]) (xs.drop j) = packF none [] xs ∧ prevC xs j = some c := by
  obtain ⟨k, rfl⟩ : ∃ k, j = i + (k + 1) := ⟨j - i - 1, by omega⟩
  have hj : xs[i + k]? = some c := by
    have h1 : (xs.drop i)[k]? = some c := by
      rw [hg, List.getElem?_append_left (by simp <;> omega)]
      simp [List.getElem?_replicate] <;> omega
    rwa [List.getElem?_drop] at h1
  have e : prevC xs (i + (k + 1)) = some c := prevC_succ hj
  refine ⟨?_, e⟩
  rw [e, ← hq, hg, show i + (k + 1) - i = k + 1 by omega, packF_group hp]
  rw [show ((i + (k + 1) : Nat) : Int) - (i : Int) = ((k + 1 : Nat) : Int) by omega]
theorem count_un (rs : List Rn) : countV rs = ((unpackV rs).length : Int) := by
  cases h : vR rs with
  | true => rw [count_len h, unpackV, if_pos h]
  | false => rw [countV, unpackV, h]; rfl
theorem words_eq {c d : Cl} (hc : wordsE c = 0) (hd : wordsE d = 0) (ic : InP c.pen) (id : InP d.pen) : (decide (wordsV c = wordsV d) != decide (c = d)) = false := by
  have vc : vCl c = true := by cases h : vCl c <;> simp_all [wordsE]
  have vd : vCl d = true := by cases h : vCl d <;> simp_all [wordsE]
  rw [wordsV, wordsV, if_pos vc, if_pos vd]
  by_cases e : c = d
  · subst e; simp
  · have : c.words ≠ d.words := fun h => e (words_inj vc vd ic id h)
    simp [e, this]
theorem bne_of {x y z : Int} {b : Bool} (h : (z = 0) ↔ (x = 0 ∧ y = 0)) (hb : b = ((x == 0) && (y == 0))) : (b != (z == 0)) = false := by
  have e : ((x == 0) && (y == 0)) = (z == 0) := by
    rw [Bool.eq_iff_iff]
    simp [h]
  rw [hb, e]
  simp
end Go.Proofs.YtfbkoflapamicaaDoor
