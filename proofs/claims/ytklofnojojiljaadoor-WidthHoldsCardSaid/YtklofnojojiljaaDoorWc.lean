/-
  The walks of Text and of Fits. Condition: the package-level tables hold what they were laid with.
-/
import Derived.Test.YtklofnojojiljaaDoorWb
namespace Go.Proofs.YtklofnojojiljaaDoor
open Go.RowKit
set_option linter.unusedSimpArgs false
set_option linter.unusedVariables false

/-- a slice of n integers, nil let in -/
def Ints (w : World) (k : IntKind) (A : Option Addr) (n : Nat) (f : Nat → Int) : Prop := 0 < n → ∃ b off, A = some ⟨b, off, none⟩ ∧ b < w.heap.size ∧ ∀ i, i < n → w.cell? ⟨b, off + i, none⟩ = some (.int k (f i))
theorem Ints.below {w w' : World} {k : IntKind} {A : Option Addr} {n : Nat} {f : Nat → Int} (h : Ints w k A n f) (b : Below w.heap.size w w') : Ints w' k A n f := fun hn => by
  obtain ⟨g, off, e, hg, hc⟩ := h hn
  exact ⟨g, off, e, Nat.lt_of_lt_of_le hg b.size, fun i hi => (b.cell (p := ⟨g, off + i, none⟩) hg).trans (hc i hi)⟩
theorem Ints.take {w : World} {k : IntKind} {A : Option Addr} {n : Nat} {f : Nat → Int} (h : Ints w k A n f) {m : Nat} (hm : m ≤ n) : Ints w k A m f := fun hn => by
  obtain ⟨g, off, e, hg, hc⟩ := h (by omega)
  exact ⟨g, off, e, hg, fun i hi => hc i (by omega)⟩
/-- the columns of the first n runes -/
def textN (f : Nat → Int) : Nat → Int
  | 0 => 0
  | n + 1 => textN f n + if 0 < ofV (f n) then ofV (f n) else 0
theorem textN_bd (f : Nat → Int) : ∀ n, 0 ≤ textN f n ∧ textN f n ≤ 2 * (n : Int)
  | 0 => ⟨Int.le_refl _, Int.le_refl _⟩
  | n + 1 => by
    have := textN_bd f n
    have := ofV_bd (f n)
    simp only [textN]
    split <;> omega
theorem textN_mono (f : Nat → Int) (a b : Nat) (h : a ≤ b) : textN f a ≤ textN f b := by
  induction b with
  | zero => simp [show a = 0 by omega]
  | succ b ih =>
    rcases Nat.lt_or_ge b a with h1 | h1
    · rw [show a = b + 1 by omega]; exact Int.le_refl _
    · have := ih h1
      simp only [textN]
      split <;> omega
theorem textN_congr (f g : Nat → Int) (n : Nat) (h : ∀ i, i < n → f i = g i) : textN f n = textN g n := by
  induction n with
  | zero => rfl
  | succ n ih => rw [textN, textN, ih fun i hi => h i (by omega), h n (by omega)]
theorem textN_add (f g : Nat → Int) (n m : Nat) : textN (fun i => if i < n then f i else g (i - n)) (n + m) = textN f n + textN g m := by
  induction m with
  | zero =>
    rw [Nat.add_zero, textN_congr _ f n (fun i hi => by simp [hi])]
    simp [textN]
  | succ m ih =>
    rw [← Nat.add_assoc, textN, ih, textN, if_neg (by omega : ¬ n + m < n), Nat.add_sub_cancel_left]
    omega
/-- how many runes have at most c columns -/
def fitsN (f : Nat → Int) (n : Nat) (c : Int) : Nat := ((List.range n).find? fun i => decide (c < textN f (i + 1))).getD n
theorem fitsN_here (f : Nat → Int) (n : Nat) (c : Int) (k : Nat) (hk : k < n) (h1 : c < textN f (k + 1)) (h2 : ∀ j, j < k → textN f (j + 1) ≤ c) : fitsN f n c = k := by
  have : (List.range n).find? (fun i => decide (c < textN f (i + 1))) = some k := by
    rw [List.find?_range_eq_some]
    exact ⟨by simpa using h1, by simpa using hk, fun j hj => by simpa using h2 j hj⟩
  simp [fitsN, this]
theorem fitsN_all (f : Nat → Int) (n : Nat) (c : Int) (h2 : ∀ j, j < n → textN f (j + 1) ≤ c) : fitsN f n c = n := by
  have : (List.range n).find? (fun i => decide (c < textN f (i + 1))) = none := by
    rw [List.find?_eq_none]
    intro j hj
    simpa using h2 j (by simpa using hj)
  simp [fitsN, this]
theorem fitsN_spec (f : Nat → Int) (n : Nat) (c : Int) : fitsN f n c ≤ n ∧ (∀ j, j < fitsN f n c → textN f (j + 1) ≤ c) ∧ (fitsN f n c < n → c < textN f (fitsN f n c + 1)) := by
  unfold fitsN
  cases h : (List.range n).find? fun i => decide (c < textN f (i + 1)) with
  | none =>
    rw [List.find?_eq_none] at h
    refine ⟨Nat.le_refl _, fun j hj => by simpa using h j (by simpa using hj), fun hh => absurd hh (by simp)⟩
  | some k =>
    rw [List.find?_range_eq_some] at h
    obtain ⟨h1, h2, h3⟩ := h
    simp at h2
    exact ⟨by simp; omega, fun j hj => by simpa using h3 j hj, fun _ => by simpa using h1⟩

set_option maxHeartbeats 1000000 in
theorem text_c (P : Option Addr) (n c : Nat) (f : Nat → Int) (w : World) (L : LaidW w) (hn : n ≤ 100000) (R : Ints w .i32 P n f) :
    Calls Tryd.prog 15 #[.slice P n c] w (Ret (.int .i64 (textN f n)) w) := by
  have HL := Lib.hid L
  have HR := Lib.hid R
  clear L R
  go_enter Tryd.func15, Tryd.ntmps15
  go_wp2
  go_loopw [3, 8] (fun s i wr => ∃ k : Nat, k ≤ n ∧ i = .int .i64 k ∧ s = .int .i64 (textN f k) ∧ Below w.heap.size w wr) (fun _ i _ => n - (intOf i).toNat)
  case atStart => exact ⟨0, Nat.zero_le _, rfl, rfl, Below.refl _ _⟩
  case round =>
    obtain ⟨k, hk, rfl, rfl, hb⟩ := hrel
    have HB := Lib.hid hb
    clear hb
    obtain ⟨t1, t2⟩ := textN_bd f k
    by_cases hlt : k < n
    · obtain ⟨b, off, rfl, hb, hc⟩ := (HR.out.below HB.out) (by omega)
      have hck := hc k hlt
      clear hc
      obtain ⟨o1, o2⟩ := ofV_bd (f k)
      go_wp2_with fail
      refine (of_c _ _ (HL.out.below HB.out)).mono ?_
      rintro e w2 ⟨rfl, hb2⟩
      have HB2 := Lib.hid (bw_call HB.out hb2)
      clear hb2
      go_wp2
      go_roundw
      case rel => exact ⟨k + 1, by omega, by go_num, rfl, HB2.out⟩
      case measure => simp [intOf]; omega
    · obtain rfl : k = n := by omega
      go_wp2
      go_ret
      exact ⟨rfl, HB.out⟩
set_option maxHeartbeats 1000000 in
theorem fits_c (P : Option Addr) (n c : Nat) (f : Nat → Int) (q : Int) (w : World) (L : LaidW w) (hn : n ≤ 100000) (hq : -100000 ≤ q) (hq2 : q ≤ 100000000) (R : Ints w .i32 P n f) :
    Calls Tryd.prog 16 #[.slice P n c, .int .i64 q] w (Ret (.int .i64 (fitsN f n q)) w) := by
  have HL := Lib.hid L
  have HR := Lib.hid R
  clear L R
  go_enter Tryd.func16, Tryd.ntmps16
  go_wp2
  go_loopw [1, 9] (fun s i wr => ∃ k : Nat, k ≤ n ∧ i = .int .i64 k ∧ s = .int .i64 (q - textN f k) ∧ Below w.heap.size w wr ∧ Hid (∀ j, j < k → textN f (j + 1) ≤ q)) (fun _ i _ => n - (intOf i).toNat)
  case atStart => exact ⟨0, Nat.zero_le _, rfl, by simp [textN], Below.refl _ _, Lib.hid fun j hj => by omega⟩
  case round =>
    obtain ⟨k, hk, rfl, rfl, hb, H⟩ := hrel
    have HB := Lib.hid hb
    clear hb
    obtain ⟨t1, t2⟩ := textN_bd f k
    by_cases hlt : k < n
    · obtain ⟨b, off, rfl, hb, hc⟩ := (HR.out.below HB.out) (by omega)
      have hck := hc k hlt
      clear hc
      obtain ⟨o1, o2⟩ := ofV_bd (f k)
      go_wp2_with fail
      refine (of_c _ _ (HL.out.below HB.out)).mono ?_
      rintro e w2 ⟨rfl, hb2⟩
      have HB2 := Lib.hid (bw_call HB.out hb2)
      clear hb2
      obtain ⟨m, hm, hm1, hm2⟩ : ∃ m : Int, (if 0 < ofV (f k) then ofV (f k) else 0) = m ∧ 0 ≤ m ∧ m ≤ 2 := ⟨_, rfl, by split <;> omega, by split <;> omega⟩
      have HT := Lib.hid (show textN f (k + 1) = textN f k + m by rw [← hm]; rfl)
      by_cases hx : q - textN f k - m < 0
      · have HF := Lib.hid (fitsN_here f n q k hlt (by rw [HT.out]; omega) H.out)
        go_wp2
        go_ret
        exact ⟨ret_int (by rw [HF.out]), HB2.out⟩
      · have HX := Lib.hid hx
        go_wp2
        go_roundw
        case rel => exact ⟨k + 1, by omega, by go_num, by rw [HT.out]; go_num, HB2.out, Lib.hid fun j hj => by
          rcases Nat.lt_succ_iff_lt_or_eq.1 hj with h | h
          · exact H.out j h
          · rw [h, HT.out]; have := HX.out; omega⟩
        case measure => simp [intOf]; omega
    · obtain rfl : k = n := by omega
      have HF := Lib.hid (fitsN_all f k q H.out)
      go_wp2
      go_ret
      exact ⟨ret_int (by rw [HF.out]), HB.out⟩
end Go.Proofs.YtklofnojojiljaaDoor
