/-
  The chapter's examples hold. Condition: the package-level table holds what it was laid with.
-/
import Derived.Test.YtgelpgagbokmdaaDoorWd
import Derived.Test.YtgelpgagbokmdaaDoorWe
namespace Go.Proofs.YtgelpgagbokmdaaDoor
open Go.RowKit
set_option linter.unusedSimpArgs false
set_option linter.unusedVariables false

theorem validColor_n (k i r g b : Int) (v : Bool) (w : World) (q : vC k i r g b = v) : Calls Tryd.prog 8 #[.agg #[.int .i64 k, .int .u8 i, .int .u8 r, .int .u8 g, .int .u8 b]] w (Ret (.bool v) w) := by
  subst q
  exact validColor_c k i r g b w
/-- all parts of a pen are bytes -/
def Bytes (k1 i1 r1 g1 b1 k2 i2 r2 g2 b2 f : Int) : Prop := ((0 ≤ i1 ∧ i1 ≤ 255) ∧ (0 ≤ r1 ∧ r1 ≤ 255) ∧ (0 ≤ g1 ∧ g1 ≤ 255) ∧ (0 ≤ b1 ∧ b1 ≤ 255)) ∧ ((0 ≤ i2 ∧ i2 ≤ 255) ∧ (0 ≤ r2 ∧ r2 ≤ 255) ∧ (0 ≤ g2 ∧ g2 ≤ 255) ∧ (0 ≤ b2 ∧ b2 ≤ 255)) ∧ (0 ≤ f ∧ f ≤ 255)
theorem pack_n (k1 i1 r1 g1 b1 k2 i2 r2 g2 b2 f x : Int) (w : World) (hv : vP k1 i1 r1 g1 b1 k2 i2 r2 g2 b2 f = true) (hB : Bytes k1 i1 r1 g1 b1 k2 i2 r2 g2 b2 f) (q : wP k1 i1 r1 g1 b1 k2 i2 r2 g2 b2 f = x) : Calls Tryd.prog 24 #[.agg #[.int .i64 k1, .int .u8 i1, .int .u8 r1, .int .u8 g1, .int .u8 b1, .int .i64 k2, .int .u8 i2, .int .u8 r2, .int .u8 g2, .int .u8 b2, .int .u8 f]] w (Ret (.tuple #[.int .u64 x, .int .i64 0]) w) := by
  subst q
  obtain ⟨⟨a1, a2, a3, a4⟩, ⟨c1, c2, c3, c4⟩, d⟩ := hB
  exact pack_yes k1 i1 r1 g1 b1 k2 i2 r2 g2 b2 f w hv a1 a2 a3 a4 c1 c2 c3 c4 d
theorem with_n (k1 i1 r1 g1 b1 k2 i2 r2 g2 b2 f q v : Int) (w : World) (hv : vP k1 i1 r1 g1 b1 k2 i2 r2 g2 b2 f = true) (ho : oneB q = true) (hq0 : 0 ≤ q) (hq1 : q ≤ 255) (hf0 : 0 ≤ f) (hf1 : f ≤ 255) (e : orF f q = v) :
    Calls Tryd.prog 26 #[.agg #[.int .i64 k1, .int .u8 i1, .int .u8 r1, .int .u8 g1, .int .u8 b1, .int .i64 k2, .int .u8 i2, .int .u8 r2, .int .u8 g2, .int .u8 b2, .int .u8 f], .int .u8 q, .bool true] w (Ret (.tuple #[.agg #[.int .i64 k1, .int .u8 i1, .int .u8 r1, .int .u8 g1, .int .u8 b1, .int .i64 k2, .int .u8 i2, .int .u8 r2, .int .u8 g2, .int .u8 b2, .int .u8 v], .int .i64 0]) w) := by
  subst e
  exact with_yes k1 i1 r1 g1 b1 k2 i2 r2 g2 b2 f q w hv ho hq0 hq1 hf0 hf1
theorem has_n (k1 i1 r1 g1 b1 k2 i2 r2 g2 b2 f q : Int) (v : Bool) (w : World) (ho : oneB q = true) (hq0 : 0 ≤ q) (hq1 : q ≤ 255) (e : (bits .and .u8 f q != 0) = v) : Calls Tryd.prog 27 #[.agg #[.int .i64 k1, .int .u8 i1, .int .u8 r1, .int .u8 g1, .int .u8 b1, .int .i64 k2, .int .u8 i2, .int .u8 r2, .int .u8 g2, .int .u8 b2, .int .u8 f], .int .u8 q] w (Ret (.bool v) w) := by
  subst e
  exact has_c k1 i1 r1 g1 b1 k2 i2 r2 g2 b2 f q w ho hq0 hq1
theorem word_n (k : Nat) (q : Int) (s : ByteArray) (w : World) (hk : k < 8) (hq : flagF k = q) (hs : s = wordB k) (L : Laid w) : Calls Tryd.prog 32 #[.int .u8 q] w (Ret (.tuple #[.string s, .int .i64 0]) w) := by
  subst hq hs
  exact word_yes k hk w L
theorem byword_n (k : Nat) (q : Int) (s : ByteArray) (w : World) (hk : k < 8) (hq : flagF k = q) (hs : s = wordB k) (L : Laid w) : Calls Tryd.prog 31 #[.string s] w (fun e w' => e = .returned (.tuple #[.int .u8 q, .int .i64 0]) ∧ w = w') := by
  subst hq
  exact byword_yes k hk s w hs L

set_option maxRecDepth 100000 in
set_option maxHeartbeats 16000000 in
theorem known_ok (w : World) (L : Laid w) : Calls Tryd.prog 13 #[] w (Ret (.bool true) w) := by
  go_enter Tryd.func13, Tryd.ntmps13
  go_wp2_with fail
  refine (pindex_c 7 _).mono ?_
  rintro e w1 ⟨rfl, hb_w1⟩
  have hz_w1 := hb_w1.size
  have B0_w1 := hb_w1.block (w.heap.size) (by first | (simp only [hs_alloc, hs_set, hs_drew]; omega) | omega)
  (try simp only [hs_alloc, hs_set, hs_drew] at hz_w1)
  simp (disch := omega) only [hp_alloc, hp_set, hp_drew, hs_alloc, hs_set, hs_drew, if_pos, if_neg, ↓reduceIte, Option.map_some, putO] at B0_w1
  obtain ⟨c0_w1, f0_w1⟩ := blk B0_w1
  have H0_w1 := Lib.hid B0_w1
  clear B0_w1
  have z0_w1 : w.heap.size < w1.heap.size := by omega
  have b_w1 : Below w.heap.size w w1 := bw_call (by repeat (first | with_reducible refine bw_set ?_ (by omega) _ | with_reducible refine bw_alloc ?_ _ | with_reducible refine bw_drew ?_ | with_reducible assumption | with_reducible exact Below.refl _ _)) hb_w1
  clear hb_w1
  go_wp2_with fail
  refine (valid_n 0 0 0 0 0 0 0 0 0 0 0 true _ (by decide +kernel)).mono ?_
  rintro e w2 ⟨rfl, hb_w2⟩
  have hz_w2 := hb_w2.size
  have B0_w2 := hb_w2.block (w.heap.size) (by first | (simp only [hs_alloc, hs_set, hs_drew]; omega) | omega)
  have B1_w2 := hb_w2.block (w1.heap.size) (by first | (simp only [hs_alloc, hs_set, hs_drew]; omega) | omega)
  (try simp only [hs_alloc, hs_set, hs_drew] at hz_w2)
  simp (disch := omega) only [hp_alloc, hp_set, hp_drew, hs_alloc, hs_set, hs_drew, if_pos, if_neg, ↓reduceIte, Option.map_some, putO, H0_w1.out] at B0_w2 B1_w2
  clear c0_w1 f0_w1 z0_w1
  obtain ⟨c0_w2, f0_w2⟩ := blk B0_w2
  have H0_w2 := Lib.hid B0_w2
  clear B0_w2
  have z0_w2 : w.heap.size < w2.heap.size := by omega
  obtain ⟨c1_w2, f1_w2⟩ := blk B1_w2
  have H1_w2 := Lib.hid B1_w2
  clear B1_w2
  have z1_w2 : w1.heap.size < w2.heap.size := by omega
  have b_w2 : Below w.heap.size w w2 := bw_call (by repeat (first | with_reducible refine bw_set ?_ (by omega) _ | with_reducible refine bw_alloc ?_ _ | with_reducible refine bw_drew ?_ | with_reducible assumption | with_reducible exact Below.refl _ _)) hb_w2
  clear hb_w2
  go_wp2_with fail
  refine (validColor_n 0 0 0 0 1 false _ (by decide +kernel)).mono ?_
  rintro e w3 ⟨rfl, hb_w3⟩
  have hz_w3 := hb_w3.size
  have B0_w3 := hb_w3.block (w.heap.size) (by first | (simp only [hs_alloc, hs_set, hs_drew]; omega) | omega)
  have B1_w3 := hb_w3.block (w1.heap.size) (by first | (simp only [hs_alloc, hs_set, hs_drew]; omega) | omega)
  (try simp only [hs_alloc, hs_set, hs_drew] at hz_w3)
  simp (disch := omega) only [hp_alloc, hp_set, hp_drew, hs_alloc, hs_set, hs_drew, if_pos, if_neg, ↓reduceIte, Option.map_some, putO, H0_w2.out, H1_w2.out] at B0_w3 B1_w3
  clear c0_w2 f0_w2 z0_w2 c1_w2 f1_w2 z1_w2
  obtain ⟨c0_w3, f0_w3⟩ := blk B0_w3
  have H0_w3 := Lib.hid B0_w3
  clear B0_w3
  have z0_w3 : w.heap.size < w3.heap.size := by omega
  obtain ⟨c1_w3, f1_w3⟩ := blk B1_w3
  have H1_w3 := Lib.hid B1_w3
  clear B1_w3
  have z1_w3 : w1.heap.size < w3.heap.size := by omega
  have b_w3 : Below w.heap.size w w3 := bw_call (by repeat (first | with_reducible refine bw_set ?_ (by omega) _ | with_reducible refine bw_alloc ?_ _ | with_reducible refine bw_drew ?_ | with_reducible assumption | with_reducible exact Below.refl _ _)) hb_w3
  clear hb_w3
  go_wp2_with fail
  refine (validColor_n 3 0 0 0 0 false _ (by decide +kernel)).mono ?_
  rintro e w4 ⟨rfl, hb_w4⟩
  have hz_w4 := hb_w4.size
  have B0_w4 := hb_w4.block (w.heap.size) (by first | (simp only [hs_alloc, hs_set, hs_drew]; omega) | omega)
  have B1_w4 := hb_w4.block (w1.heap.size) (by first | (simp only [hs_alloc, hs_set, hs_drew]; omega) | omega)
  (try simp only [hs_alloc, hs_set, hs_drew] at hz_w4)
  simp (disch := omega) only [hp_alloc, hp_set, hp_drew, hs_alloc, hs_set, hs_drew, if_pos, if_neg, ↓reduceIte, Option.map_some, putO, H0_w3.out, H1_w3.out] at B0_w4 B1_w4
  clear c0_w3 f0_w3 z0_w3 c1_w3 f1_w3 z1_w3
  obtain ⟨c0_w4, f0_w4⟩ := blk B0_w4
  have H0_w4 := Lib.hid B0_w4
  clear B0_w4
  have z0_w4 : w.heap.size < w4.heap.size := by omega
  obtain ⟨c1_w4, f1_w4⟩ := blk B1_w4
  have H1_w4 := Lib.hid B1_w4
  clear B1_w4
  have z1_w4 : w1.heap.size < w4.heap.size := by omega
  have b_w4 : Below w.heap.size w w4 := bw_call (by repeat (first | with_reducible refine bw_set ?_ (by omega) _ | with_reducible refine bw_alloc ?_ _ | with_reducible refine bw_drew ?_ | with_reducible assumption | with_reducible exact Below.refl _ _)) hb_w4
  clear hb_w4
  go_wp2_with fail
  refine (pindex_c 7 _).mono ?_
  rintro e w5 ⟨rfl, hb_w5⟩
  have hz_w5 := hb_w5.size
  have B0_w5 := hb_w5.block (w.heap.size) (by first | (simp only [hs_alloc, hs_set, hs_drew]; omega) | omega)
  have B1_w5 := hb_w5.block (w1.heap.size) (by first | (simp only [hs_alloc, hs_set, hs_drew]; omega) | omega)
  (try simp only [hs_alloc, hs_set, hs_drew] at hz_w5)
  simp (disch := omega) only [hp_alloc, hp_set, hp_drew, hs_alloc, hs_set, hs_drew, if_pos, if_neg, ↓reduceIte, Option.map_some, putO, H0_w4.out, H1_w4.out] at B0_w5 B1_w5
  clear c0_w4 f0_w4 z0_w4 c1_w4 f1_w4 z1_w4
  obtain ⟨c0_w5, f0_w5⟩ := blk B0_w5
  have H0_w5 := Lib.hid B0_w5
  clear B0_w5
  have z0_w5 : w.heap.size < w5.heap.size := by omega
  obtain ⟨c1_w5, f1_w5⟩ := blk B1_w5
  have H1_w5 := Lib.hid B1_w5
  clear B1_w5
  have z1_w5 : w1.heap.size < w5.heap.size := by omega
  have b_w5 : Below w.heap.size w w5 := bw_call (by repeat (first | with_reducible refine bw_set ?_ (by omega) _ | with_reducible refine bw_alloc ?_ _ | with_reducible refine bw_drew ?_ | with_reducible assumption | with_reducible exact Below.refl _ _)) hb_w5
  clear hb_w5
  go_wp2_with fail
  refine (validColor_n 1 7 0 0 0 true _ (by decide +kernel)).mono ?_
  rintro e w6 ⟨rfl, hb_w6⟩
  have hz_w6 := hb_w6.size
  have B0_w6 := hb_w6.block (w.heap.size) (by first | (simp only [hs_alloc, hs_set, hs_drew]; omega) | omega)
  have B1_w6 := hb_w6.block (w1.heap.size) (by first | (simp only [hs_alloc, hs_set, hs_drew]; omega) | omega)
  (try simp only [hs_alloc, hs_set, hs_drew] at hz_w6)
  simp (disch := omega) only [hp_alloc, hp_set, hp_drew, hs_alloc, hs_set, hs_drew, if_pos, if_neg, ↓reduceIte, Option.map_some, putO, H0_w5.out, H1_w5.out] at B0_w6 B1_w6
  clear c0_w5 f0_w5 z0_w5 c1_w5 f1_w5 z1_w5
  obtain ⟨c0_w6, f0_w6⟩ := blk B0_w6
  have H0_w6 := Lib.hid B0_w6
  clear B0_w6
  have z0_w6 : w.heap.size < w6.heap.size := by omega
  obtain ⟨c1_w6, f1_w6⟩ := blk B1_w6
  have H1_w6 := Lib.hid B1_w6
  clear B1_w6
  have z1_w6 : w1.heap.size < w6.heap.size := by omega
  have b_w6 : Below w.heap.size w w6 := bw_call (by repeat (first | with_reducible refine bw_set ?_ (by omega) _ | with_reducible refine bw_alloc ?_ _ | with_reducible refine bw_drew ?_ | with_reducible assumption | with_reducible exact Below.refl _ _)) hb_w6
  clear hb_w6
  go_wp2_with fail
  refine (validColor_n 1 0 1 0 0 false _ (by decide +kernel)).mono ?_
  rintro e w7 ⟨rfl, hb_w7⟩
  have hz_w7 := hb_w7.size
  have B0_w7 := hb_w7.block (w.heap.size) (by first | (simp only [hs_alloc, hs_set, hs_drew]; omega) | omega)
  have B1_w7 := hb_w7.block (w1.heap.size) (by first | (simp only [hs_alloc, hs_set, hs_drew]; omega) | omega)
  (try simp only [hs_alloc, hs_set, hs_drew] at hz_w7)
  simp (disch := omega) only [hp_alloc, hp_set, hp_drew, hs_alloc, hs_set, hs_drew, if_pos, if_neg, ↓reduceIte, Option.map_some, putO, H0_w6.out, H1_w6.out] at B0_w7 B1_w7
  clear c0_w6 f0_w6 z0_w6 c1_w6 f1_w6 z1_w6
  obtain ⟨c0_w7, f0_w7⟩ := blk B0_w7
  have H0_w7 := Lib.hid B0_w7
  clear B0_w7
  have z0_w7 : w.heap.size < w7.heap.size := by omega
  obtain ⟨c1_w7, f1_w7⟩ := blk B1_w7
  have H1_w7 := Lib.hid B1_w7
  clear B1_w7
  have z1_w7 : w1.heap.size < w7.heap.size := by omega
  have b_w7 : Below w.heap.size w w7 := bw_call (by repeat (first | with_reducible refine bw_set ?_ (by omega) _ | with_reducible refine bw_alloc ?_ _ | with_reducible refine bw_drew ?_ | with_reducible assumption | with_reducible exact Below.refl _ _)) hb_w7
  clear hb_w7
  go_wp2_with fail
  refine (packs_of 0 0 0 0 0 0 0 0 0 0 0 0 0 _ (Lib.hid fun w => pack_n 0 0 0 0 0 0 0 0 0 0 0 0 w (by decide +kernel) (by unfold Bytes; decide +kernel) (by decide +kernel))).mono ?_
  rintro e w8 ⟨rfl, hb_w8⟩
  have hz_w8 := hb_w8.size
  have B0_w8 := hb_w8.block (w.heap.size) (by first | (simp only [hs_alloc, hs_set, hs_drew]; omega) | omega)
  have B1_w8 := hb_w8.block (w1.heap.size) (by first | (simp only [hs_alloc, hs_set, hs_drew]; omega) | omega)
  (try simp only [hs_alloc, hs_set, hs_drew] at hz_w8)
  simp (disch := omega) only [hp_alloc, hp_set, hp_drew, hs_alloc, hs_set, hs_drew, if_pos, if_neg, ↓reduceIte, Option.map_some, putO, H0_w7.out, H1_w7.out] at B0_w8 B1_w8
  clear c0_w7 f0_w7 z0_w7 c1_w7 f1_w7 z1_w7
  obtain ⟨c0_w8, f0_w8⟩ := blk B0_w8
  have H0_w8 := Lib.hid B0_w8
  clear B0_w8
  have z0_w8 : w.heap.size < w8.heap.size := by omega
  obtain ⟨c1_w8, f1_w8⟩ := blk B1_w8
  have H1_w8 := Lib.hid B1_w8
  clear B1_w8
  have z1_w8 : w1.heap.size < w8.heap.size := by omega
  have b_w8 : Below w.heap.size w w8 := bw_call (by repeat (first | with_reducible refine bw_set ?_ (by omega) _ | with_reducible refine bw_alloc ?_ _ | with_reducible refine bw_drew ?_ | with_reducible assumption | with_reducible exact Below.refl _ _)) hb_w8
  clear hb_w8
  go_wp2_with fail
  refine (packs_of 1 7 0 0 0 0 0 0 0 0 0 16777223 0 _ (Lib.hid fun w => pack_n 1 7 0 0 0 0 0 0 0 0 0 16777223 w (by decide +kernel) (by unfold Bytes; decide +kernel) (by decide +kernel))).mono ?_
  rintro e w9 ⟨rfl, hb_w9⟩
  have hz_w9 := hb_w9.size
  have B0_w9 := hb_w9.block (w.heap.size) (by first | (simp only [hs_alloc, hs_set, hs_drew]; omega) | omega)
  have B1_w9 := hb_w9.block (w1.heap.size) (by first | (simp only [hs_alloc, hs_set, hs_drew]; omega) | omega)
  (try simp only [hs_alloc, hs_set, hs_drew] at hz_w9)
  simp (disch := omega) only [hp_alloc, hp_set, hp_drew, hs_alloc, hs_set, hs_drew, if_pos, if_neg, ↓reduceIte, Option.map_some, putO, H0_w8.out, H1_w8.out] at B0_w9 B1_w9
  clear c0_w8 f0_w8 z0_w8 c1_w8 f1_w8 z1_w8
  obtain ⟨c0_w9, f0_w9⟩ := blk B0_w9
  have H0_w9 := Lib.hid B0_w9
  clear B0_w9
  have z0_w9 : w.heap.size < w9.heap.size := by omega
  obtain ⟨c1_w9, f1_w9⟩ := blk B1_w9
  have H1_w9 := Lib.hid B1_w9
  clear B1_w9
  have z1_w9 : w1.heap.size < w9.heap.size := by omega
  have b_w9 : Below w.heap.size w w9 := bw_call (by repeat (first | with_reducible refine bw_set ?_ (by omega) _ | with_reducible refine bw_alloc ?_ _ | with_reducible refine bw_drew ?_ | with_reducible assumption | with_reducible exact Below.refl _ _)) hb_w9
  clear hb_w9
  go_wp2_with fail
  refine (ptrue_c 1 2 3 _).mono ?_
  rintro e w10 ⟨rfl, hb_w10⟩
  have hz_w10 := hb_w10.size
  have B0_w10 := hb_w10.block (w.heap.size) (by first | (simp only [hs_alloc, hs_set, hs_drew]; omega) | omega)
  have B1_w10 := hb_w10.block (w1.heap.size) (by first | (simp only [hs_alloc, hs_set, hs_drew]; omega) | omega)
  (try simp only [hs_alloc, hs_set, hs_drew] at hz_w10)
  simp (disch := omega) only [hp_alloc, hp_set, hp_drew, hs_alloc, hs_set, hs_drew, if_pos, if_neg, ↓reduceIte, Option.map_some, putO, H0_w9.out, H1_w9.out] at B0_w10 B1_w10
  clear c0_w9 f0_w9 z0_w9 c1_w9 f1_w9 z1_w9
  obtain ⟨c0_w10, f0_w10⟩ := blk B0_w10
  have H0_w10 := Lib.hid B0_w10
  clear B0_w10
  have z0_w10 : w.heap.size < w10.heap.size := by omega
  obtain ⟨c1_w10, f1_w10⟩ := blk B1_w10
  have H1_w10 := Lib.hid B1_w10
  clear B1_w10
  have z1_w10 : w1.heap.size < w10.heap.size := by omega
  have b_w10 : Below w.heap.size w w10 := bw_call (by repeat (first | with_reducible refine bw_set ?_ (by omega) _ | with_reducible refine bw_alloc ?_ _ | with_reducible refine bw_drew ?_ | with_reducible assumption | with_reducible exact Below.refl _ _)) hb_w10
  clear hb_w10
  go_wp2_with fail
  refine (packs_of 0 0 0 0 0 2 0 1 2 3 1 6759832048631808 0 _ (Lib.hid fun w => pack_n 0 0 0 0 0 2 0 1 2 3 1 6759832048631808 w (by decide +kernel) (by unfold Bytes; decide +kernel) (by decide +kernel))).mono ?_
  rintro e w11 ⟨rfl, hb_w11⟩
  have hz_w11 := hb_w11.size
  have B0_w11 := hb_w11.block (w.heap.size) (by first | (simp only [hs_alloc, hs_set, hs_drew]; omega) | omega)
  have B1_w11 := hb_w11.block (w1.heap.size) (by first | (simp only [hs_alloc, hs_set, hs_drew]; omega) | omega)
  (try simp only [hs_alloc, hs_set, hs_drew] at hz_w11)
  simp (disch := omega) only [hp_alloc, hp_set, hp_drew, hs_alloc, hs_set, hs_drew, if_pos, if_neg, ↓reduceIte, Option.map_some, putO, H0_w10.out, H1_w10.out] at B0_w11 B1_w11
  clear c0_w10 f0_w10 z0_w10 c1_w10 f1_w10 z1_w10
  obtain ⟨c0_w11, f0_w11⟩ := blk B0_w11
  have H0_w11 := Lib.hid B0_w11
  clear B0_w11
  have z0_w11 : w.heap.size < w11.heap.size := by omega
  obtain ⟨c1_w11, f1_w11⟩ := blk B1_w11
  have H1_w11 := Lib.hid B1_w11
  clear B1_w11
  have z1_w11 : w1.heap.size < w11.heap.size := by omega
  have b_w11 : Below w.heap.size w w11 := bw_call (by repeat (first | with_reducible refine bw_set ?_ (by omega) _ | with_reducible refine bw_alloc ?_ _ | with_reducible refine bw_drew ?_ | with_reducible assumption | with_reducible exact Below.refl _ _)) hb_w11
  clear hb_w11
  go_wp2_with fail
  refine (packs_of 3 0 0 0 0 0 0 0 0 0 0 0 2 _ (Lib.hid fun w => pack_no 3 0 0 0 0 0 0 0 0 0 0 w (by decide +kernel))).mono ?_
  rintro e w12 ⟨rfl, hb_w12⟩
  have hz_w12 := hb_w12.size
  have B0_w12 := hb_w12.block (w.heap.size) (by first | (simp only [hs_alloc, hs_set, hs_drew]; omega) | omega)
  have B1_w12 := hb_w12.block (w1.heap.size) (by first | (simp only [hs_alloc, hs_set, hs_drew]; omega) | omega)
  (try simp only [hs_alloc, hs_set, hs_drew] at hz_w12)
  simp (disch := omega) only [hp_alloc, hp_set, hp_drew, hs_alloc, hs_set, hs_drew, if_pos, if_neg, ↓reduceIte, Option.map_some, putO, H0_w11.out, H1_w11.out] at B0_w12 B1_w12
  clear c0_w11 f0_w11 z0_w11 c1_w11 f1_w11 z1_w11
  obtain ⟨c0_w12, f0_w12⟩ := blk B0_w12
  have H0_w12 := Lib.hid B0_w12
  clear B0_w12
  have z0_w12 : w.heap.size < w12.heap.size := by omega
  obtain ⟨c1_w12, f1_w12⟩ := blk B1_w12
  have H1_w12 := Lib.hid B1_w12
  clear B1_w12
  have z1_w12 : w1.heap.size < w12.heap.size := by omega
  have b_w12 : Below w.heap.size w w12 := bw_call (by repeat (first | with_reducible refine bw_set ?_ (by omega) _ | with_reducible refine bw_alloc ?_ _ | with_reducible refine bw_drew ?_ | with_reducible assumption | with_reducible exact Below.refl _ _)) hb_w12
  clear hb_w12
  go_wp2_with fail
  refine (unpacks_of 1 7 0 0 0 0 0 0 0 0 0 16777223 0 _ (Lib.hid fun w => unpack_yes 16777223 1 7 0 0 0 0 0 0 0 0 0 w (by decide +kernel) (by decide +kernel) (by unfold Parts; decide +kernel) (by decide +kernel) (by decide +kernel))).mono ?_
  rintro e w13 ⟨rfl, hb_w13⟩
  have hz_w13 := hb_w13.size
  have B0_w13 := hb_w13.block (w.heap.size) (by first | (simp only [hs_alloc, hs_set, hs_drew]; omega) | omega)
  have B1_w13 := hb_w13.block (w1.heap.size) (by first | (simp only [hs_alloc, hs_set, hs_drew]; omega) | omega)
  (try simp only [hs_alloc, hs_set, hs_drew] at hz_w13)
  simp (disch := omega) only [hp_alloc, hp_set, hp_drew, hs_alloc, hs_set, hs_drew, if_pos, if_neg, ↓reduceIte, Option.map_some, putO, H0_w12.out, H1_w12.out] at B0_w13 B1_w13
  clear c0_w12 f0_w12 z0_w12 c1_w12 f1_w12 z1_w12
  obtain ⟨c0_w13, f0_w13⟩ := blk B0_w13
  have H0_w13 := Lib.hid B0_w13
  clear B0_w13
  have z0_w13 : w.heap.size < w13.heap.size := by omega
  obtain ⟨c1_w13, f1_w13⟩ := blk B1_w13
  have H1_w13 := Lib.hid B1_w13
  clear B1_w13
  have z1_w13 : w1.heap.size < w13.heap.size := by omega
  have b_w13 : Below w.heap.size w w13 := bw_call (by repeat (first | with_reducible refine bw_set ?_ (by omega) _ | with_reducible refine bw_alloc ?_ _ | with_reducible refine bw_drew ?_ | with_reducible assumption | with_reducible exact Below.refl _ _)) hb_w13
  clear hb_w13
  go_wp2_with fail
  refine (unpacks_of 0 0 0 0 0 0 0 0 0 0 0 16777472 12 _ (Lib.hid fun w => unpack_bad 16777472 1 0 0 1 0 0 0 0 0 0 0 w (by decide +kernel) (by decide +kernel) (by unfold Parts; decide +kernel) (by decide +kernel) (by decide +kernel))).mono ?_
  rintro e w14 ⟨rfl, hb_w14⟩
  have hz_w14 := hb_w14.size
  have B0_w14 := hb_w14.block (w.heap.size) (by first | (simp only [hs_alloc, hs_set, hs_drew]; omega) | omega)
  have B1_w14 := hb_w14.block (w1.heap.size) (by first | (simp only [hs_alloc, hs_set, hs_drew]; omega) | omega)
  (try simp only [hs_alloc, hs_set, hs_drew] at hz_w14)
  simp (disch := omega) only [hp_alloc, hp_set, hp_drew, hs_alloc, hs_set, hs_drew, if_pos, if_neg, ↓reduceIte, Option.map_some, putO, H0_w13.out, H1_w13.out] at B0_w14 B1_w14
  clear c0_w13 f0_w13 z0_w13 c1_w13 f1_w13 z1_w13
  obtain ⟨c0_w14, f0_w14⟩ := blk B0_w14
  have H0_w14 := Lib.hid B0_w14
  clear B0_w14
  have z0_w14 : w.heap.size < w14.heap.size := by omega
  obtain ⟨c1_w14, f1_w14⟩ := blk B1_w14
  have H1_w14 := Lib.hid B1_w14
  clear B1_w14
  have z1_w14 : w1.heap.size < w14.heap.size := by omega
  have b_w14 : Below w.heap.size w w14 := bw_call (by repeat (first | with_reducible refine bw_set ?_ (by omega) _ | with_reducible refine bw_alloc ?_ _ | with_reducible refine bw_drew ?_ | with_reducible assumption | with_reducible exact Below.refl _ _)) hb_w14
  clear hb_w14
  go_wp2_with fail
  refine (unpacks_of 0 0 0 0 0 0 0 0 0 0 0 1 12 _ (Lib.hid fun w => unpack_bad 1 0 0 0 0 1 0 0 0 0 0 0 w (by decide +kernel) (by decide +kernel) (by unfold Parts; decide +kernel) (by decide +kernel) (by decide +kernel))).mono ?_
  rintro e w15 ⟨rfl, hb_w15⟩
  have hz_w15 := hb_w15.size
  have B0_w15 := hb_w15.block (w.heap.size) (by first | (simp only [hs_alloc, hs_set, hs_drew]; omega) | omega)
  have B1_w15 := hb_w15.block (w1.heap.size) (by first | (simp only [hs_alloc, hs_set, hs_drew]; omega) | omega)
  (try simp only [hs_alloc, hs_set, hs_drew] at hz_w15)
  simp (disch := omega) only [hp_alloc, hp_set, hp_drew, hs_alloc, hs_set, hs_drew, if_pos, if_neg, ↓reduceIte, Option.map_some, putO, H0_w14.out, H1_w14.out] at B0_w15 B1_w15
  clear c0_w14 f0_w14 z0_w14 c1_w14 f1_w14 z1_w14
  obtain ⟨c0_w15, f0_w15⟩ := blk B0_w15
  have H0_w15 := Lib.hid B0_w15
  clear B0_w15
  have z0_w15 : w.heap.size < w15.heap.size := by omega
  obtain ⟨c1_w15, f1_w15⟩ := blk B1_w15
  have H1_w15 := Lib.hid B1_w15
  clear B1_w15
  have z1_w15 : w1.heap.size < w15.heap.size := by omega
  have b_w15 : Below w.heap.size w w15 := bw_call (by repeat (first | with_reducible refine bw_set ?_ (by omega) _ | with_reducible refine bw_alloc ?_ _ | with_reducible refine bw_drew ?_ | with_reducible assumption | with_reducible exact Below.refl _ _)) hb_w15
  clear hb_w15
  go_wp2_with fail
  refine (unpacks_of 0 0 0 0 0 0 0 0 0 0 0 50331648 12 _ (Lib.hid fun w => unpack_bad 50331648 3 0 0 0 0 0 0 0 0 0 0 w (by decide +kernel) (by decide +kernel) (by unfold Parts; decide +kernel) (by decide +kernel) (by decide +kernel))).mono ?_
  rintro e w16 ⟨rfl, hb_w16⟩
  have hz_w16 := hb_w16.size
  have B0_w16 := hb_w16.block (w.heap.size) (by first | (simp only [hs_alloc, hs_set, hs_drew]; omega) | omega)
  have B1_w16 := hb_w16.block (w1.heap.size) (by first | (simp only [hs_alloc, hs_set, hs_drew]; omega) | omega)
  (try simp only [hs_alloc, hs_set, hs_drew] at hz_w16)
  simp (disch := omega) only [hp_alloc, hp_set, hp_drew, hs_alloc, hs_set, hs_drew, if_pos, if_neg, ↓reduceIte, Option.map_some, putO, H0_w15.out, H1_w15.out] at B0_w16 B1_w16
  clear c0_w15 f0_w15 z0_w15 c1_w15 f1_w15 z1_w15
  obtain ⟨c0_w16, f0_w16⟩ := blk B0_w16
  have H0_w16 := Lib.hid B0_w16
  clear B0_w16
  have z0_w16 : w.heap.size < w16.heap.size := by omega
  obtain ⟨c1_w16, f1_w16⟩ := blk B1_w16
  have H1_w16 := Lib.hid B1_w16
  clear B1_w16
  have z1_w16 : w1.heap.size < w16.heap.size := by omega
  have b_w16 : Below w.heap.size w w16 := bw_call (by repeat (first | with_reducible refine bw_set ?_ (by omega) _ | with_reducible refine bw_alloc ?_ _ | with_reducible refine bw_drew ?_ | with_reducible assumption | with_reducible exact Below.refl _ _)) hb_w16
  clear hb_w16
  go_wp2_with fail
  refine (unpacks_of 0 0 0 0 0 0 0 0 0 0 0 1152921504606846976 12 _ (Lib.hid fun w => unpack_big 1152921504606846976 0 0 0 0 0 0 0 0 0 0 0 w (by decide +kernel) (by decide +kernel) (by unfold Parts; decide +kernel) (by decide +kernel))).mono ?_
  rintro e w17 ⟨rfl, hb_w17⟩
  have hz_w17 := hb_w17.size
  have B0_w17 := hb_w17.block (w.heap.size) (by first | (simp only [hs_alloc, hs_set, hs_drew]; omega) | omega)
  have B1_w17 := hb_w17.block (w1.heap.size) (by first | (simp only [hs_alloc, hs_set, hs_drew]; omega) | omega)
  (try simp only [hs_alloc, hs_set, hs_drew] at hz_w17)
  simp (disch := omega) only [hp_alloc, hp_set, hp_drew, hs_alloc, hs_set, hs_drew, if_pos, if_neg, ↓reduceIte, Option.map_some, putO, H0_w16.out, H1_w16.out] at B0_w17 B1_w17
  clear c0_w16 f0_w16 z0_w16 c1_w16 f1_w16 z1_w16
  obtain ⟨c0_w17, f0_w17⟩ := blk B0_w17
  have H0_w17 := Lib.hid B0_w17
  clear B0_w17
  have z0_w17 : w.heap.size < w17.heap.size := by omega
  obtain ⟨c1_w17, f1_w17⟩ := blk B1_w17
  have H1_w17 := Lib.hid B1_w17
  clear B1_w17
  have z1_w17 : w1.heap.size < w17.heap.size := by omega
  have b_w17 : Below w.heap.size w w17 := bw_call (by repeat (first | with_reducible refine bw_set ?_ (by omega) _ | with_reducible refine bw_alloc ?_ _ | with_reducible refine bw_drew ?_ | with_reducible assumption | with_reducible exact Below.refl _ _)) hb_w17
  clear hb_w17
  go_wp2_with fail
  refine (with_n 0 0 0 0 0 0 0 0 0 0 0 1 1 _ (by decide +kernel) (by decide +kernel) (by decide +kernel) (by decide +kernel) (by decide +kernel) (by decide +kernel) (by decide +kernel)).mono ?_
  rintro e w18 ⟨rfl, hb_w18⟩
  have hz_w18 := hb_w18.size
  have B0_w18 := hb_w18.block (w.heap.size) (by first | (simp only [hs_alloc, hs_set, hs_drew]; omega) | omega)
  have B1_w18 := hb_w18.block (w1.heap.size) (by first | (simp only [hs_alloc, hs_set, hs_drew]; omega) | omega)
  (try simp only [hs_alloc, hs_set, hs_drew] at hz_w18)
  simp (disch := omega) only [hp_alloc, hp_set, hp_drew, hs_alloc, hs_set, hs_drew, if_pos, if_neg, ↓reduceIte, Option.map_some, putO, H0_w17.out, H1_w17.out] at B0_w18 B1_w18
  clear c0_w17 f0_w17 z0_w17 c1_w17 f1_w17 z1_w17
  obtain ⟨c0_w18, f0_w18⟩ := blk B0_w18
  have H0_w18 := Lib.hid B0_w18
  clear B0_w18
  have z0_w18 : w.heap.size < w18.heap.size := by omega
  obtain ⟨c1_w18, f1_w18⟩ := blk B1_w18
  have H1_w18 := Lib.hid B1_w18
  clear B1_w18
  have z1_w18 : w1.heap.size < w18.heap.size := by omega
  have b_w18 : Below w.heap.size w w18 := bw_call (by repeat (first | with_reducible refine bw_set ?_ (by omega) _ | with_reducible refine bw_alloc ?_ _ | with_reducible refine bw_drew ?_ | with_reducible assumption | with_reducible exact Below.refl _ _)) hb_w18
  clear hb_w18
  go_wp2_with fail
  refine (has_n 0 0 0 0 0 0 0 0 0 0 1 1 true _ (by decide +kernel) (by decide +kernel) (by decide +kernel) (by decide +kernel)).mono ?_
  rintro e w19 ⟨rfl, hb_w19⟩
  have hz_w19 := hb_w19.size
  have B0_w19 := hb_w19.block (w.heap.size) (by first | (simp only [hs_alloc, hs_set, hs_drew]; omega) | omega)
  have B1_w19 := hb_w19.block (w1.heap.size) (by first | (simp only [hs_alloc, hs_set, hs_drew]; omega) | omega)
  have B2_w19 := hb_w19.block (w18.heap.size) (by first | (simp only [hs_alloc, hs_set, hs_drew]; omega) | omega)
  (try simp only [hs_alloc, hs_set, hs_drew] at hz_w19)
  simp (disch := omega) only [hp_alloc, hp_set, hp_drew, hs_alloc, hs_set, hs_drew, if_pos, if_neg, ↓reduceIte, Option.map_some, putO, H0_w18.out, H1_w18.out] at B0_w19 B1_w19 B2_w19
  clear c0_w18 f0_w18 z0_w18 c1_w18 f1_w18 z1_w18
  obtain ⟨c0_w19, f0_w19⟩ := blk B0_w19
  have H0_w19 := Lib.hid B0_w19
  clear B0_w19
  have z0_w19 : w.heap.size < w19.heap.size := by omega
  obtain ⟨c1_w19, f1_w19⟩ := blk B1_w19
  have H1_w19 := Lib.hid B1_w19
  clear B1_w19
  have z1_w19 : w1.heap.size < w19.heap.size := by omega
  obtain ⟨c2_w19, f2_w19⟩ := blk B2_w19
  have H2_w19 := Lib.hid B2_w19
  clear B2_w19
  have z2_w19 : w18.heap.size < w19.heap.size := by omega
  have b_w19 : Below w.heap.size w w19 := bw_call (by repeat (first | with_reducible refine bw_set ?_ (by omega) _ | with_reducible refine bw_alloc ?_ _ | with_reducible refine bw_drew ?_ | with_reducible assumption | with_reducible exact Below.refl _ _)) hb_w19
  clear hb_w19
  go_wp2_with fail
  refine (has_n 0 0 0 0 0 0 0 0 0 0 1 2 false _ (by decide +kernel) (by decide +kernel) (by decide +kernel) (by decide +kernel)).mono ?_
  rintro e w20 ⟨rfl, hb_w20⟩
  have hz_w20 := hb_w20.size
  have B0_w20 := hb_w20.block (w.heap.size) (by first | (simp only [hs_alloc, hs_set, hs_drew]; omega) | omega)
  have B1_w20 := hb_w20.block (w1.heap.size) (by first | (simp only [hs_alloc, hs_set, hs_drew]; omega) | omega)
  have B2_w20 := hb_w20.block (w18.heap.size) (by first | (simp only [hs_alloc, hs_set, hs_drew]; omega) | omega)
  (try simp only [hs_alloc, hs_set, hs_drew] at hz_w20)
  simp (disch := omega) only [hp_alloc, hp_set, hp_drew, hs_alloc, hs_set, hs_drew, if_pos, if_neg, ↓reduceIte, Option.map_some, putO, H0_w19.out, H1_w19.out, H2_w19.out] at B0_w20 B1_w20 B2_w20
  clear c0_w19 f0_w19 z0_w19 c1_w19 f1_w19 z1_w19 c2_w19 f2_w19 z2_w19
  obtain ⟨c0_w20, f0_w20⟩ := blk B0_w20
  have H0_w20 := Lib.hid B0_w20
  clear B0_w20
  have z0_w20 : w.heap.size < w20.heap.size := by omega
  obtain ⟨c1_w20, f1_w20⟩ := blk B1_w20
  have H1_w20 := Lib.hid B1_w20
  clear B1_w20
  have z1_w20 : w1.heap.size < w20.heap.size := by omega
  obtain ⟨c2_w20, f2_w20⟩ := blk B2_w20
  have H2_w20 := Lib.hid B2_w20
  clear B2_w20
  have z2_w20 : w18.heap.size < w20.heap.size := by omega
  have b_w20 : Below w.heap.size w w20 := bw_call (by repeat (first | with_reducible refine bw_set ?_ (by omega) _ | with_reducible refine bw_alloc ?_ _ | with_reducible refine bw_drew ?_ | with_reducible assumption | with_reducible exact Below.refl _ _)) hb_w20
  clear hb_w20
  go_wp2_with fail
  refine (with_of 0 0 0 0 0 0 0 0 0 0 0 0 0 0 0 0 0 0 0 0 0 1 3 2 true _ (Lib.hid fun w => with_no 0 0 0 0 0 0 0 0 0 0 1 3 true w (by decide +kernel) (by decide +kernel) (by decide +kernel) (by decide +kernel))).mono ?_
  rintro e w21 ⟨rfl, hb_w21⟩
  have hz_w21 := hb_w21.size
  have B0_w21 := hb_w21.block (w.heap.size) (by first | (simp only [hs_alloc, hs_set, hs_drew]; omega) | omega)
  have B1_w21 := hb_w21.block (w1.heap.size) (by first | (simp only [hs_alloc, hs_set, hs_drew]; omega) | omega)
  have B2_w21 := hb_w21.block (w18.heap.size) (by first | (simp only [hs_alloc, hs_set, hs_drew]; omega) | omega)
  (try simp only [hs_alloc, hs_set, hs_drew] at hz_w21)
  simp (disch := omega) only [hp_alloc, hp_set, hp_drew, hs_alloc, hs_set, hs_drew, if_pos, if_neg, ↓reduceIte, Option.map_some, putO, H0_w20.out, H1_w20.out, H2_w20.out] at B0_w21 B1_w21 B2_w21
  clear c0_w20 f0_w20 z0_w20 c1_w20 f1_w20 z1_w20 c2_w20 f2_w20 z2_w20
  obtain ⟨c0_w21, f0_w21⟩ := blk B0_w21
  have H0_w21 := Lib.hid B0_w21
  clear B0_w21
  have z0_w21 : w.heap.size < w21.heap.size := by omega
  obtain ⟨c1_w21, f1_w21⟩ := blk B1_w21
  have H1_w21 := Lib.hid B1_w21
  clear B1_w21
  have z1_w21 : w1.heap.size < w21.heap.size := by omega
  obtain ⟨c2_w21, f2_w21⟩ := blk B2_w21
  have H2_w21 := Lib.hid B2_w21
  clear B2_w21
  have z2_w21 : w18.heap.size < w21.heap.size := by omega
  have b_w21 : Below w.heap.size w w21 := bw_call (by repeat (first | with_reducible refine bw_set ?_ (by omega) _ | with_reducible refine bw_alloc ?_ _ | with_reducible refine bw_drew ?_ | with_reducible assumption | with_reducible exact Below.refl _ _)) hb_w21
  clear hb_w21
  go_wp2_with fail
  refine (lword_of 128 0 _ _ (Lib.hid (word_n 7 128 _ _ (by decide +kernel) (by decide +kernel) rfl (L.below (by repeat (first | with_reducible refine bw_set ?_ (by omega) _ | with_reducible refine bw_alloc ?_ _ | with_reducible refine bw_drew ?_ | with_reducible assumption | with_reducible exact Below.refl _ _)))))).mono ?_
  rintro e w22 ⟨rfl, hb_w22⟩
  have hz_w22 := hb_w22.size
  have B0_w22 := hb_w22.block (w.heap.size) (by first | (simp only [hs_alloc, hs_set, hs_drew]; omega) | omega)
  have B1_w22 := hb_w22.block (w1.heap.size) (by first | (simp only [hs_alloc, hs_set, hs_drew]; omega) | omega)
  have B2_w22 := hb_w22.block (w18.heap.size) (by first | (simp only [hs_alloc, hs_set, hs_drew]; omega) | omega)
  (try simp only [hs_alloc, hs_set, hs_drew] at hz_w22)
  simp (disch := omega) only [hp_alloc, hp_set, hp_drew, hs_alloc, hs_set, hs_drew, if_pos, if_neg, ↓reduceIte, Option.map_some, putO, H0_w21.out, H1_w21.out, H2_w21.out] at B0_w22 B1_w22 B2_w22
  clear c0_w21 f0_w21 z0_w21 c1_w21 f1_w21 z1_w21 c2_w21 f2_w21 z2_w21
  obtain ⟨c0_w22, f0_w22⟩ := blk B0_w22
  have H0_w22 := Lib.hid B0_w22
  clear B0_w22
  have z0_w22 : w.heap.size < w22.heap.size := by omega
  obtain ⟨c1_w22, f1_w22⟩ := blk B1_w22
  have H1_w22 := Lib.hid B1_w22
  clear B1_w22
  have z1_w22 : w1.heap.size < w22.heap.size := by omega
  obtain ⟨c2_w22, f2_w22⟩ := blk B2_w22
  have H2_w22 := Lib.hid B2_w22
  clear B2_w22
  have z2_w22 : w18.heap.size < w22.heap.size := by omega
  have b_w22 : Below w.heap.size w w22 := bw_call (by repeat (first | with_reducible refine bw_set ?_ (by omega) _ | with_reducible refine bw_alloc ?_ _ | with_reducible refine bw_drew ?_ | with_reducible assumption | with_reducible exact Below.refl _ _)) hb_w22
  clear hb_w22
  go_wp2_with fail
  refine (lword_of 3 2 _ _ (Lib.hid (word_no 3 _ (by decide +kernel)))).mono ?_
  rintro e w23 ⟨rfl, hb_w23⟩
  have hz_w23 := hb_w23.size
  have B0_w23 := hb_w23.block (w.heap.size) (by first | (simp only [hs_alloc, hs_set, hs_drew]; omega) | omega)
  have B1_w23 := hb_w23.block (w1.heap.size) (by first | (simp only [hs_alloc, hs_set, hs_drew]; omega) | omega)
  have B2_w23 := hb_w23.block (w18.heap.size) (by first | (simp only [hs_alloc, hs_set, hs_drew]; omega) | omega)
  (try simp only [hs_alloc, hs_set, hs_drew] at hz_w23)
  simp (disch := omega) only [hp_alloc, hp_set, hp_drew, hs_alloc, hs_set, hs_drew, if_pos, if_neg, ↓reduceIte, Option.map_some, putO, H0_w22.out, H1_w22.out, H2_w22.out] at B0_w23 B1_w23 B2_w23
  clear c0_w22 f0_w22 z0_w22 c1_w22 f1_w22 z1_w22 c2_w22 f2_w22 z2_w22
  obtain ⟨c0_w23, f0_w23⟩ := blk B0_w23
  have H0_w23 := Lib.hid B0_w23
  clear B0_w23
  have z0_w23 : w.heap.size < w23.heap.size := by omega
  obtain ⟨c1_w23, f1_w23⟩ := blk B1_w23
  have H1_w23 := Lib.hid B1_w23
  clear B1_w23
  have z1_w23 : w1.heap.size < w23.heap.size := by omega
  obtain ⟨c2_w23, f2_w23⟩ := blk B2_w23
  have H2_w23 := Lib.hid B2_w23
  clear B2_w23
  have z2_w23 : w18.heap.size < w23.heap.size := by omega
  have b_w23 : Below w.heap.size w w23 := bw_call (by repeat (first | with_reducible refine bw_set ?_ (by omega) _ | with_reducible refine bw_alloc ?_ _ | with_reducible refine bw_drew ?_ | with_reducible assumption | with_reducible exact Below.refl _ _)) hb_w23
  clear hb_w23
  go_wp2_with fail
  refine (lbyword_of 16 0 _ _ (Lib.hid (byword_n 4 16 _ _ (by decide +kernel) (by decide +kernel) rfl (L.below (by repeat (first | with_reducible refine bw_set ?_ (by omega) _ | with_reducible refine bw_alloc ?_ _ | with_reducible refine bw_drew ?_ | with_reducible assumption | with_reducible exact Below.refl _ _)))))).mono ?_
  rintro e w24 ⟨rfl, hb_w24⟩
  have hz_w24 := hb_w24.size
  have B0_w24 := hb_w24.block (w.heap.size) (by first | (simp only [hs_alloc, hs_set, hs_drew]; omega) | omega)
  have B1_w24 := hb_w24.block (w1.heap.size) (by first | (simp only [hs_alloc, hs_set, hs_drew]; omega) | omega)
  have B2_w24 := hb_w24.block (w18.heap.size) (by first | (simp only [hs_alloc, hs_set, hs_drew]; omega) | omega)
  (try simp only [hs_alloc, hs_set, hs_drew] at hz_w24)
  simp (disch := omega) only [hp_alloc, hp_set, hp_drew, hs_alloc, hs_set, hs_drew, if_pos, if_neg, ↓reduceIte, Option.map_some, putO, H0_w23.out, H1_w23.out, H2_w23.out] at B0_w24 B1_w24 B2_w24
  clear c0_w23 f0_w23 z0_w23 c1_w23 f1_w23 z1_w23 c2_w23 f2_w23 z2_w23
  obtain ⟨c0_w24, f0_w24⟩ := blk B0_w24
  have H0_w24 := Lib.hid B0_w24
  clear B0_w24
  have z0_w24 : w.heap.size < w24.heap.size := by omega
  obtain ⟨c1_w24, f1_w24⟩ := blk B1_w24
  have H1_w24 := Lib.hid B1_w24
  clear B1_w24
  have z1_w24 : w1.heap.size < w24.heap.size := by omega
  obtain ⟨c2_w24, f2_w24⟩ := blk B2_w24
  have H2_w24 := Lib.hid B2_w24
  clear B2_w24
  have z2_w24 : w18.heap.size < w24.heap.size := by omega
  have b_w24 : Below w.heap.size w w24 := bw_call (by repeat (first | with_reducible refine bw_set ?_ (by omega) _ | with_reducible refine bw_alloc ?_ _ | with_reducible refine bw_drew ?_ | with_reducible assumption | with_reducible exact Below.refl _ _)) hb_w24
  clear hb_w24
  go_wp2_with fail
  refine (lbyword_of 0 6 _ _ (Lib.hid (byword_no _ _ (by decide +kernel) (L.below (by repeat (first | with_reducible refine bw_set ?_ (by omega) _ | with_reducible refine bw_alloc ?_ _ | with_reducible refine bw_drew ?_ | with_reducible assumption | with_reducible exact Below.refl _ _)))))).mono ?_
  rintro e w25 ⟨rfl, hb_w25⟩
  have hz_w25 := hb_w25.size
  have B0_w25 := hb_w25.block (w.heap.size) (by first | (simp only [hs_alloc, hs_set, hs_drew]; omega) | omega)
  have B1_w25 := hb_w25.block (w1.heap.size) (by first | (simp only [hs_alloc, hs_set, hs_drew]; omega) | omega)
  have B2_w25 := hb_w25.block (w18.heap.size) (by first | (simp only [hs_alloc, hs_set, hs_drew]; omega) | omega)
  (try simp only [hs_alloc, hs_set, hs_drew] at hz_w25)
  simp (disch := omega) only [hp_alloc, hp_set, hp_drew, hs_alloc, hs_set, hs_drew, if_pos, if_neg, ↓reduceIte, Option.map_some, putO, H0_w24.out, H1_w24.out, H2_w24.out] at B0_w25 B1_w25 B2_w25
  clear c0_w24 f0_w24 z0_w24 c1_w24 f1_w24 z1_w24 c2_w24 f2_w24 z2_w24
  obtain ⟨c0_w25, f0_w25⟩ := blk B0_w25
  have H0_w25 := Lib.hid B0_w25
  clear B0_w25
  have z0_w25 : w.heap.size < w25.heap.size := by omega
  obtain ⟨c1_w25, f1_w25⟩ := blk B1_w25
  have H1_w25 := Lib.hid B1_w25
  clear B1_w25
  have z1_w25 : w1.heap.size < w25.heap.size := by omega
  obtain ⟨c2_w25, f2_w25⟩ := blk B2_w25
  have H2_w25 := Lib.hid B2_w25
  clear B2_w25
  have z2_w25 : w18.heap.size < w25.heap.size := by omega
  have b_w25 : Below w.heap.size w w25 := bw_call (by repeat (first | with_reducible refine bw_set ?_ (by omega) _ | with_reducible refine bw_alloc ?_ _ | with_reducible refine bw_drew ?_ | with_reducible assumption | with_reducible exact Below.refl _ _)) hb_w25
  clear hb_w25
  go_wp2_with fail
  refine (all_c _).mono ?_
  rintro e w99 ⟨g, c, rfl, hge, hb99, hg99, hc⟩
  have b_w99 : Below w.heap.size w w99 := bw_call (by repeat (first | with_reducible refine bw_set ?_ (by omega) _ | with_reducible refine bw_alloc ?_ _ | with_reducible refine bw_drew ?_ | with_reducible assumption | with_reducible exact Below.refl _ _)) hb99
  clear hb99 hc
  go_wp2
  go_ret
  exact ⟨rfl, b_w99⟩

end Go.Proofs.YtgelpgagbokmdaaDoor
