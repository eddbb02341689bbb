/-
  The chapter has examples: they hold. Condition: the package-level tables hold what they were laid with.
-/
import Derived.Test.YtklofnojojiljaaDoorWc
namespace Go.Proofs.YtklofnojojiljaaDoor
open Go.RowKit
set_option linter.unusedSimpArgs false
set_option linter.unusedVariables false

def exL : List Int := [65, 1, 31, -1, 127, -1, 159, -1, 160, 1, 769, 0, 19968, 2, 128512, 2, 65533, 1, 55296, -1, 12330, 0, 12329, 2, 12336, 2, 12351, 1, 8203, 0, 196606, 1, 1114111, 1, -1, -1]
def exF (i : Nat) : Int := exL.getD i 0
def exV (i : Nat) : Value := .int .i32 (exF i)
theorem ex_ok : ∀ k, k < 18 → ofV (exF (k * 2)) = exF (k * 2 + 1) := by decide
theorem ex_bd : ∀ k, k < 18 → -1 ≤ exF (k * 2 + 1) ∧ exF (k * 2 + 1) ≤ 2 := by decide
def lit4 (a b c d : Int) (i : Nat) : Int := [a, b, c, d].getD i 0
theorem ints4 (w w' : World) (B : Nat) (a b c d : Int) (t : TypeId) (hb : w.heap[B]? = some (.cells #[.int .i32 a, .int .i32 b, .int .i32 c, .int .i32 d] t)) : Ints w .i32 (some ⟨B, 0, none⟩) 4 (lit4 a b c d) := fun _ =>
  ⟨B, 0, rfl, (Array.getElem?_eq_some_iff.1 hb).1, fun i hi => by
    rw [(blk hb).1]
    have : i = 0 ∨ i = 1 ∨ i = 2 ∨ i = 3 := by omega
    rcases this with rfl | rfl | rfl | rfl <;> rfl⟩
theorem ints1 (w : World) (B : Nat) (a : Int) (t : TypeId) (hb : w.heap[B]? = some (.cells #[.int .i32 a] t)) : Ints w .i32 (some ⟨B, 0, none⟩) 1 (fun _ => a) := fun _ =>
  ⟨B, 0, rfl, (Array.getElem?_eq_some_iff.1 hb).1, fun i hi => by
    rw [(blk hb).1]
    have : i = 0 := by omega
    rcases this with rfl; rfl⟩
theorem text_n (P : Option Addr) (n c : Nat) (f : Nat → Int) (v : Int) (w : World) (L : LaidW w) (hn : n ≤ 100000) (R : Ints w .i32 P n f) (q : textN f n = v) : Calls Tryd.prog 15 #[.slice P n c] w (Ret (.int .i64 v) w) := by
  subst q
  exact text_c P n c f w L hn R
theorem fits_n (P : Option Addr) (n c : Nat) (f : Nat → Int) (q : Int) (v : Int) (w : World) (L : LaidW w) (hn : n ≤ 100000) (hq : -100000 ≤ q) (hq2 : q ≤ 100000000) (R : Ints w .i32 P n f) (e : (fitsN f n q : Int) = v) : Calls Tryd.prog 16 #[.slice P n c, .int .i64 q] w (Ret (.int .i64 v) w) := by
  subst e
  exact fits_c P n c f q w L hn hq hq2 R

set_option maxRecDepth 100000 in
set_option maxHeartbeats 4000000 in
theorem known_ok (w : World) (L : LaidW w) : Calls Tryd.prog 9 #[] w (Ret (.bool true) w) := by
  go_enter Tryd.func9, Tryd.ntmps9
  go_wp2_with fail
  refine wp_gen ?_
  intro w1 hb_w1
  have hp : Hid (Pairs w1 w.heap.size 18 exF) := Lib.hid fun i hi => by
    rw [hb_w1.cell (p := ⟨w.heap.size, i, none⟩) (by simp)]
    rw [World.cell?, heap_alloc_new]
    show (((List.range 36).map exV).toArray)[i]? = some (exV i)
    simp [show i < 36 from hi]
  have hz1 : w.heap.size < w1.heap.size := by have := hb_w1.size; simp at this; omega
  have b_w1 : Below w.heap.size w w1 := bw_call (bw_alloc (Below.refl _ _) _) hb_w1
  have HB1 := Lib.hid b_w1
  clear hb_w1 b_w1
  go_loopw [24] (fun i wr => ∃ k : Nat, k ≤ 18 ∧ i = .int .i64 k ∧ Below w1.heap.size w1 wr) (fun i _ => 18 - (intOf i).toNat)
  case atStart => exact ⟨0, Nat.zero_le _, rfl, Below.refl _ _⟩
  case round =>
    obtain ⟨w2, rfl⟩ : ∃ w2 : World, w2 = wr := ⟨_, rfl⟩
    obtain ⟨k, hk, rfl, hb_w2⟩ := hrel
    have HK := Lib.hid hb_w2
    clear hb_w2
    have hz2 : w.heap.size < w2.heap.size := Nat.lt_of_lt_of_le hz1 HK.out.size
    have L2 := Lib.hid ((L.below HB1.out).below HK.out)
    by_cases hlt : k < 18
    · skip
      have hp2 := hp.out.below hz1 HK.out
      have hc1 := hp2 (k * 2) (by omega)
      have hc2 := hp2 (k * 2 + 1) (by omega)
      clear hp2
      go_wp2_with fail
      refine wp_gen ?_
      intro w3 hb_w3
      have hz_w3 := hb_w3.size
      have B0_w3 := hb_w3.block (w2.heap.size) (by first | omega | (simp only [hs_alloc, hs_set, hs_drew]; omega))
      (try simp only [hs_alloc, hs_set, hs_drew] at hz_w3)
      simp (disch := omega) only [hp_alloc, hp_set, hp_drew, hs_alloc, hs_set, hs_drew, if_pos, if_neg, ↓reduceIte, Option.map_some, putO] at B0_w3
      obtain ⟨c0_w3, f0_w3⟩ := blk B0_w3
      have H0_w3 := Lib.hid B0_w3
      clear B0_w3
      have z0_w3 : w2.heap.size < w3.heap.size := by omega
      have b_w3 : Below w2.heap.size w2 w3 := bw_call (by repeat (first | exact Below.refl _ _ | assumption | refine bw_alloc ?_ _ | refine bw_drew ?_ | refine bw_set ?_ (by omega) _)) hb_w3
      clear hb_w3
      have L3 := Lib.hid (L2.out.below b_w3)
      obtain ⟨q1, q2⟩ := ex_bd k hlt
      have Hx := Lib.hid (ex_ok k hlt)
      clear hc1 hc2
      have hof : ∀ n : Cls w3, Calls Tryd.prog 7 #[.int .i32 (exF (k * 2))] n.v (Ret (.int .i64 (exF (k * 2 + 1))) n.v) := fun n => by rw [← Hx.out]; exact of_c _ _ (L3.out.below n.h)
      have Hof := Lib.hid hof
      clear hof
      have e1 : IntKind.i64.wrap (exF (k * 2 + 1)) = exF (k * 2 + 1) := IntWalk.i64_in _ (by omega)
      refine wp_region_cls (by kernel_rfl) (by kernel_rfl) ?_
      have q0_w3 := fun (n : Cls w3) (o : Nat) => (n.h.cell (p := ⟨w2.heap.size, o, none⟩) (by first | omega | (simp only [hs_alloc, hs_set, hs_drew]; omega))).trans (c0_w3 o)
      repeat (go_big_quiet_step ((first | (go_at_call 7; exact cls_of (Hof.out _)))))
      refine wpQuiet_nil ?_
      rintro w4 ⟨m_w4, hm_w4⟩
      have hb_w4 := m_w4.h
      rw [← hm_w4] at hb_w4
      clear hm_w4 m_w4
      clear q0_w3
      have hz_w4 := hb_w4.size
      have B0_w4 := hb_w4.block (w2.heap.size) (by first | omega | (simp only [hs_alloc, hs_set, hs_drew]; omega))
      (try simp only [hs_alloc, hs_set, hs_drew] at hz_w4)
      simp (disch := omega) only [hp_alloc, hp_set, hp_drew, hs_alloc, hs_set, hs_drew, if_pos, if_neg, ↓reduceIte, Option.map_some, putO, H0_w3.out] at B0_w4
      clear c0_w3 f0_w3 z0_w3
      obtain ⟨c0_w4, f0_w4⟩ := blk B0_w4
      have H0_w4 := Lib.hid B0_w4
      clear B0_w4
      have z0_w4 : w2.heap.size < w4.heap.size := by omega
      have b_w4 : Below w2.heap.size w2 w4 := bw_call (by repeat (first | exact Below.refl _ _ | assumption | refine bw_alloc ?_ _ | refine bw_drew ?_ | refine bw_set ?_ (by omega) _)) hb_w4
      clear hb_w4
      clear c0_w4 f0_w4 z0_w4 e1
      go_wp2
      go_roundw
      case rel => exact ⟨k + 1, by omega, by go_num, bw_call HK.out b_w4⟩
      case measure => simp [intOf]; omega
    · skip
      go_wp2_with fail
      refine (text_n _ 4 4 (lit4 97 769 19968 7) 3 _ (L2.out.below (by repeat (first | exact Below.refl _ _ | assumption | refine bw_alloc ?_ _ | refine bw_drew ?_ | refine bw_set ?_ (by omega) _))) (by omega) (ints4 _ w (w2.heap.size + 1) _ _ _ _ 21 (by simp (disch := omega) only [hp_alloc, hs_alloc, if_pos, ↓reduceIte])) (by decide)).mono ?_
      rintro e w3 ⟨rfl, hb_w3⟩
      have hz_w3 := hb_w3.size
      have B0_w3 := hb_w3.block (w2.heap.size) (by first | omega | (simp only [hs_alloc, hs_set, hs_drew]; omega))
      have B1_w3 := hb_w3.block (w2.heap.size + 1) (by first | omega | (simp only [hs_alloc, hs_set, hs_drew]; omega))
      (try simp only [hs_alloc, hs_set, hs_drew] at hz_w3)
      simp (disch := omega) only [hp_alloc, hp_set, hp_drew, hs_alloc, hs_set, hs_drew, if_pos, if_neg, ↓reduceIte, Option.map_some, putO] at B0_w3 B1_w3
      obtain ⟨c0_w3, f0_w3⟩ := blk B0_w3
      have H0_w3 := Lib.hid B0_w3
      clear B0_w3
      have z0_w3 : w2.heap.size < w3.heap.size := by omega
      obtain ⟨c1_w3, f1_w3⟩ := blk B1_w3
      have H1_w3 := Lib.hid B1_w3
      clear B1_w3
      have z1_w3 : w2.heap.size + 1 < w3.heap.size := by omega
      have b_w3 : Below w2.heap.size w2 w3 := bw_call (by repeat (first | exact Below.refl _ _ | assumption | refine bw_alloc ?_ _ | refine bw_drew ?_ | refine bw_set ?_ (by omega) _)) hb_w3
      clear hb_w3
      go_wp2_with fail
      refine (fits_n _ 4 4 (lit4 97 769 19968 98) 2 2 _ (L2.out.below (by repeat (first | exact Below.refl _ _ | assumption | refine bw_alloc ?_ _ | refine bw_drew ?_ | refine bw_set ?_ (by omega) _))) (by omega) (by omega) (by omega) (ints4 _ w w2.heap.size _ _ _ _ 21 H0_w3.out) (by decide)).mono ?_
      rintro e w4 ⟨rfl, hb_w4⟩
      have hz_w4 := hb_w4.size
      have B0_w4 := hb_w4.block (w2.heap.size) (by first | omega | (simp only [hs_alloc, hs_set, hs_drew]; omega))
      have B1_w4 := hb_w4.block (w2.heap.size + 1) (by first | omega | (simp only [hs_alloc, hs_set, hs_drew]; omega))
      (try simp only [hs_alloc, hs_set, hs_drew] at hz_w4)
      simp (disch := omega) only [hp_alloc, hp_set, hp_drew, hs_alloc, hs_set, hs_drew, if_pos, if_neg, ↓reduceIte, Option.map_some, putO, H0_w3.out, H1_w3.out] at B0_w4 B1_w4
      clear c0_w3 f0_w3 z0_w3 c1_w3 f1_w3 z1_w3
      obtain ⟨c0_w4, f0_w4⟩ := blk B0_w4
      have H0_w4 := Lib.hid B0_w4
      clear B0_w4
      have z0_w4 : w2.heap.size < w4.heap.size := by omega
      obtain ⟨c1_w4, f1_w4⟩ := blk B1_w4
      have H1_w4 := Lib.hid B1_w4
      clear B1_w4
      have z1_w4 : w2.heap.size + 1 < w4.heap.size := by omega
      have b_w4 : Below w2.heap.size w2 w4 := bw_call (by repeat (first | exact Below.refl _ _ | assumption | refine bw_alloc ?_ _ | refine bw_drew ?_ | refine bw_set ?_ (by omega) _)) hb_w4
      clear hb_w4
      go_wp2_with fail
      refine (fits_n _ 4 4 (lit4 97 769 19968 98) 3 3 _ (L2.out.below (by repeat (first | exact Below.refl _ _ | assumption | refine bw_alloc ?_ _ | refine bw_drew ?_ | refine bw_set ?_ (by omega) _))) (by omega) (by omega) (by omega) (ints4 _ w w2.heap.size _ _ _ _ 21 H0_w4.out) (by decide)).mono ?_
      rintro e w5 ⟨rfl, hb_w5⟩
      have hz_w5 := hb_w5.size
      have B0_w5 := hb_w5.block (w2.heap.size) (by first | omega | (simp only [hs_alloc, hs_set, hs_drew]; omega))
      have B1_w5 := hb_w5.block (w2.heap.size + 1) (by first | omega | (simp only [hs_alloc, hs_set, hs_drew]; omega))
      (try simp only [hs_alloc, hs_set, hs_drew] at hz_w5)
      simp (disch := omega) only [hp_alloc, hp_set, hp_drew, hs_alloc, hs_set, hs_drew, if_pos, if_neg, ↓reduceIte, Option.map_some, putO, H0_w4.out, H1_w4.out] at B0_w5 B1_w5
      clear c0_w4 f0_w4 z0_w4 c1_w4 f1_w4 z1_w4
      obtain ⟨c0_w5, f0_w5⟩ := blk B0_w5
      have H0_w5 := Lib.hid B0_w5
      clear B0_w5
      have z0_w5 : w2.heap.size < w5.heap.size := by omega
      obtain ⟨c1_w5, f1_w5⟩ := blk B1_w5
      have H1_w5 := Lib.hid B1_w5
      clear B1_w5
      have z1_w5 : w2.heap.size + 1 < w5.heap.size := by omega
      have b_w5 : Below w2.heap.size w2 w5 := bw_call (by repeat (first | exact Below.refl _ _ | assumption | refine bw_alloc ?_ _ | refine bw_drew ?_ | refine bw_set ?_ (by omega) _)) hb_w5
      clear hb_w5
      go_wp2_with fail
      refine (fits_n _ 1 1 (fun _ => 19968) 1 0 _ (L2.out.below (by repeat (first | exact Below.refl _ _ | assumption | refine bw_alloc ?_ _ | refine bw_drew ?_ | refine bw_set ?_ (by omega) _))) (by omega) (by omega) (by omega) (ints1 _ w5.heap.size _ 21 (by simp (disch := omega) only [hp_alloc, hs_alloc, if_pos, ↓reduceIte])) (by decide)).mono ?_
      rintro e w6 ⟨rfl, hb_w6⟩
      have hz_w6 := hb_w6.size
      have B0_w6 := hb_w6.block (w2.heap.size) (by first | omega | (simp only [hs_alloc, hs_set, hs_drew]; omega))
      have B1_w6 := hb_w6.block (w2.heap.size + 1) (by first | omega | (simp only [hs_alloc, hs_set, hs_drew]; omega))
      have B2_w6 := hb_w6.block (w5.heap.size) (by first | omega | (simp only [hs_alloc, hs_set, hs_drew]; omega))
      (try simp only [hs_alloc, hs_set, hs_drew] at hz_w6)
      simp (disch := omega) only [hp_alloc, hp_set, hp_drew, hs_alloc, hs_set, hs_drew, if_pos, if_neg, ↓reduceIte, Option.map_some, putO, H0_w5.out, H1_w5.out] at B0_w6 B1_w6 B2_w6
      clear c0_w5 f0_w5 z0_w5 c1_w5 f1_w5 z1_w5
      obtain ⟨c0_w6, f0_w6⟩ := blk B0_w6
      have H0_w6 := Lib.hid B0_w6
      clear B0_w6
      have z0_w6 : w2.heap.size < w6.heap.size := by omega
      obtain ⟨c1_w6, f1_w6⟩ := blk B1_w6
      have H1_w6 := Lib.hid B1_w6
      clear B1_w6
      have z1_w6 : w2.heap.size + 1 < w6.heap.size := by omega
      obtain ⟨c2_w6, f2_w6⟩ := blk B2_w6
      have H2_w6 := Lib.hid B2_w6
      clear B2_w6
      have z2_w6 : w5.heap.size < w6.heap.size := by omega
      have b_w6 : Below w2.heap.size w2 w6 := bw_call (by repeat (first | exact Below.refl _ _ | assumption | refine bw_alloc ?_ _ | refine bw_drew ?_ | refine bw_set ?_ (by omega) _)) hb_w6
      clear hb_w6
      go_wp2_with fail
      refine (fits_n _ 1 1 (fun _ => 769) 0 1 _ (L2.out.below (by repeat (first | exact Below.refl _ _ | assumption | refine bw_alloc ?_ _ | refine bw_drew ?_ | refine bw_set ?_ (by omega) _))) (by omega) (by omega) (by omega) (ints1 _ w6.heap.size _ 21 (by simp (disch := omega) only [hp_alloc, hs_alloc, if_pos, ↓reduceIte])) (by decide)).mono ?_
      rintro e w7 ⟨rfl, hb_w7⟩
      have hz_w7 := hb_w7.size
      have B0_w7 := hb_w7.block (w2.heap.size) (by first | omega | (simp only [hs_alloc, hs_set, hs_drew]; omega))
      have B1_w7 := hb_w7.block (w2.heap.size + 1) (by first | omega | (simp only [hs_alloc, hs_set, hs_drew]; omega))
      have B2_w7 := hb_w7.block (w5.heap.size) (by first | omega | (simp only [hs_alloc, hs_set, hs_drew]; omega))
      have B3_w7 := hb_w7.block (w6.heap.size) (by first | omega | (simp only [hs_alloc, hs_set, hs_drew]; omega))
      (try simp only [hs_alloc, hs_set, hs_drew] at hz_w7)
      simp (disch := omega) only [hp_alloc, hp_set, hp_drew, hs_alloc, hs_set, hs_drew, if_pos, if_neg, ↓reduceIte, Option.map_some, putO, H0_w6.out, H1_w6.out, H2_w6.out] at B0_w7 B1_w7 B2_w7 B3_w7
      clear c0_w6 f0_w6 z0_w6 c1_w6 f1_w6 z1_w6 c2_w6 f2_w6 z2_w6
      obtain ⟨c0_w7, f0_w7⟩ := blk B0_w7
      have H0_w7 := Lib.hid B0_w7
      clear B0_w7
      have z0_w7 : w2.heap.size < w7.heap.size := by omega
      obtain ⟨c1_w7, f1_w7⟩ := blk B1_w7
      have H1_w7 := Lib.hid B1_w7
      clear B1_w7
      have z1_w7 : w2.heap.size + 1 < w7.heap.size := by omega
      obtain ⟨c2_w7, f2_w7⟩ := blk B2_w7
      have H2_w7 := Lib.hid B2_w7
      clear B2_w7
      have z2_w7 : w5.heap.size < w7.heap.size := by omega
      obtain ⟨c3_w7, f3_w7⟩ := blk B3_w7
      have H3_w7 := Lib.hid B3_w7
      clear B3_w7
      have z3_w7 : w6.heap.size < w7.heap.size := by omega
      have b_w7 : Below w2.heap.size w2 w7 := bw_call (by repeat (first | exact Below.refl _ _ | assumption | refine bw_alloc ?_ _ | refine bw_drew ?_ | refine bw_set ?_ (by omega) _)) hb_w7
      clear hb_w7
      go_wp2_with fail
      refine (fits_n none 0 0 (fun _ => 0) (-1) 0 _ (L2.out.below (by repeat (first | exact Below.refl _ _ | assumption | refine bw_alloc ?_ _ | refine bw_drew ?_ | refine bw_set ?_ (by omega) _))) (by omega) (by omega) (by omega) (fun h => absurd h (by omega)) (by decide)).mono ?_
      rintro e w8 ⟨rfl, hb_w8⟩
      have hz_w8 := hb_w8.size
      have B0_w8 := hb_w8.block (w2.heap.size) (by first | omega | (simp only [hs_alloc, hs_set, hs_drew]; omega))
      have B1_w8 := hb_w8.block (w2.heap.size + 1) (by first | omega | (simp only [hs_alloc, hs_set, hs_drew]; omega))
      have B2_w8 := hb_w8.block (w5.heap.size) (by first | omega | (simp only [hs_alloc, hs_set, hs_drew]; omega))
      have B3_w8 := hb_w8.block (w6.heap.size) (by first | omega | (simp only [hs_alloc, hs_set, hs_drew]; omega))
      (try simp only [hs_alloc, hs_set, hs_drew] at hz_w8)
      simp (disch := omega) only [hp_alloc, hp_set, hp_drew, hs_alloc, hs_set, hs_drew, if_pos, if_neg, ↓reduceIte, Option.map_some, putO, H0_w7.out, H1_w7.out, H2_w7.out, H3_w7.out] at B0_w8 B1_w8 B2_w8 B3_w8
      clear c0_w7 f0_w7 z0_w7 c1_w7 f1_w7 z1_w7 c2_w7 f2_w7 z2_w7 c3_w7 f3_w7 z3_w7
      obtain ⟨c0_w8, f0_w8⟩ := blk B0_w8
      have H0_w8 := Lib.hid B0_w8
      clear B0_w8
      have z0_w8 : w2.heap.size < w8.heap.size := by omega
      obtain ⟨c1_w8, f1_w8⟩ := blk B1_w8
      have H1_w8 := Lib.hid B1_w8
      clear B1_w8
      have z1_w8 : w2.heap.size + 1 < w8.heap.size := by omega
      obtain ⟨c2_w8, f2_w8⟩ := blk B2_w8
      have H2_w8 := Lib.hid B2_w8
      clear B2_w8
      have z2_w8 : w5.heap.size < w8.heap.size := by omega
      obtain ⟨c3_w8, f3_w8⟩ := blk B3_w8
      have H3_w8 := Lib.hid B3_w8
      clear B3_w8
      have z3_w8 : w6.heap.size < w8.heap.size := by omega
      have b_w8 : Below w2.heap.size w2 w8 := bw_call (by repeat (first | exact Below.refl _ _ | assumption | refine bw_alloc ?_ _ | refine bw_drew ?_ | refine bw_set ?_ (by omega) _)) hb_w8
      clear hb_w8
      go_wp2
      go_ret
      exact ⟨rfl, bw_call (bw_call HB1.out HK.out) b_w8⟩

end Go.Proofs.YtklofnojojiljaaDoor
