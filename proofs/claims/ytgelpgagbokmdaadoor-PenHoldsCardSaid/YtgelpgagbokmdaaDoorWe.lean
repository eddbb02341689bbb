/-
  The walks of what the laws call to compare. No condition.
-/
import Derived.Test.YtgelpgagbokmdaaDoorWa
import Derived.Test.YtgelpgagbokmdaaDoorWc
namespace Go.Proofs.YtgelpgagbokmdaaDoor
open Go.RowKit
set_option linter.unusedSimpArgs false
set_option linter.unusedVariables false

set_option maxHeartbeats 1000000 in
theorem packs_of (k1 i1 r1 g1 b1 k2 i2 r2 g2 b2 f x y : Int) (w : World) (H : Hid (∀ w, Calls Tryd.prog 24 #[.agg #[.int .i64 k1, .int .u8 i1, .int .u8 r1, .int .u8 g1, .int .u8 b1, .int .i64 k2, .int .u8 i2, .int .u8 r2, .int .u8 g2, .int .u8 b2, .int .u8 f]] w (Ret (.tuple #[.int .u64 x, .int .i64 y]) w))) : Calls Tryd.prog 12 #[.agg #[.int .i64 k1, .int .u8 i1, .int .u8 r1, .int .u8 g1, .int .u8 b1, .int .i64 k2, .int .u8 i2, .int .u8 r2, .int .u8 g2, .int .u8 b2, .int .u8 f], .int .u64 x, .int .i64 y] w (Ret (.bool true) w) := by
  go_enter Tryd.func12, Tryd.ntmps12
  go_wp2_with fail
  refine (H.out _).mono ?_
  rintro e w1 ⟨rfl, hb_w1⟩
  have hz_w1 := hb_w1.size
  have B0_w1 := hb_w1.block (w.heap.size) (by first | (simp only [hs_alloc, hs_set, hs_drew]; omega) | omega)
  (try simp only [hs_alloc, hs_set, hs_drew] at hz_w1)
  simp (disch := omega) only [hp_alloc, hp_set, hp_drew, hs_alloc, hs_set, hs_drew, if_pos, if_neg, ↓reduceIte, Option.map_some, putO] at B0_w1
  obtain ⟨c0_w1, f0_w1⟩ := blk B0_w1
  have H0_w1 := Lib.hid B0_w1
  clear B0_w1
  have z0_w1 : w.heap.size < w1.heap.size := by omega
  have b_w1 : Below w.heap.size w w1 := bw_call (by repeat (first | with_reducible refine bw_set ?_ (by omega) _ | with_reducible refine bw_alloc ?_ _ | with_reducible refine bw_drew ?_ | with_reducible assumption | with_reducible exact Below.refl _ _)) hb_w1
  clear hb_w1
  go_wp2
  go_ret
  exact ⟨rfl, by repeat (first | with_reducible refine bw_set ?_ (by omega) _ | with_reducible refine bw_alloc ?_ _ | with_reducible refine bw_drew ?_ | with_reducible assumption | with_reducible exact Below.refl _ _)⟩

set_option maxHeartbeats 2000000 in
theorem unpacks_of (k1 i1 r1 g1 b1 k2 i2 r2 g2 b2 f x y : Int) (w : World) (H : Hid (∀ w, Calls Tryd.prog 25 #[.int .u64 x] w (Ret (.tuple #[.agg #[.int .i64 k1, .int .u8 i1, .int .u8 r1, .int .u8 g1, .int .u8 b1, .int .i64 k2, .int .u8 i2, .int .u8 r2, .int .u8 g2, .int .u8 b2, .int .u8 f], .int .i64 y]) w))) : Calls Tryd.prog 15 #[.int .u64 x, .agg #[.int .i64 k1, .int .u8 i1, .int .u8 r1, .int .u8 g1, .int .u8 b1, .int .i64 k2, .int .u8 i2, .int .u8 r2, .int .u8 g2, .int .u8 b2, .int .u8 f], .int .i64 y] w (Ret (.bool true) w) := by
  have heq := eqC
  go_enter Tryd.func15, Tryd.ntmps15
  go_wp2_with fail
  refine (H.out _).mono ?_
  rintro e w1 ⟨rfl, hb_w1⟩
  have hz_w1 := hb_w1.size
  have B0_w1 := hb_w1.block (w.heap.size) (by first | (simp only [hs_alloc, hs_set, hs_drew]; omega) | omega)
  (try simp only [hs_alloc, hs_set, hs_drew] at hz_w1)
  simp (disch := omega) only [hp_alloc, hp_set, hp_drew, hs_alloc, hs_set, hs_drew, if_pos, if_neg, ↓reduceIte, Option.map_some, putO] at B0_w1
  obtain ⟨c0_w1, f0_w1⟩ := blk B0_w1
  have H0_w1 := Lib.hid B0_w1
  clear B0_w1
  have z0_w1 : w.heap.size < w1.heap.size := by omega
  have b_w1 : Below w.heap.size w w1 := bw_call (by repeat (first | with_reducible refine bw_set ?_ (by omega) _ | with_reducible refine bw_alloc ?_ _ | with_reducible refine bw_drew ?_ | with_reducible assumption | with_reducible exact Below.refl _ _)) hb_w1
  clear hb_w1
  go_wp2
  go_ret
  exact ⟨rfl, by repeat (first | with_reducible refine bw_set ?_ (by omega) _ | with_reducible refine bw_alloc ?_ _ | with_reducible refine bw_drew ?_ | with_reducible assumption | with_reducible exact Below.refl _ _)⟩

set_option maxHeartbeats 2000000 in
theorem with_of (k1 i1 r1 g1 b1 k2 i2 r2 g2 b2 f m1 j1 s1 h1 c1 m2 j2 s2 h2 c2 e q y : Int) (b : Bool) (w : World) (H : Hid (∀ w, Calls Tryd.prog 26 #[.agg #[.int .i64 m1, .int .u8 j1, .int .u8 s1, .int .u8 h1, .int .u8 c1, .int .i64 m2, .int .u8 j2, .int .u8 s2, .int .u8 h2, .int .u8 c2, .int .u8 e], .int .u8 q, .bool b] w (Ret (.tuple #[.agg #[.int .i64 k1, .int .u8 i1, .int .u8 r1, .int .u8 g1, .int .u8 b1, .int .i64 k2, .int .u8 i2, .int .u8 r2, .int .u8 g2, .int .u8 b2, .int .u8 f], .int .i64 y]) w))) : Calls Tryd.prog 28 #[.agg #[.int .i64 m1, .int .u8 j1, .int .u8 s1, .int .u8 h1, .int .u8 c1, .int .i64 m2, .int .u8 j2, .int .u8 s2, .int .u8 h2, .int .u8 c2, .int .u8 e], .int .u8 q, .bool b, .agg #[.int .i64 k1, .int .u8 i1, .int .u8 r1, .int .u8 g1, .int .u8 b1, .int .i64 k2, .int .u8 i2, .int .u8 r2, .int .u8 g2, .int .u8 b2, .int .u8 f], .int .i64 y] w (Ret (.bool true) w) := by
  have heq := eqC
  go_enter Tryd.func28, Tryd.ntmps28
  go_wp2_with fail
  refine (H.out _).mono ?_
  rintro e w1 ⟨rfl, hb_w1⟩
  have hz_w1 := hb_w1.size
  have B0_w1 := hb_w1.block (w.heap.size) (by first | (simp only [hs_alloc, hs_set, hs_drew]; omega) | omega)
  have B1_w1 := hb_w1.block (w.heap.size + 1) (by first | (simp only [hs_alloc, hs_set, hs_drew]; omega) | omega)
  (try simp only [hs_alloc, hs_set, hs_drew] at hz_w1)
  simp (disch := omega) only [hp_alloc, hp_set, hp_drew, hs_alloc, hs_set, hs_drew, if_pos, if_neg, ↓reduceIte, Option.map_some, putO] at B0_w1 B1_w1
  obtain ⟨c0_w1, f0_w1⟩ := blk B0_w1
  have H0_w1 := Lib.hid B0_w1
  clear B0_w1
  have z0_w1 : w.heap.size < w1.heap.size := by omega
  obtain ⟨c1_w1, f1_w1⟩ := blk B1_w1
  have H1_w1 := Lib.hid B1_w1
  clear B1_w1
  have z1_w1 : w.heap.size + 1 < w1.heap.size := by omega
  have b_w1 : Below w.heap.size w w1 := bw_call (by repeat (first | with_reducible refine bw_set ?_ (by omega) _ | with_reducible refine bw_alloc ?_ _ | with_reducible refine bw_drew ?_ | with_reducible assumption | with_reducible exact Below.refl _ _)) hb_w1
  clear hb_w1
  go_wp2
  go_ret
  exact ⟨rfl, by repeat (first | with_reducible refine bw_set ?_ (by omega) _ | with_reducible refine bw_alloc ?_ _ | with_reducible refine bw_drew ?_ | with_reducible assumption | with_reducible exact Below.refl _ _)⟩

set_option maxHeartbeats 1000000 in
theorem lword_of (q y : Int) (s : ByteArray) (w : World) (H : Hid (Calls Tryd.prog 32 #[.int .u8 q] w (Ret (.tuple #[.string s, .int .i64 y]) w))) : Calls Tryd.prog 22 #[.int .u8 q, .string s, .int .i64 y] w (Ret (.bool true) w) := by
  go_enter Tryd.func22, Tryd.ntmps22
  go_wp2_with fail
  refine (H.out).mono ?_
  rintro e w1 ⟨rfl, hb_w1⟩
  have hz_w1 := hb_w1.size
  (try simp only [hs_alloc, hs_set, hs_drew] at hz_w1)
  have b_w1 : Below w.heap.size w w1 := bw_call (by repeat (first | with_reducible refine bw_set ?_ (by omega) _ | with_reducible refine bw_alloc ?_ _ | with_reducible refine bw_drew ?_ | with_reducible assumption | with_reducible exact Below.refl _ _)) hb_w1
  clear hb_w1
  go_wp2
  go_ret
  exact ⟨rfl, by repeat (first | with_reducible refine bw_set ?_ (by omega) _ | with_reducible refine bw_alloc ?_ _ | with_reducible refine bw_drew ?_ | with_reducible assumption | with_reducible exact Below.refl _ _)⟩

set_option maxHeartbeats 1000000 in
theorem lbyword_of (q y : Int) (s : ByteArray) (w : World) (H : Hid (Calls Tryd.prog 31 #[.string s] w (fun u w' => u = .returned (.tuple #[.int .u8 q, .int .i64 y]) ∧ w = w'))) : Calls Tryd.prog 21 #[.string s, .int .u8 q, .int .i64 y] w (Ret (.bool true) w) := by
  go_enter Tryd.func21, Tryd.ntmps21
  go_wp2_with fail
  refine (ret_same H.out).mono ?_
  rintro e w1 ⟨rfl, hb_w1⟩
  have hz_w1 := hb_w1.size
  (try simp only [hs_alloc, hs_set, hs_drew] at hz_w1)
  have b_w1 : Below w.heap.size w w1 := bw_call (by repeat (first | with_reducible refine bw_set ?_ (by omega) _ | with_reducible refine bw_alloc ?_ _ | with_reducible refine bw_drew ?_ | with_reducible assumption | with_reducible exact Below.refl _ _)) hb_w1
  clear hb_w1
  go_wp2
  go_ret
  exact ⟨rfl, by repeat (first | with_reducible refine bw_set ?_ (by omega) _ | with_reducible refine bw_alloc ?_ _ | with_reducible refine bw_drew ?_ | with_reducible assumption | with_reducible exact Below.refl _ _)⟩

end Go.Proofs.YtgelpgagbokmdaaDoor
