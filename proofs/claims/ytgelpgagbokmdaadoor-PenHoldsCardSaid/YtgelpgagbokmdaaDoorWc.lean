/-
  The walks of the flags. No condition.
-/
import Derived.Test.YtgelpgagbokmdaaDoorWa
import Derived.Test.YtgelpgagbokmdaaDoorWf
import Derived.Test.YtgelpgagbokmdaaDoorOwn
namespace Go.Proofs.YtgelpgagbokmdaaDoor
open Go.RowKit
set_option linter.unusedSimpArgs false
set_option linter.unusedVariables false

set_option maxHeartbeats 400000 in
theorem one_c (q : Int) (w : World) (h0 : 0 ≤ q) (h1 : q ≤ 255) : Calls Tryd.prog 35 #[.int .u8 q] w fun e w' => e = .returned (.bool (oneB q)) ∧ w = w' := by
  by_cases hq : q = 0
  · subst hq
    go_enter Tryd.func35, Tryd.ntmps35
    go_wp2
    go_ret
    exact ⟨ret_bool (by decide), rfl⟩
  · have hq' : (q != 0) = true := by simpa using hq
    have HO := Lib.hid (one_is q h0 h1 hq)
    have hq1 : 1 ≤ q := by omega
    clear hq
    go_enter Tryd.func35, Tryd.ntmps35
    go_wp2
    go_ret
    exact ⟨ret_bool HO.out, rfl⟩
set_option maxHeartbeats 2000000 in
theorem with_yes (k1 i1 r1 g1 b1 k2 i2 r2 g2 b2 f q : Int) (w : World) (hv : vP k1 i1 r1 g1 b1 k2 i2 r2 g2 b2 f = true) (ho : oneB q = true) (hq0 : 0 ≤ q) (hq1 : q ≤ 255) (hf0 : 0 ≤ f) (hf1 : f ≤ 255) :
    Calls Tryd.prog 26 #[.agg #[.int .i64 k1, .int .u8 i1, .int .u8 r1, .int .u8 g1, .int .u8 b1, .int .i64 k2, .int .u8 i2, .int .u8 r2, .int .u8 g2, .int .u8 b2, .int .u8 f], .int .u8 q, .bool true] w (Ret (.tuple #[.agg #[.int .i64 k1, .int .u8 i1, .int .u8 r1, .int .u8 g1, .int .u8 b1, .int .i64 k2, .int .u8 i2, .int .u8 r2, .int .u8 g2, .int .u8 b2, .int .u8 (orF f q)], .int .i64 0]) w) := by
  go_enter Tryd.func26, Tryd.ntmps26
  go_wp2_with fail
  refine (valid_n k1 i1 r1 g1 b1 k2 i2 r2 g2 b2 f true _ hv).mono ?_
  rintro e w1 ⟨rfl, hb_w1⟩
  have hz_w1 := hb_w1.size
  have B0_w1 := hb_w1.block (w.heap.size) (by first | (simp only [hs_alloc, hs_set, hs_drew]; omega) | omega)
  have B1_w1 := hb_w1.block (w.heap.size + 1) (by first | (simp only [hs_alloc, hs_set, hs_drew]; omega) | omega)
  (try simp only [hs_alloc, hs_set, hs_drew] at hz_w1)
  simp (disch := omega) only [hp_alloc, hp_set, hp_drew, hs_alloc, hs_set, hs_drew, if_pos, if_neg, ↓reduceIte, Option.map_some, putO] at B0_w1 B1_w1
  obtain ⟨c0_w1, f0_w1⟩ := blk B0_w1
  have H0_w1 := Lib.hid B0_w1
  clear B0_w1
  have z0_w1 : w.heap.size < w1.heap.size := by omega
  obtain ⟨c1_w1, f1_w1⟩ := blk B1_w1
  have H1_w1 := Lib.hid B1_w1
  clear B1_w1
  have z1_w1 : w.heap.size + 1 < w1.heap.size := by omega
  have b_w1 : Below w.heap.size w w1 := bw_call (by repeat (first | with_reducible refine bw_set ?_ (by omega) _ | with_reducible refine bw_alloc ?_ _ | with_reducible refine bw_drew ?_ | with_reducible assumption | with_reducible exact Below.refl _ _)) hb_w1
  clear hb_w1
  go_wp2_with fail
  refine (one_c _ _ hq0 hq1).mono ?_
  rintro e w' ⟨rfl, rfl⟩
  rw [ho]
  go_wp2
  refine post_gen ?_
  intro w9 hb_w9
  have hz_w9 := hb_w9.size
  have B1_w9 := hb_w9.block (w.heap.size + 1) (by first | (simp only [hs_alloc, hs_set, hs_drew]; omega) | omega)
  (try simp only [hs_alloc, hs_set, hs_drew] at hz_w9)
  simp (disch := omega) only [hp_alloc, hp_set, hp_drew, hs_alloc, hs_set, hs_drew, if_pos, if_neg, ↓reduceIte, Option.map_some, putO, H0_w1.out, H1_w1.out] at B1_w9
  clear c0_w1 f0_w1 z0_w1 c1_w1 f1_w1 z1_w1
  obtain ⟨c1_w9, f1_w9⟩ := blk B1_w9
  have H1_w9 := Lib.hid B1_w9
  clear B1_w9
  have z1_w9 : w.heap.size + 1 < w9.heap.size := by omega
  have b_w9 : Below w.heap.size w w9 := bw_call (by repeat (first | with_reducible refine bw_set ?_ (by omega) _ | with_reducible refine bw_alloc ?_ _ | with_reducible refine bw_drew ?_ | with_reducible assumption | with_reducible exact Below.refl _ _)) hb_w9
  clear hb_w9
  refine bodyPost_ret (v := (.tuple #[.agg #[.int .i64 k1, .int .u8 i1, .int .u8 r1, .int .u8 g1, .int .u8 b1, .int .i64 k2, .int .u8 i2, .int .u8 r2, .int .u8 g2, .int .u8 b2, .int .u8 (bits .or .u8 (bits .andNot .u8 f q) q)], .int .i64 0])) (by simp [results, Tryd.results26, go_sem, c1_w9]) rfl ⟨rfl, by repeat (first | with_reducible refine bw_set ?_ (by omega) _ | with_reducible refine bw_alloc ?_ _ | with_reducible refine bw_drew ?_ | with_reducible assumption | with_reducible exact Below.refl _ _)⟩

set_option maxHeartbeats 2000000 in
theorem with_no (k1 i1 r1 g1 b1 k2 i2 r2 g2 b2 f q : Int) (b : Bool) (w : World) (hv : vP k1 i1 r1 g1 b1 k2 i2 r2 g2 b2 f = true) (ho : oneB q = false) (hq0 : 0 ≤ q) (hq1 : q ≤ 255) :
    Calls Tryd.prog 26 #[.agg #[.int .i64 k1, .int .u8 i1, .int .u8 r1, .int .u8 g1, .int .u8 b1, .int .i64 k2, .int .u8 i2, .int .u8 r2, .int .u8 g2, .int .u8 b2, .int .u8 f], .int .u8 q, .bool b] w (Ret (.tuple #[.agg #[.int .i64 0, .int .u8 0, .int .u8 0, .int .u8 0, .int .u8 0, .int .i64 0, .int .u8 0, .int .u8 0, .int .u8 0, .int .u8 0, .int .u8 0], .int .i64 2]) w) := by
  go_enter Tryd.func26, Tryd.ntmps26
  go_wp2_with fail
  refine (valid_n k1 i1 r1 g1 b1 k2 i2 r2 g2 b2 f true _ hv).mono ?_
  rintro e w1 ⟨rfl, hb_w1⟩
  have hz_w1 := hb_w1.size
  have B0_w1 := hb_w1.block (w.heap.size) (by first | (simp only [hs_alloc, hs_set, hs_drew]; omega) | omega)
  have B1_w1 := hb_w1.block (w.heap.size + 1) (by first | (simp only [hs_alloc, hs_set, hs_drew]; omega) | omega)
  (try simp only [hs_alloc, hs_set, hs_drew] at hz_w1)
  simp (disch := omega) only [hp_alloc, hp_set, hp_drew, hs_alloc, hs_set, hs_drew, if_pos, if_neg, ↓reduceIte, Option.map_some, putO] at B0_w1 B1_w1
  obtain ⟨c0_w1, f0_w1⟩ := blk B0_w1
  have H0_w1 := Lib.hid B0_w1
  clear B0_w1
  have z0_w1 : w.heap.size < w1.heap.size := by omega
  obtain ⟨c1_w1, f1_w1⟩ := blk B1_w1
  have H1_w1 := Lib.hid B1_w1
  clear B1_w1
  have z1_w1 : w.heap.size + 1 < w1.heap.size := by omega
  have b_w1 : Below w.heap.size w w1 := bw_call (by repeat (first | with_reducible refine bw_set ?_ (by omega) _ | with_reducible refine bw_alloc ?_ _ | with_reducible refine bw_drew ?_ | with_reducible assumption | with_reducible exact Below.refl _ _)) hb_w1
  clear hb_w1
  go_wp2_with fail
  refine (one_c _ _ hq0 hq1).mono ?_
  rintro e w' ⟨rfl, rfl⟩
  rw [ho]
  go_wp2
  refine post_gen ?_
  intro w9 hb_w9
  have hz_w9 := hb_w9.size
  have B1_w9 := hb_w9.block (w.heap.size + 1) (by first | (simp only [hs_alloc, hs_set, hs_drew]; omega) | omega)
  (try simp only [hs_alloc, hs_set, hs_drew] at hz_w9)
  simp (disch := omega) only [hp_alloc, hp_set, hp_drew, hs_alloc, hs_set, hs_drew, if_pos, if_neg, ↓reduceIte, Option.map_some, putO, H0_w1.out, H1_w1.out] at B1_w9
  clear c0_w1 f0_w1 z0_w1 c1_w1 f1_w1 z1_w1
  obtain ⟨c1_w9, f1_w9⟩ := blk B1_w9
  have H1_w9 := Lib.hid B1_w9
  clear B1_w9
  have z1_w9 : w.heap.size + 1 < w9.heap.size := by omega
  have b_w9 : Below w.heap.size w w9 := bw_call (by repeat (first | with_reducible refine bw_set ?_ (by omega) _ | with_reducible refine bw_alloc ?_ _ | with_reducible refine bw_drew ?_ | with_reducible assumption | with_reducible exact Below.refl _ _)) hb_w9
  clear hb_w9
  refine bodyPost_ret (v := (.tuple #[.agg #[.int .i64 0, .int .u8 0, .int .u8 0, .int .u8 0, .int .u8 0, .int .i64 0, .int .u8 0, .int .u8 0, .int .u8 0, .int .u8 0, .int .u8 0], .int .i64 2])) (by simp [results, Tryd.results26, go_sem, c1_w9]) rfl ⟨rfl, by repeat (first | with_reducible refine bw_set ?_ (by omega) _ | with_reducible refine bw_alloc ?_ _ | with_reducible refine bw_drew ?_ | with_reducible assumption | with_reducible exact Below.refl _ _)⟩

set_option maxHeartbeats 2000000 in
theorem has_c (k1 i1 r1 g1 b1 k2 i2 r2 g2 b2 f q : Int) (w : World) (ho : oneB q = true) (hq0 : 0 ≤ q) (hq1 : q ≤ 255) :
    Calls Tryd.prog 27 #[.agg #[.int .i64 k1, .int .u8 i1, .int .u8 r1, .int .u8 g1, .int .u8 b1, .int .i64 k2, .int .u8 i2, .int .u8 r2, .int .u8 g2, .int .u8 b2, .int .u8 f], .int .u8 q] w (Ret (.bool (bits .and .u8 f q != 0)) w) := by
  go_enter Tryd.func27, Tryd.ntmps27
  go_wp2_with fail
  refine (one_c _ _ hq0 hq1).mono ?_
  rintro e w' ⟨rfl, rfl⟩
  rw [ho]
  clear ho
  go_wp2
  go_ret
  exact ⟨rfl, by repeat (first | with_reducible refine bw_set ?_ (by omega) _ | with_reducible refine bw_alloc ?_ _ | with_reducible refine bw_drew ?_ | with_reducible assumption | with_reducible exact Below.refl _ _)⟩


/-- The package-level table holds what it was laid with. -/
structure Laid (w : World) : Prop where
  s : ∀ i, i < 8 → w.cell? ⟨0, i, none⟩ = some (.string (wordB i))
  sz : 1 ≤ w.heap.size
theorem Laid.below {w w' : World} (L : Laid w) (b : Below w.heap.size w w') : Laid w' :=
  ⟨fun i hi => (b.cell (p := ⟨0, i, none⟩) (by have := L.sz; show 0 < _; omega)).trans (L.s i hi), Nat.le_trans L.sz b.size⟩
theorem info_fl : (Tryd.prog.info? 25).map (fun i => (i.zero, i.size, i.bytes)) = some (some (.int .u8 0), 1, 1) := by kernel_rfl
def flagVs (k : Nat) : List Value := (List.range k).map fun i => .int .u8 (flagF i)
theorem flagVs_succ (k : Nat) : flagVs (k + 1) = flagVs k ++ [.int .u8 (flagF k)] := by simp [flagVs, List.range_succ]
/-- all flags, in a new block -/
def NewFlags (w : World) (e : Ending) (w' : World) : Prop :=
  ∃ (g c : Nat), e = .returned (.slice (some ⟨g, 0, none⟩) 8 c) ∧ w.heap.size ≤ g ∧ Below w.heap.size w w' ∧ g < w'.heap.size ∧ ∀ i, i < 8 → w'.cell? ⟨g, i, none⟩ = some (.int .u8 (flagF i))
set_option maxHeartbeats 2000000 in
theorem all_c (w : World) : Calls Tryd.prog 19 #[] w (NewFlags w) := by
  obtain ⟨i0, hi0, hz0, hz1, hz2⟩ := info_parts info_fl
  go_enter Tryd.func19, Tryd.ntmps19
  go_wp2
  go_loopw [1, 3] (fun v i wr => ∃ (k : Nat) (P : Option Addr) (c : Nat), k ≤ 8 ∧ i = .int .i64 k ∧ v = .slice P k c ∧ Below w.heap.size w wr ∧ wr.ownsRow w.heap.size 25 1 (.slice P k c) k (flagVs k)) (fun _ i _ => 8 - (intOf i).toNat)
  case atStart => exact ⟨0, none, 0, Nat.zero_le _, rfl, rfl, Below.refl _ _, ⟨rfl, .inl ⟨rfl, rfl⟩⟩⟩
  case round =>
    obtain ⟨k, P, c, hk, rfl, rfl, hb, hown⟩ := hrel
    have HB := Lib.hid hb
    have HO := Lib.hid hown
    have hzb := hb.size
    clear hb hown
    by_cases hlt : k < 8
    · have hcase : k = 0 ∨ k = 1 ∨ k = 2 ∨ k = 3 ∨ k = 4 ∨ k = 5 ∨ k = 6 ∨ k = 7 := by omega
      have Hs := Lib.hid (flagVs_succ k)
      rcases hcase with rfl | rfl | rfl | rfl | rfl | rfl | rfl | rfl
      · have hz9 : Hid (∀ u ∈ [Value.int .u8 1], u.oneCell' = true) := Lib.hid (by simp [Value.oneCell'])
        go_wp2_with (at_builtin; refine wpList_append_sl _ rfl (.tmp 6) (.tmp 9) 42 rfl w.heap.size 25 i0 _ 1 1 Tryd.underlying42 hi0 hz0 hz1 hz2 rfl (by decide) _ 0 (flagVs 0) rfl (HO.out.alloc _) _ 1 1 [.int .u8 1] rfl (sl_new wr #[.int .u8 1] 25 1 1 rfl) (fun h => by (cases h)) hz9.out (by unfold maxLen; omega) (by omega) (by simp; omega) ?_; intro P2 N2 c2 w2 hN hl hown2 hg2 hat2; have HN := Lib.hid hN; have HO2 := Lib.hid hown2; have HB2 := Lib.hid (show Below w.heap.size w w2 from (bw_alloc HB.out _).grown hg2 (by simp; omega) (own_ge HO.out)); clear hN hl hown2 hg2 hat2)
        obtain rfl := HN.out
        go_roundw
        case rel => exact ⟨1, P2, c2, by omega, by go_num, rfl, HB2.out, by rw [Hs.out]; exact HO2.out⟩
        case measure => simp [intOf]
      · have hz9 : Hid (∀ u ∈ [Value.int .u8 2], u.oneCell' = true) := Lib.hid (by simp [Value.oneCell'])
        go_wp2_with (at_builtin; refine wpList_append_sl _ rfl (.tmp 6) (.tmp 9) 42 rfl w.heap.size 25 i0 _ 1 1 Tryd.underlying42 hi0 hz0 hz1 hz2 rfl (by decide) _ 1 (flagVs 1) rfl (HO.out.alloc _) _ 1 1 [.int .u8 2] rfl (sl_new wr #[.int .u8 2] 25 1 1 rfl) (fun h => by (cases h)) hz9.out (by unfold maxLen; omega) (by omega) (by simp; omega) ?_; intro P2 N2 c2 w2 hN hl hown2 hg2 hat2; have HN := Lib.hid hN; have HO2 := Lib.hid hown2; have HB2 := Lib.hid (show Below w.heap.size w w2 from (bw_alloc HB.out _).grown hg2 (by simp; omega) (own_ge HO.out)); clear hN hl hown2 hg2 hat2)
        obtain rfl := HN.out
        go_roundw
        case rel => exact ⟨2, P2, c2, by omega, by go_num, rfl, HB2.out, by rw [Hs.out]; exact HO2.out⟩
        case measure => simp [intOf]
      · have hz9 : Hid (∀ u ∈ [Value.int .u8 4], u.oneCell' = true) := Lib.hid (by simp [Value.oneCell'])
        go_wp2_with (at_builtin; refine wpList_append_sl _ rfl (.tmp 6) (.tmp 9) 42 rfl w.heap.size 25 i0 _ 1 1 Tryd.underlying42 hi0 hz0 hz1 hz2 rfl (by decide) _ 2 (flagVs 2) rfl (HO.out.alloc _) _ 1 1 [.int .u8 4] rfl (sl_new wr #[.int .u8 4] 25 1 1 rfl) (fun h => by (cases h)) hz9.out (by unfold maxLen; omega) (by omega) (by simp; omega) ?_; intro P2 N2 c2 w2 hN hl hown2 hg2 hat2; have HN := Lib.hid hN; have HO2 := Lib.hid hown2; have HB2 := Lib.hid (show Below w.heap.size w w2 from (bw_alloc HB.out _).grown hg2 (by simp; omega) (own_ge HO.out)); clear hN hl hown2 hg2 hat2)
        obtain rfl := HN.out
        go_roundw
        case rel => exact ⟨3, P2, c2, by omega, by go_num, rfl, HB2.out, by rw [Hs.out]; exact HO2.out⟩
        case measure => simp [intOf]
      · have hz9 : Hid (∀ u ∈ [Value.int .u8 8], u.oneCell' = true) := Lib.hid (by simp [Value.oneCell'])
        go_wp2_with (at_builtin; refine wpList_append_sl _ rfl (.tmp 6) (.tmp 9) 42 rfl w.heap.size 25 i0 _ 1 1 Tryd.underlying42 hi0 hz0 hz1 hz2 rfl (by decide) _ 3 (flagVs 3) rfl (HO.out.alloc _) _ 1 1 [.int .u8 8] rfl (sl_new wr #[.int .u8 8] 25 1 1 rfl) (fun h => by (cases h)) hz9.out (by unfold maxLen; omega) (by omega) (by simp; omega) ?_; intro P2 N2 c2 w2 hN hl hown2 hg2 hat2; have HN := Lib.hid hN; have HO2 := Lib.hid hown2; have HB2 := Lib.hid (show Below w.heap.size w w2 from (bw_alloc HB.out _).grown hg2 (by simp; omega) (own_ge HO.out)); clear hN hl hown2 hg2 hat2)
        obtain rfl := HN.out
        go_roundw
        case rel => exact ⟨4, P2, c2, by omega, by go_num, rfl, HB2.out, by rw [Hs.out]; exact HO2.out⟩
        case measure => simp [intOf]
      · have hz9 : Hid (∀ u ∈ [Value.int .u8 16], u.oneCell' = true) := Lib.hid (by simp [Value.oneCell'])
        go_wp2_with (at_builtin; refine wpList_append_sl _ rfl (.tmp 6) (.tmp 9) 42 rfl w.heap.size 25 i0 _ 1 1 Tryd.underlying42 hi0 hz0 hz1 hz2 rfl (by decide) _ 4 (flagVs 4) rfl (HO.out.alloc _) _ 1 1 [.int .u8 16] rfl (sl_new wr #[.int .u8 16] 25 1 1 rfl) (fun h => by (cases h)) hz9.out (by unfold maxLen; omega) (by omega) (by simp; omega) ?_; intro P2 N2 c2 w2 hN hl hown2 hg2 hat2; have HN := Lib.hid hN; have HO2 := Lib.hid hown2; have HB2 := Lib.hid (show Below w.heap.size w w2 from (bw_alloc HB.out _).grown hg2 (by simp; omega) (own_ge HO.out)); clear hN hl hown2 hg2 hat2)
        obtain rfl := HN.out
        go_roundw
        case rel => exact ⟨5, P2, c2, by omega, by go_num, rfl, HB2.out, by rw [Hs.out]; exact HO2.out⟩
        case measure => simp [intOf]
      · have hz9 : Hid (∀ u ∈ [Value.int .u8 32], u.oneCell' = true) := Lib.hid (by simp [Value.oneCell'])
        go_wp2_with (at_builtin; refine wpList_append_sl _ rfl (.tmp 6) (.tmp 9) 42 rfl w.heap.size 25 i0 _ 1 1 Tryd.underlying42 hi0 hz0 hz1 hz2 rfl (by decide) _ 5 (flagVs 5) rfl (HO.out.alloc _) _ 1 1 [.int .u8 32] rfl (sl_new wr #[.int .u8 32] 25 1 1 rfl) (fun h => by (cases h)) hz9.out (by unfold maxLen; omega) (by omega) (by simp; omega) ?_; intro P2 N2 c2 w2 hN hl hown2 hg2 hat2; have HN := Lib.hid hN; have HO2 := Lib.hid hown2; have HB2 := Lib.hid (show Below w.heap.size w w2 from (bw_alloc HB.out _).grown hg2 (by simp; omega) (own_ge HO.out)); clear hN hl hown2 hg2 hat2)
        obtain rfl := HN.out
        go_roundw
        case rel => exact ⟨6, P2, c2, by omega, by go_num, rfl, HB2.out, by rw [Hs.out]; exact HO2.out⟩
        case measure => simp [intOf]
      · have hz9 : Hid (∀ u ∈ [Value.int .u8 64], u.oneCell' = true) := Lib.hid (by simp [Value.oneCell'])
        go_wp2_with (at_builtin; refine wpList_append_sl _ rfl (.tmp 6) (.tmp 9) 42 rfl w.heap.size 25 i0 _ 1 1 Tryd.underlying42 hi0 hz0 hz1 hz2 rfl (by decide) _ 6 (flagVs 6) rfl (HO.out.alloc _) _ 1 1 [.int .u8 64] rfl (sl_new wr #[.int .u8 64] 25 1 1 rfl) (fun h => by (cases h)) hz9.out (by unfold maxLen; omega) (by omega) (by simp; omega) ?_; intro P2 N2 c2 w2 hN hl hown2 hg2 hat2; have HN := Lib.hid hN; have HO2 := Lib.hid hown2; have HB2 := Lib.hid (show Below w.heap.size w w2 from (bw_alloc HB.out _).grown hg2 (by simp; omega) (own_ge HO.out)); clear hN hl hown2 hg2 hat2)
        obtain rfl := HN.out
        go_roundw
        case rel => exact ⟨7, P2, c2, by omega, by go_num, rfl, HB2.out, by rw [Hs.out]; exact HO2.out⟩
        case measure => simp [intOf]
      · have hz9 : Hid (∀ u ∈ [Value.int .u8 128], u.oneCell' = true) := Lib.hid (by simp [Value.oneCell'])
        go_wp2_with (at_builtin; refine wpList_append_sl _ rfl (.tmp 6) (.tmp 9) 42 rfl w.heap.size 25 i0 _ 1 1 Tryd.underlying42 hi0 hz0 hz1 hz2 rfl (by decide) _ 7 (flagVs 7) rfl (HO.out.alloc _) _ 1 1 [.int .u8 128] rfl (sl_new wr #[.int .u8 128] 25 1 1 rfl) (fun h => by (cases h)) hz9.out (by unfold maxLen; omega) (by omega) (by simp; omega) ?_; intro P2 N2 c2 w2 hN hl hown2 hg2 hat2; have HN := Lib.hid hN; have HO2 := Lib.hid hown2; have HB2 := Lib.hid (show Below w.heap.size w w2 from (bw_alloc HB.out _).grown hg2 (by simp; omega) (own_ge HO.out)); clear hN hl hown2 hg2 hat2)
        obtain rfl := HN.out
        go_roundw
        case rel => exact ⟨8, P2, c2, by omega, by go_num, rfl, HB2.out, by rw [Hs.out]; exact HO2.out⟩
        case measure => simp [intOf]
    · obtain rfl : k = 8 := by omega
      obtain ⟨g, cap, hv, hge, hlt2⟩ := HO.out.form (by omega)
      cases hv
      go_wp2
      go_ret
      have hs := sl_of_own HO.out
      obtain ⟨b, off, e, hb, hc⟩ := hs.2 (by omega)
      cases e
      refine ⟨g, c, rfl, hge, HB.out, hlt2, fun i hi => ?_⟩
      have := hc i (by omega)
      rw [Nat.zero_add] at this
      rw [this]
      simp [flagVs, hi]
end Go.Proofs.YtgelpgagbokmdaaDoor
