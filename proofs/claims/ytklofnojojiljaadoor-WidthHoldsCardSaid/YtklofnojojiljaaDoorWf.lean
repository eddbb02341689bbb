/-
  The tables, cloned. Condition: the package-level tables hold what they were laid with.
-/
import Derived.Test.YtklofnojojiljaaDoorWe
import Derived.Deep.AppendLies
namespace Go.Proofs.YtklofnojojiljaaDoor
open Go.RowKit
set_option linter.unusedSimpArgs false
set_option linter.unusedVariables false

theorem info_pair : (Tryd.prog.info? 30).map (fun i => (i.zero, i.size, i.bytes)) = some (some (.agg #[.int .i32 0, .int .i32 0]), 2, 8) := by kernel_rfl
/-- a table in a new block of its own -/
def NewTab (n : Nat) (f : Nat → Int) (w : World) (e : Ending) (w' : World) : Prop :=
  ∃ (g c : Nat) (cur : Array Value), e = .returned (.slice (some ⟨g, 0, none⟩) n c) ∧ w.heap.size ≤ g ∧ Below w.heap.size w w' ∧ w'.heap[g]? = some (.cells cur 30 (0, 0)) ∧ (∀ i, i < n * 2 → cur[i]? = some (.int .i32 (f i))) ∧ n ≤ c
def pairVs (f : Nat → Int) (n : Nat) : List Value := (List.range (n * 2)).map fun i => .int .i32 (f i)
set_option maxHeartbeats 1000000 in
theorem clone_c (b n : Nat) (f : Nat → Int) (w : World) (hn : n ≤ 1000) (h0 : 0 < n) (hb : b < w.heap.size) (C : Pairs w b n f) :
    Calls Tryd.prog 20 #[.slice (some ⟨b, 0, none⟩) n n] w (NewTab n f w) := by
  obtain ⟨i0, hi0, hz0, hz1, hz2⟩ := info_parts info_pair
  have hnil := fun (w : World) (a : Option Addr) (n c : Nat) => Lib.run_eql_slice_nil (P := Tryd.prog) w 27 30 a n c 0 0 Tryd.underlying27
  have HC := Lib.hid C
  clear C
  have hown0 : Hid ((w.alloc (.cells #[] 30)).ownsRow w.heap.size 30 2 (.slice (some ⟨w.heap.size, 0, none⟩) 0 0) 0 []) :=
    Lib.hid ⟨rfl, .inr ⟨w.heap.size, 0, #[], rfl, Nat.le_refl _, heap_alloc_new w _, Nat.le_refl _, Nat.zero_le _, rfl, rfl⟩⟩
  have hc1 : Hid ((pairVs f n).length = n * 2) := Lib.hid (by simp [pairVs])
  have hc2 : Hid (∀ j u, (pairVs f n)[j]? = some u → (w.alloc (.cells #[] 30)).cell? (Addr.add ⟨b, 0, none⟩ j) = some u) := Lib.hid (by
    intro j u hj
    simp only [pairVs, List.getElem?_map, Option.map_eq_some_iff] at hj
    obtain ⟨x, hx, rfl⟩ := hj
    obtain ⟨h1, h2⟩ := List.getElem?_eq_some_iff.1 hx
    obtain rfl : j = x := by simpa using h2
    replace h1 : j < n * 2 := by simpa using h1
    rw [show (Addr.add ⟨b, 0, none⟩ j) = ⟨b, j, none⟩ by unfold Addr.add; split <;> simp_all]
    rw [World.cell?_alloc_lt w _ _ hb]
    exact HC.out j h1)
  have hc3 : Hid (∀ u ∈ pairVs f n, u.oneCell' = true) := Lib.hid (by simp [pairVs, Value.oneCell'])
  go_enter Tryd.func20, Tryd.ntmps20
  go_wp2_with (at_builtin; refine wpList_append_own _ rfl _ _ 27 rfl w.heap.size 30 i0 _ 2 8 Tryd.underlying27 hi0 hz0 hz1 hz2 rfl (by decide) _ 0 [] rfl hown0.out ⟨b, 0, none⟩ n n (pairVs f n) rfl hc1.out hc2.out hc3.out (by unfold maxLen; omega) (by omega) (by simp) ?_; intro v1 w1 hown hg hiff)
  obtain ⟨g, cap, hv, hge, hlt⟩ := hown.form (by omega)
  subst hv
  have Hown := Lib.hid hown
  have HB := Lib.hid (show Below w.heap.size w w1 from (bw_alloc (Below.refl _ _) _).grown hg (by simp) (fun k e => by have e' : some w.heap.size = some k := e; injection e' with e'; omega))
  clear hown hg hiff
  go_wp2
  go_ret
  obtain ⟨g', cap', cur, e, h1, h2, h3, h4, h5, h6⟩ := Hown.out.2.resolve_left (by rintro ⟨e, _⟩; cases e)
  cases e
  refine ⟨g, cap, cur, by simp, h1, HB.out, h2, fun i hi => ?_, by omega⟩
  have h7 : (cur.toList.take ((0 + n) * 2))[i]? = ([] ++ pairVs f n)[i]? := by rw [h6]
  rw [List.getElem?_take_of_lt (by omega)] at h7
  rw [← Array.getElem?_toList, h7]
  simp [pairVs, hi]

set_option maxHeartbeats 1000000 in
theorem wmarks_c (w : World) (L : LaidW w) : Calls Tryd.prog 10 #[] w (NewTab 18 marksF w) := by
  have hs := L.sz
  have H := Lib.hid (clone_c 0 18 marksF w (by omega) (by omega) (by omega) L.m)
  clear L hs
  go_enter Tryd.func10, Tryd.ntmps10
  go_wp2_with fail
  refine H.out.mono ?_
  rintro e w1 ⟨g, c, cur, rfl, h1, h2, h3, h4, h5⟩
  have HH := Lib.hid (show w.heap.size ≤ g ∧ Below w.heap.size w w1 ∧ w1.heap[g]? = some (.cells cur 30 (0, 0)) ∧ (∀ i, i < 18 * 2 → cur[i]? = some (.int .i32 (marksF i))) ∧ 18 ≤ c from ⟨h1, h2, h3, h4, h5⟩)
  clear h1 h2 h3 h4 h5
  go_wp2
  go_ret
  exact ⟨g, c, cur, rfl, HH.out⟩

set_option maxHeartbeats 1000000 in
theorem wwide_c (w : World) (L : LaidW w) : Calls Tryd.prog 11 #[] w (NewTab 19 wideF w) := by
  have hs := L.sz
  have H := Lib.hid (clone_c 1 19 wideF w (by omega) (by omega) (by omega) L.v)
  clear L hs
  go_enter Tryd.func11, Tryd.ntmps11
  go_wp2_with fail
  refine H.out.mono ?_
  rintro e w1 ⟨g, c, cur, rfl, h1, h2, h3, h4, h5⟩
  have HH := Lib.hid (show w.heap.size ≤ g ∧ Below w.heap.size w w1 ∧ w1.heap[g]? = some (.cells cur 30 (0, 0)) ∧ (∀ i, i < 19 * 2 → cur[i]? = some (.int .i32 (wideF i))) ∧ 19 ≤ c from ⟨h1, h2, h3, h4, h5⟩)
  clear h1 h2 h3 h4 h5
  go_wp2
  go_ret
  exact ⟨g, c, cur, rfl, HH.out⟩

theorem eqP (d : Nat) (a b c e : Int) (w : World) : (Op.equalIn (d + 2) 30 (.agg #[.int .i32 a, .int .i32 b]) (.agg #[.int .i32 c, .int .i32 e])).run Tryd.prog w = .ok (a == c && b == e) w := by
  rw [run_equalIn_array w (d + 1) 30 21 2 1 _ _ Tryd.underlying30 (fun _ => by kernel_rfl)]
  have : List.range 2 = [0, 1] := rfl
  rw [this]
  cases h1 : a == c <;> cases h2 : b == e <;> simp [eqElems, go_sem, part, h1, h2]
set_option maxHeartbeats 1000000 in
theorem same_c (b b' n c c' : Nat) (f : Nat → Int) (w : World) (hn : n ≤ 1000) (C : Pairs w b n f) (C' : Pairs w b' n f) (hb : 0 < n → b < w.heap.size) (hb' : 0 < n → b' < w.heap.size) :
    Calls Tryd.prog 12 #[.slice (some ⟨b, 0, none⟩) n c, .slice (some ⟨b', 0, none⟩) n c'] w (Ret (.bool true) w) := by
  have heq := eqP
  have HC := Lib.hid C
  have HC' := Lib.hid C'
  clear C C'
  go_enter Tryd.func12, Tryd.ntmps12
  go_wp2
  go_loopw [5] (fun i wr => ∃ k : Nat, k ≤ n ∧ i = .int .i64 k ∧ Below w.heap.size w wr) (fun i _ => n - (intOf i).toNat)
  case atStart => exact ⟨0, Nat.zero_le _, rfl, Below.refl _ _⟩
  case round =>
    obtain ⟨k, hk, rfl, hbw⟩ := hrel
    have HB := Lib.hid hbw
    clear hbw
    by_cases hlt : k < n
    · have hw1 := HC.out.below (hb (by omega)) HB.out
      have hw2 := HC'.out.below (hb' (by omega)) HB.out
      have hz1 : b < wr.heap.size := Nat.lt_of_lt_of_le (hb (by omega)) HB.out.size
      have hz2 : b' < wr.heap.size := Nat.lt_of_lt_of_le (hb' (by omega)) HB.out.size
      have q1 := fun m : Cls wr => (hw1.below hz1 m.h) (k * 2) (by omega)
      have q2 := fun m : Cls wr => (hw1.below hz1 m.h) (k * 2 + 1) (by omega)
      have q3 := fun m : Cls wr => (hw2.below hz2 m.h) (k * 2) (by omega)
      have q4 := fun m : Cls wr => (hw2.below hz2 m.h) (k * 2 + 1) (by omega)
      clear hw1 hw2
      have k0 : (0 : Int) ≤ (k : Int) := by omega
      have k1 : (k : Int) < (n : Int) := by omega
      go_wp2_with fail
      refine wp_region_cls (by kernel_rfl) (by kernel_rfl) ?_
      repeat (go_big_quiet_step (fail))
      refine wpQuiet_nil ?_
      rintro w2 ⟨m, hm⟩
      have hb2 := m.h
      rw [← hm] at hb2
      have HB2 := Lib.hid (bw_call HB.out hb2)
      clear hb2 hm m q1 q2 q3 q4
      go_wp2
      go_roundw
      case rel => exact ⟨k + 1, by omega, by go_num, HB2.out⟩
      case measure => simp [intOf]; omega
    · go_wp2
      go_ret
      exact ⟨rfl, HB.out⟩
end Go.Proofs.YtklofnojojiljaaDoor
