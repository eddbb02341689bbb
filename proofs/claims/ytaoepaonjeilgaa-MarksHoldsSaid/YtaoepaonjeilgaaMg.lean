/-
  The iterators of slices.Backward. No condition.
-/
import Derived.Test.YtaoepaonjeilgaaMf
import Derived.Test.YtaoepaonjeilgaaEng8
import Derived.RangeFuncBox
import Derived.RangeFuncLeaves
import Derived.Shelf.Abstract
import Derived.WalkKit
import Derived.OwnWalkIn
import Derived.TacticsInMore
import Derived.LoopNIn
import Derived.LoopIn
namespace Go.Proofs.Ytaoepaonjeilgaa
open Go.RowKit Go.Shelf
set_option linter.unusedSimpArgs false
set_option linter.unusedVariables false

attribute [local go_sem] Oper.semAt_some
set_option maxRecDepth 100000 in
set_option maxHeartbeats 2000000 in
theorem backM_in {α : Type} (E : α → Nat × Mk) (F : Nat → α) (n : Nat) (hn : 1 ≤ n) (l Bs c : Nat) {A : Option Addr} {ρ : Nat → Option Obj} (xs : List Mk) (hF : ∀ k, k < xs.length → E (F k) = bwF Mk.zero xs k) (hlen : xs.length ≤ 1000) (J Jx : List α → World → Prop)
    (hY : ∀ pre x W, J pre W → pre.length < xs.length → YieldAt Fence.wide (n - 1) Try.prog l #[.int .i64 ((E x).1 : Int), .agg (E x).2.l.toArray] W fun e W' =>
      (e = .returned (.bool true) ∧ J (pre ++ [x]) W' ∧ Kp ρ W W') ∨ (e = .returned (.bool false) ∧ Jx (pre ++ [x]) W'))
    (W : World) (hf0 : FrW ρ W) (hBs : At ρ Bs 0 (.slice A xs.length c)) (h : SlR 3 Mk.l ρ A xs.length c xs) (h0 : J [] W) :
    CallsIn Fence.wide n Try.prog 36 #[.func (.yield l) #[] #[], .pointer (some ⟨Bs, 0, none⟩)] W fun e W' => (∃ v, e = .returned v) ∧
      ((∃ ys, ys = upto F xs.length ∧ J ys W') ∨ (∃ pre, (∃ k, k ≤ xs.length ∧ pre = upto F k) ∧ Jx pre W')) := by
  obtain ⟨len, hle⟩ : ∃ len, xs.length = len := ⟨_, rfl⟩
  rw [hle] at hBs h hY hlen
  have hBs0 := hf0.cell hBs
  refine callsIn_of_wp Try.func36 rfl trivial ?_ rfl
  simp only [Try.ntmps36, List.size_toArray, List.length_cons, List.length_nil, Nat.reduceAdd, Nat.reduceSub, Array.replicate_succ, Array.replicate_zero, List.push_toArray, List.append_toArray, List.nil_append, List.cons_append]
  gi_wp2
  gi_loopw [3] (fun i wr => ∃ k : Nat, k ≤ len ∧ i = .int .i64 ((len : Int) - 1 - k) ∧ J (upto F k) wr ∧ FrW ρ wr)
    (fun i _ => (intOf i + 1).toNat)
  case atStart => exact ⟨0, Nat.zero_le _, by simp, h0, hf0⟩
  case round =>
    obtain ⟨k, hk, rfl, hJs, hf⟩ := hrel
    have hBs' := hf.cell hBs
    by_cases hlt : k < len
    · obtain ⟨j, hj⟩ : ∃ j : Nat, j = len - 1 - k := ⟨_, rfl⟩
      have e1 : (len : Int) - 1 - (k : Int) = (j : Int) := by omega
      rw [e1]
      have hjl : j < xs.length := by omega
      have hjl2 : j < len := by omega
      obtain ⟨b, off, hA, hat⟩ := h.pos (by omega)
      subst hA
      have hU := upto_succ F k
      have hE := hF k (by omega)
      rw [show bwF Mk.zero xs k = (j, (xs[j]?).getD Mk.zero) by rw [bwF, hle, ← hj]] at hE
      obtain ⟨fn, tmps, assign, body, hy, hR⟩ := hY _ (F k) wr hJs (by rw [upto_length]; exact hlt)
      rw [hE] at hy
      rw [← hU] at hR
      have c0 := hf.cell (hat j (xs[j]?.getD Mk.zero) (by rw [List.getElem?_eq_getElem hjl]; rfl) 0 _ rfl)
      have c1 := hf.cell (hat j (xs[j]?.getD Mk.zero) (by rw [List.getElem?_eq_getElem hjl]; rfl) 1 _ rfl)
      have c2 := hf.cell (hat j (xs[j]?.getD Mk.zero) (by rw [List.getElem?_eq_getElem hjl]; rfl) 2 _ rfl)
      clear hE
      generalize (xs[j]?).getD Mk.zero = x at *
      simp only [Mk.l] at hy
      rw [Nat.add_zero] at c0
      have e2 : (j : Int) - 1 = (len : Int) - 1 - ((k + 1 : Nat) : Int) := by omega
      clear hj e1 hU hjl
      gi_wp2
      refine hR.mono ?_
      rintro e W3 (⟨rfl, hJ3, hk3⟩ | ⟨rfl, hJx3⟩)
      · gi_wp2
        go_roundw
        case rel => exact ⟨k + 1, by omega, congrArg (Value.int .i64) (by omega), hJ3, hk3 hf⟩
        case measure => simp [intOf]; omega
      · gi_wp2
        refine bodyPost_ret (results_none rfl _ _ _) rfl ?_
        exact ⟨⟨_, rfl⟩, .inr ⟨_, ⟨k + 1, by omega, rfl⟩, hJx3⟩⟩
    · obtain rfl : k = len := by omega
      have e1 : (k : Int) - 1 - (k : Int) = -1 := by omega
      rw [e1]
      gi_wp2
      go_end0
      exact ⟨⟨_, rfl⟩, .inl ⟨_, by rw [hle], hJs⟩⟩
theorem backM_stops {α : Type} (E : α → Nat × Mk) (F : Nat → α) (n : Nat) (hn : 1 ≤ n) (Bs c : Nat) {A : Option Addr} {ρ : Nat → Option Obj} (xs : List Mk) (hF : ∀ k, k < xs.length → E (F k) = bwF Mk.zero xs k) (hlen : xs.length ≤ 1000) (w : World) (hρ : ∀ b o, ρ b = some o → b < w.heap.size) (hf : FrW ρ w) (hBs : At ρ Bs 0 (.slice A xs.length c)) (h : SlR 3 Mk.l ρ A xs.length c xs) :
    SeqStopsK Fence.wide n Try.prog 36 #[.pointer (some ⟨Bs, 0, none⟩)] (fun x : α => #[Value.int .i64 ((E x).1 : Int), Value.agg (E x).2.l.toArray]) (Kp ρ) (fun ys => ys = upto F xs.length) (fun pre => ∃ k, k ≤ xs.length ∧ pre = upto F k) xs.length w := fun l J Jx W hW _ _ hY h0 =>
  backM_in E F n hn l Bs c xs hF hlen J Jx hY W (fun b o hb => (hW.block b (hρ b o hb)).trans (hf b o hb)) hBs h h0
set_option maxHeartbeats 1000000 in
theorem backM_c (A : Option Addr) (n c : Nat) (w : World) : Calls Try.prog 28 #[.slice A n c] w fun e w' => e = .returned (.func (.func 36) #[] #[.pointer (some ⟨w.heap.size, 0, none⟩)]) ∧ w' = w.alloc (.cells #[.slice A n c] 24) := by
  refine (callsIn_wide (n := 1)).1 (callsIn_of_wp Try.func28 rfl trivial ?_ rfl)
  simp only [Try.ntmps28, List.size_toArray, List.length_cons, List.length_nil, Nat.reduceAdd, Nat.reduceSub, Array.replicate_succ, Array.replicate_zero, List.push_toArray, List.append_toArray, List.nil_append, List.cons_append]
  gi_wp2
  go_ret
  exact ⟨rfl, rfl⟩
set_option maxRecDepth 100000 in
set_option maxHeartbeats 2000000 in
theorem backC_in {α : Type} (E : α → Nat × Cm) (F : Nat → α) (n : Nat) (hn : 1 ≤ n) (l Bs c : Nat) {A : Option Addr} {ρ : Nat → Option Obj} (xs : List Cm) (hF : ∀ k, k < xs.length → E (F k) = bwF Cm.zero xs k) (hlen : xs.length ≤ 1000) (J Jx : List α → World → Prop)
    (hY : ∀ pre x W, J pre W → pre.length < xs.length → YieldAt Fence.wide (n - 1) Try.prog l #[.int .i64 ((E x).1 : Int), .agg (E x).2.l.toArray] W fun e W' =>
      (e = .returned (.bool true) ∧ J (pre ++ [x]) W' ∧ Kp ρ W W') ∨ (e = .returned (.bool false) ∧ Jx (pre ++ [x]) W'))
    (W : World) (hf0 : FrW ρ W) (hBs : At ρ Bs 0 (.slice A xs.length c)) (h : SlR 9 Cm.l ρ A xs.length c xs) (h0 : J [] W) :
    CallsIn Fence.wide n Try.prog 39 #[.func (.yield l) #[] #[], .pointer (some ⟨Bs, 0, none⟩)] W fun e W' => (∃ v, e = .returned v) ∧
      ((∃ ys, ys = upto F xs.length ∧ J ys W') ∨ (∃ pre, (∃ k, k ≤ xs.length ∧ pre = upto F k) ∧ Jx pre W')) := by
  obtain ⟨len, hle⟩ : ∃ len, xs.length = len := ⟨_, rfl⟩
  rw [hle] at hBs h hY hlen
  have hBs0 := hf0.cell hBs
  refine callsIn_of_wp Try.func39 rfl trivial ?_ rfl
  simp only [Try.ntmps39, List.size_toArray, List.length_cons, List.length_nil, Nat.reduceAdd, Nat.reduceSub, Array.replicate_succ, Array.replicate_zero, List.push_toArray, List.append_toArray, List.nil_append, List.cons_append]
  gi_wp2
  gi_loopw [3] (fun i wr => ∃ k : Nat, k ≤ len ∧ i = .int .i64 ((len : Int) - 1 - k) ∧ J (upto F k) wr ∧ FrW ρ wr)
    (fun i _ => (intOf i + 1).toNat)
  case atStart => exact ⟨0, Nat.zero_le _, by simp, h0, hf0⟩
  case round =>
    obtain ⟨k, hk, rfl, hJs, hf⟩ := hrel
    have hBs' := hf.cell hBs
    by_cases hlt : k < len
    · obtain ⟨j, hj⟩ : ∃ j : Nat, j = len - 1 - k := ⟨_, rfl⟩
      have e1 : (len : Int) - 1 - (k : Int) = (j : Int) := by omega
      rw [e1]
      have hjl : j < xs.length := by omega
      have hjl2 : j < len := by omega
      obtain ⟨b, off, hA, hat⟩ := h.pos (by omega)
      subst hA
      have hU := upto_succ F k
      have hE := hF k (by omega)
      rw [show bwF Cm.zero xs k = (j, (xs[j]?).getD Cm.zero) by rw [bwF, hle, ← hj]] at hE
      obtain ⟨fn, tmps, assign, body, hy, hR⟩ := hY _ (F k) wr hJs (by rw [upto_length]; exact hlt)
      rw [hE] at hy
      rw [← hU] at hR
      have c0 := hf.cell (hat j (xs[j]?.getD Cm.zero) (by rw [List.getElem?_eq_getElem hjl]; rfl) 0 _ rfl)
      have c1 := hf.cell (hat j (xs[j]?.getD Cm.zero) (by rw [List.getElem?_eq_getElem hjl]; rfl) 1 _ rfl)
      have c2 := hf.cell (hat j (xs[j]?.getD Cm.zero) (by rw [List.getElem?_eq_getElem hjl]; rfl) 2 _ rfl)
      have c3 := hf.cell (hat j (xs[j]?.getD Cm.zero) (by rw [List.getElem?_eq_getElem hjl]; rfl) 3 _ rfl)
      have c4 := hf.cell (hat j (xs[j]?.getD Cm.zero) (by rw [List.getElem?_eq_getElem hjl]; rfl) 4 _ rfl)
      have c5 := hf.cell (hat j (xs[j]?.getD Cm.zero) (by rw [List.getElem?_eq_getElem hjl]; rfl) 5 _ rfl)
      have c6 := hf.cell (hat j (xs[j]?.getD Cm.zero) (by rw [List.getElem?_eq_getElem hjl]; rfl) 6 _ rfl)
      have c7 := hf.cell (hat j (xs[j]?.getD Cm.zero) (by rw [List.getElem?_eq_getElem hjl]; rfl) 7 _ rfl)
      have c8 := hf.cell (hat j (xs[j]?.getD Cm.zero) (by rw [List.getElem?_eq_getElem hjl]; rfl) 8 _ rfl)
      clear hE
      generalize (xs[j]?).getD Cm.zero = x at *
      simp only [Cm.l] at hy
      rw [Nat.add_zero] at c0
      have e2 : (j : Int) - 1 = (len : Int) - 1 - ((k + 1 : Nat) : Int) := by omega
      clear hj e1 hU hjl
      gi_wp2
      refine hR.mono ?_
      rintro e W3 (⟨rfl, hJ3, hk3⟩ | ⟨rfl, hJx3⟩)
      · gi_wp2
        go_roundw
        case rel => exact ⟨k + 1, by omega, congrArg (Value.int .i64) (by omega), hJ3, hk3 hf⟩
        case measure => simp [intOf]; omega
      · gi_wp2
        refine bodyPost_ret (results_none rfl _ _ _) rfl ?_
        exact ⟨⟨_, rfl⟩, .inr ⟨_, ⟨k + 1, by omega, rfl⟩, hJx3⟩⟩
    · obtain rfl : k = len := by omega
      have e1 : (k : Int) - 1 - (k : Int) = -1 := by omega
      rw [e1]
      gi_wp2
      go_end0
      exact ⟨⟨_, rfl⟩, .inl ⟨_, by rw [hle], hJs⟩⟩
theorem backC_stops {α : Type} (E : α → Nat × Cm) (F : Nat → α) (n : Nat) (hn : 1 ≤ n) (Bs c : Nat) {A : Option Addr} {ρ : Nat → Option Obj} (xs : List Cm) (hF : ∀ k, k < xs.length → E (F k) = bwF Cm.zero xs k) (hlen : xs.length ≤ 1000) (w : World) (hρ : ∀ b o, ρ b = some o → b < w.heap.size) (hf : FrW ρ w) (hBs : At ρ Bs 0 (.slice A xs.length c)) (h : SlR 9 Cm.l ρ A xs.length c xs) :
    SeqStopsK Fence.wide n Try.prog 39 #[.pointer (some ⟨Bs, 0, none⟩)] (fun x : α => #[Value.int .i64 ((E x).1 : Int), Value.agg (E x).2.l.toArray]) (Kp ρ) (fun ys => ys = upto F xs.length) (fun pre => ∃ k, k ≤ xs.length ∧ pre = upto F k) xs.length w := fun l J Jx W hW _ _ hY h0 =>
  backC_in E F n hn l Bs c xs hF hlen J Jx hY W (fun b o hb => (hW.block b (hρ b o hb)).trans (hf b o hb)) hBs h h0
set_option maxHeartbeats 1000000 in
theorem backC_c (A : Option Addr) (n c : Nat) (w : World) : Calls Try.prog 37 #[.slice A n c] w fun e w' => e = .returned (.func (.func 39) #[] #[.pointer (some ⟨w.heap.size, 0, none⟩)]) ∧ w' = w.alloc (.cells #[.slice A n c] 34) := by
  refine (callsIn_wide (n := 1)).1 (callsIn_of_wp Try.func37 rfl trivial ?_ rfl)
  simp only [Try.ntmps37, List.size_toArray, List.length_cons, List.length_nil, Nat.reduceAdd, Nat.reduceSub, Array.replicate_succ, Array.replicate_zero, List.push_toArray, List.append_toArray, List.nil_append, List.cons_append]
  gi_wp2
  go_ret
  exact ⟨rfl, rfl⟩
end Go.Proofs.Ytaoepaonjeilgaa
