/-
  The walk of Stain. No condition.
-/
import Derived.Test.YtdmpodpdpncobaaDoorWd
import Derived.Test.YtdmpodpdpncobaaDoorSto
namespace Go.Proofs.YtdmpodpdpncobaaDoor
open Go.RowKit
set_option linter.unusedSimpArgs false
set_option linter.unusedVariables false
set_option maxRecDepth 100000 in
set_option maxHeartbeats 1000000 in
theorem stain_c {w0 : World} {Kf : List Ent} {b n c : Nat} {xs : List Cl} {cs0 : List Value} (w : World) (k : KOk w0 (.blk b cs0 58 :: Kf) w) (hl : xs.length = n) (hn : n ≤ 9223372036854775807) (hc0 : cs0.take (fl xs).length = fl xs) : Calls Tryd.prog 46 #[.slice (some ⟨b, 0, none⟩) n c] w (fun e w' => ∃ v : List Value × List Cl, e = .returned (.tuple #[]) ∧ (v.2.length = n ∧ v.1.take (fl v.2).length = fl v.2) ∧ KOk w0 (.blk b v.1 58 :: Kf) w') := by
 refine calls_T (vs := [.slice (some ⟨b, 0, none⟩) n c]) (L0 := [(0, .slice (some ⟨b, 0, none⟩) n c)]) Tryd.func46 rfl rfl rfl rfl (k) ?_
 refine T.seq ?_
 refine T.region ?_
 refine TL.val (OpV.assign rfl) rfl ?_
 refine TL.nil ?_
 refine TE.next ?_
 refine T.block ?_
 refine T.loop (ι := Nat × List Cl × List Value) (fun ⟨i, ys, cs⟩ => i ≤ n ∧ ys.length = n ∧ cs.take (fl ys).length = fl ys) (fun ⟨i, ys, cs⟩ => (n - i)) (fun ⟨i, ys, cs⟩ => [(0, .slice (some ⟨b, 0, none⟩) n c), (2, .int .i64 (i : Int))]) (fun ⟨i, ys, cs⟩ => .blk b cs 58 :: Kf) (0, xs, cs0) ⟨Nat.zero_le _, hl, hc0⟩ (.cons (t := 0) rfl <| .cons (t := 2) rfl <| .nil) (Kle.refl) ?_
 rintro ⟨i, ys, cs⟩ hR
 refine T.seq ?_
 refine T.seq ?_
 refine T.region ?_
 refine TL.val (OpV.move rfl) rfl ?_
 refine TL.val (OpV.move rfl) rfl ?_
 refine TL.val (OpV.len Tryd.underlying35 rfl) rfl ?_
 refine TL.val (OpV.lss rfl rfl) rfl ?_
 refine TL.nil ?_
 refine TE.next ?_
 refine T.cond rfl ?_ ?_
 ·
  intro ht6
  obtain ⟨q1, q2, q3⟩ := hR
  have hi : i < n := by have h9 := of_decide_eq_true ht6; omega
  obtain ⟨y, hy⟩ := get_of_lt q2 hi
  have hcy := Cels.own_row (w0 := w0) (K := .blk b cs 58 :: Kf) .here q3 hy
  have hs1 := fl_store (vs := [Value.int .i32 (IntKind.i32.wrap (y.r + 1))]) (j := 0) (y' := { y with r := IntKind.i32.wrap (y.r + 1) }) q3 hy (by simp) rfl
  obtain ⟨cs1, hcs1⟩ : ∃ z, z = putL cs (i * 16 + 0) [Value.int .i32 (IntKind.i32.wrap (y.r + 1))] := ⟨_, rfl⟩
  rw [← hcs1] at hs1
  have hy1 : (ys.set i { y with r := IntKind.i32.wrap (y.r + 1) })[i]? = some { y with r := IntKind.i32.wrap (y.r + 1) } := by rw [List.getElem?_set_self (by omega)]
  have hcy1 := Cels.own_row (w0 := w0) (K := .blk b cs1 58 :: Kf) .here hs1.1 hy1
  have hs2 := fl_store (vs := [Value.int .i64 (IntKind.i64.wrap (y.w + 1))]) (j := 4) (y' := { y with r := IntKind.i32.wrap (y.r + 1), w := IntKind.i64.wrap (y.w + 1) }) hs1.1 hy1 (by simp) rfl
  obtain ⟨cs2, hcs2⟩ : ∃ z, z = putL cs1 (i * 16 + 4) [Value.int .i64 (IntKind.i64.wrap (y.w + 1))] := ⟨_, rfl⟩
  rw [← hcs2, List.set_set] at hs2
  refine T.skip ?_
  refine TE.next ?_
  refine T.seq ?_
  refine T.block ?_
  refine T.seq ?_
  refine T.region ?_
  refine TL.val (OpV.move rfl) rfl ?_
  refine TL.val (OpV.move rfl) rfl ?_
  refine TL.val (OpV.indexAddr (j := i) se_35 rfl rfl rfl rfl hi) rfl ?_
  refine TL.val (OpV.fieldAddr rfl fo_58_0) rfl ?_
  refine TL.val (OpV.load pl_21 rfl (by have h9 := hcy.2 0 _ rfl; simpa only [Nat.zero_add, Nat.add_zero] using h9)) rfl ?_
  refine TL.val (OpV.add rfl rfl rfl) rfl ?_
  refine TL.val (OpV.indexAddr (j := i) se_35 rfl rfl rfl rfl hi) rfl ?_
  refine TL.val (OpV.fieldAddr rfl fo_58_0) rfl ?_
  refine TL.store (cs' := cs1) rfl rfl szz_21 rfl rfl rfl .here (by have h9 := hs1.2; simp only [List.length_cons, List.length_nil] at h9 ⊢; omega) (by rw [hcs1, Nat.zero_add]) ?_
  refine TL.nil ?_
  refine TE.sub (.cons (t := 0) rfl <| .cons (t := 2) rfl <| .nil) ?_
  refine TE.next ?_
  refine T.region ?_
  refine TL.val (OpV.move rfl) rfl ?_
  refine TL.val (OpV.move rfl) rfl ?_
  refine TL.val (OpV.indexAddr (j := i) se_35 rfl rfl rfl rfl hi) rfl ?_
  refine TL.val (OpV.fieldAddr rfl fo_58_2) rfl ?_
  refine TL.val (OpV.load pl_3 rfl (by have h9 := hcy1.2 4 _ rfl; simpa only [Nat.zero_add, Nat.add_zero] using h9)) rfl ?_
  refine TL.val (OpV.add rfl rfl rfl) rfl ?_
  refine TL.val (OpV.indexAddr (j := i) se_35 rfl rfl rfl rfl hi) rfl ?_
  refine TL.val (OpV.fieldAddr rfl fo_58_2) rfl ?_
  refine TL.store (cs' := cs2) rfl rfl szz_3 rfl rfl rfl .here (by have h9 := hs2.2; simp only [List.length_cons, List.length_nil] at h9 ⊢; omega) (by rw [hcs2, Nat.zero_add]) ?_
  refine TL.nil ?_
  refine TE.out ?_
  refine TE.sub (.cons (t := 0) rfl <| .cons (t := 2) rfl <| .nil) ?_
  refine TE.next ?_
  refine T.region ?_
  refine TL.val (OpV.move rfl) rfl ?_
  refine TL.val (OpV.add rfl rfl (by first | exact IntWalk.i64_in _ ⟨by omega, by omega⟩ | rfl)) rfl ?_
  refine TL.val (OpV.assign rfl) rfl ?_
  refine TL.nil ?_
  exact TE.meet (i + 1, ys.set i { y with r := IntKind.i32.wrap (y.r + 1), w := IntKind.i64.wrap (y.w + 1) }, cs2) ⟨⟨by omega, by rw [List.length_set]; exact q2, hs2.1⟩, by simp only; omega⟩ (.cons (t := 0) (by first | rfl | (simp [lk]; done)) <| .cons (t := 2) (by first | rfl | (simp [lk]; done)) <| .nil) (Kle.refl)
 ·
  intro ht6
  refine T.exit ?_
  refine TE.pass_exit ?_
  refine TE.pass_exit ?_
  refine TE.here ?_
  refine TE.end0 rfl ?_
  exact fun w1 k1 => ⟨⟨cs, ys⟩, rfl, ⟨hR.2.1, hR.2.2⟩, k1⟩
end Go.Proofs.YtdmpodpdpncobaaDoor
