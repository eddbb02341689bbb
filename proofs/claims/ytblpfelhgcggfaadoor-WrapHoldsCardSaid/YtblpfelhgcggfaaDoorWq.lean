/-
  The walk of the law WrapRows. Condition: the package-level tables hold what they were laid with.
-/
import Derived.Test.YtblpfelhgcggfaaDoorWo
namespace Go.Proofs.YtblpfelhgcggfaaDoor
open Go.RowKit
set_option linter.unusedSimpArgs false
set_option linter.unusedVariables false
theorem go_12 : isGo Tryd.prog 12 = true := by kernel_rfl
theorem go_13 : isGo Tryd.prog 13 = true := by kernel_rfl
theorem go_14 : isGo Tryd.prog 14 = true := by kernel_rfl
theorem go_16 : isGo Tryd.prog 16 = true := by kernel_rfl
theorem go_18 : isGo Tryd.prog 18 = true := by kernel_rfl
theorem szz_21 : sz Tryd.prog 21 = some 1 := by kernel_rfl
set_option maxRecDepth 100000 in
set_option maxHeartbeats 1000000 in
theorem stain_c {w0 : World} {Kf : List Ent} {b n c : Nat} {xs : List Cl} {cs0 : List Value} (w : World) (k : KOk w0 (.blk b cs0 59 :: Kf) w) (hl : xs.length = n) (hn : n ≤ 9223372036854775807) (hc0 : cs0.take (fl xs).length = fl xs) : Calls Tryd.prog 18 #[.slice (some ⟨b, 0, none⟩) n c] w (fun e w' => ∃ v : List Value × List Cl, e = .returned (.tuple #[]) ∧ (v.2.length = n ∧ v.1.take (fl v.2).length = fl v.2) ∧ KOk w0 (.blk b v.1 59 :: Kf) w') := by
  refine calls_T (vs := [.slice (some ⟨b, 0, none⟩) n c]) (L0 := [(0, .slice (some ⟨b, 0, none⟩) n c)]) Tryd.func18 rfl rfl rfl rfl (k) ?_
  refine T.seq ?_
  refine T.region ?_
  refine TL.val (OpV.assign rfl) rfl ?_
  refine TL.nil ?_
  refine TE.next ?_
  refine T.block ?_
  refine T.loop (ι := Nat × List Cl × List Value) (fun ⟨i, ys, cs⟩ => i ≤ n ∧ ys.length = n ∧ cs.take (fl ys).length = fl ys) (fun ⟨i, ys, cs⟩ => (n - i)) (fun ⟨i, ys, cs⟩ => [(0, .slice (some ⟨b, 0, none⟩) n c), (2, .int .i64 (i : Int))]) (fun ⟨i, ys, cs⟩ => .blk b cs 59 :: Kf) (0, xs, cs0) ⟨Nat.zero_le _, hl, hc0⟩ (.cons (t := 0) rfl <| .cons (t := 2) rfl <| .nil) (Kle.refl) ?_
  rintro ⟨i, ys, cs⟩ hR
  refine T.seq ?_
  refine T.seq ?_
  refine T.region ?_
  refine TL.val (OpV.move rfl) rfl ?_
  refine TL.val (OpV.move rfl) rfl ?_
  refine TL.val (OpV.len Tryd.underlying22 rfl) rfl ?_
  refine TL.val (OpV.lss rfl rfl) rfl ?_
  refine TL.nil ?_
  refine TE.next ?_
  refine T.cond rfl ?_ ?_
  · intro ht6
    obtain ⟨q1, q2, q3⟩ := hR
    have hi : i < n := by have h9 := of_decide_eq_true ht6; omega
    obtain ⟨y, hy⟩ := get_of_lt q2 hi
    have hcy := Cels.own_row (w0 := w0) (K := .blk b cs 59 :: Kf) .here q3 hy
    have hs1 := fl_store (vs := [Value.int .i32 (IntKind.i32.wrap (y.r + 1))]) (j := 0) (y' := { y with r := IntKind.i32.wrap (y.r + 1) }) q3 hy (by simp) rfl
    obtain ⟨cs1, hcs1⟩ : ∃ z, z = putL cs (i * 16 + 0) [Value.int .i32 (IntKind.i32.wrap (y.r + 1))] := ⟨_, rfl⟩
    rw [← hcs1] at hs1
    have hy1 : (ys.set i { y with r := IntKind.i32.wrap (y.r + 1) })[i]? = some { y with r := IntKind.i32.wrap (y.r + 1) } := by rw [List.getElem?_set_self (by omega)]
    have hcy1 := Cels.own_row (w0 := w0) (K := .blk b cs1 59 :: Kf) .here hs1.1 hy1
    have hs2 := fl_store (vs := [Value.int .i64 (IntKind.i64.wrap (y.w + 1))]) (j := 4) (y' := { y with r := IntKind.i32.wrap (y.r + 1), w := IntKind.i64.wrap (y.w + 1) }) hs1.1 hy1 (by simp) rfl
    obtain ⟨cs2, hcs2⟩ : ∃ z, z = putL cs1 (i * 16 + 4) [Value.int .i64 (IntKind.i64.wrap (y.w + 1))] := ⟨_, rfl⟩
    rw [← hcs2, List.set_set] at hs2
    refine T.skip ?_
    refine TE.next ?_
    refine T.seq ?_
    refine T.block ?_
    refine T.seq ?_
    refine T.region ?_
    refine TL.val (OpV.move rfl) rfl ?_
    refine TL.val (OpV.move rfl) rfl ?_
    refine TL.val (OpV.indexAddr (j := i) se_22 rfl rfl rfl rfl hi) rfl ?_
    refine TL.val (OpV.fieldAddr rfl fo_59_0) rfl ?_
    refine TL.val (OpV.load pl_21 rfl (by have h9 := hcy.2 0 _ rfl; simpa only [Nat.zero_add, Nat.add_zero] using h9)) rfl ?_
    refine TL.val (OpV.add rfl rfl rfl) rfl ?_
    refine TL.val (OpV.indexAddr (j := i) se_22 rfl rfl rfl rfl hi) rfl ?_
    refine TL.val (OpV.fieldAddr rfl fo_59_0) rfl ?_
    refine TL.store (cs' := cs1) rfl rfl szz_21 rfl rfl rfl .here (by have h9 := hs1.2; simp only [List.length_cons, List.length_nil] at h9 ⊢; omega) (by rw [hcs1, Nat.zero_add]) ?_
    refine TL.nil ?_
    refine TE.sub (.cons (t := 0) rfl <| .cons (t := 2) rfl <| .nil) ?_
    refine TE.next ?_
    refine T.region ?_
    refine TL.val (OpV.move rfl) rfl ?_
    refine TL.val (OpV.move rfl) rfl ?_
    refine TL.val (OpV.indexAddr (j := i) se_22 rfl rfl rfl rfl hi) rfl ?_
    refine TL.val (OpV.fieldAddr rfl fo_59_2) rfl ?_
    refine TL.val (OpV.load pl_3 rfl (by have h9 := hcy1.2 4 _ rfl; simpa only [Nat.zero_add, Nat.add_zero] using h9)) rfl ?_
    refine TL.val (OpV.add rfl rfl rfl) rfl ?_
    refine TL.val (OpV.indexAddr (j := i) se_22 rfl rfl rfl rfl hi) rfl ?_
    refine TL.val (OpV.fieldAddr rfl fo_59_2) rfl ?_
    refine TL.store (cs' := cs2) rfl rfl szz_3 rfl rfl rfl .here (by have h9 := hs2.2; simp only [List.length_cons, List.length_nil] at h9 ⊢; omega) (by rw [hcs2, Nat.zero_add]) ?_
    refine TL.nil ?_
    refine TE.out ?_
    refine TE.sub (.cons (t := 0) rfl <| .cons (t := 2) rfl <| .nil) ?_
    refine TE.next ?_
    refine T.region ?_
    refine TL.val (OpV.move rfl) rfl ?_
    refine TL.val (OpV.add rfl rfl (by first | exact IntWalk.i64_in _ ⟨by omega, by omega⟩ | rfl)) rfl ?_
    refine TL.val (OpV.assign rfl) rfl ?_
    refine TL.nil ?_
    exact TE.meet (i + 1, ys.set i { y with r := IntKind.i32.wrap (y.r + 1), w := IntKind.i64.wrap (y.w + 1) }, cs2) ⟨⟨by omega, by rw [List.length_set]; exact q2, hs2.1⟩, by simp only; omega⟩ (.cons (t := 0) (by first | rfl | (simp [lk]; done)) <| .cons (t := 2) (by first | rfl | (simp [lk]; done)) <| .nil) (Kle.refl)
  · intro ht6
    refine T.exit ?_
    refine TE.pass_exit ?_
    refine TE.pass_exit ?_
    refine TE.here ?_
    refine TE.end0 rfl ?_
    exact fun w1 k1 => ⟨⟨cs, ys⟩, rfl, ⟨hR.2.1, hR.2.2⟩, k1⟩
set_option maxRecDepth 100000 in
set_option maxHeartbeats 1000000 in
theorem wrapRows_law {σ : Nat → Option Obj} {A : Option Addr} {n c : Nat} {xs : List Cl} (w : World) (cols : Int) (L : LaidW w) (h : CsR σ A n c xs) (hs : ∀ b o, σ b = some o → w.heap[b]? = some o) : Calls Tryd.prog 3 #[.slice A n c, .int .i64 cols] w (Ret (.bool true) w) := by
  have hn63 := h.2.1
  have hc63 := h.2.2.1
  have hl1 := h.1
  refine calls_T (vs := [.slice A n c, .int .i64 cols]) (L0 := [(0, .slice A n c), (1, .int .i64 cols)]) Tryd.func3 rfl rfl rfl rfl (KOk.fr1 hs) ?_
  refine T.seq ?_
  refine T.region ?_
  refine TL.val (OpV.assign rfl) rfl ?_
  refine TL.nil ?_
  refine TE.next ?_
  refine T.seq ?_
  refine T.seq ?_
  refine T.region ?_
  refine TL.val (OpV.move rfl) rfl ?_
  refine TL.val (OpV.len Tryd.underlying22 rfl) rfl ?_
  refine TL.val (OpV.gtr rfl rfl) rfl ?_
  refine TL.nil ?_
  refine TE.next ?_
  refine T.cond rfl ?_ ?_
  · intro ht11
    refine T.seq ?_
    refine T.region ?_
    refine TL.call (g := 12) rfl go_12 rfl (fun w1 k1 => known_law w1 (L.below k1.bel)) rfl ?_
    refine TL.val (OpV.assign rfl) rfl ?_
    refine TL.nil ?_
    refine TE.next ?_
    refine T.ret ?_
    refine TE.pass_ret ?_
    refine TE.ret1 rfl (ResV.tmp rfl) ?_
    exact fun w1 k1 => ⟨rfl, k1.bel⟩
  · intro ht11
    have hn60 : n ≤ 60 := by have h9 := of_decide_eq_false ht11; omega
    refine T.skip ?_
    refine TE.next ?_
    refine T.seq ?_
    refine T.region ?_
    refine TL.val (OpV.move rfl) rfl ?_
    refine TL.callx (g := 13) rfl go_13 rfl (fun wz k1 => own_x k1 (copy_c wz h (k1.get (e := .fr σ) (by first | exact .here | exact (.there .here) | exact (.there (.there .here)) | exact (.there (.there (.there .here))) | exact (.there (.there (.there (.there .here)))))) (by omega))) rfl ?_
    rintro ⟨A5, n5, c5, ρ5⟩ h5
    replace h5 : CsR ρ5 A5 n5 c5 xs := h5
    refine TL.said (t := 14) rfl (show SV.v ⟨A5, n5, c5, ρ5⟩ = Value.slice A5 n5 c5 from rfl) ?_
    have hn5 : n5 = n := by rw [← h5.1, ← hl1]
    refine TL.val (OpV.assign rfl) rfl ?_
    refine TL.nil ?_
    refine TE.next ?_
    refine T.seq ?_
    refine T.seq ?_
    refine T.region ?_
    refine TL.val (OpV.move rfl) rfl ?_
    refine TL.val (OpV.move rfl) rfl ?_
    refine TL.call (g := 14) rfl go_14 rfl (fun w1 k1 => rwvalid_c w1 cols h (k1.get (e := .fr σ) (by first | exact .here | exact (.there .here) | exact (.there (.there .here)) | exact (.there (.there (.there .here))) | exact (.there (.there (.there (.there .here))))))) rfl ?_
    refine TL.val (OpV.not rfl) rfl ?_
    refine TL.nil ?_
    refine TE.sub (.cons (t := 0) rfl <| .cons (t := 1) rfl <| .cons (t := 5) rfl <| .cons (t := 18) rfl <| .nil) ?_
    refine TE.next ?_
    refine T.cond rfl ?_ ?_
    · intro ht18
      have hv : vW xs cols = false := by simpa using ht18
      refine T.seq ?_
      refine T.region ?_
      refine TL.val (OpV.move rfl) rfl ?_
      refine TL.val (OpV.move rfl) rfl ?_
      refine TL.call (g := 15) rfl go_15 rfl (fun w1 k1 => wraps_t (σ := ρ5) (τ := ρ5) w1 cols 2 (L.below k1.bel) h5 (LsA_nil _) (fun b o hb => (k1.get (e := .own ρ5) (by first | exact .here | exact (.there .here) | exact (.there (.there .here)) | exact (.there (.there (.there .here))) | exact (.there (.there (.there (.there .here))))) b o hb).2) (fun b o hb => (k1.get (e := .own ρ5) (by first | exact .here | exact (.there .here) | exact (.there (.there .here)) | exact (.there (.there (.there .here))) | exact (.there (.there (.there (.there .here))))) b o hb).2) (wraps_bad hv)) rfl ?_
      refine TL.val (OpV.move rfl) rfl ?_
      refine TL.open rfl rfl ?_
      refine TL.call (g := 12) rfl go_12 rfl (fun w1 k1 => known_law w1 (L.below k1.bel)) rfl ?_
      refine TL.val ((by first | exact OpV.pick_t rfl rfl | exact OpV.pick_f rfl rfl)) rfl ?_
      refine TL.val (OpV.assign rfl) rfl ?_
      refine TL.nil ?_
      refine TE.sub (.cons (t := 4) rfl <| .nil) ?_
      refine TE.next ?_
      refine T.ret ?_
      refine TE.pass_ret ?_
      refine TE.ret1 rfl (ResV.tmp rfl) ?_
      exact fun w1 k1 => ⟨rfl, k1.bel⟩
    · intro ht18
      have hv : vW xs cols = true := by simpa using ht18
      have hc := (vW_parts hv).1
      refine T.skip ?_
      refine TE.next ?_
      refine T.seq ?_
      refine T.seq ?_
      refine T.region ?_
      refine TL.val (OpV.move rfl) rfl ?_
      refine TL.val (OpV.move rfl) rfl ?_
      refine TL.val (OpV.move rfl) rfl ?_
      refine TL.val (OpV.move rfl) rfl ?_
      refine TL.callx (g := 16) rfl go_16 rfl (fun wz k1 => own_x k1 (refw_c wz cols h (k1.get (e := .fr σ) (by first | exact .here | exact (.there .here) | exact (.there (.there .here)) | exact (.there (.there (.there .here))) | exact (.there (.there (.there (.there .here)))))) hv)) rfl ?_
      rintro ⟨A9, n9, c9, ρ9⟩ ⟨ms, hms, hme⟩
      replace hms : LsA ρ9 A9 n9 c9 ms := hms
      refine TL.call (g := 15) rfl go_15 rfl (fun w1 k1 => wraps_t (σ := ρ5) (τ := ρ9) w1 cols 0 (L.below k1.bel) h5 hms (fun b o hb => (k1.get (e := .own ρ5) (by first | exact .here | exact (.there .here) | exact (.there (.there .here)) | exact (.there (.there (.there .here))) | exact (.there (.there (.there (.there .here))))) b o hb).2) (fun b o hb => (k1.get (e := .own ρ9) (by first | exact .here | exact (.there .here) | exact (.there (.there .here)) | exact (.there (.there (.there .here))) | exact (.there (.there (.there (.there .here))))) b o hb).2) (by rw [hme]; exact wraps_ok hv)) rfl ?_
      refine TL.val (OpV.not rfl) rfl ?_
      refine TL.nil ?_
      refine TE.sub (.cons (t := 0) rfl <| .cons (t := 1) rfl <| .cons (t := 5) rfl <| .cons (t := 31) rfl <| .nil) ?_
      refine TE.next ?_
      refine T.no rfl ?_
      refine T.skip ?_
      refine TE.next ?_
      refine T.seq ?_
      refine T.region ?_
      refine TL.val (OpV.move rfl) rfl ?_
      refine TL.val (OpV.move rfl) rfl ?_
      refine TL.callx (g := 17) rfl go_17 rfl (fun wz k1 => own_x k1 (wrapw_c wz cols (L.below k1.bel) h5 (fun b o hb => (k1.get (e := .own ρ5) (by first | exact .here | exact (.there .here) | exact (.there (.there .here)) | exact (.there (.there (.there .here))) | exact (.there (.there (.there (.there .here))))) b o hb).2))) rfl ?_
      rintro ⟨A6, n6, c6, τ0⟩ ⟨ls0, hls0, _⟩
      replace hls0 : LsW 59 τ0 cols.toNat A6 n6 c6 ls0 := hls0
      refine TL.val (OpV.move rfl) rfl ?_
      refine TL.val (OpV.extract rfl rfl) rfl ?_
      refine TL.val (OpV.extract rfl rfl) rfl ?_
      refine TL.val (OpV.assign rfl) rfl ?_
      refine TL.val (OpV.assign rfl) rfl ?_
      refine TL.nil ?_
      refine TE.sub (.cons (t := 0) rfl <| .cons (t := 5) rfl <| .cons (t := 6) rfl <| .nil) ?_
      refine TE.next ?_
      refine T.seq ?_
      refine T.seq ?_
      refine T.region ?_
      refine TL.val (OpV.assign rfl) rfl ?_
      refine TL.nil ?_
      refine TE.next ?_
      refine T.block ?_
      have hn6 := hls0.1.1
      have hn6c := hls0.1.2.1
      have hn6d := hls0.1.2.2.1
      refine T.loop (ι := Nat × List LnA × (Nat → Option Obj)) (fun ⟨i, ls, τ⟩ => i ≤ n6 ∧ LsW 59 τ cols.toNat A6 n6 c6 ls) (fun ⟨i, ls, τ⟩ => (n6 - i)) (fun ⟨i, ls, τ⟩ => [(0, .slice A n c), (5, .slice A5 n5 c5), (6, .slice A6 n6 c6), (8, .int .i64 (i : Int))]) (fun ⟨i, ls, τ⟩ => [.own τ, .own ρ5, .fr σ]) (0, ls0, τ0) ⟨Nat.zero_le _, hls0⟩ (.cons (t := 0) rfl <| .cons (t := 5) rfl <| .cons (t := 6) rfl <| .cons (t := 8) rfl <| .nil) (Perm.kle (.cons (by first | exact .here | exact (.there .here) | exact (.there (.there .here)) | exact (.there (.there (.there .here))) | exact (.there (.there (.there (.there .here)))) | exact (.there (.there (.there (.there (.there .here)))))) (.cons (by first | exact .here | exact (.there .here) | exact (.there (.there .here)) | exact (.there (.there (.there .here))) | exact (.there (.there (.there (.there .here)))) | exact (.there (.there (.there (.there (.there .here)))))) (.cons (by first | exact .here | exact (.there .here) | exact (.there (.there .here)) | exact (.there (.there (.there .here))) | exact (.there (.there (.there (.there .here)))) | exact (.there (.there (.there (.there (.there .here)))))) .nil)))) ?_
      rintro ⟨i, ls, τ⟩ hR
      refine T.seq ?_
      refine T.seq ?_
      refine T.region ?_
      refine TL.val (OpV.move rfl) rfl ?_
      refine TL.val (OpV.move rfl) rfl ?_
      refine TL.val (OpV.len Tryd.underlying28 rfl) rfl ?_
      refine TL.val (OpV.lss rfl rfl) rfl ?_
      refine TL.nil ?_
      refine TE.next ?_
      refine T.cond rfl ?_ ?_
      · intro ht41
        obtain ⟨q1, q2⟩ := hR
        have hi : i < n6 := by have h9 := of_decide_eq_true ht41; omega
        obtain ⟨l, hl⟩ := get_of_lt q2.1.1 hi
        obtain ⟨b, cs, hlA, hln, hlc, hτ, hcs⟩ := q2.2.1.get hl
        obtain ⟨b6, o6, hA6, hat6⟩ := q2.1.2.2.2.2 (by omega)
        obtain ⟨_, rfl, _, hatl⟩ := hat6 _ l hl
        refine T.skip ?_
        refine TE.next ?_
        refine T.seq ?_
        refine T.block ?_
        refine T.region ?_
        refine TL.val (OpV.move rfl) rfl ?_
        refine TL.val (OpV.move rfl) rfl ?_
        refine TL.val (OpV.indexAddr se_28 rfl hA6 rfl (by rfl) (by first | omega | simp)) rfl ?_
        refine TL.val (OpV.fieldAddr rfl fo_34_0) rfl ?_
        refine TL.val (OpV.load pl_22 rfl (by first | exact Cel.blk .here rfl | exact Cel.blk (.there .here) rfl | exact Cel.blk (.there (.there .here)) rfl | exact Cel.blk (.there (.there (.there .here))) rfl | exact Cel.blk (.there (.there (.there (.there .here)))) rfl | exact Cel.blk (.there (.there (.there (.there (.there .here))))) rfl | exact Cel.own .here (hatl 0 _ rfl) | exact Cel.own (.there .here) (hatl 0 _ rfl) | exact Cel.own (.there (.there .here)) (hatl 0 _ rfl) | exact Cel.own (.there (.there (.there .here))) (hatl 0 _ rfl) | exact Cel.own (.there (.there (.there (.there .here)))) (hatl 0 _ rfl) | exact Cel.own (.there (.there (.there (.there (.there .here))))) (hatl 0 _ rfl))) rfl ?_
        refine TL.said (t := 48) rfl (show Value.slice l.A l.n l.c = Value.slice (some ⟨b, 0, none⟩) l.n l.c by rw [hlA]) ?_
        refine TL.kle (Kle.carve hτ) ?_
        refine TL.callx (g := 18) rfl go_18 rfl (fun wz kz => stain_c (b := b) (n := l.n) (c := l.c) wz kz (by rw [hlc, hln]) (by omega) hcs) rfl ?_
        rintro ⟨cs2, ys⟩ ⟨hy1, hy2⟩
        refine TL.nil ?_
        refine TE.out ?_
        refine TE.sub (.cons (t := 0) rfl <| .cons (t := 5) rfl <| .cons (t := 6) rfl <| .cons (t := 8) rfl <| .nil) ?_
        refine TE.next ?_
        refine T.region ?_
        refine TL.val (OpV.move rfl) rfl ?_
        refine TL.val (OpV.add rfl rfl (by first | exact IntWalk.i64_in _ ⟨by omega, by omega⟩ | rfl)) rfl ?_
        refine TL.val (OpV.assign rfl) rfl ?_
        refine TL.nil ?_
        exact TE.meet (i + 1, ls.set i { l with cells := ys }, upd (del τ b) b (.cells cs2.toArray 59 (0, 0))) ⟨⟨by omega, q2.setRow hl hlA hy2 (by rw [hy1, hln])⟩, by simp only; omega⟩ (.cons (t := 0) (by first | rfl | (simp [lk]; done)) <| .cons (t := 5) (by first | rfl | (simp [lk]; done)) <| .cons (t := 6) (by first | rfl | (simp [lk]; done)) <| .cons (t := 8) (by first | rfl | (simp [lk]; done)) <| .nil) ((Kle.trans (Perm.kle (.cons (by first | exact .here | exact (.there .here) | exact (.there (.there .here)) | exact (.there (.there (.there .here))) | exact (.there (.there (.there (.there .here)))) | exact (.there (.there (.there (.there (.there .here)))))) (.cons (by first | exact .here | exact (.there .here) | exact (.there (.there .here)) | exact (.there (.there (.there .here))) | exact (.there (.there (.there (.there .here)))) | exact (.there (.there (.there (.there (.there .here)))))) (.cons (by first | exact .here | exact (.there .here) | exact (.there (.there .here)) | exact (.there (.there (.there .here))) | exact (.there (.there (.there (.there .here)))) | exact (.there (.there (.there (.there (.there .here)))))) (.cons (by first | exact .here | exact (.there .here) | exact (.there (.there .here)) | exact (.there (.there (.there .here))) | exact (.there (.there (.there (.there .here)))) | exact (.there (.there (.there (.there (.there .here)))))) .nil))))) Kle.uncarve))
      · intro ht41
        refine T.exit ?_
        refine TE.pass_exit ?_
        refine TE.pass_exit ?_
        refine TE.here ?_
        refine TE.next ?_
        refine T.seq ?_
        refine T.region ?_
        refine TL.val (OpV.move rfl) rfl ?_
        refine TL.val (OpV.move rfl) rfl ?_
        refine TL.call (g := 19) rfl go_19 rfl (fun w1 k1 => cells_c w1 h5 h (fun b o hb => (k1.get (e := .own ρ5) (by first | exact .here | exact (.there .here) | exact (.there (.there .here)) | exact (.there (.there (.there .here))) | exact (.there (.there (.there (.there .here))))) b o hb).2) (k1.get (e := .fr σ) (by first | exact .here | exact (.there .here) | exact (.there (.there .here)) | exact (.there (.there (.there .here))) | exact (.there (.there (.there (.there .here))))))) rfl ?_
        refine TL.said (t := 52) rfl (show _ = Value.bool true by simp) ?_
        refine TL.val (OpV.move rfl) rfl ?_
        refine TL.open rfl rfl ?_
        refine TL.call (g := 12) rfl go_12 rfl (fun w1 k1 => known_law w1 (L.below k1.bel)) rfl ?_
        refine TL.val ((by first | exact OpV.pick_t rfl rfl | exact OpV.pick_f rfl rfl)) rfl ?_
        refine TL.val (OpV.assign rfl) rfl ?_
        refine TL.nil ?_
        refine TE.sub (.cons (t := 4) rfl <| .nil) ?_
        refine TE.next ?_
        refine T.ret ?_
        refine TE.ret1 rfl (ResV.tmp rfl) ?_
        exact fun w1 k1 => ⟨rfl, k1.bel⟩
end Go.Proofs.YtblpfelhgcggfaaDoor
