/-
  The walks of the walker of rows, and of what it calls. Condition: the package-level tables hold what they were laid with.
-/
import Derived.Test.YtdmpodpdpncobaaDoorWd
import Derived.Test.YtdmpodpdpncobaaDoorWrp
import Derived.Test.YtdmpodpdpncobaaDoorEng5
namespace Go.Proofs.YtdmpodpdpncobaaDoor
open Go.RowKit
set_option linter.unusedSimpArgs false
set_option linter.unusedVariables false

def wkL (a b c : Int) : List Value := [.int .i64 a, .int .i64 b, .int .i64 c]
theorem bld_109_0 (n : Int) (w : World) : (Instr.build 109 #[(0, .int .i64 n)]).run Tryd.prog w = .ok (.agg (wkL n 0 0).toArray) w := by kernel_rfl
set_option maxRecDepth 100000 in
set_option maxHeartbeats 400000 in
theorem wvalid_c {σ : Nat → Option Obj} {A : Option Addr} {n c : Nat} {xs : List Cl} (w : World) (cols : Int) (L : LaidW w) (h : CsR σ A n c xs) (hs : ∀ b o, σ b = some o → w.heap[b]? = some o) : Calls Tryd.prog 65 #[.slice A n c, .int .i64 cols] w (Ret (.bool (vW xs cols)) w) := by
 have hn63 := h.2.1
 have hc63 := h.2.2.1
 have hl1 := h.1
 refine calls_T (vs := [.slice A n c, .int .i64 cols]) (L0 := [(0, .slice A n c), (1, .int .i64 cols)]) Tryd.func65 rfl rfl rfl rfl (KOk.fr1 hs) ?_
 refine T.seq ?_
 refine T.region ?_
 refine TL.val (OpV.assign rfl) rfl ?_
 refine TL.nil ?_
 refine TE.next ?_
 refine T.seq ?_
 refine T.region ?_
 refine TL.val (OpV.move rfl) rfl ?_
 refine TL.val (OpV.len Tryd.underlying35 rfl) rfl ?_
 refine TL.val (OpV.leq rfl rfl) rfl ?_
 refine TL.val (OpV.move rfl) rfl ?_
 refine TL.part (t := 8) rfl ?_ ?_
 ·
  intro hg8
  refine TL.open rfl rfl ?_
  refine TL.val (OpV.move rfl) rfl ?_
  refine TL.open rfl rfl ?_
  refine TL.val (OpV.geq rfl rfl) rfl ?_
  refine TL.val ((by first | exact OpV.pick_t rfl rfl | exact OpV.pick_f rfl rfl)) rfl ?_
  refine TL.val (OpV.move rfl) rfl ?_
  refine TL.part (t := 12) rfl ?_ ?_
  ·
   intro hg12
   refine TL.open rfl rfl ?_
   refine TL.val (OpV.move rfl) rfl ?_
   refine TL.open rfl rfl ?_
   refine TL.val (OpV.leq rfl rfl) rfl ?_
   refine TL.val ((by first | exact OpV.pick_t rfl rfl | exact OpV.pick_f rfl rfl)) rfl ?_
   refine TL.val (OpV.move rfl) rfl ?_
   refine TL.part (t := 16) rfl ?_ ?_
   ·
    intro hg16
    refine TL.open rfl rfl ?_
    refine TL.val (OpV.move rfl) rfl ?_
    refine TL.open rfl rfl ?_
    refine TL.call (g := 88) rfl go_88 rfl (fun w1 k1 => crow_c w1 (L.below k1.bel) h (k1.get .here)) rfl ?_
    refine TL.val ((by first | exact OpV.pick_t rfl rfl | exact OpV.pick_f rfl rfl)) rfl ?_
    refine TL.val (OpV.assign rfl) rfl ?_
    refine TL.nil ?_
    refine TE.sub (.cons (t := 4) rfl <| .nil) ?_
    refine TE.next ?_
    refine T.ret ?_
    refine TE.ret1 rfl (ResV.tmp rfl) ?_
    exact fun w1 k1 => ⟨ret_bool (by grind [vW]), k1.bel⟩
   ·
    intro hg16
    refine TL.shut rfl rfl ?_
    refine TL.shut rfl rfl ?_
    refine TL.val ((by first | exact OpV.pick_t rfl rfl | exact OpV.pick_f rfl rfl)) rfl ?_
    refine TL.val (OpV.assign rfl) rfl ?_
    refine TL.nil ?_
    refine TE.sub (.cons (t := 4) rfl <| .nil) ?_
    refine TE.next ?_
    refine T.ret ?_
    refine TE.ret1 rfl (ResV.tmp rfl) ?_
    exact fun w1 k1 => ⟨ret_bool (by grind [vW]), k1.bel⟩
  ·
   intro hg12
   refine TL.shut rfl rfl ?_
   refine TL.shut rfl rfl ?_
   refine TL.val ((by first | exact OpV.pick_t rfl rfl | exact OpV.pick_f rfl rfl)) rfl ?_
   refine TL.val (OpV.move rfl) rfl ?_
   refine TL.shut rfl rfl ?_
   refine TL.shut rfl rfl ?_
   refine TL.val ((by first | exact OpV.pick_t rfl rfl | exact OpV.pick_f rfl rfl)) rfl ?_
   refine TL.val (OpV.assign rfl) rfl ?_
   refine TL.nil ?_
   refine TE.sub (.cons (t := 4) rfl <| .nil) ?_
   refine TE.next ?_
   refine T.ret ?_
   refine TE.ret1 rfl (ResV.tmp rfl) ?_
   exact fun w1 k1 => ⟨ret_bool (by grind [vW]), k1.bel⟩
 ·
  intro hg8
  refine TL.shut rfl rfl ?_
  refine TL.shut rfl rfl ?_
  refine TL.val ((by first | exact OpV.pick_t rfl rfl | exact OpV.pick_f rfl rfl)) rfl ?_
  refine TL.val (OpV.move rfl) rfl ?_
  refine TL.shut rfl rfl ?_
  refine TL.shut rfl rfl ?_
  refine TL.val ((by first | exact OpV.pick_t rfl rfl | exact OpV.pick_f rfl rfl)) rfl ?_
  refine TL.val (OpV.move rfl) rfl ?_
  refine TL.shut rfl rfl ?_
  refine TL.shut rfl rfl ?_
  refine TL.val ((by first | exact OpV.pick_t rfl rfl | exact OpV.pick_f rfl rfl)) rfl ?_
  refine TL.val (OpV.assign rfl) rfl ?_
  refine TL.nil ?_
  refine TE.sub (.cons (t := 4) rfl <| .nil) ?_
  refine TE.next ?_
  refine T.ret ?_
  refine TE.ret1 rfl (ResV.tmp rfl) ?_
  exact fun w1 k1 => ⟨ret_bool (by grind [vW]), k1.bel⟩
set_option maxRecDepth 100000 in
set_option maxHeartbeats 400000 in
theorem rwvalid_c {σ : Nat → Option Obj} {A : Option Addr} {n c : Nat} {xs : List Cl} (w : World) (cols : Int) (h : CsR σ A n c xs) (hs : ∀ b o, σ b = some o → w.heap[b]? = some o) : Calls Tryd.prog 28 #[.slice A n c, .int .i64 cols] w (Ret (.bool (vW xs cols)) w) := by
 have hn63 := h.2.1
 have hc63 := h.2.2.1
 have hl1 := h.1
 refine calls_T (vs := [.slice A n c, .int .i64 cols]) (L0 := [(0, .slice A n c), (1, .int .i64 cols)]) Tryd.func28 rfl rfl rfl rfl (KOk.fr1 hs) ?_
 refine T.seq ?_
 refine T.region ?_
 refine TL.val (OpV.assign rfl) rfl ?_
 refine TL.nil ?_
 refine TE.next ?_
 refine T.seq ?_
 refine T.region ?_
 refine TL.val (OpV.move rfl) rfl ?_
 refine TL.val (OpV.len Tryd.underlying35 rfl) rfl ?_
 refine TL.val (OpV.leq rfl rfl) rfl ?_
 refine TL.val (OpV.move rfl) rfl ?_
 refine TL.part (t := 8) rfl ?_ ?_
 ·
  intro hg8
  refine TL.open rfl rfl ?_
  refine TL.val (OpV.move rfl) rfl ?_
  refine TL.open rfl rfl ?_
  refine TL.val (OpV.geq rfl rfl) rfl ?_
  refine TL.val ((by first | exact OpV.pick_t rfl rfl | exact OpV.pick_f rfl rfl)) rfl ?_
  refine TL.val (OpV.move rfl) rfl ?_
  refine TL.part (t := 12) rfl ?_ ?_
  ·
   intro hg12
   refine TL.open rfl rfl ?_
   refine TL.val (OpV.move rfl) rfl ?_
   refine TL.open rfl rfl ?_
   refine TL.val (OpV.leq rfl rfl) rfl ?_
   refine TL.val ((by first | exact OpV.pick_t rfl rfl | exact OpV.pick_f rfl rfl)) rfl ?_
   refine TL.val (OpV.move rfl) rfl ?_
   refine TL.part (t := 16) rfl ?_ ?_
   ·
    intro hg16
    refine TL.open rfl rfl ?_
    refine TL.val (OpV.move rfl) rfl ?_
    refine TL.open rfl rfl ?_
    refine TL.call (g := 58) rfl go_58 rfl (fun w1 k1 => rrow_c w1 h (k1.get .here)) rfl ?_
    refine TL.val ((by first | exact OpV.pick_t rfl rfl | exact OpV.pick_f rfl rfl)) rfl ?_
    refine TL.val (OpV.assign rfl) rfl ?_
    refine TL.nil ?_
    refine TE.sub (.cons (t := 4) rfl <| .nil) ?_
    refine TE.next ?_
    refine T.ret ?_
    refine TE.ret1 rfl (ResV.tmp rfl) ?_
    exact fun w1 k1 => ⟨ret_bool (by grind [vW]), k1.bel⟩
   ·
    intro hg16
    refine TL.shut rfl rfl ?_
    refine TL.shut rfl rfl ?_
    refine TL.val ((by first | exact OpV.pick_t rfl rfl | exact OpV.pick_f rfl rfl)) rfl ?_
    refine TL.val (OpV.assign rfl) rfl ?_
    refine TL.nil ?_
    refine TE.sub (.cons (t := 4) rfl <| .nil) ?_
    refine TE.next ?_
    refine T.ret ?_
    refine TE.ret1 rfl (ResV.tmp rfl) ?_
    exact fun w1 k1 => ⟨ret_bool (by grind [vW]), k1.bel⟩
  ·
   intro hg12
   refine TL.shut rfl rfl ?_
   refine TL.shut rfl rfl ?_
   refine TL.val ((by first | exact OpV.pick_t rfl rfl | exact OpV.pick_f rfl rfl)) rfl ?_
   refine TL.val (OpV.move rfl) rfl ?_
   refine TL.shut rfl rfl ?_
   refine TL.shut rfl rfl ?_
   refine TL.val ((by first | exact OpV.pick_t rfl rfl | exact OpV.pick_f rfl rfl)) rfl ?_
   refine TL.val (OpV.assign rfl) rfl ?_
   refine TL.nil ?_
   refine TE.sub (.cons (t := 4) rfl <| .nil) ?_
   refine TE.next ?_
   refine T.ret ?_
   refine TE.ret1 rfl (ResV.tmp rfl) ?_
   exact fun w1 k1 => ⟨ret_bool (by grind [vW]), k1.bel⟩
 ·
  intro hg8
  refine TL.shut rfl rfl ?_
  refine TL.shut rfl rfl ?_
  refine TL.val ((by first | exact OpV.pick_t rfl rfl | exact OpV.pick_f rfl rfl)) rfl ?_
  refine TL.val (OpV.move rfl) rfl ?_
  refine TL.shut rfl rfl ?_
  refine TL.shut rfl rfl ?_
  refine TL.val ((by first | exact OpV.pick_t rfl rfl | exact OpV.pick_f rfl rfl)) rfl ?_
  refine TL.val (OpV.move rfl) rfl ?_
  refine TL.shut rfl rfl ?_
  refine TL.shut rfl rfl ?_
  refine TL.val ((by first | exact OpV.pick_t rfl rfl | exact OpV.pick_f rfl rfl)) rfl ?_
  refine TL.val (OpV.assign rfl) rfl ?_
  refine TL.nil ?_
  refine TE.sub (.cons (t := 4) rfl <| .nil) ?_
  refine TE.next ?_
  refine T.ret ?_
  refine TE.ret1 rfl (ResV.tmp rfl) ?_
  exact fun w1 k1 => ⟨ret_bool (by grind [vW]), k1.bel⟩
set_option maxRecDepth 100000 in
set_option maxHeartbeats 400000 in
theorem next_c {w0 : World} {Kf : List Ent} {b : Nat} {cols row col width : Int} (w : World) (k : KOk w0 (.blk b (wkL cols row col) 109 :: Kf) w) (h1 : 1 ≤ cols ∧ cols ≤ 1000) (h2 : 0 ≤ row ∧ row ≤ 1099511627776) (h3 : 0 ≤ col ∧ col ≤ cols) (h4 : 0 ≤ width ∧ width ≤ 2) : Calls Tryd.prog 66 #[.pointer (some ⟨b, 0, none⟩), .int .i64 width] w (fun e w' => e = .returned (.tuple #[]) ∧ KOk w0 (.blk b (wkL cols (nx cols (row, col) width).1 (nx cols (row, col) width).2) 109 :: Kf) w') := by
 refine calls_T (vs := [.pointer (some ⟨b, 0, none⟩), .int .i64 width]) (L0 := [(0, .pointer (some ⟨b, 0, none⟩)), (1, .int .i64 width)]) Tryd.func66 rfl rfl rfl rfl (k) ?_
 refine T.seq ?_
 refine T.region ?_
 refine TL.val (OpV.move rfl) rfl ?_
 refine TL.val (OpV.max rfl rfl) rfl ?_
 refine TL.val (OpV.move rfl) rfl ?_
 refine TL.val (OpV.nil rfl) rfl ?_
 refine TL.val (OpV.fieldAddr rfl fo_109_0) rfl ?_
 refine TL.val (OpV.load pl_3 rfl (by first | exact Cel.blk P0 rfl | exact Cel.blk P1 rfl | exact Cel.blk P2 rfl | exact Cel.blk P3 rfl)) rfl ?_
 refine TL.val (OpV.min rfl rfl) rfl ?_
 refine TL.val (OpV.assign rfl) rfl ?_
 refine TL.said (t := 4) rfl (show _ = Value.int .i64 (need cols width) from rfl) ?_
 have hnb := need_bd h1.1 width
 refine TL.nil ?_
 refine TE.sub (.cons (t := 0) rfl <| .cons (t := 4) rfl <| .nil) ?_
 refine TE.next ?_
 refine T.seq ?_
 refine T.quiet mix (by kernel_rfl) ?_
 refine TQ.val (OpV.move rfl) rfl ?_
 refine TQ.val (OpV.nil rfl) rfl ?_
 refine TQ.val (OpV.fieldAddr rfl fo_109_2) rfl ?_
 refine TQ.val (OpV.load pl_3 rfl (by first | exact Cel.blk P0 rfl | exact Cel.blk P1 rfl | exact Cel.blk P2 rfl | exact Cel.blk P3 rfl)) rfl ?_
 refine TQ.val (OpV.move rfl) rfl ?_
 refine TQ.val (OpV.add rfl rfl (by first | exact IntWalk.i64_in _ ⟨by omega, by omega⟩ | rfl)) rfl ?_
 refine TQ.val (OpV.move rfl) rfl ?_
 refine TQ.val (OpV.nil rfl) rfl ?_
 refine TQ.val (OpV.fieldAddr rfl fo_109_0) rfl ?_
 refine TQ.val (OpV.load pl_3 rfl (by first | exact Cel.blk P0 rfl | exact Cel.blk P1 rfl | exact Cel.blk P2 rfl | exact Cel.blk P3 rfl)) rfl ?_
 refine TQ.val (OpV.gtr rfl rfl) rfl ?_
 refine TQ.nil ?_
 refine TE.sub (.cons (t := 0) rfl <| .cons (t := 22) rfl <| .nil) ?_
 refine TE.next ?_
 refine T.cond rfl ?_ ?_
 ·
  intro ht22
  have h9 := of_decide_eq_true ht22
  refine T.seq ?_
  refine T.region ?_
  refine TL.val (OpV.move rfl) rfl ?_
  refine TL.val (OpV.nil rfl) rfl ?_
  refine TL.val (OpV.fieldAddr rfl fo_109_1) rfl ?_
  refine TL.val (OpV.load pl_3 rfl (by first | exact Cel.blk P0 rfl | exact Cel.blk P1 rfl | exact Cel.blk P2 rfl | exact Cel.blk P3 rfl)) rfl ?_
  refine TL.val (OpV.add rfl rfl (by first | exact IntWalk.i64_in _ ⟨by omega, by omega⟩ | rfl)) rfl ?_
  refine TL.val (OpV.nil rfl) rfl ?_
  refine TL.val (OpV.fieldAddr rfl fo_109_1) rfl ?_
  refine TL.store rfl rfl szz_3 rfl rfl rfl (by first | exact P0 | exact P1 | exact P2 | exact P3) (by first | exact Nat.le_of_ble_eq_true rfl | (simp; done) | (simp; omega)) (by simp only [wkL, putL, List.take_succ_cons, List.take_zero, List.drop_succ_cons, List.drop_zero, List.cons_append, List.nil_append, List.length_cons, List.length_nil, Nat.reduceAdd]; rfl) ?_
  refine TL.nil ?_
  refine TE.sub (.cons (t := 0) rfl <| .nil) ?_
  refine TE.next ?_
  refine T.region ?_
  refine TL.val (OpV.move rfl) rfl ?_
  refine TL.val (OpV.nil rfl) rfl ?_
  refine TL.val (OpV.fieldAddr rfl fo_109_2) rfl ?_
  refine TL.store rfl rfl szz_3 rfl rfl rfl (by first | exact P0 | exact P1 | exact P2 | exact P3) (by first | exact Nat.le_of_ble_eq_true rfl | (simp; done) | (simp; omega)) (by simp only [wkL, putL, List.take_succ_cons, List.take_zero, List.drop_succ_cons, List.drop_zero, List.cons_append, List.nil_append, List.length_cons, List.length_nil, Nat.reduceAdd]; rfl) ?_
  refine TL.nil ?_
  refine TE.end0 rfl ?_
  exact fun w1 k1 => ⟨rfl, by simpa only [nx, if_pos h9, wkL] using k1⟩
 ·
  intro ht22
  have h9 := of_decide_eq_false ht22
  refine T.skip ?_
  refine TE.end0 rfl ?_
  exact fun w1 k1 => ⟨rfl, by simpa only [nx, if_neg h9, wkL] using k1⟩
set_option maxRecDepth 100000 in
set_option maxHeartbeats 1000000 in
theorem rows_c {σ : Nat → Option Obj} {A : Option Addr} {n c : Nat} {xs : List Cl} (w : World) (cols : Int) (L : LaidW w) (h : CsR σ A n c xs) (hs : ∀ b o, σ b = some o → w.heap[b]? = some o) : Calls Tryd.prog 35 #[.slice A n c, .int .i64 cols] w (Ret (.tuple #[.int .i64 (rowsV xs cols), .int .i64 (rowsE xs cols)]) w) := by
 have hn63 := h.2.1
 have hc63 := h.2.2.1
 have hl1 := h.1
 refine calls_T (vs := [.slice A n c, .int .i64 cols]) (L0 := [(0, .slice A n c), (1, .int .i64 cols)]) Tryd.func35 rfl rfl rfl rfl (KOk.fr1 hs) ?_
 refine T.seq ?_
 refine T.region ?_
 refine TL.val (OpV.assign rfl) rfl ?_
 refine TL.val (OpV.assign rfl) rfl ?_
 refine TL.nil ?_
 refine TE.next ?_
 refine T.seq ?_
 refine T.seq ?_
 refine T.region ?_
 refine TL.val (OpV.move rfl) rfl ?_
 refine TL.val (OpV.move rfl) rfl ?_
 refine TL.call (g := 65) rfl go_65 rfl (fun w1 k1 => wvalid_c w1 cols (L.below k1.bel) h (k1.get .here)) rfl ?_
 refine TL.val (OpV.not rfl) rfl ?_
 refine TL.nil ?_
 refine TE.next ?_
 refine T.cond rfl ?_ ?_
 ·
  intro ht12
  have hv9 : vW xs cols = false := by simpa using ht12
  refine T.seq ?_
  refine T.region ?_
  refine TL.val (OpV.assign rfl) rfl ?_
  refine TL.val (OpV.assign rfl) rfl ?_
  refine TL.nil ?_
  refine TE.next ?_
  refine T.ret ?_
  refine TE.pass_ret ?_
  refine TE.retN rfl (.cons (ResV.tmp rfl) <| .cons (ResV.tmp rfl) <| .nil) ?_
  exact fun w1 k1 => ⟨ret_ii (by rw [rowsV, hv9]; rfl) (by rw [rowsE, hv9]; rfl), k1.bel⟩
 ·
  intro ht12
  have hv9 : vW xs cols = true := by simpa using ht12
  have hv := vW_parts hv9
  refine T.skip ?_
  refine TE.next ?_
  refine T.seq ?_
  refine T.region ?_
  refine TL.val (OpV.move rfl) rfl ?_
  refine TL.val (OpV.build (qs := #[(0, _)]) (fun _ f => by simp only [List.map_toArray, List.map_cons, List.map_nil]; rw [f.ev (x := .tmp 13) rfl]) (bld_109_0 _ )) rfl ?_
  refine TL.boxA rfl rfl ?_
  intro b15
  refine TL.val (OpV.assign rfl) rfl ?_
  refine TL.nil ?_
  refine TE.sub (.cons (t := 0) rfl <| .cons (t := 1) rfl <| .cons (t := 6) rfl <| .nil) ?_
  refine TE.next ?_
  refine T.seq ?_
  refine T.seq ?_
  refine T.region ?_
  refine TL.val (OpV.move rfl) rfl ?_
  refine TL.val (OpV.len Tryd.underlying35 rfl) rfl ?_
  refine TL.val (OpV.move rfl) rfl ?_
  refine TL.nil ?_
  refine TE.next ?_
  refine T.block ?_
  refine T.loop (ι := Nat × Int × Int) (fun ⟨i, r, k⟩ => i ≤ n ∧ (r, k) = goW cols (xs.take i)) (fun ⟨i, r, k⟩ => n - i) (fun ⟨i, r, k⟩ => [(1, .int .i64 cols), (6, .pointer (some ⟨b15, 0, none⟩)), (16, .slice A n c), (17, .int .i64 (n : Int)), (18, .int .i64 (i : Int))]) (fun ⟨i, r, k⟩ => [.blk b15 (wkL cols r k) 109, .fr σ]) (0, 0, 0) ⟨Nat.zero_le _, rfl⟩ (.cons (t := 1) rfl <| .cons (t := 6) rfl <| .cons (t := 16) rfl <| .cons (t := 17) rfl <| .cons (t := 18) rfl <| .nil) (Kle.refl) ?_
  rintro ⟨i, r, k⟩ hR
  refine T.seq ?_
  refine T.region ?_
  refine TL.val (OpV.lss rfl rfl) rfl ?_
  refine TL.nil ?_
  refine TE.next ?_
  refine T.seq ?_
  refine T.cond rfl ?_ ?_
  ·
   intro ht19
   have hi : i < n := by have h9 := of_decide_eq_true ht19; omega
   obtain ⟨x, hx⟩ := get_of_lt h.1 hi
   obtain ⟨b, o, hA, hat⟩ := h.pos (by omega)
   have hatx := hat i x hx
   have hgo := goW_take (cols := cols) hx
   rw [← hR.2] at hgo
   have hbd := goW_bd hv.1.1 (xs.take i)
   rw [← hR.2] at hbd
   simp only [List.length_take] at hbd
   have hw := rowR_w hv.2.2 hx
   have hib := hR.1
   clear hR
   refine T.skip ?_
   refine TE.next ?_
   refine T.seq ?_
   refine T.block ?_
   refine T.seq ?_
   refine T.region ?_
   refine TL.val (OpV.indexAddr se_35 rfl hA rfl (by rfl) (by first | omega | simp)) rfl ?_
   refine TL.val (OpV.loadA ag_58 rfl (by first | exact Cels.blk P0 rfl | exact Cels.blk P1 rfl | exact Cels.blk P2 rfl | exact Cels.blk P3 rfl | exact Cels.frA hatx rfl)) rfl ?_
   refine TL.alloc zo_58 rfl ?_
   intro b8
   first
     | refine TL.storeAll rfl rfl szz_58 rfl rfl rfl (by first | exact P0 | exact P1 | exact P2 | exact P3) (by rfl) ?_
     | refine TL.store rfl rfl szz_58 rfl rfl rfl (by first | exact P0 | exact P1 | exact P2 | exact P3) (by first | exact Nat.le_of_ble_eq_true rfl | (simp; done) | (simp; omega)) (by simp only [wkL, putL, List.take_succ_cons, List.take_zero, List.drop_succ_cons, List.drop_zero, List.cons_append, List.nil_append, List.length_cons, List.length_nil, Nat.reduceAdd]; rfl) ?_
   refine TL.nil ?_
   refine TE.next ?_
   refine T.seq ?_
   refine T.region ?_
   refine TL.val (OpV.fieldAddr rfl fo_58_2) rfl ?_
   refine TL.val (OpV.load pl_3 rfl (by first | exact Cel.blk P0 rfl | exact Cel.blk P1 rfl | exact Cel.blk P2 rfl | exact Cel.blk P3 rfl | exact Cel.frA (hatx _ _ rfl))) rfl ?_
   refine TL.val (OpV.gtr rfl rfl) rfl ?_
   refine TL.nil ?_
   refine TE.next ?_
   refine T.cond rfl ?_ ?_
   ·
    intro ht24
    refine T.seq ?_
    refine T.region ?_
    refine TL.val (OpV.move rfl) rfl ?_
    refine TL.val (OpV.fieldAddr rfl fo_58_2) rfl ?_
    refine TL.val (OpV.load pl_3 rfl (by first | exact Cel.blk P0 rfl | exact Cel.blk P1 rfl | exact Cel.blk P2 rfl | exact Cel.blk P3 rfl | exact Cel.frA (hatx _ _ rfl))) rfl ?_
    refine TL.callk (g := 66) rfl go_66 rfl (fun w1 k1 => next_c w1 (k1.pick (by first | exact P0 | exact P1 | exact P2 | exact P3)) hv.1 (by omega) (by omega) (by omega)) rfl ?_
    have hnb := nx_bd (s := (r, k)) hv.1.1 x.w hbd.1 hbd.2
    have hfb := fw_bd (of_decide_eq_true ht24) hv.1.1
    refine TL.nil ?_
    refine TE.sub (.cons (t := 1) rfl <| .cons (t := 6) rfl <| .cons (t := 8) rfl <| .cons (t := 16) rfl <| .cons (t := 17) rfl <| .cons (t := 18) rfl <| .nil) ?_
    refine TE.next ?_
    refine T.any ([.blk b15 (wkL cols (nx cols (r, k) x.w).1 (nx cols (r, k) x.w).2) 109, .blk b8 x.l 58, .fr σ]) [11] mix rfl rfl ?_
    refine TA.takeP (i := 0) (ls := #[true, false, false, false, false, false, false, false, false, false, false, false]) rfl rfl rfl rfl rfl (by kernel_rfl) (by kernel_rfl) (by kernel_rfl) (by repeat (first | with_reducible exact PanicOk.body | with_reducible apply PanicOk.next | with_reducible apply PanicOk.block)) (OpV.move rfl) rfl (by kernel_rfl) ?_
    refine TA.takeP (i := 1) (ls := #[true, true, false, false, false, false, false, false, false, false, false, false]) rfl rfl rfl rfl rfl (by kernel_rfl) (by kernel_rfl) (by kernel_rfl) (by repeat (first | with_reducible exact PanicOk.body | with_reducible apply PanicOk.next | with_reducible apply PanicOk.block)) (OpV.nil rfl) rfl (by kernel_rfl) ?_
    refine TA.takeP (i := 2) (ls := #[true, true, true, false, false, false, false, false, false, false, false, false]) rfl rfl rfl rfl rfl (by kernel_rfl) (by kernel_rfl) (by kernel_rfl) (by repeat (first | with_reducible exact PanicOk.body | with_reducible apply PanicOk.next | with_reducible apply PanicOk.block)) (OpV.fieldAddr rfl fo_109_2) rfl (by kernel_rfl) ?_
    refine TA.take (i := 3) (ls := #[true, true, true, true, false, false, false, false, false, false, false, false]) rfl rfl rfl rfl rfl (by kernel_rfl) (by kernel_rfl) (by kernel_rfl) (by kernel_rfl) (by repeat (first | with_reducible exact PanicOk.body | with_reducible apply PanicOk.next | with_reducible apply PanicOk.block)) (.all) (OpV.load pl_3 rfl (by first | exact Cel.blk P0 rfl | exact Cel.blk P1 rfl | exact Cel.blk P2 rfl | exact Cel.blk P3 rfl | exact Cel.frA (hatx _ _ rfl))) rfl (by kernel_rfl) ?_
    refine TA.takeP (i := 4) (ls := #[true, true, true, true, true, false, false, false, false, false, false, false]) rfl rfl rfl rfl rfl (by kernel_rfl) (by kernel_rfl) (by kernel_rfl) (by repeat (first | with_reducible exact PanicOk.body | with_reducible apply PanicOk.next | with_reducible apply PanicOk.block)) (OpV.fieldAddr rfl fo_58_2) rfl (by kernel_rfl) ?_
    refine TA.take (i := 5) (ls := #[true, true, true, true, true, true, false, false, false, false, false, false]) rfl rfl rfl rfl rfl (by kernel_rfl) (by kernel_rfl) (by kernel_rfl) (by kernel_rfl) (by repeat (first | with_reducible exact PanicOk.body | with_reducible apply PanicOk.next | with_reducible apply PanicOk.block)) (.all) (OpV.load pl_3 rfl (by first | exact Cel.blk P0 rfl | exact Cel.blk P1 rfl | exact Cel.blk P2 rfl | exact Cel.blk P3 rfl | exact Cel.frA (hatx _ _ rfl))) rfl (by kernel_rfl) ?_
    refine TA.takeP (i := 6) (ls := #[true, true, true, true, true, true, true, false, false, false, false, false]) rfl rfl rfl rfl rfl (by kernel_rfl) (by kernel_rfl) (by kernel_rfl) (by repeat (first | with_reducible exact PanicOk.body | with_reducible apply PanicOk.next | with_reducible apply PanicOk.block)) (OpV.move rfl) rfl (by kernel_rfl) ?_
    refine TA.takeP (i := 7) (ls := #[true, true, true, true, true, true, true, true, false, false, false, false]) rfl rfl rfl rfl rfl (by kernel_rfl) (by kernel_rfl) (by kernel_rfl) (by repeat (first | with_reducible exact PanicOk.body | with_reducible apply PanicOk.next | with_reducible apply PanicOk.block)) (OpV.min rfl rfl) rfl (by kernel_rfl) ?_
    refine TA.said (t := 36) rfl (show _ = Value.int .i64 (fw cols x.w) from rfl) ?_
    refine TA.takeP (i := 8) (ls := #[true, true, true, true, true, true, true, true, true, false, false, false]) rfl rfl rfl rfl rfl (by kernel_rfl) (by kernel_rfl) (by kernel_rfl) (by repeat (first | with_reducible exact PanicOk.body | with_reducible apply PanicOk.next | with_reducible apply PanicOk.block)) (OpV.add rfl rfl (by first | exact IntWalk.i64_in _ ⟨by omega, by omega⟩ | rfl)) rfl (by kernel_rfl) ?_
    refine TA.takeP (i := 9) (ls := #[true, true, true, true, true, true, true, true, true, true, false, false]) rfl rfl rfl rfl rfl (by kernel_rfl) (by kernel_rfl) (by kernel_rfl) (by repeat (first | with_reducible exact PanicOk.body | with_reducible apply PanicOk.next | with_reducible apply PanicOk.block)) (OpV.nil rfl) rfl (by kernel_rfl) ?_
    refine TA.takeP (i := 10) (ls := #[true, true, true, true, true, true, true, true, true, true, true, false]) rfl rfl rfl rfl rfl (by kernel_rfl) (by kernel_rfl) (by kernel_rfl) (by repeat (first | with_reducible exact PanicOk.body | with_reducible apply PanicOk.next | with_reducible apply PanicOk.block)) (OpV.fieldAddr rfl fo_109_2) rfl (by kernel_rfl) ?_
    refine TA.one (i := 11) (ls := #[true, true, true, true, true, true, true, true, true, true, true, true]) (by kernel_rfl) rfl (by kernel_rfl) (fun w1 => ?_)
    refine TL.store rfl rfl szz_3 rfl rfl rfl (by first | exact P0 | exact P1 | exact P2 | exact P3) (by first | exact Nat.le_of_ble_eq_true rfl | (simp; done) | (simp; omega)) (by simp only [wkL, putL, List.take_succ_cons, List.take_zero, List.drop_succ_cons, List.drop_zero, List.cons_append, List.nil_append, List.length_cons, List.length_nil, Nat.reduceAdd]; rfl) ?_
    refine TL.nil ?_
    refine TA.bar rfl ?_
    refine TA.done (by kernel_rfl) ?_
    refine TE.out ?_
    refine TE.sub (.cons (t := 1) rfl <| .cons (t := 6) rfl <| .cons (t := 16) rfl <| .cons (t := 17) rfl <| .cons (t := 18) rfl <| .nil) ?_
    refine TE.next ?_
    refine T.region ?_
    refine TL.val (OpV.add rfl rfl (by first | exact IntWalk.i64_in _ ⟨by omega, by omega⟩ | rfl)) rfl ?_
    refine TL.val (OpV.move rfl) rfl ?_
    refine TL.nil ?_
    exact TE.meet (i + 1, (nx cols (r, k) x.w).1, (nx cols (r, k) x.w).2 + fw cols x.w) ⟨⟨by omega, by rw [hgo, stp, if_pos (of_decide_eq_true ht24)]⟩, by simp only; omega⟩ (.cons (t := 1) (by first | rfl | (simp [lk]; done)) <| .cons (t := 6) (by first | rfl | (simp [lk]; done)) <| .cons (t := 16) (by first | rfl | (simp [lk]; done)) <| .cons (t := 17) (by first | rfl | (simp [lk]; done)) <| .cons (t := 18) (by first | rfl | (simp [lk]; done)) <| .nil) (Perm.kle (.cons (by first | exact P0 | exact P1 | exact P2 | exact P3) (.cons (by first | exact P0 | exact P1 | exact P2 | exact P3) .nil)))
   ·
    intro ht24
    refine T.skip ?_
    refine TE.out ?_
    refine TE.sub (.cons (t := 1) rfl <| .cons (t := 6) rfl <| .cons (t := 16) rfl <| .cons (t := 17) rfl <| .cons (t := 18) rfl <| .nil) ?_
    refine TE.next ?_
    refine T.region ?_
    refine TL.val (OpV.add rfl rfl (by first | exact IntWalk.i64_in _ ⟨by omega, by omega⟩ | rfl)) rfl ?_
    refine TL.val (OpV.move rfl) rfl ?_
    refine TL.nil ?_
    exact TE.meet (i + 1, r, k) ⟨⟨by omega, by rw [hgo, stp, if_neg (of_decide_eq_false ht24)]⟩, by simp only; omega⟩ (.cons (t := 1) (by first | rfl | (simp [lk]; done)) <| .cons (t := 6) (by first | rfl | (simp [lk]; done)) <| .cons (t := 16) (by first | rfl | (simp [lk]; done)) <| .cons (t := 17) (by first | rfl | (simp [lk]; done)) <| .cons (t := 18) (by first | rfl | (simp [lk]; done)) <| .nil) (Perm.kle (.cons (by first | exact P0 | exact P1 | exact P2 | exact P3) (.cons (by first | exact P0 | exact P1 | exact P2 | exact P3) .nil)))
  ·
   intro ht19
   have hin : i = n := by have h9 := of_decide_eq_false ht19; have h8 := hR.1; omega
   have hgo : (r, k) = goW cols xs := by have h8 : (r, k) = goW cols (xs.take i) := hR.2; rw [hin, ← hl1, List.take_length] at h8; exact h8
   have hbd := goW_bd hv.1.1 xs
   rw [← hgo] at hbd
   simp only at hbd
   refine T.exit ?_
   refine TE.pass_exit ?_
   refine TE.pass_exit ?_
   refine TE.here ?_
   refine TE.next ?_
   refine T.seq ?_
   refine T.region ?_
   refine TL.val (OpV.move rfl) rfl ?_
   refine TL.val (OpV.nil rfl) rfl ?_
   refine TL.val (OpV.fieldAddr rfl fo_109_1) rfl ?_
   refine TL.val (OpV.load pl_3 rfl (by first | exact Cel.blk P0 rfl | exact Cel.blk P1 rfl | exact Cel.blk P2 rfl | exact Cel.blk P3 rfl | exact Cel.frA (hatx _ _ rfl))) rfl ?_
   refine TL.val (OpV.add rfl rfl (by first | exact IntWalk.i64_in _ ⟨by omega, by omega⟩ | rfl)) rfl ?_
   refine TL.val (OpV.assign rfl) rfl ?_
   refine TL.val (OpV.assign rfl) rfl ?_
   refine TL.nil ?_
   refine TE.sub (.cons (t := 4) rfl <| .cons (t := 5) rfl <| .nil) ?_
   refine TE.next ?_
   refine T.ret ?_
   refine TE.retN rfl (.cons (ResV.tmp rfl) <| .cons (ResV.tmp rfl) <| .nil) ?_
   exact fun w1 k1 => ⟨ret_ii (by rw [rowsV, hv9, ← hgo]; rfl) (by rw [rowsE, hv9]; rfl), k1.bel⟩
end Go.Proofs.YtdmpodpdpncobaaDoor
