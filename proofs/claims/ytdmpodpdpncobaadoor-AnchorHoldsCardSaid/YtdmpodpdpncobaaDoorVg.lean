/-
  What the examples of chapter 29 answer. Condition: the package-level tables hold what they were laid with.
-/
import Derived.Test.YtdmpodpdpncobaaDoorVf
namespace Go.Proofs.YtdmpodpdpncobaaDoor
open Go.RowKit
set_option linter.unusedSimpArgs false
set_option linter.unusedVariables false
theorem sl_43_5_0_1_2_3_4 (x0 x1 x2 x3 x4 : Int × Int) (w : World) : (Instr.buildSlice 43 5 #[(0, .agg (aL x0).toArray), (1, .agg (aL x1).toArray), (2, .agg (aL x2).toArray), (3, .agg (aL x3).toArray), (4, .agg (aL x4).toArray)]).run Tryd.prog w = .ok (.slice (some ⟨w.heap.size, 0, none⟩) 5 5) (w.alloc (.cells (al [x0, x1, x2, x3, x4]).toArray 24)) := by kernel_rfl
theorem sl_125_4_0_1_2_3 (x0 x1 x2 x3 : ByteArray) (w : World) : (Instr.buildSlice 125 4 #[(0, .string x0), (1, .string x1), (2, .string x2), (3, .string x3)]).run Tryd.prog w = .ok (.slice (some ⟨w.heap.size, 0, none⟩) 4 4) (w.alloc (.cells (strL [x0, x1, x2, x3]).toArray 9)) := by kernel_rfl
set_option maxRecDepth 100000 in
set_option maxHeartbeats 2000000 in
theorem known29_law (w : World) (L : LaidW w) : Calls Tryd.prog 14 #[] w (Ret (.bool true) w) := by
  refine calls_T (vs := []) (L0 := []) Tryd.func14 rfl rfl rfl rfl (KOk.none w) ?_
  refine T.seq ?_
  refine T.region ?_
  refine TL.val (OpV.assign rfl) rfl ?_
  refine TL.nil ?_
  refine TE.next ?_
  refine T.seq ?_
  refine T.region ?_
  refine TL.slit (qs := #[(0, _), (1, _), (2, _), (3, _)]) (fun _ f => by simp only [List.map_toArray, List.map_cons, List.map_nil]; rw [f.ev (x := _) rfl]; (try rw [f.ev (x := _) rfl]); (try rw [f.ev (x := _) rfl]); (try rw [f.ev (x := _) rfl])) (sl_125_4_0_1_2_3 (ByteArray.mk #[97, 98, 45]) (ByteArray.mk #[99, 87, 45]) (ByteArray.mk #[100, 95, 95, 95]) (ByteArray.mk #[101, 95, 95, 95])) rfl ?_
  intro b3
  refine TL.callx (g := 51) rfl go_51 rfl (fun wz k1 => own_x k1 (rows_law (σ := fun b => wz.heap[b]?) wz (SsR.of_blk (ss := [ByteArray.mk #[97, 98, 45], ByteArray.mk #[99, 87, 45], ByteArray.mk #[100, 95, 95, 95], ByteArray.mk #[101, 95, 95, 95]]) (k1.has (e := .blk b3 (strL [ByteArray.mk #[97, 98, 45], ByteArray.mk #[99, 87, 45], ByteArray.mk #[100, 95, 95, 95], ByteArray.mk #[101, 95, 95, 95]]) 9) (by repeat first | exact List.Mem.head _ | apply List.Mem.tail)).2 rfl) (fun b o hb => hb) (by decide) (by decide))) rfl ?_
  rintro ⟨A4, n4, c4, ρ4⟩ hv4
  replace hv4 : LsR ρ4 A4 n4 c4 ([ByteArray.mk #[97, 98, 45], ByteArray.mk #[99, 87, 45], ByteArray.mk #[100, 95, 95, 95], ByteArray.mk #[101, 95, 95, 95]].map rowB) := hv4
  have hl4 : n4 = 4 := by obtain ⟨ls, h1, h2⟩ := hv4; have h9 := congrArg List.length h2; have h8 := h1.1.1; simp at h9; omega
  refine TL.said (t := 4) rfl (show SV.v ⟨A4, n4, c4, ρ4⟩ = Value.slice A4 n4 c4 from rfl) ?_
  refine TL.val (OpV.assign rfl) rfl ?_
  refine TL.nil ?_
  refine TE.next ?_
  refine T.seq ?_
  refine T.region ?_
  refine TL.val (OpV.move rfl) rfl ?_
  refine TL.callx (g := 26) rfl go_26 rfl (fun wz k1 => own_x k1 (rlines_r (σ := fun b => wz.heap[b]?) wz (hv4.mono fun b o hb => (k1.has (e := .own ρ4) (by repeat first | exact List.Mem.head _ | apply List.Mem.tail) b o hb).2) (fun b o hb => hb) (by omega) (by kernel_rfl))) rfl ?_
  rintro ⟨A6, n6, c6, ρ6⟩ hv6
  replace hv6 : GsR ρ6 A6 n6 c6 (lgG [] 0 ([ByteArray.mk #[97, 98, 45], ByteArray.mk #[99, 87, 45], ByteArray.mk #[100, 95, 95, 95], ByteArray.mk #[101, 95, 95, 95]].map rowB)) := hv6
  have hl6 : n6 ≤ 1000 := by obtain ⟨ls, h1, h2⟩ := hv6; have h9 := congrArg List.length h2; have h8 := h1.1.1; rw [List.length_map, h8] at h9; rw [h9]; have h7 : (lgG [] 0 ([ByteArray.mk #[97, 98, 45], ByteArray.mk #[99, 87, 45], ByteArray.mk #[100, 95, 95, 95], ByteArray.mk #[101, 95, 95, 95]].map rowB)).length ≤ 1000 := of_decide_eq_true (by kernel_rfl); exact h7
  refine TL.said (t := 6) rfl (show SV.v ⟨A6, n6, c6, ρ6⟩ = Value.slice A6 n6 c6 from rfl) ?_
  refine TL.val (OpV.assign rfl) rfl ?_
  refine TL.nil ?_
  refine TE.next ?_
  refine T.seq ?_
  refine T.seq ?_
  refine T.region ?_
  refine TL.val (OpV.move rfl) rfl ?_
  refine TL.call (g := 23) rfl go_23 rfl (fun w1 k1 => at29_c (1) (1) w1) rfl ?_
  refine TL.call (g := 17) rfl go_17 rfl (fun w1 k1 => tol_r (σ := fun b => w1.heap[b]?) (1) (1) (0) (3) (0) w1 (L.below k1.bel) (hv4.mono fun b o hb => (k1.has (e := .own ρ4) (by repeat first | exact List.Mem.head _ | apply List.Mem.tail) b o hb).2) (by omega) (fun b o hb => hb)) rfl ?_
  refine TL.said (t := 9) rfl (show _ = Value.bool true from congrArg Value.bool ((by kernel_rfl))) ?_
  refine TL.val (OpV.not rfl) rfl ?_
  refine TL.val (OpV.move rfl) rfl ?_
  refine TL.open rfl rfl ?_
  refine TL.val (OpV.move rfl) rfl ?_
  refine TL.open rfl rfl ?_
  refine TL.call (g := 23) rfl go_23 rfl (fun w1 k1 => at29_c (2) (3) w1) rfl ?_
  refine TL.open rfl rfl ?_
  refine TL.call (g := 17) rfl go_17 rfl (fun w1 k1 => tol_r (σ := fun b => w1.heap[b]?) (2) (3) (0) (8) (0) w1 (L.below k1.bel) (hv4.mono fun b o hb => (k1.has (e := .own ρ4) (by repeat first | exact List.Mem.head _ | apply List.Mem.tail) b o hb).2) (by omega) (fun b o hb => hb)) rfl ?_
  refine TL.said (t := 14) rfl (show _ = Value.bool true from congrArg Value.bool ((by kernel_rfl))) ?_
  refine TL.open rfl rfl ?_
  refine TL.val (OpV.not rfl) rfl ?_
  refine TL.val ((by first | exact OpV.pick_t rfl rfl | exact OpV.pick_f rfl rfl)) rfl ?_
  refine TL.val (OpV.move rfl) rfl ?_
  refine TL.open rfl rfl ?_
  refine TL.val (OpV.move rfl) rfl ?_
  refine TL.open rfl rfl ?_
  refine TL.call (g := 23) rfl go_23 rfl (fun w1 k1 => at29_c (3) (0) w1) rfl ?_
  refine TL.open rfl rfl ?_
  refine TL.call (g := 17) rfl go_17 rfl (fun w1 k1 => tol_r (σ := fun b => w1.heap[b]?) (3) (0) (1) (0) (0) w1 (L.below k1.bel) (hv4.mono fun b o hb => (k1.has (e := .own ρ4) (by repeat first | exact List.Mem.head _ | apply List.Mem.tail) b o hb).2) (by omega) (fun b o hb => hb)) rfl ?_
  refine TL.said (t := 20) rfl (show _ = Value.bool true from congrArg Value.bool ((by kernel_rfl))) ?_
  refine TL.open rfl rfl ?_
  refine TL.val (OpV.not rfl) rfl ?_
  refine TL.val ((by first | exact OpV.pick_t rfl rfl | exact OpV.pick_f rfl rfl)) rfl ?_
  refine TL.val (OpV.move rfl) rfl ?_
  refine TL.open rfl rfl ?_
  refine TL.val (OpV.move rfl) rfl ?_
  refine TL.open rfl rfl ?_
  refine TL.call (g := 23) rfl go_23 rfl (fun w1 k1 => at29_c (4) (0) w1) rfl ?_
  refine TL.open rfl rfl ?_
  refine TL.call (g := 17) rfl go_17 rfl (fun w1 k1 => tol_r (σ := fun b => w1.heap[b]?) (4) (0) (0) (0) (3) w1 (L.below k1.bel) (hv4.mono fun b o hb => (k1.has (e := .own ρ4) (by repeat first | exact List.Mem.head _ | apply List.Mem.tail) b o hb).2) (by omega) (fun b o hb => hb)) rfl ?_
  refine TL.said (t := 26) rfl (show _ = Value.bool true from congrArg Value.bool ((by kernel_rfl))) ?_
  refine TL.open rfl rfl ?_
  refine TL.val (OpV.not rfl) rfl ?_
  refine TL.val ((by first | exact OpV.pick_t rfl rfl | exact OpV.pick_f rfl rfl)) rfl ?_
  refine TL.val (OpV.move rfl) rfl ?_
  refine TL.open rfl rfl ?_
  refine TL.val (OpV.move rfl) rfl ?_
  refine TL.open rfl rfl ?_
  refine TL.call (g := 23) rfl go_23 rfl (fun w1 k1 => at29_c (0) (2) w1) rfl ?_
  refine TL.open rfl rfl ?_
  refine TL.call (g := 17) rfl go_17 rfl (fun w1 k1 => tol_r (σ := fun b => w1.heap[b]?) (0) (2) (0) (0) (3) w1 (L.below k1.bel) (hv4.mono fun b o hb => (k1.has (e := .own ρ4) (by repeat first | exact List.Mem.head _ | apply List.Mem.tail) b o hb).2) (by omega) (fun b o hb => hb)) rfl ?_
  refine TL.said (t := 32) rfl (show _ = Value.bool true from congrArg Value.bool ((by kernel_rfl))) ?_
  refine TL.open rfl rfl ?_
  refine TL.val (OpV.not rfl) rfl ?_
  refine TL.val ((by first | exact OpV.pick_t rfl rfl | exact OpV.pick_f rfl rfl)) rfl ?_
  refine TL.nil ?_
  refine TE.sub (.cons (t := 1) rfl <| .cons (t := 2) rfl <| .cons (t := 34) rfl <| .nil) ?_
  refine TE.next ?_
  refine T.no rfl ?_
  refine T.skip ?_
  refine TE.next ?_
  refine T.seq ?_
  refine T.seq ?_
  refine T.region ?_
  refine TL.val (OpV.move rfl) rfl ?_
  refine TL.call (g := 23) rfl go_23 rfl (fun w1 k1 => at29_c (0) (1) w1) rfl ?_
  refine TL.call (g := 23) rfl go_23 rfl (fun w1 k1 => at29_c (1) (2) w1) rfl ?_
  refine TL.call (g := 23) rfl go_23 rfl (fun w1 k1 => at29_c (2) (0) w1) rfl ?_
  refine TL.call (g := 23) rfl go_23 rfl (fun w1 k1 => at29_c (2) (3) w1) rfl ?_
  refine TL.call (g := 23) rfl go_23 rfl (fun w1 k1 => at29_c (3) (1) w1) rfl ?_
  refine TL.slit (qs := #[(0, _), (1, _), (2, _), (3, _), (4, _)]) (fun _ f => by simp only [List.map_toArray, List.map_cons, List.map_nil]; rw [f.ev (x := .tmp 36) rfl]; (try rw [f.ev (x := .tmp 37) rfl]); (try rw [f.ev (x := .tmp 38) rfl]); (try rw [f.ev (x := .tmp 39) rfl]); (try rw [f.ev (x := .tmp 40) rfl])) (sl_43_5_0_1_2_3_4 ((0), (1)) ((1), (2)) ((2), (0)) ((2), (3)) ((3), (1))) rfl ?_
  intro b41
  refine TL.call (g := 23) rfl go_23 rfl (fun w1 k1 => at29_c (0) (1) w1) rfl ?_
  refine TL.call (g := 23) rfl go_23 rfl (fun w1 k1 => at29_c (1) (1) w1) rfl ?_
  refine TL.call (g := 23) rfl go_23 rfl (fun w1 k1 => at29_c (1) (2) w1) rfl ?_
  refine TL.call (g := 23) rfl go_23 rfl (fun w1 k1 => at29_c (1) (2) w1) rfl ?_
  refine TL.call (g := 23) rfl go_23 rfl (fun w1 k1 => at29_c (2) (1) w1) rfl ?_
  refine TL.slit (qs := #[(0, _), (1, _), (2, _), (3, _), (4, _)]) (fun _ f => by simp only [List.map_toArray, List.map_cons, List.map_nil]; rw [f.ev (x := .tmp 42) rfl]; (try rw [f.ev (x := .tmp 43) rfl]); (try rw [f.ev (x := .tmp 44) rfl]); (try rw [f.ev (x := .tmp 45) rfl]); (try rw [f.ev (x := .tmp 46) rfl])) (sl_43_5_0_1_2_3_4 ((0), (1)) ((1), (1)) ((1), (2)) ((1), (2)) ((2), (1))) rfl ?_
  intro b47
  refine TL.call (g := 25) rfl go_25 rfl (fun w1 k1 => carl_r (σ := fun b => w1.heap[b]?) (υ := fun b => w1.heap[b]?) (τ := fun b => w1.heap[b]?) (3) (0) w1 (L.below k1.bel) (hv4.mono fun b o hb => (k1.has (e := .own ρ4) (by repeat first | exact List.Mem.head _ | apply List.Mem.tail) b o hb).2) (AsR.of_blk (ls := [((0), (1)), ((1), (2)), ((2), (0)), ((2), (3)), ((3), (1))]) (k1.has (e := .blk b41 (al [((0), (1)), ((1), (2)), ((2), (0)), ((2), (3)), ((3), (1))]) 24) (by repeat first | exact List.Mem.head _ | apply List.Mem.tail)).2 rfl) (AsR.of_blk (ls := [((0), (1)), ((1), (1)), ((1), (2)), ((1), (2)), ((2), (1))]) (k1.has (e := .blk b47 (al [((0), (1)), ((1), (1)), ((1), (2)), ((1), (2)), ((2), (1))]) 24) (by repeat first | exact List.Mem.head _ | apply List.Mem.tail)).2 rfl) (by omega) (by decide) (fun b o hb => hb) (fun b o hb => hb) (fun b o hb => hb)) rfl ?_
  refine TL.said (t := 48) rfl (show _ = Value.bool true from congrArg Value.bool ((by kernel_rfl))) ?_
  refine TL.val (OpV.not rfl) rfl ?_
  refine TL.nil ?_
  refine TE.sub (.cons (t := 2) rfl <| .cons (t := 49) rfl <| .nil) ?_
  refine TE.next ?_
  refine T.no rfl ?_
  refine T.skip ?_
  refine TE.next ?_
  refine T.seq ?_
  refine T.region ?_
  refine TL.val (OpV.move rfl) rfl ?_
  refine TL.call (g := 23) rfl go_23 rfl (fun w1 k1 => at29_c (2) (0) w1) rfl ?_
  refine TL.call (g := 22) rfl go_22 rfl (fun w1 k1 => froml_r (τ := fun b => w1.heap[b]?) (2) (0) (3) (2) (0) (0) w1 (L.below k1.bel) (hv6.mono fun b o hb => (k1.has (e := .own ρ6) (by repeat first | exact List.Mem.head _ | apply List.Mem.tail) b o hb).2) (by omega) (by decide) (fun b o hb => hb)) rfl ?_
  refine TL.said (t := 52) rfl (show _ = Value.bool true from congrArg Value.bool ((by kernel_rfl))) ?_
  refine TL.val (OpV.move rfl) rfl ?_
  refine TL.open rfl rfl ?_
  refine TL.val (OpV.move rfl) rfl ?_
  refine TL.open rfl rfl ?_
  refine TL.call (g := 23) rfl go_23 rfl (fun w1 k1 => at29_c (4) (1) w1) rfl ?_
  refine TL.open rfl rfl ?_
  refine TL.call (g := 22) rfl go_22 rfl (fun w1 k1 => froml_r (τ := fun b => w1.heap[b]?) (2) (1) (9) (4) (1) (0) w1 (L.below k1.bel) (hv6.mono fun b o hb => (k1.has (e := .own ρ6) (by repeat first | exact List.Mem.head _ | apply List.Mem.tail) b o hb).2) (by omega) (by decide) (fun b o hb => hb)) rfl ?_
  refine TL.said (t := 56) rfl (show _ = Value.bool true from congrArg Value.bool ((by kernel_rfl))) ?_
  refine TL.val ((by first | exact OpV.pick_t rfl rfl | exact OpV.pick_f rfl rfl)) rfl ?_
  refine TL.val (OpV.move rfl) rfl ?_
  refine TL.open rfl rfl ?_
  refine TL.val (OpV.move rfl) rfl ?_
  refine TL.open rfl rfl ?_
  refine TL.call (g := 23) rfl go_23 rfl (fun w1 k1 => at29_c (0) (0) w1) rfl ?_
  refine TL.open rfl rfl ?_
  refine TL.call (g := 22) rfl go_22 rfl (fun w1 k1 => froml_r (τ := fun b => w1.heap[b]?) (2) (2) (0) (0) (0) (3) w1 (L.below k1.bel) (hv6.mono fun b o hb => (k1.has (e := .own ρ6) (by repeat first | exact List.Mem.head _ | apply List.Mem.tail) b o hb).2) (by omega) (by decide) (fun b o hb => hb)) rfl ?_
  refine TL.said (t := 61) rfl (show _ = Value.bool true from congrArg Value.bool ((by kernel_rfl))) ?_
  refine TL.val ((by first | exact OpV.pick_t rfl rfl | exact OpV.pick_f rfl rfl)) rfl ?_
  refine TL.val (OpV.move rfl) rfl ?_
  refine TL.open rfl rfl ?_
  refine TL.val (OpV.move rfl) rfl ?_
  refine TL.open rfl rfl ?_
  refine TL.call (g := 23) rfl go_23 rfl (fun w1 k1 => at29_c (0) (0) w1) rfl ?_
  refine TL.open rfl rfl ?_
  refine TL.call (g := 22) rfl go_22 rfl (fun w1 k1 => froml_r (τ := fun b => w1.heap[b]?) (0) (0) (0) (0) (0) (2) w1 (L.below k1.bel) (hv6.mono fun b o hb => (k1.has (e := .own ρ6) (by repeat first | exact List.Mem.head _ | apply List.Mem.tail) b o hb).2) (by omega) (by decide) (fun b o hb => hb)) rfl ?_
  refine TL.said (t := 66) rfl (show _ = Value.bool true from congrArg Value.bool ((by kernel_rfl))) ?_
  refine TL.val ((by first | exact OpV.pick_t rfl rfl | exact OpV.pick_f rfl rfl)) rfl ?_
  refine TL.val (OpV.assign rfl) rfl ?_
  refine TL.nil ?_
  refine TE.sub (.cons (t := 0) rfl <| .nil) ?_
  refine TE.next ?_
  refine T.ret ?_
  refine TE.ret1 rfl (ResV.tmp rfl) ?_
  exact fun w1 k1 => ⟨rfl, k1.bel⟩
end Go.Proofs.YtdmpodpdpncobaaDoor
