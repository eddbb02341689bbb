/-
  What the examples of chapter 30 answer. Condition: the package-level tables hold what they were laid with.
-/
import Derived.Test.YtdmpodpdpncobaaDoorXg
namespace Go.Proofs.YtdmpodpdpncobaaDoor
open Go.RowKit
set_option linter.unusedSimpArgs false
set_option linter.unusedVariables false
theorem go_42 : isGo Tryd.prog 42 = true := by kernel_rfl
theorem go_44 : isGo Tryd.prog 44 = true := by kernel_rfl
theorem go_49 : isGo Tryd.prog 49 = true := by kernel_rfl
theorem go_69 : isGo Tryd.prog 69 = true := by kernel_rfl
theorem go_70 : isGo Tryd.prog 70 = true := by kernel_rfl
theorem sl_43_2_0_1 (x0 x1 : Int × Int) (w : World) : (Instr.buildSlice 43 2 #[(0, .agg (aL x0).toArray), (1, .agg (aL x1).toArray)]).run Tryd.prog w = .ok (.slice (some ⟨w.heap.size, 0, none⟩) 2 2) (w.alloc (.cells (al [x0, x1]).toArray 24)) := by kernel_rfl
theorem sl_125_2_0_1 (x0 x1 : ByteArray) (w : World) : (Instr.buildSlice 125 2 #[(0, .string x0), (1, .string x1)]).run Tryd.prog w = .ok (.slice (some ⟨w.heap.size, 0, none⟩) 2 2) (w.alloc (.cells (strL [x0, x1]).toArray 9)) := by kernel_rfl
theorem sl_125_3_0_1_2 (x0 x1 x2 : ByteArray) (w : World) : (Instr.buildSlice 125 3 #[(0, .string x0), (1, .string x1), (2, .string x2)]).run Tryd.prog w = .ok (.slice (some ⟨w.heap.size, 0, none⟩) 3 3) (w.alloc (.cells (strL [x0, x1, x2]).toArray 9)) := by kernel_rfl
theorem sl_125_4_0_1_2_3 (x0 x1 x2 x3 : ByteArray) (w : World) : (Instr.buildSlice 125 4 #[(0, .string x0), (1, .string x1), (2, .string x2), (3, .string x3)]).run Tryd.prog w = .ok (.slice (some ⟨w.heap.size, 0, none⟩) 4 4) (w.alloc (.cells (strL [x0, x1, x2, x3]).toArray 9)) := by kernel_rfl
theorem sl_125_5_0_1_2_3_4 (x0 x1 x2 x3 x4 : ByteArray) (w : World) : (Instr.buildSlice 125 5 #[(0, .string x0), (1, .string x1), (2, .string x2), (3, .string x3), (4, .string x4)]).run Tryd.prog w = .ok (.slice (some ⟨w.heap.size, 0, none⟩) 5 5) (w.alloc (.cells (strL [x0, x1, x2, x3, x4]).toArray 9)) := by kernel_rfl
set_option maxRecDepth 100000 in
set_option maxHeartbeats 2000000 in
theorem known30_law (w : World) (L : LaidW w) : Calls Tryd.prog 37 #[] w (Ret (.bool true) w) := by
 refine calls_T (vs := []) (L0 := []) Tryd.func37 rfl rfl rfl rfl (KOk.none w) ?_
 refine T.seq ?_
 refine T.region ?_
 refine TL.val (OpV.assign rfl) rfl ?_
 refine TL.nil ?_
 refine TE.next ?_
 refine T.seq ?_
 refine T.seq ?_
 refine T.region ?_
 refine TL.slit (qs := #[(0, _), (1, _), (2, _)]) (fun _ f => by simp only [List.map_toArray, List.map_cons, List.map_nil]; rw [f.ev (x := _) rfl]; (try rw [f.ev (x := _) rfl]); (try rw [f.ev (x := _) rfl])) (sl_125_3_0_1_2 (ByteArray.mk #[97, 98, 99, 45]) (ByteArray.mk #[100, 95, 95]) (ByteArray.mk #[101, 102, 95])) rfl ?_
 intro b2
 refine TL.callx (g := 69) rfl go_69 rfl (fun wz k1 => own_x k1 (rows_law (σ := fun b => wz.heap[b]?) wz (SsR.of_blk (ss := [ByteArray.mk #[97, 98, 99, 45], ByteArray.mk #[100, 95, 95], ByteArray.mk #[101, 102, 95]]) (k1.has (e := .blk b2 (strL [ByteArray.mk #[97, 98, 99, 45], ByteArray.mk #[100, 95, 95], ByteArray.mk #[101, 102, 95]]) 9) (by repeat first | exact List.Mem.head _ | apply List.Mem.tail)).2 rfl) (fun b o hb => hb) (by decide) (by decide))) rfl ?_
 rintro ⟨A3, n3, c3, ρ3⟩ hv3
 replace hv3 : LsR ρ3 A3 n3 c3 ([ByteArray.mk #[97, 98, 99, 45], ByteArray.mk #[100, 95, 95], ByteArray.mk #[101, 102, 95]].map rowB) := hv3
 obtain ⟨hl3, hm3⟩ : n3 = 3 ∧ n3 ≤ c3 := by obtain ⟨ls, h1, h2⟩ := hv3; have h9 := congrArg List.length h2; have h8 := h1.1.1; have h7 := h1.1.2.1; simp at h9; omega
 refine TL.said (t := 3) rfl (show SV.v ⟨A3, n3, c3, ρ3⟩ = Value.slice A3 n3 c3 from rfl) ?_
 refine TL.call (g := 70) rfl go_70 rfl (fun w1 k1 => at29_c (1) (0) w1) rfl ?_
 refine TL.call (g := 70) rfl go_70 rfl (fun w1 k1 => at29_c (2) (1) w1) rfl ?_
 refine TL.slit (qs := #[(0, _), (1, _)]) (fun _ f => by simp only [List.map_toArray, List.map_cons, List.map_nil]; rw [f.ev (x := .tmp 4) rfl]; (try rw [f.ev (x := .tmp 5) rfl])) (sl_43_2_0_1 ((1), (0)) ((2), (1))) rfl ?_
 intro b6
 refine TL.slit (qs := #[(0, _), (1, _), (2, _)]) (fun _ f => by simp only [List.map_toArray, List.map_cons, List.map_nil]; rw [f.ev (x := _) rfl]; (try rw [f.ev (x := _) rfl]); (try rw [f.ev (x := _) rfl])) (sl_125_3_0_1_2 (ByteArray.mk #[97, 98, 45]) (ByteArray.mk #[99, 100]) (ByteArray.mk #[101, 102])) rfl ?_
 intro b7
 refine TL.callx (g := 69) rfl go_69 rfl (fun wz k1 => own_x k1 (rows_law (σ := fun b => wz.heap[b]?) wz (SsR.of_blk (ss := [ByteArray.mk #[97, 98, 45], ByteArray.mk #[99, 100], ByteArray.mk #[101, 102]]) (k1.has (e := .blk b7 (strL [ByteArray.mk #[97, 98, 45], ByteArray.mk #[99, 100], ByteArray.mk #[101, 102]]) 9) (by repeat first | exact List.Mem.head _ | apply List.Mem.tail)).2 rfl) (fun b o hb => hb) (by decide) (by decide))) rfl ?_
 rintro ⟨A8, n8, c8, ρ8⟩ hv8
 replace hv8 : LsR ρ8 A8 n8 c8 ([ByteArray.mk #[97, 98, 45], ByteArray.mk #[99, 100], ByteArray.mk #[101, 102]].map rowB) := hv8
 obtain ⟨hl8, hm8⟩ : n8 = 3 ∧ n8 ≤ c8 := by obtain ⟨ls, h1, h2⟩ := hv8; have h9 := congrArg List.length h2; have h8 := h1.1.1; have h7 := h1.1.2.1; simp at h9; omega
 refine TL.said (t := 8) rfl (show SV.v ⟨A8, n8, c8, ρ8⟩ = Value.slice A8 n8 c8 from rfl) ?_
 refine TL.call (g := 70) rfl go_70 rfl (fun w1 k1 => at29_c (1) (1) w1) rfl ?_
 refine TL.call (g := 70) rfl go_70 rfl (fun w1 k1 => at29_c (2) (1) w1) rfl ?_
 refine TL.slit (qs := #[(0, _), (1, _)]) (fun _ f => by simp only [List.map_toArray, List.map_cons, List.map_nil]; rw [f.ev (x := .tmp 9) rfl]; (try rw [f.ev (x := .tmp 10) rfl])) (sl_43_2_0_1 ((1), (1)) ((2), (1))) rfl ?_
 intro b11
 refine TL.call (g := 44) rfl go_44 rfl (fun w1 k1 => flows_r (σ := fun b => w1.heap[b]?) (υ := fun b => w1.heap[b]?) (τ := fun b => w1.heap[b]?) (ω := fun b => w1.heap[b]?) (2) (0) w1 (L.below k1.bel) (hv3.mono fun b o hb => (k1.has (e := .own ρ3) (by repeat first | exact List.Mem.head _ | apply List.Mem.tail) b o hb).2) (AsR.of_blk (ls := [((1), (0)), ((2), (1))]) (k1.has (e := .blk b6 (al [((1), (0)), ((2), (1))]) 24) (by repeat first | exact List.Mem.head _ | apply List.Mem.tail)).2 rfl) (hv8.mono fun b o hb => (k1.has (e := .own ρ8) (by repeat first | exact List.Mem.head _ | apply List.Mem.tail) b o hb).2) (AsR.of_blk (ls := [((1), (1)), ((2), (1))]) (k1.has (e := .blk b11 (al [((1), (1)), ((2), (1))]) 24) (by repeat first | exact List.Mem.head _ | apply List.Mem.tail)).2 rfl) (by omega) (by decide) (fun b o hb => hb) (fun b o hb => hb) (fun b o hb => hb) (fun b o hb => hb)) rfl ?_
 refine TL.said (t := 12) rfl (show _ = Value.bool true from congrArg Value.bool ((by kernel_rfl))) ?_
 refine TL.val (OpV.not rfl) rfl ?_
 refine TL.val (OpV.move rfl) rfl ?_
 refine TL.open rfl rfl ?_
 refine TL.call (g := 44) rfl go_44 rfl (fun w1 k1 => flows_r (σ := fun b => w1.heap[b]?) (υ := fun b => w1.heap[b]?) (τ := fun b => w1.heap[b]?) (ω := fun b => w1.heap[b]?) (4) (0) w1 (L.below k1.bel) (LsR_nil _) (AsR_nil _) (LsR_nil _) (AsR_nil _) (by omega) (by decide) (fun b o hb => hb) (fun b o hb => hb) (fun b o hb => hb) (fun b o hb => hb)) rfl ?_
 refine TL.said (t := 15) rfl (show _ = Value.bool true from congrArg Value.bool ((by kernel_rfl))) ?_
 refine TL.open rfl rfl ?_
 refine TL.val (OpV.not rfl) rfl ?_
 refine TL.val ((by first | exact OpV.pick_t rfl rfl | exact OpV.pick_f rfl rfl)) rfl ?_
 refine TL.val (OpV.move rfl) rfl ?_
 refine TL.open rfl rfl ?_
 refine TL.slit (qs := #[(0, _)]) (fun _ f => by simp only [List.map_toArray, List.map_cons, List.map_nil]; rw [f.ev (x := _) rfl]) (sl_125_1_0 (ByteArray.mk #[97, 98])) rfl ?_
 intro b19
 refine TL.open rfl rfl ?_
 refine TL.callx (g := 69) rfl go_69 rfl (fun wz k1 => own_x k1 (rows_law (σ := fun b => wz.heap[b]?) wz (SsR.of_blk (ss := [ByteArray.mk #[97, 98]]) (k1.has (e := .blk b19 (strL [ByteArray.mk #[97, 98]]) 9) (by repeat first | exact List.Mem.head _ | apply List.Mem.tail)).2 rfl) (fun b o hb => hb) (by decide) (by decide))) rfl ?_
 rintro ⟨A20, n20, c20, ρ20⟩ hv20
 replace hv20 : LsR ρ20 A20 n20 c20 ([ByteArray.mk #[97, 98]].map rowB) := hv20
 obtain ⟨hl20, hm20⟩ : n20 = 1 ∧ n20 ≤ c20 := by obtain ⟨ls, h1, h2⟩ := hv20; have h9 := congrArg List.length h2; have h8 := h1.1.1; have h7 := h1.1.2.1; simp at h9; omega
 refine TL.said (t := 20) rfl (show SV.v ⟨A20, n20, c20, ρ20⟩ = Value.slice A20 n20 c20 from rfl) ?_
 refine TL.open rfl rfl ?_
 refine TL.call (g := 44) rfl go_44 rfl (fun w1 k1 => flows_r (σ := fun b => w1.heap[b]?) (υ := fun b => w1.heap[b]?) (τ := fun b => w1.heap[b]?) (ω := fun b => w1.heap[b]?) (0) (2) w1 (L.below k1.bel) (hv20.mono fun b o hb => (k1.has (e := .own ρ20) (by repeat first | exact List.Mem.head _ | apply List.Mem.tail) b o hb).2) (AsR_nil _) (LsR_nil _) (AsR_nil _) (by omega) (by decide) (fun b o hb => hb) (fun b o hb => hb) (fun b o hb => hb) (fun b o hb => hb)) rfl ?_
 refine TL.said (t := 21) rfl (show _ = Value.bool true from congrArg Value.bool ((by kernel_rfl))) ?_
 refine TL.open rfl rfl ?_
 refine TL.val (OpV.not rfl) rfl ?_
 refine TL.val ((by first | exact OpV.pick_t rfl rfl | exact OpV.pick_f rfl rfl)) rfl ?_
 refine TL.val (OpV.move rfl) rfl ?_
 refine TL.open rfl rfl ?_
 refine TL.slit (qs := #[(0, _)]) (fun _ f => by simp only [List.map_toArray, List.map_cons, List.map_nil]; rw [f.ev (x := _) rfl]) (sl_125_1_0 (ByteArray.mk #[97, 98])) rfl ?_
 intro b25
 refine TL.open rfl rfl ?_
 refine TL.callx (g := 69) rfl go_69 rfl (fun wz k1 => own_x k1 (rows_law (σ := fun b => wz.heap[b]?) wz (SsR.of_blk (ss := [ByteArray.mk #[97, 98]]) (k1.has (e := .blk b25 (strL [ByteArray.mk #[97, 98]]) 9) (by repeat first | exact List.Mem.head _ | apply List.Mem.tail)).2 rfl) (fun b o hb => hb) (by decide) (by decide))) rfl ?_
 rintro ⟨A26, n26, c26, ρ26⟩ hv26
 replace hv26 : LsR ρ26 A26 n26 c26 ([ByteArray.mk #[97, 98]].map rowB) := hv26
 obtain ⟨hl26, hm26⟩ : n26 = 1 ∧ n26 ≤ c26 := by obtain ⟨ls, h1, h2⟩ := hv26; have h9 := congrArg List.length h2; have h8 := h1.1.1; have h7 := h1.1.2.1; simp at h9; omega
 refine TL.said (t := 26) rfl (show SV.v ⟨A26, n26, c26, ρ26⟩ = Value.slice A26 n26 c26 from rfl) ?_
 refine TL.open rfl rfl ?_
 refine TL.call (g := 70) rfl go_70 rfl (fun w1 k1 => at29_c (1) (0) w1) rfl ?_
 refine TL.open rfl rfl ?_
 refine TL.slit (qs := #[(0, _)]) (fun _ f => by simp only [List.map_toArray, List.map_cons, List.map_nil]; rw [f.ev (x := .tmp 27) rfl]) (sl_43_1_0 ((1), (0))) rfl ?_
 intro b28
 refine TL.open rfl rfl ?_
 refine TL.call (g := 44) rfl go_44 rfl (fun w1 k1 => flows_r (σ := fun b => w1.heap[b]?) (υ := fun b => w1.heap[b]?) (τ := fun b => w1.heap[b]?) (ω := fun b => w1.heap[b]?) (4) (3) w1 (L.below k1.bel) (hv26.mono fun b o hb => (k1.has (e := .own ρ26) (by repeat first | exact List.Mem.head _ | apply List.Mem.tail) b o hb).2) (AsR.of_blk (ls := [((1), (0))]) (k1.has (e := .blk b28 (al [((1), (0))]) 24) (by repeat first | exact List.Mem.head _ | apply List.Mem.tail)).2 rfl) (LsR_nil _) (AsR_nil _) (by omega) (by decide) (fun b o hb => hb) (fun b o hb => hb) (fun b o hb => hb) (fun b o hb => hb)) rfl ?_
 refine TL.said (t := 29) rfl (show _ = Value.bool true from congrArg Value.bool ((by kernel_rfl))) ?_
 refine TL.open rfl rfl ?_
 refine TL.val (OpV.not rfl) rfl ?_
 refine TL.val ((by first | exact OpV.pick_t rfl rfl | exact OpV.pick_f rfl rfl)) rfl ?_
 refine TL.val (OpV.move rfl) rfl ?_
 refine TL.open rfl rfl ?_
 refine TL.slit (qs := #[(0, _), (1, _)]) (fun _ f => by simp only [List.map_toArray, List.map_cons, List.map_nil]; rw [f.ev (x := _) rfl]; (try rw [f.ev (x := _) rfl])) (sl_125_2_0_1 (ByteArray.mk #[97, 98, 99, 45]) (ByteArray.mk #[100, 95, 95])) rfl ?_
 intro b33
 refine TL.open rfl rfl ?_
 refine TL.callx (g := 69) rfl go_69 rfl (fun wz k1 => own_x k1 (rows_law (σ := fun b => wz.heap[b]?) wz (SsR.of_blk (ss := [ByteArray.mk #[97, 98, 99, 45], ByteArray.mk #[100, 95, 95]]) (k1.has (e := .blk b33 (strL [ByteArray.mk #[97, 98, 99, 45], ByteArray.mk #[100, 95, 95]]) 9) (by repeat first | exact List.Mem.head _ | apply List.Mem.tail)).2 rfl) (fun b o hb => hb) (by decide) (by decide))) rfl ?_
 rintro ⟨A34, n34, c34, ρ34⟩ hv34
 replace hv34 : LsR ρ34 A34 n34 c34 ([ByteArray.mk #[97, 98, 99, 45], ByteArray.mk #[100, 95, 95]].map rowB) := hv34
 obtain ⟨hl34, hm34⟩ : n34 = 2 ∧ n34 ≤ c34 := by obtain ⟨ls, h1, h2⟩ := hv34; have h9 := congrArg List.length h2; have h8 := h1.1.1; have h7 := h1.1.2.1; simp at h9; omega
 refine TL.said (t := 34) rfl (show SV.v ⟨A34, n34, c34, ρ34⟩ = Value.slice A34 n34 c34 from rfl) ?_
 refine TL.open rfl rfl ?_
 refine TL.slit (qs := #[(0, _), (1, _)]) (fun _ f => by simp only [List.map_toArray, List.map_cons, List.map_nil]; rw [f.ev (x := _) rfl]; (try rw [f.ev (x := _) rfl])) (sl_125_2_0_1 (ByteArray.mk #[97, 98, 45]) (ByteArray.mk #[99, 100])) rfl ?_
 intro b35
 refine TL.open rfl rfl ?_
 refine TL.callx (g := 69) rfl go_69 rfl (fun wz k1 => own_x k1 (rows_law (σ := fun b => wz.heap[b]?) wz (SsR.of_blk (ss := [ByteArray.mk #[97, 98, 45], ByteArray.mk #[99, 100]]) (k1.has (e := .blk b35 (strL [ByteArray.mk #[97, 98, 45], ByteArray.mk #[99, 100]]) 9) (by repeat first | exact List.Mem.head _ | apply List.Mem.tail)).2 rfl) (fun b o hb => hb) (by decide) (by decide))) rfl ?_
 rintro ⟨A36, n36, c36, ρ36⟩ hv36
 replace hv36 : LsR ρ36 A36 n36 c36 ([ByteArray.mk #[97, 98, 45], ByteArray.mk #[99, 100]].map rowB) := hv36
 obtain ⟨hl36, hm36⟩ : n36 = 2 ∧ n36 ≤ c36 := by obtain ⟨ls, h1, h2⟩ := hv36; have h9 := congrArg List.length h2; have h8 := h1.1.1; have h7 := h1.1.2.1; simp at h9; omega
 refine TL.said (t := 36) rfl (show SV.v ⟨A36, n36, c36, ρ36⟩ = Value.slice A36 n36 c36 from rfl) ?_
 refine TL.open rfl rfl ?_
 refine TL.call (g := 42) rfl go_42 rfl (fun w1 k1 => same30_r (σ := fun b => w1.heap[b]?) (τ := fun b => w1.heap[b]?) w1 (L.below k1.bel) (hv34.mono fun b o hb => (k1.has (e := .own ρ34) (by repeat first | exact List.Mem.head _ | apply List.Mem.tail) b o hb).2) (hv36.mono fun b o hb => (k1.has (e := .own ρ36) (by repeat first | exact List.Mem.head _ | apply List.Mem.tail) b o hb).2) (by omega) (by omega) (fun b o hb => hb) (fun b o hb => hb)) rfl ?_
 refine TL.said (t := 37) rfl (show _ = Value.bool true from congrArg Value.bool ((by kernel_rfl))) ?_
 refine TL.open rfl rfl ?_
 refine TL.val (OpV.not rfl) rfl ?_
 refine TL.val ((by first | exact OpV.pick_t rfl rfl | exact OpV.pick_f rfl rfl)) rfl ?_
 refine TL.val (OpV.move rfl) rfl ?_
 refine TL.open rfl rfl ?_
 refine TL.slit (qs := #[(0, _)]) (fun _ f => by simp only [List.map_toArray, List.map_cons, List.map_nil]; rw [f.ev (x := _) rfl]) (sl_125_1_0 (ByteArray.mk #[97, 98])) rfl ?_
 intro b41
 refine TL.open rfl rfl ?_
 refine TL.callx (g := 69) rfl go_69 rfl (fun wz k1 => own_x k1 (rows_law (σ := fun b => wz.heap[b]?) wz (SsR.of_blk (ss := [ByteArray.mk #[97, 98]]) (k1.has (e := .blk b41 (strL [ByteArray.mk #[97, 98]]) 9) (by repeat first | exact List.Mem.head _ | apply List.Mem.tail)).2 rfl) (fun b o hb => hb) (by decide) (by decide))) rfl ?_
 rintro ⟨A42, n42, c42, ρ42⟩ hv42
 replace hv42 : LsR ρ42 A42 n42 c42 ([ByteArray.mk #[97, 98]].map rowB) := hv42
 obtain ⟨hl42, hm42⟩ : n42 = 1 ∧ n42 ≤ c42 := by obtain ⟨ls, h1, h2⟩ := hv42; have h9 := congrArg List.length h2; have h8 := h1.1.1; have h7 := h1.1.2.1; simp at h9; omega
 refine TL.said (t := 42) rfl (show SV.v ⟨A42, n42, c42, ρ42⟩ = Value.slice A42 n42 c42 from rfl) ?_
 refine TL.open rfl rfl ?_
 refine TL.slit (qs := #[(0, _), (1, _)]) (fun _ f => by simp only [List.map_toArray, List.map_cons, List.map_nil]; rw [f.ev (x := _) rfl]; (try rw [f.ev (x := _) rfl])) (sl_125_2_0_1 (ByteArray.mk #[97, 98]) (ByteArray.mk #[99, 100])) rfl ?_
 intro b43
 refine TL.open rfl rfl ?_
 refine TL.callx (g := 69) rfl go_69 rfl (fun wz k1 => own_x k1 (rows_law (σ := fun b => wz.heap[b]?) wz (SsR.of_blk (ss := [ByteArray.mk #[97, 98], ByteArray.mk #[99, 100]]) (k1.has (e := .blk b43 (strL [ByteArray.mk #[97, 98], ByteArray.mk #[99, 100]]) 9) (by repeat first | exact List.Mem.head _ | apply List.Mem.tail)).2 rfl) (fun b o hb => hb) (by decide) (by decide))) rfl ?_
 rintro ⟨A44, n44, c44, ρ44⟩ hv44
 replace hv44 : LsR ρ44 A44 n44 c44 ([ByteArray.mk #[97, 98], ByteArray.mk #[99, 100]].map rowB) := hv44
 obtain ⟨hl44, hm44⟩ : n44 = 2 ∧ n44 ≤ c44 := by obtain ⟨ls, h1, h2⟩ := hv44; have h9 := congrArg List.length h2; have h8 := h1.1.1; have h7 := h1.1.2.1; simp at h9; omega
 refine TL.said (t := 44) rfl (show SV.v ⟨A44, n44, c44, ρ44⟩ = Value.slice A44 n44 c44 from rfl) ?_
 refine TL.open rfl rfl ?_
 refine TL.call (g := 42) rfl go_42 rfl (fun w1 k1 => same30_r (σ := fun b => w1.heap[b]?) (τ := fun b => w1.heap[b]?) w1 (L.below k1.bel) (hv42.mono fun b o hb => (k1.has (e := .own ρ42) (by repeat first | exact List.Mem.head _ | apply List.Mem.tail) b o hb).2) (hv44.mono fun b o hb => (k1.has (e := .own ρ44) (by repeat first | exact List.Mem.head _ | apply List.Mem.tail) b o hb).2) (by omega) (by omega) (fun b o hb => hb) (fun b o hb => hb)) rfl ?_
 refine TL.said (t := 45) rfl (show _ = Value.bool false from congrArg Value.bool ((by kernel_rfl))) ?_
 refine TL.val ((by first | exact OpV.pick_t rfl rfl | exact OpV.pick_f rfl rfl)) rfl ?_
 refine TL.nil ?_
 refine TE.sub (.cons (t := 46) rfl <| .nil) ?_
 refine TE.next ?_
 refine T.no rfl ?_
 refine T.skip ?_
 refine TE.next ?_
 refine T.seq ?_
 refine T.region ?_
 refine TL.slit (qs := #[(0, _), (1, _), (2, _), (3, _), (4, _)]) (fun _ f => by simp only [List.map_toArray, List.map_cons, List.map_nil]; rw [f.ev (x := _) rfl]; (try rw [f.ev (x := _) rfl]); (try rw [f.ev (x := _) rfl]); (try rw [f.ev (x := _) rfl]); (try rw [f.ev (x := _) rfl])) (sl_125_5_0_1_2_3_4 (ByteArray.mk #[97]) (ByteArray.mk #[98]) (ByteArray.mk #[99]) (ByteArray.mk #[100]) (ByteArray.mk #[101])) rfl ?_
 intro b47
 refine TL.callx (g := 69) rfl go_69 rfl (fun wz k1 => own_x k1 (rows_law (σ := fun b => wz.heap[b]?) wz (SsR.of_blk (ss := [ByteArray.mk #[97], ByteArray.mk #[98], ByteArray.mk #[99], ByteArray.mk #[100], ByteArray.mk #[101]]) (k1.has (e := .blk b47 (strL [ByteArray.mk #[97], ByteArray.mk #[98], ByteArray.mk #[99], ByteArray.mk #[100], ByteArray.mk #[101]]) 9) (by repeat first | exact List.Mem.head _ | apply List.Mem.tail)).2 rfl) (fun b o hb => hb) (by decide) (by decide))) rfl ?_
 rintro ⟨A48, n48, c48, ρ48⟩ hv48
 replace hv48 : LsR ρ48 A48 n48 c48 ([ByteArray.mk #[97], ByteArray.mk #[98], ByteArray.mk #[99], ByteArray.mk #[100], ByteArray.mk #[101]].map rowB) := hv48
 obtain ⟨hl48, hm48⟩ : n48 = 5 ∧ n48 ≤ c48 := by obtain ⟨ls, h1, h2⟩ := hv48; have h9 := congrArg List.length h2; have h8 := h1.1.1; have h7 := h1.1.2.1; simp at h9; omega
 refine TL.said (t := 48) rfl (show SV.v ⟨A48, n48, c48, ρ48⟩ = Value.slice A48 n48 c48 from rfl) ?_
 refine TL.val (OpV.assign rfl) rfl ?_
 refine TL.nil ?_
 refine TE.next ?_
 refine T.seq ?_
 refine T.any ([]) [] mix rfl rfl ?_
 refine TA.takeP (i := 0) (ls := #[true, false, false, false, false, false, false, false, false, false, false, false, false, false, false, false, false, false, false, false, false, false, false, false, false, false, false, false, false, false]) rfl rfl rfl rfl rfl (by kernel_rfl) (by kernel_rfl) (by kernel_rfl) (by repeat (first | with_reducible exact PanicOk.body | with_reducible apply PanicOk.next | with_reducible apply PanicOk.block)) (OpV.move rfl) rfl (by kernel_rfl) ?_
 refine TA.one (i := 1) (ls := #[true, true, false, false, false, false, false, false, false, false, false, false, false, false, false, false, false, false, false, false, false, false, false, false, false, false, false, false, false, false]) (by kernel_rfl) rfl (by kernel_rfl) (fun w1 => ?_)
 refine TL.slit (qs := #[(0, _), (1, _)]) (fun _ f => by simp only [List.map_toArray, List.map_cons, List.map_nil]; rw [f.ev (x := _) rfl]; (try rw [f.ev (x := _) rfl])) (sl_125_2_0_1 (ByteArray.mk #[100]) (ByteArray.mk #[101])) rfl ?_
 intro b50
 refine TL.nil ?_
 refine TA.cont (.nil) ?_
 refine TA.one (i := 2) (ls := #[true, true, true, false, false, false, false, false, false, false, false, false, false, false, false, false, false, false, false, false, false, false, false, false, false, false, false, false, false, false]) (by kernel_rfl) rfl (by kernel_rfl) (fun w1 => ?_)
 refine TL.callx (g := 69) rfl go_69 rfl (fun wz k1 => own_x k1 (rows_law (σ := fun b => wz.heap[b]?) wz (SsR.of_blk (ss := [ByteArray.mk #[100], ByteArray.mk #[101]]) (k1.has (e := .blk b50 (strL [ByteArray.mk #[100], ByteArray.mk #[101]]) 9) (by repeat first | exact List.Mem.head _ | apply List.Mem.tail)).2 rfl) (fun b o hb => hb) (by decide) (by decide))) rfl ?_
 rintro ⟨A51, n51, c51, ρ51⟩ hv51
 replace hv51 : LsR ρ51 A51 n51 c51 ([ByteArray.mk #[100], ByteArray.mk #[101]].map rowB) := hv51
 obtain ⟨hl51, hm51⟩ : n51 = 2 ∧ n51 ≤ c51 := by obtain ⟨ls, h1, h2⟩ := hv51; have h9 := congrArg List.length h2; have h8 := h1.1.1; have h7 := h1.1.2.1; simp at h9; omega
 refine TL.said (t := 51) rfl (show SV.v ⟨A51, n51, c51, ρ51⟩ = Value.slice A51 n51 c51 from rfl) ?_
 refine TL.nil ?_
 refine TA.cont (.nil) ?_
 refine TA.one (i := 3) (ls := #[true, true, true, true, false, false, false, false, false, false, false, false, false, false, false, false, false, false, false, false, false, false, false, false, false, false, false, false, false, false]) (by kernel_rfl) rfl (by kernel_rfl) (fun w1 => ?_)
 refine TL.call (g := 49) rfl go_49 rfl (fun w1 k1 => parts_r (σ := fun b => w1.heap[b]?) (τ := fun b => w1.heap[b]?) (2) (4) (3) (0) w1 (L.below k1.bel) (hv48.mono fun b o hb => (k1.has (e := .own ρ48) (by repeat first | exact List.Mem.head _ | apply List.Mem.tail) b o hb).2) (hv51.mono fun b o hb => (k1.has (e := .own ρ51) (by repeat first | exact List.Mem.head _ | apply List.Mem.tail) b o hb).2) (by omega) (fun b o hb => hb) (fun b o hb => hb)) rfl ?_
 refine TL.said (t := 52) rfl (show _ = Value.bool true from congrArg Value.bool ((by kernel_rfl))) ?_
 refine TL.nil ?_
 refine TA.cont (.nil) ?_
 refine TA.takeP (i := 4) (ls := #[true, true, true, true, true, false, false, false, false, false, false, false, false, false, false, false, false, false, false, false, false, false, false, false, false, false, false, false, false, false]) rfl rfl rfl rfl rfl (by kernel_rfl) (by kernel_rfl) (by kernel_rfl) (by repeat (first | with_reducible exact PanicOk.body | with_reducible apply PanicOk.next | with_reducible apply PanicOk.block)) (OpV.move rfl) rfl (by kernel_rfl) ?_
 refine TA.takeP (i := 5) (ls := #[true, true, true, true, true, true, false, false, false, false, false, false, false, false, false, false, false, false, false, false, false, false, false, false, false, false, false, false, false, false]) rfl rfl rfl rfl rfl (by kernel_rfl) (by kernel_rfl) (by kernel_rfl) (by repeat (first | with_reducible exact PanicOk.body | with_reducible apply PanicOk.next | with_reducible apply PanicOk.block)) (OpV.move rfl) rfl (by kernel_rfl) ?_
 refine TA.one (i := 6) (ls := #[true, true, true, true, true, true, true, false, false, false, false, false, false, false, false, false, false, false, false, false, false, false, false, false, false, false, false, false, false, false]) (by kernel_rfl) rfl (by kernel_rfl) (fun w1 => ?_)
 refine TL.open rfl rfl ?_
 refine TL.slit (qs := #[(0, _), (1, _)]) (fun _ f => by simp only [List.map_toArray, List.map_cons, List.map_nil]; rw [f.ev (x := _) rfl]; (try rw [f.ev (x := _) rfl])) (sl_125_2_0_1 (ByteArray.mk #[99]) (ByteArray.mk #[100])) rfl ?_
 intro b55
 refine TL.nil ?_
 refine TA.cont (.nil) ?_
 refine TA.one (i := 7) (ls := #[true, true, true, true, true, true, true, true, false, false, false, false, false, false, false, false, false, false, false, false, false, false, false, false, false, false, false, false, false, false]) (by kernel_rfl) rfl (by kernel_rfl) (fun w1 => ?_)
 refine TL.open rfl rfl ?_
 refine TL.callx (g := 69) rfl go_69 rfl (fun wz k1 => own_x k1 (rows_law (σ := fun b => wz.heap[b]?) wz (SsR.of_blk (ss := [ByteArray.mk #[99], ByteArray.mk #[100]]) (k1.has (e := .blk b55 (strL [ByteArray.mk #[99], ByteArray.mk #[100]]) 9) (by repeat first | exact List.Mem.head _ | apply List.Mem.tail)).2 rfl) (fun b o hb => hb) (by decide) (by decide))) rfl ?_
 rintro ⟨A56, n56, c56, ρ56⟩ hv56
 replace hv56 : LsR ρ56 A56 n56 c56 ([ByteArray.mk #[99], ByteArray.mk #[100]].map rowB) := hv56
 obtain ⟨hl56, hm56⟩ : n56 = 2 ∧ n56 ≤ c56 := by obtain ⟨ls, h1, h2⟩ := hv56; have h9 := congrArg List.length h2; have h8 := h1.1.1; have h7 := h1.1.2.1; simp at h9; omega
 refine TL.said (t := 56) rfl (show SV.v ⟨A56, n56, c56, ρ56⟩ = Value.slice A56 n56 c56 from rfl) ?_
 refine TL.nil ?_
 refine TA.cont (.nil) ?_
 refine TA.one (i := 8) (ls := #[true, true, true, true, true, true, true, true, true, false, false, false, false, false, false, false, false, false, false, false, false, false, false, false, false, false, false, false, false, false]) (by kernel_rfl) rfl (by kernel_rfl) (fun w1 => ?_)
 refine TL.open rfl rfl ?_
 refine TL.call (g := 49) rfl go_49 rfl (fun w1 k1 => parts_r (σ := fun b => w1.heap[b]?) (τ := fun b => w1.heap[b]?) (2) (2) (2) (0) w1 (L.below k1.bel) (hv48.mono fun b o hb => (k1.has (e := .own ρ48) (by repeat first | exact List.Mem.head _ | apply List.Mem.tail) b o hb).2) (hv56.mono fun b o hb => (k1.has (e := .own ρ56) (by repeat first | exact List.Mem.head _ | apply List.Mem.tail) b o hb).2) (by omega) (fun b o hb => hb) (fun b o hb => hb)) rfl ?_
 refine TL.said (t := 57) rfl (show _ = Value.bool true from congrArg Value.bool ((by kernel_rfl))) ?_
 refine TL.nil ?_
 refine TA.cont (.nil) ?_
 refine TA.takeP (i := 9) (ls := #[true, true, true, true, true, true, true, true, true, true, false, false, false, false, false, false, false, false, false, false, false, false, false, false, false, false, false, false, false, false]) rfl rfl rfl rfl rfl (by kernel_rfl) (by kernel_rfl) (by kernel_rfl) (by repeat (first | with_reducible exact PanicOk.body | with_reducible apply PanicOk.next | with_reducible apply PanicOk.block)) ((by first | exact OpV.pick_t rfl rfl | exact OpV.pick_f rfl rfl)) rfl (by kernel_rfl) ?_
 refine TA.takeP (i := 10) (ls := #[true, true, true, true, true, true, true, true, true, true, true, false, false, false, false, false, false, false, false, false, false, false, false, false, false, false, false, false, false, false]) rfl rfl rfl rfl rfl (by kernel_rfl) (by kernel_rfl) (by kernel_rfl) (by repeat (first | with_reducible exact PanicOk.body | with_reducible apply PanicOk.next | with_reducible apply PanicOk.block)) (OpV.move rfl) rfl (by kernel_rfl) ?_
 refine TA.takeP (i := 11) (ls := #[true, true, true, true, true, true, true, true, true, true, true, true, false, false, false, false, false, false, false, false, false, false, false, false, false, false, false, false, false, false]) rfl rfl rfl rfl rfl (by kernel_rfl) (by kernel_rfl) (by kernel_rfl) (by repeat (first | with_reducible exact PanicOk.body | with_reducible apply PanicOk.next | with_reducible apply PanicOk.block)) (OpV.move rfl) rfl (by kernel_rfl) ?_
 refine TA.takeP (i := 12) (ls := #[true, true, true, true, true, true, true, true, true, true, true, true, true, false, false, false, false, false, false, false, false, false, false, false, false, false, false, false, false, false]) rfl rfl rfl rfl rfl (by kernel_rfl) (by kernel_rfl) (by kernel_rfl) (by repeat (first | with_reducible exact PanicOk.body | with_reducible apply PanicOk.next | with_reducible apply PanicOk.block)) (OpV.sliceHi (hi := 3) se_22 rfl rfl rfl (by omega)) rfl (by kernel_rfl) ?_
 refine TA.one (i := 13) (ls := #[true, true, true, true, true, true, true, true, true, true, true, true, true, true, false, false, false, false, false, false, false, false, false, false, false, false, false, false, false, false]) (by kernel_rfl) rfl (by kernel_rfl) (fun w1 => ?_)
 refine TL.open rfl rfl ?_
 refine TL.slit (qs := #[(0, _), (1, _), (2, _), (3, _)]) (fun _ f => by simp only [List.map_toArray, List.map_cons, List.map_nil]; rw [f.ev (x := _) rfl]; (try rw [f.ev (x := _) rfl]); (try rw [f.ev (x := _) rfl]); (try rw [f.ev (x := _) rfl])) (sl_125_4_0_1_2_3 (ByteArray.mk #[97]) (ByteArray.mk #[98]) (ByteArray.mk #[99]) (ByteArray.mk #[95])) rfl ?_
 intro b62
 refine TL.nil ?_
 refine TA.cont (.nil) ?_
 refine TA.one (i := 14) (ls := #[true, true, true, true, true, true, true, true, true, true, true, true, true, true, true, false, false, false, false, false, false, false, false, false, false, false, false, false, false, false]) (by kernel_rfl) rfl (by kernel_rfl) (fun w1 => ?_)
 refine TL.open rfl rfl ?_
 refine TL.callx (g := 69) rfl go_69 rfl (fun wz k1 => own_x k1 (rows_law (σ := fun b => wz.heap[b]?) wz (SsR.of_blk (ss := [ByteArray.mk #[97], ByteArray.mk #[98], ByteArray.mk #[99], ByteArray.mk #[95]]) (k1.has (e := .blk b62 (strL [ByteArray.mk #[97], ByteArray.mk #[98], ByteArray.mk #[99], ByteArray.mk #[95]]) 9) (by repeat first | exact List.Mem.head _ | apply List.Mem.tail)).2 rfl) (fun b o hb => hb) (by decide) (by decide))) rfl ?_
 rintro ⟨A63, n63, c63, ρ63⟩ hv63
 replace hv63 : LsR ρ63 A63 n63 c63 ([ByteArray.mk #[97], ByteArray.mk #[98], ByteArray.mk #[99], ByteArray.mk #[95]].map rowB) := hv63
 obtain ⟨hl63, hm63⟩ : n63 = 4 ∧ n63 ≤ c63 := by obtain ⟨ls, h1, h2⟩ := hv63; have h9 := congrArg List.length h2; have h8 := h1.1.1; have h7 := h1.1.2.1; simp at h9; omega
 refine TL.said (t := 63) rfl (show SV.v ⟨A63, n63, c63, ρ63⟩ = Value.slice A63 n63 c63 from rfl) ?_
 refine TL.nil ?_
 refine TA.cont (.nil) ?_
 refine TA.one (i := 15) (ls := #[true, true, true, true, true, true, true, true, true, true, true, true, true, true, true, true, false, false, false, false, false, false, false, false, false, false, false, false, false, false]) (by kernel_rfl) rfl (by kernel_rfl) (fun w1 => ?_)
 refine TL.open rfl rfl ?_
 refine TL.call (g := 49) rfl go_49 rfl (fun w1 k1 => parts_r (σ := fun b => w1.heap[b]?) (τ := fun b => w1.heap[b]?) (4) (2) (0) (0) w1 (L.below k1.bel) (LsR.pre (hv48.mono fun b o hb => (k1.has (e := .own ρ48) (by repeat first | exact List.Mem.head _ | apply List.Mem.tail) b o hb).2) (by omega)) (hv63.mono fun b o hb => (k1.has (e := .own ρ63) (by repeat first | exact List.Mem.head _ | apply List.Mem.tail) b o hb).2) (by omega) (fun b o hb => hb) (fun b o hb => hb)) rfl ?_
 refine TL.said (t := 64) rfl (show _ = Value.bool true from congrArg Value.bool ((by kernel_rfl))) ?_
 refine TL.nil ?_
 refine TA.cont (.nil) ?_
 refine TA.takeP (i := 16) (ls := #[true, true, true, true, true, true, true, true, true, true, true, true, true, true, true, true, true, false, false, false, false, false, false, false, false, false, false, false, false, false]) rfl rfl rfl rfl rfl (by kernel_rfl) (by kernel_rfl) (by kernel_rfl) (by repeat (first | with_reducible exact PanicOk.body | with_reducible apply PanicOk.next | with_reducible apply PanicOk.block)) ((by first | exact OpV.pick_t rfl rfl | exact OpV.pick_f rfl rfl)) rfl (by kernel_rfl) ?_
 refine TA.takeP (i := 17) (ls := #[true, true, true, true, true, true, true, true, true, true, true, true, true, true, true, true, true, true, false, false, false, false, false, false, false, false, false, false, false, false]) rfl rfl rfl rfl rfl (by kernel_rfl) (by kernel_rfl) (by kernel_rfl) (by repeat (first | with_reducible exact PanicOk.body | with_reducible apply PanicOk.next | with_reducible apply PanicOk.block)) (OpV.move rfl) rfl (by kernel_rfl) ?_
 refine TA.takeP (i := 18) (ls := #[true, true, true, true, true, true, true, true, true, true, true, true, true, true, true, true, true, true, true, false, false, false, false, false, false, false, false, false, false, false]) rfl rfl rfl rfl rfl (by kernel_rfl) (by kernel_rfl) (by kernel_rfl) (by repeat (first | with_reducible exact PanicOk.body | with_reducible apply PanicOk.next | with_reducible apply PanicOk.block)) (OpV.move rfl) rfl (by kernel_rfl) ?_
 refine TA.takeP (i := 19) (ls := #[true, true, true, true, true, true, true, true, true, true, true, true, true, true, true, true, true, true, true, true, false, false, false, false, false, false, false, false, false, false]) rfl rfl rfl rfl rfl (by kernel_rfl) (by kernel_rfl) (by kernel_rfl) (by repeat (first | with_reducible exact PanicOk.body | with_reducible apply PanicOk.next | with_reducible apply PanicOk.block)) (OpV.sliceHi (hi := 3) se_22 rfl rfl rfl (by omega)) rfl (by kernel_rfl) ?_
 refine TA.one (i := 20) (ls := #[true, true, true, true, true, true, true, true, true, true, true, true, true, true, true, true, true, true, true, true, true, false, false, false, false, false, false, false, false, false]) (by kernel_rfl) rfl (by kernel_rfl) (fun w1 => ?_)
 refine TL.open rfl rfl ?_
 refine TL.slit (qs := #[(0, _), (1, _)]) (fun _ f => by simp only [List.map_toArray, List.map_cons, List.map_nil]; rw [f.ev (x := _) rfl]; (try rw [f.ev (x := _) rfl])) (sl_125_2_0_1 (ByteArray.mk #[97]) (ByteArray.mk #[98])) rfl ?_
 intro b69
 refine TL.nil ?_
 refine TA.cont (.nil) ?_
 refine TA.one (i := 21) (ls := #[true, true, true, true, true, true, true, true, true, true, true, true, true, true, true, true, true, true, true, true, true, true, false, false, false, false, false, false, false, false]) (by kernel_rfl) rfl (by kernel_rfl) (fun w1 => ?_)
 refine TL.open rfl rfl ?_
 refine TL.callx (g := 69) rfl go_69 rfl (fun wz k1 => own_x k1 (rows_law (σ := fun b => wz.heap[b]?) wz (SsR.of_blk (ss := [ByteArray.mk #[97], ByteArray.mk #[98]]) (k1.has (e := .blk b69 (strL [ByteArray.mk #[97], ByteArray.mk #[98]]) 9) (by repeat first | exact List.Mem.head _ | apply List.Mem.tail)).2 rfl) (fun b o hb => hb) (by decide) (by decide))) rfl ?_
 rintro ⟨A70, n70, c70, ρ70⟩ hv70
 replace hv70 : LsR ρ70 A70 n70 c70 ([ByteArray.mk #[97], ByteArray.mk #[98]].map rowB) := hv70
 obtain ⟨hl70, hm70⟩ : n70 = 2 ∧ n70 ≤ c70 := by obtain ⟨ls, h1, h2⟩ := hv70; have h9 := congrArg List.length h2; have h8 := h1.1.1; have h7 := h1.1.2.1; simp at h9; omega
 refine TL.said (t := 70) rfl (show SV.v ⟨A70, n70, c70, ρ70⟩ = Value.slice A70 n70 c70 from rfl) ?_
 refine TL.nil ?_
 refine TA.cont (.nil) ?_
 refine TA.one (i := 22) (ls := #[true, true, true, true, true, true, true, true, true, true, true, true, true, true, true, true, true, true, true, true, true, true, true, false, false, false, false, false, false, false]) (by kernel_rfl) rfl (by kernel_rfl) (fun w1 => ?_)
 refine TL.open rfl rfl ?_
 refine TL.call (g := 49) rfl go_49 rfl (fun w1 k1 => parts_r (σ := fun b => w1.heap[b]?) (τ := fun b => w1.heap[b]?) (2) (0) (0) (0) w1 (L.below k1.bel) (LsR.pre (hv48.mono fun b o hb => (k1.has (e := .own ρ48) (by repeat first | exact List.Mem.head _ | apply List.Mem.tail) b o hb).2) (by omega)) (hv70.mono fun b o hb => (k1.has (e := .own ρ70) (by repeat first | exact List.Mem.head _ | apply List.Mem.tail) b o hb).2) (by omega) (fun b o hb => hb) (fun b o hb => hb)) rfl ?_
 refine TL.said (t := 71) rfl (show _ = Value.bool true from congrArg Value.bool ((by kernel_rfl))) ?_
 refine TL.nil ?_
 refine TA.cont (.nil) ?_
 refine TA.takeP (i := 23) (ls := #[true, true, true, true, true, true, true, true, true, true, true, true, true, true, true, true, true, true, true, true, true, true, true, true, false, false, false, false, false, false]) rfl rfl rfl rfl rfl (by kernel_rfl) (by kernel_rfl) (by kernel_rfl) (by repeat (first | with_reducible exact PanicOk.body | with_reducible apply PanicOk.next | with_reducible apply PanicOk.block)) ((by first | exact OpV.pick_t rfl rfl | exact OpV.pick_f rfl rfl)) rfl (by kernel_rfl) ?_
 refine TA.takeP (i := 24) (ls := #[true, true, true, true, true, true, true, true, true, true, true, true, true, true, true, true, true, true, true, true, true, true, true, true, true, false, false, false, false, false]) rfl rfl rfl rfl rfl (by kernel_rfl) (by kernel_rfl) (by kernel_rfl) (by repeat (first | with_reducible exact PanicOk.body | with_reducible apply PanicOk.next | with_reducible apply PanicOk.block)) (OpV.move rfl) rfl (by kernel_rfl) ?_
 refine TA.takeP (i := 25) (ls := #[true, true, true, true, true, true, true, true, true, true, true, true, true, true, true, true, true, true, true, true, true, true, true, true, true, true, false, false, false, false]) rfl rfl rfl rfl rfl (by kernel_rfl) (by kernel_rfl) (by kernel_rfl) (by repeat (first | with_reducible exact PanicOk.body | with_reducible apply PanicOk.next | with_reducible apply PanicOk.block)) (OpV.move rfl) rfl (by kernel_rfl) ?_
 refine TA.takeP (i := 26) (ls := #[true, true, true, true, true, true, true, true, true, true, true, true, true, true, true, true, true, true, true, true, true, true, true, true, true, true, true, false, false, false]) rfl rfl rfl rfl rfl (by kernel_rfl) (by kernel_rfl) (by kernel_rfl) (by repeat (first | with_reducible exact PanicOk.body | with_reducible apply PanicOk.next | with_reducible apply PanicOk.block)) (OpV.sliceHi (hi := 2) se_22 rfl rfl rfl (by omega)) rfl (by kernel_rfl) ?_
 refine TA.one (i := 27) (ls := #[true, true, true, true, true, true, true, true, true, true, true, true, true, true, true, true, true, true, true, true, true, true, true, true, true, true, true, true, false, false]) (by kernel_rfl) rfl (by kernel_rfl) (fun w1 => ?_)
 refine TL.open rfl rfl ?_
 refine TL.call (g := 49) rfl go_49 rfl (fun w1 k1 => parts_r (σ := fun b => w1.heap[b]?) (τ := fun b => w1.heap[b]?) (2) (2) (0) (3) w1 (L.below k1.bel) (LsR.pre (hv48.mono fun b o hb => (k1.has (e := .own ρ48) (by repeat first | exact List.Mem.head _ | apply List.Mem.tail) b o hb).2) (by omega)) (LsR_nil _) (by omega) (fun b o hb => hb) (fun b o hb => hb)) rfl ?_
 refine TL.said (t := 76) rfl (show _ = Value.bool true from congrArg Value.bool ((by kernel_rfl))) ?_
 refine TL.nil ?_
 refine TA.cont (.nil) ?_
 refine TA.takeP (i := 28) (ls := #[true, true, true, true, true, true, true, true, true, true, true, true, true, true, true, true, true, true, true, true, true, true, true, true, true, true, true, true, true, false]) rfl rfl rfl rfl rfl (by kernel_rfl) (by kernel_rfl) (by kernel_rfl) (by repeat (first | with_reducible exact PanicOk.body | with_reducible apply PanicOk.next | with_reducible apply PanicOk.block)) ((by first | exact OpV.pick_t rfl rfl | exact OpV.pick_f rfl rfl)) rfl (by kernel_rfl) ?_
 refine TA.takeP (i := 29) (ls := #[true, true, true, true, true, true, true, true, true, true, true, true, true, true, true, true, true, true, true, true, true, true, true, true, true, true, true, true, true, true]) rfl rfl rfl rfl rfl (by kernel_rfl) (by kernel_rfl) (by kernel_rfl) (by repeat (first | with_reducible exact PanicOk.body | with_reducible apply PanicOk.next | with_reducible apply PanicOk.block)) (OpV.assign rfl) rfl (by kernel_rfl) ?_
 refine TA.done (by kernel_rfl) ?_
 refine TE.sub (.cons (t := 0) rfl <| .nil) ?_
 refine TE.next ?_
 refine T.ret ?_
 refine TE.ret1 rfl (ResV.tmp rfl) ?_
 exact fun w1 k1 => ⟨rfl, k1.bel⟩
end Go.Proofs.YtdmpodpdpncobaaDoor
