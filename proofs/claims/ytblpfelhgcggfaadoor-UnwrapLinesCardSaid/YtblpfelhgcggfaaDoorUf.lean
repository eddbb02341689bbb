/-
  What the examples of chapter 28 answer. Condition: the package-level tables hold what they were laid with.
-/
import Derived.Test.YtblpfelhgcggfaaDoorUe
namespace Go.Proofs.YtblpfelhgcggfaaDoor
open Go.RowKit
set_option linter.unusedSimpArgs false
set_option linter.unusedVariables false
theorem sl_69_2_0_1 (x0 x1 : LgA) (w : World) : (Instr.buildSlice 69 2 #[(0, .agg x0.l.toArray), (1, .agg x1.l.toArray)]).run Tryd.prog w = .ok (.slice (some ⟨w.heap.size, 0, none⟩) 2 2) (w.alloc (.cells (flg [x0, x1]).toArray 72)) := by kernel_rfl
theorem sl_77_2_0_1 (x0 x1 : ByteArray) (w : World) : (Instr.buildSlice 77 2 #[(0, .string x0), (1, .string x1)]).run Tryd.prog w = .ok (.slice (some ⟨w.heap.size, 0, none⟩) 2 2) (w.alloc (.cells (strL [x0, x1]).toArray 9)) := by kernel_rfl
theorem sl_77_3_0_1_2 (x0 x1 x2 : ByteArray) (w : World) : (Instr.buildSlice 77 3 #[(0, .string x0), (1, .string x1), (2, .string x2)]).run Tryd.prog w = .ok (.slice (some ⟨w.heap.size, 0, none⟩) 3 3) (w.alloc (.cells (strL [x0, x1, x2]).toArray 9)) := by kernel_rfl
theorem bld_72_0_2 (a : Option Addr) (n c : Nat) (xs : List Cl) (r : Int) (w : World) : (Instr.build 72 #[(0, .slice a n c), (2, .int .i64 r)]).run Tryd.prog w = .ok (.agg (LgA.mk a n c xs 0 r).l.toArray) w := by kernel_rfl
set_option maxRecDepth 100000 in
set_option maxHeartbeats 2000000 in
theorem known28_law (w : World) (L : LaidW w) : Calls Tryd.prog 30 #[] w (Ret (.bool true) w) := by
  refine calls_T (vs := []) (L0 := []) Tryd.func30 rfl rfl rfl rfl (KOk.none w) ?_
  refine T.seq ?_
  refine T.region ?_
  refine TL.val (OpV.assign rfl) rfl ?_
  refine TL.nil ?_
  refine TE.next ?_
  refine T.seq ?_
  refine T.region ?_
  refine TL.slit (qs := #[(0, _), (1, _), (2, _)]) (fun _ f => by simp only [List.map_toArray, List.map_cons, List.map_nil]; rw [f.ev (x := _) rfl]; (try rw [f.ev (x := _) rfl]); (try rw [f.ev (x := _) rfl])) (sl_77_3_0_1_2 (ByteArray.mk #[97, 98, 45]) (ByteArray.mk #[99, 95]) (ByteArray.mk #[100, 101])) rfl ?_
  intro b3
  refine TL.callx (g := 51) rfl go_51 rfl (fun wz k1 => own_x k1 (rows_law (σ := fun b => wz.heap[b]?) wz (SsR.of_blk (ss := [ByteArray.mk #[97, 98, 45], ByteArray.mk #[99, 95], ByteArray.mk #[100, 101]]) (k1.has (e := .blk b3 (strL [ByteArray.mk #[97, 98, 45], ByteArray.mk #[99, 95], ByteArray.mk #[100, 101]]) 9) (by repeat first | exact List.Mem.head _ | apply List.Mem.tail)).2 rfl) (fun b o hb => hb) (by decide) (by decide))) rfl ?_
  rintro ⟨A4, n4, c4, ρ4⟩ hv4
  replace hv4 : LsR ρ4 A4 n4 c4 ([ByteArray.mk #[97, 98, 45], ByteArray.mk #[99, 95], ByteArray.mk #[100, 101]].map rowB) := hv4
  have hl4 : n4 = 3 := by obtain ⟨ls, h1, h2⟩ := hv4; have h9 := congrArg List.length h2; have h8 := h1.1.1; simp at h9; omega
  refine TL.said (t := 4) rfl (show SV.v ⟨A4, n4, c4, ρ4⟩ = Value.slice A4 n4 c4 from rfl) ?_
  refine TL.val (OpV.assign rfl) rfl ?_
  refine TL.nil ?_
  refine TE.next ?_
  refine T.seq ?_
  refine T.region ?_
  refine TL.callx (g := 52) rfl go_52 rfl (fun wz kz => own_x kz (of28_law _ wz (by decide))) rfl ?_
  rintro ⟨A5, n5, c5, ρ5⟩ hv5
  replace hv5 : CsR ρ5 A5 n5 c5 (ofL (ByteArray.mk #[97, 98, 99]).data.toList) := hv5
  refine TL.said (t := 5) rfl (show SV.v ⟨A5, n5, c5, ρ5⟩ = Value.slice A5 n5 c5 from rfl) ?_
  refine TL.val (OpV.build (qs := #[(0, _), (1, _), (2, _)]) (fun _ f => by simp only [List.map_toArray, List.map_cons, List.map_nil]; rw [f.ev (x := .tmp 5) rfl, f.ev (x := .const (.int .i64 0)) rfl, f.ev (x := .const (.int .i64 2)) rfl]) (bld_72_0_1_2 (LgA.mk A5 n5 c5 (ofL (ByteArray.mk #[97, 98, 99]).data.toList) (0) (2)) )) rfl ?_
  refine TL.callx (g := 52) rfl go_52 rfl (fun wz kz => own_x kz (of28_law _ wz (by decide))) rfl ?_
  rintro ⟨A7, n7, c7, ρ7⟩ hv7
  replace hv7 : CsR ρ7 A7 n7 c7 (ofL (ByteArray.mk #[100, 101]).data.toList) := hv7
  refine TL.said (t := 7) rfl (show SV.v ⟨A7, n7, c7, ρ7⟩ = Value.slice A7 n7 c7 from rfl) ?_
  refine TL.val (OpV.build (qs := #[(0, _), (1, _), (2, _)]) (fun _ f => by simp only [List.map_toArray, List.map_cons, List.map_nil]; rw [f.ev (x := .tmp 7) rfl, f.ev (x := .const (.int .i64 2)) rfl, f.ev (x := .const (.int .i64 1)) rfl]) (bld_72_0_1_2 (LgA.mk A7 n7 c7 (ofL (ByteArray.mk #[100, 101]).data.toList) (2) (1)) )) rfl ?_
  refine TL.slit (qs := #[(0, _), (1, _)]) (fun _ f => by simp only [List.map_toArray, List.map_cons, List.map_nil]; rw [f.ev (x := .tmp 6) rfl]; (try rw [f.ev (x := .tmp 8) rfl])) (sl_69_2_0_1 (LgA.mk A5 n5 c5 (ofL (ByteArray.mk #[97, 98, 99]).data.toList) (0) (2)) (LgA.mk A7 n7 c7 (ofL (ByteArray.mk #[100, 101]).data.toList) (2) (1))) rfl ?_
  intro b9
  refine TL.val (OpV.assign rfl) rfl ?_
  refine TL.nil ?_
  refine TE.sub (.cons (t := 1) rfl <| .cons (t := 2) rfl <| .nil) ?_
  refine TE.next ?_
  refine T.seq ?_
  refine T.seq ?_
  refine T.region ?_
  refine TL.val (OpV.move rfl) rfl ?_
  refine TL.val (OpV.move rfl) rfl ?_
  refine TL.call (g := 33) rfl go_33 rfl (fun w1 k1 => lines_t (σ := fun b => w1.heap[b]?) (τ := fun b => w1.heap[b]?) w1 (0) (L.below k1.bel) (hv4.mono fun b o hb => (k1.has (e := .own ρ4) (by repeat first | exact List.Mem.head _ | apply List.Mem.tail) b o hb).2) (GsA.of_blk (ls := [(LgA.mk A5 n5 c5 (ofL (ByteArray.mk #[97, 98, 99]).data.toList) (0) (2)), (LgA.mk A7 n7 c7 (ofL (ByteArray.mk #[100, 101]).data.toList) (2) (1))]) (k1.has (e := .blk b9 (flg [(LgA.mk A5 n5 c5 (ofL (ByteArray.mk #[97, 98, 99]).data.toList) (0) (2)), (LgA.mk A7 n7 c7 (ofL (ByteArray.mk #[100, 101]).data.toList) (2) (1))]) 72) (by repeat first | exact List.Mem.head _ | apply List.Mem.tail)).2 rfl (all2 (hv5.mono fun b o hb => (k1.has (e := .own ρ5) (by repeat first | exact List.Mem.head _ | apply List.Mem.tail) b o hb).2) (hv7.mono fun b o hb => (k1.has (e := .own ρ7) (by repeat first | exact List.Mem.head _ | apply List.Mem.tail) b o hb).2))) (fun b o hb => hb) (fun b o hb => hb) (by omega) (by kernel_rfl)) rfl ?_
  refine TL.val (OpV.not rfl) rfl ?_
  refine TL.val (OpV.move rfl) rfl ?_
  refine TL.open rfl rfl ?_
  refine TL.call (g := 33) rfl go_33 rfl (fun w1 k1 => lines_t (σ := fun b => w1.heap[b]?) (τ := fun b => w1.heap[b]?) w1 (0) (L.below k1.bel) (LsR_nil _) (GsA_nil _) (fun b o hb => hb) (fun b o hb => hb) (by omega) (by kernel_rfl)) rfl ?_
  refine TL.open rfl rfl ?_
  refine TL.val (OpV.not rfl) rfl ?_
  refine TL.val ((by first | exact OpV.pick_t rfl rfl | exact OpV.pick_f rfl rfl)) rfl ?_
  refine TL.val (OpV.move rfl) rfl ?_
  refine TL.open rfl rfl ?_
  refine TL.slit (qs := #[(0, _)]) (fun _ f => by simp only [List.map_toArray, List.map_cons, List.map_nil]; rw [f.ev (x := _) rfl]) (sl_77_1_0 (ByteArray.mk #[97, 98, 45])) rfl ?_
  intro b19
  refine TL.open rfl rfl ?_
  refine TL.callx (g := 51) rfl go_51 rfl (fun wz k1 => own_x k1 (rows_law (σ := fun b => wz.heap[b]?) wz (SsR.of_blk (ss := [ByteArray.mk #[97, 98, 45]]) (k1.has (e := .blk b19 (strL [ByteArray.mk #[97, 98, 45]]) 9) (by repeat first | exact List.Mem.head _ | apply List.Mem.tail)).2 rfl) (fun b o hb => hb) (by decide) (by decide))) rfl ?_
  rintro ⟨A20, n20, c20, ρ20⟩ hv20
  replace hv20 : LsR ρ20 A20 n20 c20 ([ByteArray.mk #[97, 98, 45]].map rowB) := hv20
  have hl20 : n20 = 1 := by obtain ⟨ls, h1, h2⟩ := hv20; have h9 := congrArg List.length h2; have h8 := h1.1.1; simp at h9; omega
  refine TL.said (t := 20) rfl (show SV.v ⟨A20, n20, c20, ρ20⟩ = Value.slice A20 n20 c20 from rfl) ?_
  refine TL.open rfl rfl ?_
  refine TL.callx (g := 52) rfl go_52 rfl (fun wz kz => own_x kz (of28_law _ wz (by decide))) rfl ?_
  rintro ⟨A21, n21, c21, ρ21⟩ hv21
  replace hv21 : CsR ρ21 A21 n21 c21 (ofL (ByteArray.mk #[97, 98]).data.toList) := hv21
  refine TL.said (t := 21) rfl (show SV.v ⟨A21, n21, c21, ρ21⟩ = Value.slice A21 n21 c21 from rfl) ?_
  refine TL.open rfl rfl ?_
  refine TL.val (OpV.build (qs := #[(0, _), (2, _)]) (fun _ f => by simp only [List.map_toArray, List.map_cons, List.map_nil]; rw [f.ev (x := .tmp 21) rfl, f.ev (x := .const (.int .i64 1)) rfl]) (bld_72_0_2 A21 n21 c21 (ofL (ByteArray.mk #[97, 98]).data.toList) (1) )) rfl ?_
  refine TL.open rfl rfl ?_
  refine TL.slit (qs := #[(0, _)]) (fun _ f => by simp only [List.map_toArray, List.map_cons, List.map_nil]; rw [f.ev (x := .tmp 22) rfl]) (sl_69_1_0 (LgA.mk A21 n21 c21 (ofL (ByteArray.mk #[97, 98]).data.toList) 0 (1))) rfl ?_
  intro b23
  refine TL.open rfl rfl ?_
  refine TL.call (g := 33) rfl go_33 rfl (fun w1 k1 => lines_t (σ := fun b => w1.heap[b]?) (τ := fun b => w1.heap[b]?) w1 (0) (L.below k1.bel) (hv20.mono fun b o hb => (k1.has (e := .own ρ20) (by repeat first | exact List.Mem.head _ | apply List.Mem.tail) b o hb).2) (GsA.of_blk (ls := [(LgA.mk A21 n21 c21 (ofL (ByteArray.mk #[97, 98]).data.toList) 0 (1))]) (k1.has (e := .blk b23 (flg [(LgA.mk A21 n21 c21 (ofL (ByteArray.mk #[97, 98]).data.toList) 0 (1))]) 72) (by repeat first | exact List.Mem.head _ | apply List.Mem.tail)).2 rfl (all1 (hv21.mono fun b o hb => (k1.has (e := .own ρ21) (by repeat first | exact List.Mem.head _ | apply List.Mem.tail) b o hb).2))) (fun b o hb => hb) (fun b o hb => hb) (by omega) (by kernel_rfl)) rfl ?_
  refine TL.open rfl rfl ?_
  refine TL.val (OpV.not rfl) rfl ?_
  refine TL.val ((by first | exact OpV.pick_t rfl rfl | exact OpV.pick_f rfl rfl)) rfl ?_
  refine TL.nil ?_
  refine TE.sub (.cons (t := 2) rfl <| .cons (t := 26) rfl <| .nil) ?_
  refine TE.next ?_
  refine T.no rfl ?_
  refine T.skip ?_
  refine TE.next ?_
  refine T.seq ?_
  refine T.seq ?_
  refine T.region ?_
  refine TL.slit (qs := #[(0, _), (1, _), (2, _)]) (fun _ f => by simp only [List.map_toArray, List.map_cons, List.map_nil]; rw [f.ev (x := _) rfl]; (try rw [f.ev (x := _) rfl]); (try rw [f.ev (x := _) rfl])) (sl_77_3_0_1_2 (ByteArray.mk #[97, 95, 45]) (ByteArray.mk #[87]) (ByteArray.mk #[98, 95, 95])) rfl ?_
  intro b27
  refine TL.callx (g := 51) rfl go_51 rfl (fun wz k1 => own_x k1 (rows_law (σ := fun b => wz.heap[b]?) wz (SsR.of_blk (ss := [ByteArray.mk #[97, 95, 45], ByteArray.mk #[87], ByteArray.mk #[98, 95, 95]]) (k1.has (e := .blk b27 (strL [ByteArray.mk #[97, 95, 45], ByteArray.mk #[87], ByteArray.mk #[98, 95, 95]]) 9) (by repeat first | exact List.Mem.head _ | apply List.Mem.tail)).2 rfl) (fun b o hb => hb) (by decide) (by decide))) rfl ?_
  rintro ⟨A28, n28, c28, ρ28⟩ hv28
  replace hv28 : LsR ρ28 A28 n28 c28 ([ByteArray.mk #[97, 95, 45], ByteArray.mk #[87], ByteArray.mk #[98, 95, 95]].map rowB) := hv28
  have hl28 : n28 = 3 := by obtain ⟨ls, h1, h2⟩ := hv28; have h9 := congrArg List.length h2; have h8 := h1.1.1; simp at h9; omega
  refine TL.said (t := 28) rfl (show SV.v ⟨A28, n28, c28, ρ28⟩ = Value.slice A28 n28 c28 from rfl) ?_
  refine TL.call (g := 34) rfl go_34 rfl (fun w1 k1 => one_t (σ := fun b => w1.heap[b]?) (τ := fun b => w1.heap[b]?) w1 (2) (L.below k1.bel) (hv28.mono fun b o hb => (k1.has (e := .own ρ28) (by repeat first | exact List.Mem.head _ | apply List.Mem.tail) b o hb).2) (CsR_nil _) (fun b o hb => hb) (fun b o hb => hb) (by omega) (by kernel_rfl)) rfl ?_
  refine TL.val (OpV.not rfl) rfl ?_
  refine TL.val (OpV.move rfl) rfl ?_
  refine TL.open rfl rfl ?_
  refine TL.slit (qs := #[(0, _), (1, _), (2, _)]) (fun _ f => by simp only [List.map_toArray, List.map_cons, List.map_nil]; rw [f.ev (x := _) rfl]; (try rw [f.ev (x := _) rfl]); (try rw [f.ev (x := _) rfl])) (sl_77_3_0_1_2 (ByteArray.mk #[97, 95, 45]) (ByteArray.mk #[87, 95, 45]) (ByteArray.mk #[98, 95])) rfl ?_
  intro b32
  refine TL.open rfl rfl ?_
  refine TL.callx (g := 51) rfl go_51 rfl (fun wz k1 => own_x k1 (rows_law (σ := fun b => wz.heap[b]?) wz (SsR.of_blk (ss := [ByteArray.mk #[97, 95, 45], ByteArray.mk #[87, 95, 45], ByteArray.mk #[98, 95]]) (k1.has (e := .blk b32 (strL [ByteArray.mk #[97, 95, 45], ByteArray.mk #[87, 95, 45], ByteArray.mk #[98, 95]]) 9) (by repeat first | exact List.Mem.head _ | apply List.Mem.tail)).2 rfl) (fun b o hb => hb) (by decide) (by decide))) rfl ?_
  rintro ⟨A33, n33, c33, ρ33⟩ hv33
  replace hv33 : LsR ρ33 A33 n33 c33 ([ByteArray.mk #[97, 95, 45], ByteArray.mk #[87, 95, 45], ByteArray.mk #[98, 95]].map rowB) := hv33
  have hl33 : n33 = 3 := by obtain ⟨ls, h1, h2⟩ := hv33; have h9 := congrArg List.length h2; have h8 := h1.1.1; simp at h9; omega
  refine TL.said (t := 33) rfl (show SV.v ⟨A33, n33, c33, ρ33⟩ = Value.slice A33 n33 c33 from rfl) ?_
  refine TL.open rfl rfl ?_
  refine TL.callx (g := 52) rfl go_52 rfl (fun wz kz => own_x kz (of28_law _ wz (by decide))) rfl ?_
  rintro ⟨A34, n34, c34, ρ34⟩ hv34
  replace hv34 : CsR ρ34 A34 n34 c34 (ofL (ByteArray.mk #[97, 87, 95, 98]).data.toList) := hv34
  refine TL.said (t := 34) rfl (show SV.v ⟨A34, n34, c34, ρ34⟩ = Value.slice A34 n34 c34 from rfl) ?_
  refine TL.open rfl rfl ?_
  refine TL.call (g := 34) rfl go_34 rfl (fun w1 k1 => one_t (σ := fun b => w1.heap[b]?) (τ := fun b => w1.heap[b]?) w1 (0) (L.below k1.bel) (hv33.mono fun b o hb => (k1.has (e := .own ρ33) (by repeat first | exact List.Mem.head _ | apply List.Mem.tail) b o hb).2) (hv34.mono fun b o hb => (k1.has (e := .own ρ34) (by repeat first | exact List.Mem.head _ | apply List.Mem.tail) b o hb).2) (fun b o hb => hb) (fun b o hb => hb) (by omega) (by kernel_rfl)) rfl ?_
  refine TL.open rfl rfl ?_
  refine TL.val (OpV.not rfl) rfl ?_
  refine TL.val ((by first | exact OpV.pick_t rfl rfl | exact OpV.pick_f rfl rfl)) rfl ?_
  refine TL.val (OpV.move rfl) rfl ?_
  refine TL.open rfl rfl ?_
  refine TL.slit (qs := #[(0, _), (1, _)]) (fun _ f => by simp only [List.map_toArray, List.map_cons, List.map_nil]; rw [f.ev (x := _) rfl]; (try rw [f.ev (x := _) rfl])) (sl_77_2_0_1 (ByteArray.mk #[97, 95, 45]) (ByteArray.mk #[98, 95])) rfl ?_
  intro b39
  refine TL.open rfl rfl ?_
  refine TL.callx (g := 51) rfl go_51 rfl (fun wz k1 => own_x k1 (rows_law (σ := fun b => wz.heap[b]?) wz (SsR.of_blk (ss := [ByteArray.mk #[97, 95, 45], ByteArray.mk #[98, 95]]) (k1.has (e := .blk b39 (strL [ByteArray.mk #[97, 95, 45], ByteArray.mk #[98, 95]]) 9) (by repeat first | exact List.Mem.head _ | apply List.Mem.tail)).2 rfl) (fun b o hb => hb) (by decide) (by decide))) rfl ?_
  rintro ⟨A40, n40, c40, ρ40⟩ hv40
  replace hv40 : LsR ρ40 A40 n40 c40 ([ByteArray.mk #[97, 95, 45], ByteArray.mk #[98, 95]].map rowB) := hv40
  have hl40 : n40 = 2 := by obtain ⟨ls, h1, h2⟩ := hv40; have h9 := congrArg List.length h2; have h8 := h1.1.1; simp at h9; omega
  refine TL.said (t := 40) rfl (show SV.v ⟨A40, n40, c40, ρ40⟩ = Value.slice A40 n40 c40 from rfl) ?_
  refine TL.open rfl rfl ?_
  refine TL.callx (g := 52) rfl go_52 rfl (fun wz kz => own_x kz (of28_law _ wz (by decide))) rfl ?_
  rintro ⟨A41, n41, c41, ρ41⟩ hv41
  replace hv41 : CsR ρ41 A41 n41 c41 (ofL (ByteArray.mk #[97, 95, 98]).data.toList) := hv41
  refine TL.said (t := 41) rfl (show SV.v ⟨A41, n41, c41, ρ41⟩ = Value.slice A41 n41 c41 from rfl) ?_
  refine TL.open rfl rfl ?_
  refine TL.call (g := 34) rfl go_34 rfl (fun w1 k1 => one_t (σ := fun b => w1.heap[b]?) (τ := fun b => w1.heap[b]?) w1 (0) (L.below k1.bel) (hv40.mono fun b o hb => (k1.has (e := .own ρ40) (by repeat first | exact List.Mem.head _ | apply List.Mem.tail) b o hb).2) (hv41.mono fun b o hb => (k1.has (e := .own ρ41) (by repeat first | exact List.Mem.head _ | apply List.Mem.tail) b o hb).2) (fun b o hb => hb) (fun b o hb => hb) (by omega) (by kernel_rfl)) rfl ?_
  refine TL.open rfl rfl ?_
  refine TL.val (OpV.not rfl) rfl ?_
  refine TL.val ((by first | exact OpV.pick_t rfl rfl | exact OpV.pick_f rfl rfl)) rfl ?_
  refine TL.val (OpV.move rfl) rfl ?_
  refine TL.open rfl rfl ?_
  refine TL.slit (qs := #[(0, _), (1, _)]) (fun _ f => by simp only [List.map_toArray, List.map_cons, List.map_nil]; rw [f.ev (x := _) rfl]; (try rw [f.ev (x := _) rfl])) (sl_77_2_0_1 (ByteArray.mk #[95, 95]) (ByteArray.mk #[95, 95])) rfl ?_
  intro b46
  refine TL.open rfl rfl ?_
  refine TL.callx (g := 51) rfl go_51 rfl (fun wz k1 => own_x k1 (rows_law (σ := fun b => wz.heap[b]?) wz (SsR.of_blk (ss := [ByteArray.mk #[95, 95], ByteArray.mk #[95, 95]]) (k1.has (e := .blk b46 (strL [ByteArray.mk #[95, 95], ByteArray.mk #[95, 95]]) 9) (by repeat first | exact List.Mem.head _ | apply List.Mem.tail)).2 rfl) (fun b o hb => hb) (by decide) (by decide))) rfl ?_
  rintro ⟨A47, n47, c47, ρ47⟩ hv47
  replace hv47 : LsR ρ47 A47 n47 c47 ([ByteArray.mk #[95, 95], ByteArray.mk #[95, 95]].map rowB) := hv47
  have hl47 : n47 = 2 := by obtain ⟨ls, h1, h2⟩ := hv47; have h9 := congrArg List.length h2; have h8 := h1.1.1; simp at h9; omega
  refine TL.said (t := 47) rfl (show SV.v ⟨A47, n47, c47, ρ47⟩ = Value.slice A47 n47 c47 from rfl) ?_
  refine TL.open rfl rfl ?_
  refine TL.call (g := 34) rfl go_34 rfl (fun w1 k1 => one_t (σ := fun b => w1.heap[b]?) (τ := fun b => w1.heap[b]?) w1 (2) (L.below k1.bel) (hv47.mono fun b o hb => (k1.has (e := .own ρ47) (by repeat first | exact List.Mem.head _ | apply List.Mem.tail) b o hb).2) (CsR_nil _) (fun b o hb => hb) (fun b o hb => hb) (by omega) (by kernel_rfl)) rfl ?_
  refine TL.open rfl rfl ?_
  refine TL.val (OpV.not rfl) rfl ?_
  refine TL.val ((by first | exact OpV.pick_t rfl rfl | exact OpV.pick_f rfl rfl)) rfl ?_
  refine TL.val (OpV.move rfl) rfl ?_
  refine TL.open rfl rfl ?_
  refine TL.slit (qs := #[(0, _), (1, _)]) (fun _ f => by simp only [List.map_toArray, List.map_cons, List.map_nil]; rw [f.ev (x := _) rfl]; (try rw [f.ev (x := _) rfl])) (sl_77_2_0_1 (ByteArray.mk #[95, 97, 45]) (ByteArray.mk #[95, 95])) rfl ?_
  intro b52
  refine TL.open rfl rfl ?_
  refine TL.callx (g := 51) rfl go_51 rfl (fun wz k1 => own_x k1 (rows_law (σ := fun b => wz.heap[b]?) wz (SsR.of_blk (ss := [ByteArray.mk #[95, 97, 45], ByteArray.mk #[95, 95]]) (k1.has (e := .blk b52 (strL [ByteArray.mk #[95, 97, 45], ByteArray.mk #[95, 95]]) 9) (by repeat first | exact List.Mem.head _ | apply List.Mem.tail)).2 rfl) (fun b o hb => hb) (by decide) (by decide))) rfl ?_
  rintro ⟨A53, n53, c53, ρ53⟩ hv53
  replace hv53 : LsR ρ53 A53 n53 c53 ([ByteArray.mk #[95, 97, 45], ByteArray.mk #[95, 95]].map rowB) := hv53
  have hl53 : n53 = 2 := by obtain ⟨ls, h1, h2⟩ := hv53; have h9 := congrArg List.length h2; have h8 := h1.1.1; simp at h9; omega
  refine TL.said (t := 53) rfl (show SV.v ⟨A53, n53, c53, ρ53⟩ = Value.slice A53 n53 c53 from rfl) ?_
  refine TL.open rfl rfl ?_
  refine TL.callx (g := 52) rfl go_52 rfl (fun wz kz => own_x kz (of28_law _ wz (by decide))) rfl ?_
  rintro ⟨A54, n54, c54, ρ54⟩ hv54
  replace hv54 : CsR ρ54 A54 n54 c54 (ofL (ByteArray.mk #[95, 97]).data.toList) := hv54
  refine TL.said (t := 54) rfl (show SV.v ⟨A54, n54, c54, ρ54⟩ = Value.slice A54 n54 c54 from rfl) ?_
  refine TL.open rfl rfl ?_
  refine TL.call (g := 34) rfl go_34 rfl (fun w1 k1 => one_t (σ := fun b => w1.heap[b]?) (τ := fun b => w1.heap[b]?) w1 (0) (L.below k1.bel) (hv53.mono fun b o hb => (k1.has (e := .own ρ53) (by repeat first | exact List.Mem.head _ | apply List.Mem.tail) b o hb).2) (hv54.mono fun b o hb => (k1.has (e := .own ρ54) (by repeat first | exact List.Mem.head _ | apply List.Mem.tail) b o hb).2) (fun b o hb => hb) (fun b o hb => hb) (by omega) (by kernel_rfl)) rfl ?_
  refine TL.open rfl rfl ?_
  refine TL.val (OpV.not rfl) rfl ?_
  refine TL.val ((by first | exact OpV.pick_t rfl rfl | exact OpV.pick_f rfl rfl)) rfl ?_
  refine TL.nil ?_
  refine TE.sub (.cons (t := 2) rfl <| .cons (t := 57) rfl <| .nil) ?_
  refine TE.next ?_
  refine T.no rfl ?_
  refine T.skip ?_
  refine TE.next ?_
  refine T.seq ?_
  refine T.region ?_
  refine TL.val (OpV.move rfl) rfl ?_
  refine TL.call (g := 40) rfl go_40 rfl (fun w1 k1 => finds_t (σ := fun b => w1.heap[b]?) (gs := [(LgA.mk A5 n5 c5 (ofL (ByteArray.mk #[97, 98, 99]).data.toList) (0) (2)), (LgA.mk A7 n7 c7 (ofL (ByteArray.mk #[100, 101]).data.toList) (2) (1))]) (1) (0) (0) w1 (GsA.of_blk (ls := [(LgA.mk A5 n5 c5 (ofL (ByteArray.mk #[97, 98, 99]).data.toList) (0) (2)), (LgA.mk A7 n7 c7 (ofL (ByteArray.mk #[100, 101]).data.toList) (2) (1))]) (k1.has (e := .blk b9 (flg [(LgA.mk A5 n5 c5 (ofL (ByteArray.mk #[97, 98, 99]).data.toList) (0) (2)), (LgA.mk A7 n7 c7 (ofL (ByteArray.mk #[100, 101]).data.toList) (2) (1))]) 72) (by repeat first | exact List.Mem.head _ | apply List.Mem.tail)).2 rfl (all2 (hv5.mono fun b o hb => (k1.has (e := .own ρ5) (by repeat first | exact List.Mem.head _ | apply List.Mem.tail) b o hb).2) (hv7.mono fun b o hb => (k1.has (e := .own ρ7) (by repeat first | exact List.Mem.head _ | apply List.Mem.tail) b o hb).2))) (fun b o hb => hb) (by decide) (by intro g hg; simp only [List.mem_cons, List.not_mem_nil, or_false] at hg; rcases hg with rfl | rfl <;> simp) (by kernel_rfl)) rfl ?_
  refine TL.val (OpV.move rfl) rfl ?_
  refine TL.open rfl rfl ?_
  refine TL.val (OpV.move rfl) rfl ?_
  refine TL.open rfl rfl ?_
  refine TL.call (g := 40) rfl go_40 rfl (fun w1 k1 => finds_t (σ := fun b => w1.heap[b]?) (gs := [(LgA.mk A5 n5 c5 (ofL (ByteArray.mk #[97, 98, 99]).data.toList) (0) (2)), (LgA.mk A7 n7 c7 (ofL (ByteArray.mk #[100, 101]).data.toList) (2) (1))]) (2) (1) (0) w1 (GsA.of_blk (ls := [(LgA.mk A5 n5 c5 (ofL (ByteArray.mk #[97, 98, 99]).data.toList) (0) (2)), (LgA.mk A7 n7 c7 (ofL (ByteArray.mk #[100, 101]).data.toList) (2) (1))]) (k1.has (e := .blk b9 (flg [(LgA.mk A5 n5 c5 (ofL (ByteArray.mk #[97, 98, 99]).data.toList) (0) (2)), (LgA.mk A7 n7 c7 (ofL (ByteArray.mk #[100, 101]).data.toList) (2) (1))]) 72) (by repeat first | exact List.Mem.head _ | apply List.Mem.tail)).2 rfl (all2 (hv5.mono fun b o hb => (k1.has (e := .own ρ5) (by repeat first | exact List.Mem.head _ | apply List.Mem.tail) b o hb).2) (hv7.mono fun b o hb => (k1.has (e := .own ρ7) (by repeat first | exact List.Mem.head _ | apply List.Mem.tail) b o hb).2))) (fun b o hb => hb) (by decide) (by intro g hg; simp only [List.mem_cons, List.not_mem_nil, or_false] at hg; rcases hg with rfl | rfl <;> simp) (by kernel_rfl)) rfl ?_
  refine TL.val ((by first | exact OpV.pick_t rfl rfl | exact OpV.pick_f rfl rfl)) rfl ?_
  refine TL.val (OpV.move rfl) rfl ?_
  refine TL.open rfl rfl ?_
  refine TL.val (OpV.move rfl) rfl ?_
  refine TL.open rfl rfl ?_
  refine TL.call (g := 40) rfl go_40 rfl (fun w1 k1 => finds_t (σ := fun b => w1.heap[b]?) (gs := [(LgA.mk A5 n5 c5 (ofL (ByteArray.mk #[97, 98, 99]).data.toList) (0) (2)), (LgA.mk A7 n7 c7 (ofL (ByteArray.mk #[100, 101]).data.toList) (2) (1))]) (3) (0) (3) w1 (GsA.of_blk (ls := [(LgA.mk A5 n5 c5 (ofL (ByteArray.mk #[97, 98, 99]).data.toList) (0) (2)), (LgA.mk A7 n7 c7 (ofL (ByteArray.mk #[100, 101]).data.toList) (2) (1))]) (k1.has (e := .blk b9 (flg [(LgA.mk A5 n5 c5 (ofL (ByteArray.mk #[97, 98, 99]).data.toList) (0) (2)), (LgA.mk A7 n7 c7 (ofL (ByteArray.mk #[100, 101]).data.toList) (2) (1))]) 72) (by repeat first | exact List.Mem.head _ | apply List.Mem.tail)).2 rfl (all2 (hv5.mono fun b o hb => (k1.has (e := .own ρ5) (by repeat first | exact List.Mem.head _ | apply List.Mem.tail) b o hb).2) (hv7.mono fun b o hb => (k1.has (e := .own ρ7) (by repeat first | exact List.Mem.head _ | apply List.Mem.tail) b o hb).2))) (fun b o hb => hb) (by decide) (by intro g hg; simp only [List.mem_cons, List.not_mem_nil, or_false] at hg; rcases hg with rfl | rfl <;> simp) (by kernel_rfl)) rfl ?_
  refine TL.val ((by first | exact OpV.pick_t rfl rfl | exact OpV.pick_f rfl rfl)) rfl ?_
  refine TL.val (OpV.move rfl) rfl ?_
  refine TL.open rfl rfl ?_
  refine TL.slit (qs := #[(0, _), (1, _), (2, _)]) (fun _ f => by simp only [List.map_toArray, List.map_cons, List.map_nil]; rw [f.ev (x := _) rfl]; (try rw [f.ev (x := _) rfl]); (try rw [f.ev (x := _) rfl])) (sl_77_3_0_1_2 (ByteArray.mk #[97, 98, 45]) (ByteArray.mk #[99, 95]) (ByteArray.mk #[95, 95])) rfl ?_
  intro b69
  refine TL.open rfl rfl ?_
  refine TL.callx (g := 51) rfl go_51 rfl (fun wz k1 => own_x k1 (rows_law (σ := fun b => wz.heap[b]?) wz (SsR.of_blk (ss := [ByteArray.mk #[97, 98, 45], ByteArray.mk #[99, 95], ByteArray.mk #[95, 95]]) (k1.has (e := .blk b69 (strL [ByteArray.mk #[97, 98, 45], ByteArray.mk #[99, 95], ByteArray.mk #[95, 95]]) 9) (by repeat first | exact List.Mem.head _ | apply List.Mem.tail)).2 rfl) (fun b o hb => hb) (by decide) (by decide))) rfl ?_
  rintro ⟨A70, n70, c70, ρ70⟩ hv70
  replace hv70 : LsR ρ70 A70 n70 c70 ([ByteArray.mk #[97, 98, 45], ByteArray.mk #[99, 95], ByteArray.mk #[95, 95]].map rowB) := hv70
  have hl70 : n70 = 3 := by obtain ⟨ls, h1, h2⟩ := hv70; have h9 := congrArg List.length h2; have h8 := h1.1.1; simp at h9; omega
  refine TL.said (t := 70) rfl (show SV.v ⟨A70, n70, c70, ρ70⟩ = Value.slice A70 n70 c70 from rfl) ?_
  refine TL.open rfl rfl ?_
  refine TL.slit (qs := #[(0, _), (1, _)]) (fun _ f => by simp only [List.map_toArray, List.map_cons, List.map_nil]; rw [f.ev (x := _) rfl]; (try rw [f.ev (x := _) rfl])) (sl_77_2_0_1 (ByteArray.mk #[97, 98, 99]) (ByteArray.mk #[])) rfl ?_
  intro b71
  refine TL.open rfl rfl ?_
  refine TL.call (g := 38) rfl go_38 rfl (fun w1 k1 => texts_t (σ := fun b => w1.heap[b]?) (τ := fun b => w1.heap[b]?) w1 (0) (L.below k1.bel) (hv70.mono fun b o hb => (k1.has (e := .own ρ70) (by repeat first | exact List.Mem.head _ | apply List.Mem.tail) b o hb).2) (SsR.of_blk (ss := [ByteArray.mk #[97, 98, 99], ByteArray.mk #[]]) (k1.has (e := .blk b71 (strL [ByteArray.mk #[97, 98, 99], ByteArray.mk #[]]) 9) (by repeat first | exact List.Mem.head _ | apply List.Mem.tail)).2 rfl) (fun b o hb => hb) (fun b o hb => hb) (by omega) (by kernel_rfl)) rfl ?_
  refine TL.val ((by first | exact OpV.pick_t rfl rfl | exact OpV.pick_f rfl rfl)) rfl ?_
  refine TL.val (OpV.assign rfl) rfl ?_
  refine TL.nil ?_
  refine TE.sub (.cons (t := 0) rfl <| .nil) ?_
  refine TE.next ?_
  refine T.ret ?_
  refine TE.ret1 rfl (ResV.tmp rfl) ?_
  exact fun w1 k1 => ⟨rfl, k1.bel⟩
end Go.Proofs.YtblpfelhgcggfaaDoor
