/-
  What the chapter's examples answer. Condition: the package-level tables hold what they were laid with.
-/
import Derived.Test.YtblpfelhgcggfaaDoorWk
namespace Go.Proofs.YtblpfelhgcggfaaDoor
open Go.RowKit
set_option linter.unusedSimpArgs false
set_option linter.unusedVariables false
theorem go_15 : isGo Tryd.prog 15 = true := by kernel_rfl
theorem go_20 : isGo Tryd.prog 20 = true := by kernel_rfl
theorem go_21 : isGo Tryd.prog 21 = true := by kernel_rfl
theorem go_22 : isGo Tryd.prog 22 = true := by kernel_rfl
theorem go_44 : isGo Tryd.prog 44 = true := by kernel_rfl

theorem wraps_t {σ τ : Nat → Option Obj} {A A2 : Option Addr} {n c n2 c2 : Nat} {xs : List Cl} {ms : List LnA} (w : World) (cols no : Int) (L : LaidW w) (h : CsR σ A n c xs) (h2 : LsA τ A2 n2 c2 ms) (hs : ∀ b o, σ b = some o → w.heap[b]? = some o) (ht : ∀ b o, τ b = some o → w.heap[b]? = some o) (e : wrapsV xs cols no (ms.map LnA.ln) = true) :
    Calls Tryd.prog 15 #[.slice A n c, .int .i64 cols, .int .i64 no, .slice A2 n2 c2] w (Ret (.bool true) w) := by rw [← e]; exact wraps_law w cols no L h h2 hs ht
theorem placed_t {σ : Nat → Option Obj} {A : Option Addr} {n c : Nat} {xs : List Cl} (w : World) (cols p a1 a2 no : Int) (L : LaidW w) (h : CsR σ A n c xs) (hs : ∀ b o, σ b = some o → w.heap[b]? = some o) (e : placedV xs cols p (a1, a2) no = true) : Calls Tryd.prog 20 #[.slice A n c, .int .i64 cols, .int .i64 p, .agg (anL a1 a2).toArray, .int .i64 no] w (Ret (.bool true) w) := by rw [← e]; exact placed_law w cols p a1 a2 no L h hs
theorem indexed_t {σ : Nat → Option Obj} {A : Option Addr} {n c : Nat} {xs : List Cl} (w : World) (cols a1 a2 want no : Int) (L : LaidW w) (h : CsR σ A n c xs) (hs : ∀ b o, σ b = some o → w.heap[b]? = some o) (e : indexedV xs cols (a1, a2) want no = true) : Calls Tryd.prog 22 #[.slice A n c, .int .i64 cols, .agg (anL a1 a2).toArray, .int .i64 want, .int .i64 no] w (Ret (.bool true) w) := by rw [← e]; exact indexed_law w cols a1 a2 want no L h hs
theorem CsR_nil (σ : Nat → Option Obj) : CsR σ none 0 0 [] := SlR.nil
theorem LsA_nil (σ : Nat → Option Obj) : LsA σ none 0 0 [] := ⟨SlR.nil, fun l hl => by cases hl⟩
theorem all1 {α : Type} {p : α → Prop} {x : α} (hx : p x) : ∀ l ∈ [x], p l := fun l hl => by rw [List.mem_singleton.1 hl]; exact hx
theorem all2 {α : Type} {p : α → Prop} {x y : α} (hx : p x) (hy : p y) : ∀ l ∈ [x, y], p l := fun l hl => (List.mem_cons.1 hl).elim (fun e => e ▸ hx) (all1 hy l)
theorem all3 {α : Type} {p : α → Prop} {x y z : α} (hx : p x) (hy : p y) (hz : p z) : ∀ l ∈ [x, y, z], p l := fun l hl => (List.mem_cons.1 hl).elim (fun e => e ▸ hx) (all2 hy hz l)
theorem LsA.of_blk {w : World} {b n : Nat} {ls : List LnA} {T : TypeId} {f : Nat × Nat} (hb : w.heap[b]? = some (.cells (fll ls).toArray T f)) (hn : ls.length = n) (hl : ∀ l ∈ ls, CsR (fun b => w.heap[b]?) l.A l.n l.c l.cells) (hn63 : n ≤ 9223372036854775807 := by decide) : LsA (fun b => w.heap[b]?) (some ⟨b, 0, none⟩) n n ls := by
  refine ⟨SlR.of_row LnA.l_length ⟨by rw [← hn]; exact length_flat LnA.l_length ls, Nat.le_refl _, hn63, fun h => (by cases h), fun _ => ⟨b, rfl, fun j v hj => ⟨_, _, _, hb, ?_⟩⟩⟩ hn, hl⟩
  rw [Nat.zero_add, List.getElem?_toArray]
  exact hj
theorem sl_28_2_0_1 (x0 x1 : LnA) (w : World) : (Instr.buildSlice 28 2 #[(0, .agg x0.l.toArray), (1, .agg x1.l.toArray)]).run Tryd.prog w = .ok (.slice (some ⟨w.heap.size, 0, none⟩) 2 2) (w.alloc (.cells (fll [x0, x1]).toArray 34)) := by kernel_rfl
theorem sl_28_3_0_1_2 (x0 x1 x2 : LnA) (w : World) : (Instr.buildSlice 28 3 #[(0, .agg x0.l.toArray), (1, .agg x1.l.toArray), (2, .agg x2.l.toArray)]).run Tryd.prog w = .ok (.slice (some ⟨w.heap.size, 0, none⟩) 3 3) (w.alloc (.cells (fll [x0, x1, x2]).toArray 34)) := by kernel_rfl
theorem sl_28_1_0w (x : LnA) : True := trivial
set_option maxRecDepth 100000 in
set_option maxHeartbeats 1000000 in
theorem known_law (w : World) (L : LaidW w) : Calls Tryd.prog 12 #[] w (Ret (.bool true) w) := by
  refine calls_T (vs := []) (L0 := []) Tryd.func12 rfl rfl rfl rfl (KOk.none w) ?_
  refine T.seq ?_
  refine T.region ?_
  refine TL.val (OpV.assign rfl) rfl ?_
  refine TL.nil ?_
  refine TE.next ?_
  refine T.seq ?_
  refine T.region ?_
  refine TL.callx (g := 43) rfl go_43 rfl (fun wz kz => own_x kz (of_law _ wz (by decide))) rfl ?_
  rintro ⟨A2, n2, c2, ρ2⟩ hv2
  replace hv2 : CsR ρ2 A2 n2 c2 (ofL (ByteArray.mk #[97, 87, 98]).data.toList) := hv2
  refine TL.said (t := 2) rfl (show SV.v ⟨A2, n2, c2, ρ2⟩ = Value.slice A2 n2 c2 from rfl) ?_
  refine TL.val (OpV.assign rfl) rfl ?_
  refine TL.nil ?_
  refine TE.next ?_
  refine T.seq ?_
  refine T.seq ?_
  refine T.region ?_
  refine TL.callx (g := 43) rfl go_43 rfl (fun wz kz => own_x kz (of_law _ wz (by decide))) rfl ?_
  rintro ⟨A3, n3, c3, ρ3⟩ hv3
  replace hv3 : CsR ρ3 A3 n3 c3 (ofL (ByteArray.mk #[97, 98, 99, 100, 101]).data.toList) := hv3
  refine TL.said (t := 3) rfl (show SV.v ⟨A3, n3, c3, ρ3⟩ = Value.slice A3 n3 c3 from rfl) ?_
  refine TL.callx (g := 44) rfl go_44 rfl (fun wz kz => own_x kz (row_law _ true wz (by decide))) rfl ?_
  rintro ⟨A4, n4, c4, ρ4⟩ hv4
  replace hv4 : CsR ρ4 A4 n4 c4 (ofL (ByteArray.mk #[97, 98]).data.toList) := hv4
  refine TL.said (t := 4) rfl (show _ = Value.agg (LnA.mk A4 n4 c4 (ofL (ByteArray.mk #[97, 98]).data.toList) true).l.toArray from rfl) ?_
  refine TL.callx (g := 44) rfl go_44 rfl (fun wz kz => own_x kz (row_law _ true wz (by decide))) rfl ?_
  rintro ⟨A5, n5, c5, ρ5⟩ hv5
  replace hv5 : CsR ρ5 A5 n5 c5 (ofL (ByteArray.mk #[99, 100]).data.toList) := hv5
  refine TL.said (t := 5) rfl (show _ = Value.agg (LnA.mk A5 n5 c5 (ofL (ByteArray.mk #[99, 100]).data.toList) true).l.toArray from rfl) ?_
  refine TL.callx (g := 44) rfl go_44 rfl (fun wz kz => own_x kz (row_law _ false wz (by decide))) rfl ?_
  rintro ⟨A6, n6, c6, ρ6⟩ hv6
  replace hv6 : CsR ρ6 A6 n6 c6 (ofL (ByteArray.mk #[101, 95]).data.toList) := hv6
  refine TL.said (t := 6) rfl (show _ = Value.agg (LnA.mk A6 n6 c6 (ofL (ByteArray.mk #[101, 95]).data.toList) false).l.toArray from rfl) ?_
  refine TL.slit (qs := #[(0, _), (1, _), (2, _)]) (fun _ f => by simp only [List.map_toArray, List.map_cons, List.map_nil]; rw [f.ev (x := .tmp 4) rfl, f.ev (x := .tmp 5) rfl, f.ev (x := .tmp 6) rfl]) (sl_28_3_0_1_2 (LnA.mk A4 n4 c4 (ofL (ByteArray.mk #[97, 98]).data.toList) true) (LnA.mk A5 n5 c5 (ofL (ByteArray.mk #[99, 100]).data.toList) true) (LnA.mk A6 n6 c6 (ofL (ByteArray.mk #[101, 95]).data.toList) false)) rfl ?_
  intro b7
  refine TL.call (g := 15) rfl go_15 rfl (fun w1 k1 => wraps_t (σ := fun b => w1.heap[b]?) (τ := fun b => w1.heap[b]?) w1 (2) (0) (L.below k1.bel) (hv3.mono fun b o hb => (k1.has (e := .own ρ3) (by repeat first | exact List.Mem.head _ | apply List.Mem.tail) b o hb).2) (LsA.of_blk (ls := [LnA.mk A4 n4 c4 (ofL (ByteArray.mk #[97, 98]).data.toList) true, LnA.mk A5 n5 c5 (ofL (ByteArray.mk #[99, 100]).data.toList) true, LnA.mk A6 n6 c6 (ofL (ByteArray.mk #[101, 95]).data.toList) false]) (k1.has (e := .blk b7 (fll [LnA.mk A4 n4 c4 (ofL (ByteArray.mk #[97, 98]).data.toList) true, LnA.mk A5 n5 c5 (ofL (ByteArray.mk #[99, 100]).data.toList) true, LnA.mk A6 n6 c6 (ofL (ByteArray.mk #[101, 95]).data.toList) false]) 34) (by repeat first | exact List.Mem.head _ | apply List.Mem.tail)).2 rfl (all3 (hv4.mono fun b o hb => (k1.has (e := .own ρ4) (by repeat first | exact List.Mem.head _ | apply List.Mem.tail) b o hb).2) (hv5.mono fun b o hb => (k1.has (e := .own ρ5) (by repeat first | exact List.Mem.head _ | apply List.Mem.tail) b o hb).2) (hv6.mono fun b o hb => (k1.has (e := .own ρ6) (by repeat first | exact List.Mem.head _ | apply List.Mem.tail) b o hb).2))) (fun b o hb => hb) (fun b o hb => hb) (by kernel_rfl)) rfl ?_
  refine TL.val (OpV.not rfl) rfl ?_
  refine TL.val (OpV.move rfl) rfl ?_
  refine TL.open rfl rfl ?_
  refine TL.callx (g := 44) rfl go_44 rfl (fun wz kz => own_x kz (row_law _ false wz (by decide))) rfl ?_
  rintro ⟨A11, n11, c11, ρ11⟩ hv11
  replace hv11 : CsR ρ11 A11 n11 c11 (ofL (ByteArray.mk #[95, 95, 95]).data.toList) := hv11
  refine TL.said (t := 11) rfl (show _ = Value.agg (LnA.mk A11 n11 c11 (ofL (ByteArray.mk #[95, 95, 95]).data.toList) false).l.toArray from rfl) ?_
  refine TL.open rfl rfl ?_
  refine TL.slit (qs := #[(0, _)]) (fun _ f => by simp only [List.map_toArray, List.map_cons, List.map_nil]; rw [f.ev (x := .tmp 11) rfl]) (sl_28_1_0 (LnA.mk A11 n11 c11 (ofL (ByteArray.mk #[95, 95, 95]).data.toList) false)) rfl ?_
  intro b12
  refine TL.open rfl rfl ?_
  refine TL.call (g := 15) rfl go_15 rfl (fun w1 k1 => wraps_t (σ := fun b => w1.heap[b]?) (τ := fun b => w1.heap[b]?) w1 (3) (0) (L.below k1.bel) (CsR_nil _) (LsA.of_blk (ls := [LnA.mk A11 n11 c11 (ofL (ByteArray.mk #[95, 95, 95]).data.toList) false]) (k1.has (e := .blk b12 (fll [LnA.mk A11 n11 c11 (ofL (ByteArray.mk #[95, 95, 95]).data.toList) false]) 34) (by repeat first | exact List.Mem.head _ | apply List.Mem.tail)).2 rfl (all1 (hv11.mono fun b o hb => (k1.has (e := .own ρ11) (by repeat first | exact List.Mem.head _ | apply List.Mem.tail) b o hb).2))) (fun b o hb => hb) (fun b o hb => hb) (by kernel_rfl)) rfl ?_
  refine TL.open rfl rfl ?_
  refine TL.val (OpV.not rfl) rfl ?_
  refine TL.val ((by first | exact OpV.pick_t rfl rfl | exact OpV.pick_f rfl rfl)) rfl ?_
  refine TL.val (OpV.move rfl) rfl ?_
  refine TL.open rfl rfl ?_
  refine TL.val (OpV.move rfl) rfl ?_
  refine TL.open rfl rfl ?_
  refine TL.callx (g := 44) rfl go_44 rfl (fun wz kz => own_x kz (row_law _ true wz (by decide))) rfl ?_
  rintro ⟨A18, n18, c18, ρ18⟩ hv18
  replace hv18 : CsR ρ18 A18 n18 c18 (ofL (ByteArray.mk #[97, 95]).data.toList) := hv18
  refine TL.said (t := 18) rfl (show _ = Value.agg (LnA.mk A18 n18 c18 (ofL (ByteArray.mk #[97, 95]).data.toList) true).l.toArray from rfl) ?_
  refine TL.open rfl rfl ?_
  refine TL.callx (g := 44) rfl go_44 rfl (fun wz kz => own_x kz (row_law _ true wz (by decide))) rfl ?_
  rintro ⟨A19, n19, c19, ρ19⟩ hv19
  replace hv19 : CsR ρ19 A19 n19 c19 (ofL (ByteArray.mk #[87]).data.toList) := hv19
  refine TL.said (t := 19) rfl (show _ = Value.agg (LnA.mk A19 n19 c19 (ofL (ByteArray.mk #[87]).data.toList) true).l.toArray from rfl) ?_
  refine TL.open rfl rfl ?_
  refine TL.callx (g := 44) rfl go_44 rfl (fun wz kz => own_x kz (row_law _ false wz (by decide))) rfl ?_
  rintro ⟨A20, n20, c20, ρ20⟩ hv20
  replace hv20 : CsR ρ20 A20 n20 c20 (ofL (ByteArray.mk #[98, 95]).data.toList) := hv20
  refine TL.said (t := 20) rfl (show _ = Value.agg (LnA.mk A20 n20 c20 (ofL (ByteArray.mk #[98, 95]).data.toList) false).l.toArray from rfl) ?_
  refine TL.open rfl rfl ?_
  refine TL.slit (qs := #[(0, _), (1, _), (2, _)]) (fun _ f => by simp only [List.map_toArray, List.map_cons, List.map_nil]; rw [f.ev (x := .tmp 18) rfl, f.ev (x := .tmp 19) rfl, f.ev (x := .tmp 20) rfl]) (sl_28_3_0_1_2 (LnA.mk A18 n18 c18 (ofL (ByteArray.mk #[97, 95]).data.toList) true) (LnA.mk A19 n19 c19 (ofL (ByteArray.mk #[87]).data.toList) true) (LnA.mk A20 n20 c20 (ofL (ByteArray.mk #[98, 95]).data.toList) false)) rfl ?_
  intro b21
  refine TL.open rfl rfl ?_
  refine TL.call (g := 15) rfl go_15 rfl (fun w1 k1 => wraps_t (σ := fun b => w1.heap[b]?) (τ := fun b => w1.heap[b]?) w1 (2) (0) (L.below k1.bel) (hv2.mono fun b o hb => (k1.has (e := .own ρ2) (by repeat first | exact List.Mem.head _ | apply List.Mem.tail) b o hb).2) (LsA.of_blk (ls := [LnA.mk A18 n18 c18 (ofL (ByteArray.mk #[97, 95]).data.toList) true, LnA.mk A19 n19 c19 (ofL (ByteArray.mk #[87]).data.toList) true, LnA.mk A20 n20 c20 (ofL (ByteArray.mk #[98, 95]).data.toList) false]) (k1.has (e := .blk b21 (fll [LnA.mk A18 n18 c18 (ofL (ByteArray.mk #[97, 95]).data.toList) true, LnA.mk A19 n19 c19 (ofL (ByteArray.mk #[87]).data.toList) true, LnA.mk A20 n20 c20 (ofL (ByteArray.mk #[98, 95]).data.toList) false]) 34) (by repeat first | exact List.Mem.head _ | apply List.Mem.tail)).2 rfl (all3 (hv18.mono fun b o hb => (k1.has (e := .own ρ18) (by repeat first | exact List.Mem.head _ | apply List.Mem.tail) b o hb).2) (hv19.mono fun b o hb => (k1.has (e := .own ρ19) (by repeat first | exact List.Mem.head _ | apply List.Mem.tail) b o hb).2) (hv20.mono fun b o hb => (k1.has (e := .own ρ20) (by repeat first | exact List.Mem.head _ | apply List.Mem.tail) b o hb).2))) (fun b o hb => hb) (fun b o hb => hb) (by kernel_rfl)) rfl ?_
  refine TL.open rfl rfl ?_
  refine TL.val (OpV.not rfl) rfl ?_
  refine TL.val ((by first | exact OpV.pick_t rfl rfl | exact OpV.pick_f rfl rfl)) rfl ?_
  refine TL.val (OpV.move rfl) rfl ?_
  refine TL.open rfl rfl ?_
  refine TL.callx (g := 43) rfl go_43 rfl (fun wz kz => own_x kz (of_law _ wz (by decide))) rfl ?_
  rintro ⟨A26, n26, c26, ρ26⟩ hv26
  replace hv26 : CsR ρ26 A26 n26 c26 (ofL (ByteArray.mk #[97, 98, 87]).data.toList) := hv26
  refine TL.said (t := 26) rfl (show SV.v ⟨A26, n26, c26, ρ26⟩ = Value.slice A26 n26 c26 from rfl) ?_
  refine TL.open rfl rfl ?_
  refine TL.callx (g := 44) rfl go_44 rfl (fun wz kz => own_x kz (row_law _ true wz (by decide))) rfl ?_
  rintro ⟨A27, n27, c27, ρ27⟩ hv27
  replace hv27 : CsR ρ27 A27 n27 c27 (ofL (ByteArray.mk #[97, 98, 95]).data.toList) := hv27
  refine TL.said (t := 27) rfl (show _ = Value.agg (LnA.mk A27 n27 c27 (ofL (ByteArray.mk #[97, 98, 95]).data.toList) true).l.toArray from rfl) ?_
  refine TL.open rfl rfl ?_
  refine TL.callx (g := 44) rfl go_44 rfl (fun wz kz => own_x kz (row_law _ false wz (by decide))) rfl ?_
  rintro ⟨A28, n28, c28, ρ28⟩ hv28
  replace hv28 : CsR ρ28 A28 n28 c28 (ofL (ByteArray.mk #[87, 95]).data.toList) := hv28
  refine TL.said (t := 28) rfl (show _ = Value.agg (LnA.mk A28 n28 c28 (ofL (ByteArray.mk #[87, 95]).data.toList) false).l.toArray from rfl) ?_
  refine TL.open rfl rfl ?_
  refine TL.slit (qs := #[(0, _), (1, _)]) (fun _ f => by simp only [List.map_toArray, List.map_cons, List.map_nil]; rw [f.ev (x := .tmp 27) rfl, f.ev (x := .tmp 28) rfl]) (sl_28_2_0_1 (LnA.mk A27 n27 c27 (ofL (ByteArray.mk #[97, 98, 95]).data.toList) true) (LnA.mk A28 n28 c28 (ofL (ByteArray.mk #[87, 95]).data.toList) false)) rfl ?_
  intro b29
  refine TL.open rfl rfl ?_
  refine TL.call (g := 15) rfl go_15 rfl (fun w1 k1 => wraps_t (σ := fun b => w1.heap[b]?) (τ := fun b => w1.heap[b]?) w1 (3) (0) (L.below k1.bel) (hv26.mono fun b o hb => (k1.has (e := .own ρ26) (by repeat first | exact List.Mem.head _ | apply List.Mem.tail) b o hb).2) (LsA.of_blk (ls := [LnA.mk A27 n27 c27 (ofL (ByteArray.mk #[97, 98, 95]).data.toList) true, LnA.mk A28 n28 c28 (ofL (ByteArray.mk #[87, 95]).data.toList) false]) (k1.has (e := .blk b29 (fll [LnA.mk A27 n27 c27 (ofL (ByteArray.mk #[97, 98, 95]).data.toList) true, LnA.mk A28 n28 c28 (ofL (ByteArray.mk #[87, 95]).data.toList) false]) 34) (by repeat first | exact List.Mem.head _ | apply List.Mem.tail)).2 rfl (all2 (hv27.mono fun b o hb => (k1.has (e := .own ρ27) (by repeat first | exact List.Mem.head _ | apply List.Mem.tail) b o hb).2) (hv28.mono fun b o hb => (k1.has (e := .own ρ28) (by repeat first | exact List.Mem.head _ | apply List.Mem.tail) b o hb).2))) (fun b o hb => hb) (fun b o hb => hb) (by kernel_rfl)) rfl ?_
  refine TL.open rfl rfl ?_
  refine TL.val (OpV.not rfl) rfl ?_
  refine TL.val ((by first | exact OpV.pick_t rfl rfl | exact OpV.pick_f rfl rfl)) rfl ?_
  refine TL.nil ?_
  refine TE.sub (.cons (t := 1) rfl <| .cons (t := 32) rfl <| .nil) ?_
  refine TE.next ?_
  refine T.no rfl ?_
  refine T.skip ?_
  refine TE.next ?_
  refine T.seq ?_
  refine T.seq ?_
  refine T.region ?_
  refine TL.val (OpV.move rfl) rfl ?_
  refine TL.callx (g := 44) rfl go_44 rfl (fun wz kz => own_x kz (row_law _ true wz (by decide))) rfl ?_
  rintro ⟨A34, n34, c34, ρ34⟩ hv34
  replace hv34 : CsR ρ34 A34 n34 c34 (ofL (ByteArray.mk #[97]).data.toList) := hv34
  refine TL.said (t := 34) rfl (show _ = Value.agg (LnA.mk A34 n34 c34 (ofL (ByteArray.mk #[97]).data.toList) true).l.toArray from rfl) ?_
  refine TL.callx (g := 44) rfl go_44 rfl (fun wz kz => own_x kz (row_law _ true wz (by decide))) rfl ?_
  rintro ⟨A35, n35, c35, ρ35⟩ hv35
  replace hv35 : CsR ρ35 A35 n35 c35 (ofL (ByteArray.mk #[95]).data.toList) := hv35
  refine TL.said (t := 35) rfl (show _ = Value.agg (LnA.mk A35 n35 c35 (ofL (ByteArray.mk #[95]).data.toList) true).l.toArray from rfl) ?_
  refine TL.callx (g := 44) rfl go_44 rfl (fun wz kz => own_x kz (row_law _ false wz (by decide))) rfl ?_
  rintro ⟨A36, n36, c36, ρ36⟩ hv36
  replace hv36 : CsR ρ36 A36 n36 c36 (ofL (ByteArray.mk #[98]).data.toList) := hv36
  refine TL.said (t := 36) rfl (show _ = Value.agg (LnA.mk A36 n36 c36 (ofL (ByteArray.mk #[98]).data.toList) false).l.toArray from rfl) ?_
  refine TL.slit (qs := #[(0, _), (1, _), (2, _)]) (fun _ f => by simp only [List.map_toArray, List.map_cons, List.map_nil]; rw [f.ev (x := .tmp 34) rfl, f.ev (x := .tmp 35) rfl, f.ev (x := .tmp 36) rfl]) (sl_28_3_0_1_2 (LnA.mk A34 n34 c34 (ofL (ByteArray.mk #[97]).data.toList) true) (LnA.mk A35 n35 c35 (ofL (ByteArray.mk #[95]).data.toList) true) (LnA.mk A36 n36 c36 (ofL (ByteArray.mk #[98]).data.toList) false)) rfl ?_
  intro b37
  refine TL.call (g := 15) rfl go_15 rfl (fun w1 k1 => wraps_t (σ := fun b => w1.heap[b]?) (τ := fun b => w1.heap[b]?) w1 (1) (0) (L.below k1.bel) (hv2.mono fun b o hb => (k1.has (e := .own ρ2) (by repeat first | exact List.Mem.head _ | apply List.Mem.tail) b o hb).2) (LsA.of_blk (ls := [LnA.mk A34 n34 c34 (ofL (ByteArray.mk #[97]).data.toList) true, LnA.mk A35 n35 c35 (ofL (ByteArray.mk #[95]).data.toList) true, LnA.mk A36 n36 c36 (ofL (ByteArray.mk #[98]).data.toList) false]) (k1.has (e := .blk b37 (fll [LnA.mk A34 n34 c34 (ofL (ByteArray.mk #[97]).data.toList) true, LnA.mk A35 n35 c35 (ofL (ByteArray.mk #[95]).data.toList) true, LnA.mk A36 n36 c36 (ofL (ByteArray.mk #[98]).data.toList) false]) 34) (by repeat first | exact List.Mem.head _ | apply List.Mem.tail)).2 rfl (all3 (hv34.mono fun b o hb => (k1.has (e := .own ρ34) (by repeat first | exact List.Mem.head _ | apply List.Mem.tail) b o hb).2) (hv35.mono fun b o hb => (k1.has (e := .own ρ35) (by repeat first | exact List.Mem.head _ | apply List.Mem.tail) b o hb).2) (hv36.mono fun b o hb => (k1.has (e := .own ρ36) (by repeat first | exact List.Mem.head _ | apply List.Mem.tail) b o hb).2))) (fun b o hb => hb) (fun b o hb => hb) (by kernel_rfl)) rfl ?_
  refine TL.val (OpV.not rfl) rfl ?_
  refine TL.val (OpV.move rfl) rfl ?_
  refine TL.open rfl rfl ?_
  refine TL.callx (g := 43) rfl go_43 rfl (fun wz kz => own_x kz (of_law _ wz (by decide))) rfl ?_
  rintro ⟨A41, n41, c41, ρ41⟩ hv41
  replace hv41 : CsR ρ41 A41 n41 c41 (ofL (ByteArray.mk #[97, 98, 87]).data.toList) := hv41
  refine TL.said (t := 41) rfl (show SV.v ⟨A41, n41, c41, ρ41⟩ = Value.slice A41 n41 c41 from rfl) ?_
  refine TL.open rfl rfl ?_
  refine TL.call (g := 15) rfl go_15 rfl (fun w1 k1 => wraps_t (σ := fun b => w1.heap[b]?) (τ := fun b => w1.heap[b]?) w1 (0) (2) (L.below k1.bel) (hv41.mono fun b o hb => (k1.has (e := .own ρ41) (by repeat first | exact List.Mem.head _ | apply List.Mem.tail) b o hb).2) (LsA_nil _) (fun b o hb => hb) (fun b o hb => hb) (by kernel_rfl)) rfl ?_
  refine TL.open rfl rfl ?_
  refine TL.val (OpV.not rfl) rfl ?_
  refine TL.val ((by first | exact OpV.pick_t rfl rfl | exact OpV.pick_f rfl rfl)) rfl ?_
  refine TL.nil ?_
  refine TE.sub (.cons (t := 1) rfl <| .cons (t := 44) rfl <| .nil) ?_
  refine TE.next ?_
  refine T.no rfl ?_
  refine T.skip ?_
  refine TE.next ?_
  refine T.seq ?_
  refine T.seq ?_
  refine T.region ?_
  refine TL.val (OpV.move rfl) rfl ?_
  refine TL.call (g := 21) rfl go_21 rfl (fun w1 k1 => at_law (1) (0) w1) rfl ?_
  refine TL.call (g := 20) rfl go_20 rfl (fun w1 k1 => placed_t (σ := fun b => w1.heap[b]?) w1 (2) (1) (1) (0) (0) (L.below k1.bel) (hv2.mono fun b o hb => (k1.has (e := .own ρ2) (by repeat first | exact List.Mem.head _ | apply List.Mem.tail) b o hb).2) (fun b o hb => hb) (by kernel_rfl)) rfl ?_
  refine TL.val (OpV.not rfl) rfl ?_
  refine TL.val (OpV.move rfl) rfl ?_
  refine TL.open rfl rfl ?_
  refine TL.val (OpV.move rfl) rfl ?_
  refine TL.open rfl rfl ?_
  refine TL.call (g := 21) rfl go_21 rfl (fun w1 k1 => at_law (2) (1) w1) rfl ?_
  refine TL.open rfl rfl ?_
  refine TL.call (g := 20) rfl go_20 rfl (fun w1 k1 => placed_t (σ := fun b => w1.heap[b]?) w1 (2) (4) (2) (1) (0) (L.below k1.bel) (hv2.mono fun b o hb => (k1.has (e := .own ρ2) (by repeat first | exact List.Mem.head _ | apply List.Mem.tail) b o hb).2) (fun b o hb => hb) (by kernel_rfl)) rfl ?_
  refine TL.open rfl rfl ?_
  refine TL.val (OpV.not rfl) rfl ?_
  refine TL.val ((by first | exact OpV.pick_t rfl rfl | exact OpV.pick_f rfl rfl)) rfl ?_
  refine TL.val (OpV.move rfl) rfl ?_
  refine TL.open rfl rfl ?_
  refine TL.callx (g := 43) rfl go_43 rfl (fun wz kz => own_x kz (of_law _ wz (by decide))) rfl ?_
  rintro ⟨A56, n56, c56, ρ56⟩ hv56
  replace hv56 : CsR ρ56 A56 n56 c56 (ofL (ByteArray.mk #[97, 98]).data.toList) := hv56
  refine TL.said (t := 56) rfl (show SV.v ⟨A56, n56, c56, ρ56⟩ = Value.slice A56 n56 c56 from rfl) ?_
  refine TL.open rfl rfl ?_
  refine TL.call (g := 21) rfl go_21 rfl (fun w1 k1 => at_law (0) (1) w1) rfl ?_
  refine TL.open rfl rfl ?_
  refine TL.call (g := 20) rfl go_20 rfl (fun w1 k1 => placed_t (σ := fun b => w1.heap[b]?) w1 (2) (2) (0) (1) (0) (L.below k1.bel) (hv56.mono fun b o hb => (k1.has (e := .own ρ56) (by repeat first | exact List.Mem.head _ | apply List.Mem.tail) b o hb).2) (fun b o hb => hb) (by kernel_rfl)) rfl ?_
  refine TL.open rfl rfl ?_
  refine TL.val (OpV.not rfl) rfl ?_
  refine TL.val ((by first | exact OpV.pick_t rfl rfl | exact OpV.pick_f rfl rfl)) rfl ?_
  refine TL.val (OpV.move rfl) rfl ?_
  refine TL.open rfl rfl ?_
  refine TL.call (g := 21) rfl go_21 rfl (fun w1 k1 => at_law (0) (0) w1) rfl ?_
  refine TL.open rfl rfl ?_
  refine TL.call (g := 20) rfl go_20 rfl (fun w1 k1 => placed_t (σ := fun b => w1.heap[b]?) w1 (3) (0) (0) (0) (0) (L.below k1.bel) (CsR_nil _) (fun b o hb => hb) (by kernel_rfl)) rfl ?_
  refine TL.open rfl rfl ?_
  refine TL.val (OpV.not rfl) rfl ?_
  refine TL.val ((by first | exact OpV.pick_t rfl rfl | exact OpV.pick_f rfl rfl)) rfl ?_
  refine TL.val (OpV.move rfl) rfl ?_
  refine TL.open rfl rfl ?_
  refine TL.val (OpV.move rfl) rfl ?_
  refine TL.open rfl rfl ?_
  refine TL.call (g := 21) rfl go_21 rfl (fun w1 k1 => at_law (0) (1) w1) rfl ?_
  refine TL.open rfl rfl ?_
  refine TL.call (g := 22) rfl go_22 rfl (fun w1 k1 => indexed_t (σ := fun b => w1.heap[b]?) w1 (2) (0) (1) (1) (0) (L.below k1.bel) (hv2.mono fun b o hb => (k1.has (e := .own ρ2) (by repeat first | exact List.Mem.head _ | apply List.Mem.tail) b o hb).2) (fun b o hb => hb) (by kernel_rfl)) rfl ?_
  refine TL.open rfl rfl ?_
  refine TL.val (OpV.not rfl) rfl ?_
  refine TL.val ((by first | exact OpV.pick_t rfl rfl | exact OpV.pick_f rfl rfl)) rfl ?_
  refine TL.val (OpV.move rfl) rfl ?_
  refine TL.open rfl rfl ?_
  refine TL.val (OpV.move rfl) rfl ?_
  refine TL.open rfl rfl ?_
  refine TL.call (g := 21) rfl go_21 rfl (fun w1 k1 => at_law (2) (1) w1) rfl ?_
  refine TL.open rfl rfl ?_
  refine TL.call (g := 22) rfl go_22 rfl (fun w1 k1 => indexed_t (σ := fun b => w1.heap[b]?) w1 (2) (2) (1) (4) (0) (L.below k1.bel) (hv2.mono fun b o hb => (k1.has (e := .own ρ2) (by repeat first | exact List.Mem.head _ | apply List.Mem.tail) b o hb).2) (fun b o hb => hb) (by kernel_rfl)) rfl ?_
  refine TL.open rfl rfl ?_
  refine TL.val (OpV.not rfl) rfl ?_
  refine TL.val ((by first | exact OpV.pick_t rfl rfl | exact OpV.pick_f rfl rfl)) rfl ?_
  refine TL.nil ?_
  refine TE.sub (.cons (t := 77) rfl <| .nil) ?_
  refine TE.next ?_
  refine T.no rfl ?_
  refine T.skip ?_
  refine TE.next ?_
  refine T.seq ?_
  refine T.region ?_
  refine TL.callx (g := 43) rfl go_43 rfl (fun wz kz => own_x kz (of_law _ wz (by decide))) rfl ?_
  rintro ⟨A78, n78, c78, ρ78⟩ hv78
  replace hv78 : CsR ρ78 A78 n78 c78 (ofL (ByteArray.mk #[97, 98]).data.toList) := hv78
  refine TL.said (t := 78) rfl (show SV.v ⟨A78, n78, c78, ρ78⟩ = Value.slice A78 n78 c78 from rfl) ?_
  refine TL.call (g := 21) rfl go_21 rfl (fun w1 k1 => at_law (0) (0) w1) rfl ?_
  refine TL.call (g := 20) rfl go_20 rfl (fun w1 k1 => placed_t (σ := fun b => w1.heap[b]?) w1 (2) (3) (0) (0) (3) (L.below k1.bel) (hv78.mono fun b o hb => (k1.has (e := .own ρ78) (by repeat first | exact List.Mem.head _ | apply List.Mem.tail) b o hb).2) (fun b o hb => hb) (by kernel_rfl)) rfl ?_
  refine TL.val (OpV.move rfl) rfl ?_
  refine TL.open rfl rfl ?_
  refine TL.callx (g := 43) rfl go_43 rfl (fun wz kz => own_x kz (of_law _ wz (by decide))) rfl ?_
  rintro ⟨A82, n82, c82, ρ82⟩ hv82
  replace hv82 : CsR ρ82 A82 n82 c82 (ofL (ByteArray.mk #[97, 98]).data.toList) := hv82
  refine TL.said (t := 82) rfl (show SV.v ⟨A82, n82, c82, ρ82⟩ = Value.slice A82 n82 c82 from rfl) ?_
  refine TL.open rfl rfl ?_
  refine TL.call (g := 21) rfl go_21 rfl (fun w1 k1 => at_law (1) (0) w1) rfl ?_
  refine TL.open rfl rfl ?_
  refine TL.call (g := 22) rfl go_22 rfl (fun w1 k1 => indexed_t (σ := fun b => w1.heap[b]?) w1 (2) (1) (0) (0) (3) (L.below k1.bel) (hv82.mono fun b o hb => (k1.has (e := .own ρ82) (by repeat first | exact List.Mem.head _ | apply List.Mem.tail) b o hb).2) (fun b o hb => hb) (by kernel_rfl)) rfl ?_
  refine TL.val ((by first | exact OpV.pick_t rfl rfl | exact OpV.pick_f rfl rfl)) rfl ?_
  refine TL.val (OpV.assign rfl) rfl ?_
  refine TL.nil ?_
  refine TE.sub (.cons (t := 0) rfl <| .nil) ?_
  refine TE.next ?_
  refine T.ret ?_
  refine TE.ret1 rfl (ResV.tmp rfl) ?_
  exact fun w1 k1 => ⟨rfl, k1.bel⟩
end Go.Proofs.YtblpfelhgcggfaaDoor
