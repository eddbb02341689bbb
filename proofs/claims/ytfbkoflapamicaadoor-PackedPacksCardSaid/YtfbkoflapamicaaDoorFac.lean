/-
  Facts on types. No condition.
-/
import Derived.Test.YtfbkoflapamicaaDoorBase
import Derived.Test.YtfbkoflapamicaaDoorEng4
namespace Go.Proofs.YtfbkoflapamicaaDoor
open Go.RowKit
set_option linter.unusedSimpArgs false
set_option linter.unusedVariables false
theorem ae_22 : aEl Tryd.prog 22 = some (21, 3, 1) := by kernel_rfl
theorem ae_34 : aEl Tryd.prog 34 = some (33, 3, 1) := by kernel_rfl
theorem ag_22 : aggT Tryd.prog 22 = some 3 := by kernel_rfl
theorem ag_25 : aggT Tryd.prog 25 = some 5 := by kernel_rfl
theorem ag_28 : aggT Tryd.prog 28 = some 11 := by kernel_rfl
theorem ag_30 : aggT Tryd.prog 30 = some 16 := by kernel_rfl
theorem ag_34 : aggT Tryd.prog 34 = some 3 := by kernel_rfl
theorem ag_67 : aggT Tryd.prog 67 = some 4 := by kernel_rfl
theorem eg_22 : Tryd.prog.eqGuardType Tryd.prog.depth 22 = false := by kernel_rfl
theorem eg_25 : Tryd.prog.eqGuardType Tryd.prog.depth 25 = false := by kernel_rfl
theorem eg_30 : Tryd.prog.eqGuardType Tryd.prog.depth 30 = false := by kernel_rfl
theorem eg_34 : Tryd.prog.eqGuardType Tryd.prog.depth 34 = false := by kernel_rfl
theorem eg_67 : Tryd.prog.eqGuardType Tryd.prog.depth 67 = false := by kernel_rfl
theorem fo_25_0 : fOff Tryd.prog 25 0 = some 0 := by kernel_rfl
theorem fo_25_1 : fOff Tryd.prog 25 1 = some 1 := by kernel_rfl
theorem fo_25_2 : fOff Tryd.prog 25 2 = some 2 := by kernel_rfl
theorem fo_25_3 : fOff Tryd.prog 25 3 = some 3 := by kernel_rfl
theorem fo_25_4 : fOff Tryd.prog 25 4 = some 4 := by kernel_rfl
theorem fo_28_0 : fOff Tryd.prog 28 0 = some 0 := by kernel_rfl
theorem fo_28_1 : fOff Tryd.prog 28 1 = some 5 := by kernel_rfl
theorem fo_30_0 : fOff Tryd.prog 30 0 = some 0 := by kernel_rfl
theorem fo_30_1 : fOff Tryd.prog 30 1 = some 1 := by kernel_rfl
theorem fo_30_2 : fOff Tryd.prog 30 2 = some 4 := by kernel_rfl
theorem fo_30_3 : fOff Tryd.prog 30 3 = some 5 := by kernel_rfl
theorem fo_67_0 : fOff Tryd.prog 67 0 = some 0 := by kernel_rfl
theorem fo_67_1 : fOff Tryd.prog 67 1 = some 1 := by kernel_rfl
theorem go_10 : isGo Tryd.prog 10 = true := by kernel_rfl
theorem go_11 : isGo Tryd.prog 11 = true := by kernel_rfl
theorem go_12 : isGo Tryd.prog 12 = true := by kernel_rfl
theorem go_13 : isGo Tryd.prog 13 = true := by kernel_rfl
theorem go_14 : isGo Tryd.prog 14 = true := by kernel_rfl
theorem go_15 : isGo Tryd.prog 15 = true := by kernel_rfl
theorem go_16 : isGo Tryd.prog 16 = true := by kernel_rfl
theorem go_17 : isGo Tryd.prog 17 = true := by kernel_rfl
theorem go_18 : isGo Tryd.prog 18 = true := by kernel_rfl
theorem go_19 : isGo Tryd.prog 19 = true := by kernel_rfl
theorem go_20 : isGo Tryd.prog 20 = true := by kernel_rfl
theorem go_21 : isGo Tryd.prog 21 = true := by kernel_rfl
theorem go_22 : isGo Tryd.prog 22 = true := by kernel_rfl
theorem go_23 : isGo Tryd.prog 23 = true := by kernel_rfl
theorem go_24 : isGo Tryd.prog 24 = true := by kernel_rfl
theorem go_25 : isGo Tryd.prog 25 = true := by kernel_rfl
theorem go_26 : isGo Tryd.prog 26 = true := by kernel_rfl
theorem go_27 : isGo Tryd.prog 27 = true := by kernel_rfl
theorem go_28 : isGo Tryd.prog 28 = true := by kernel_rfl
theorem go_29 : isGo Tryd.prog 29 = true := by kernel_rfl
theorem go_30 : isGo Tryd.prog 30 = true := by kernel_rfl
theorem go_31 : isGo Tryd.prog 31 = true := by kernel_rfl
theorem go_32 : isGo Tryd.prog 32 = true := by kernel_rfl
theorem go_33 : isGo Tryd.prog 33 = true := by kernel_rfl
theorem go_34 : isGo Tryd.prog 34 = true := by kernel_rfl
theorem go_35 : isGo Tryd.prog 35 = true := by kernel_rfl
theorem go_36 : isGo Tryd.prog 36 = true := by kernel_rfl
theorem go_37 : isGo Tryd.prog 37 = true := by kernel_rfl
theorem go_38 : isGo Tryd.prog 38 = true := by kernel_rfl
theorem go_39 : isGo Tryd.prog 39 = true := by kernel_rfl
theorem go_45 : isGo Tryd.prog 45 = true := by kernel_rfl
theorem go_47 : isGo Tryd.prog 47 = true := by kernel_rfl
theorem go_48 : isGo Tryd.prog 48 = true := by kernel_rfl
theorem go_51 : isGo Tryd.prog 51 = true := by kernel_rfl
theorem go_53 : isGo Tryd.prog 53 = true := by kernel_rfl
theorem go_54 : isGo Tryd.prog 54 = true := by kernel_rfl
theorem go_9 : isGo Tryd.prog 9 = true := by kernel_rfl
theorem inf_30 : (Tryd.prog.info? 30).map (fun i => (i.zero, i.size, i.bytes)) = some (some (.agg #[.int .i32 0, .int .i32 0, .int .i32 0, .int .i32 0, .int .i64 0, .int .i64 0, .int .u8 0, .int .u8 0, .int .u8 0, .int .u8 0, .int .i64 0, .int .u8 0, .int .u8 0, .int .u8 0, .int .u8 0, .int .u8 0]), 16, 64) := by kernel_rfl
theorem inf_67 : (Tryd.prog.info? 67).map (fun i => (i.zero, i.size, i.bytes)) = some (some (.agg #[.int .i64 0, .int .u64 0, .int .u64 0, .int .u64 0]), 4, 32) := by kernel_rfl
theorem mix : Tryd.prog.follows .mixedOrders = true := by kernel_rfl
theorem pl_21 : plainT Tryd.prog 21 = true := by kernel_rfl
theorem pl_23 : plainT Tryd.prog 23 = true := by kernel_rfl
theorem pl_3 : plainT Tryd.prog 3 = true := by kernel_rfl
theorem pl_33 : plainT Tryd.prog 33 = true := by kernel_rfl
theorem pl_5 : plainT Tryd.prog 5 = true := by kernel_rfl
theorem se_42 : sEl Tryd.prog 42 = some (30, 16) := by kernel_rfl
theorem se_43 : sEl Tryd.prog 43 = some (67, 4) := by kernel_rfl
theorem szz_21 : sz Tryd.prog 21 = some 1 := by kernel_rfl
theorem szz_25 : sz Tryd.prog 25 = some 5 := by kernel_rfl
theorem szz_28 : sz Tryd.prog 28 = some 11 := by kernel_rfl
theorem szz_3 : sz Tryd.prog 3 = some 1 := by kernel_rfl
theorem szz_30 : sz Tryd.prog 30 = some 16 := by kernel_rfl
theorem szz_33 : sz Tryd.prog 33 = some 1 := by kernel_rfl
theorem szz_34 : sz Tryd.prog 34 = some 3 := by kernel_rfl
theorem szz_67 : sz Tryd.prog 67 = some 4 := by kernel_rfl
theorem zo_25 : zOf Tryd.prog 25 = some [.int .i64 0, .int .u8 0, .int .u8 0, .int .u8 0, .int .u8 0] := by kernel_rfl
theorem zo_28 : zOf Tryd.prog 28 = some [.int .i64 0, .int .u8 0, .int .u8 0, .int .u8 0, .int .u8 0, .int .i64 0, .int .u8 0, .int .u8 0, .int .u8 0, .int .u8 0, .int .u8 0] := by kernel_rfl
theorem zo_30 : zOf Tryd.prog 30 = some [.int .i32 0, .int .i32 0, .int .i32 0, .int .i32 0, .int .i64 0, .int .i64 0, .int .u8 0, .int .u8 0, .int .u8 0, .int .u8 0, .int .i64 0, .int .u8 0, .int .u8 0, .int .u8 0, .int .u8 0, .int .u8 0] := by kernel_rfl
theorem zo_34 : zOf Tryd.prog 34 = some [.int .u64 0, .int .u64 0, .int .u64 0] := by kernel_rfl
theorem zo_67 : zOf Tryd.prog 67 = some [.int .i64 0, .int .u64 0, .int .u64 0, .int .u64 0] := by kernel_rfl
end Go.Proofs.YtfbkoflapamicaaDoor
