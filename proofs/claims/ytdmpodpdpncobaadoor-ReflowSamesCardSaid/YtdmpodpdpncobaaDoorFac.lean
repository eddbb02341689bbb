/-
  Facts on types. No condition.
-/
import Derived.Test.YtdmpodpdpncobaaDoorBase
import Derived.Test.YtdmpodpdpncobaaDoorEng4
namespace Go.Proofs.YtdmpodpdpncobaaDoor
open Go.RowKit
set_option linter.unusedSimpArgs false
set_option linter.unusedVariables false
theorem ae_50 : aEl Tryd.prog 50 = some (21, 3, 1) := by kernel_rfl
theorem ag_24 : aggT Tryd.prog 24 = some 2 := by kernel_rfl
theorem ag_37 : aggT Tryd.prog 37 = some 3 := by kernel_rfl
theorem ag_50 : aggT Tryd.prog 50 = some 3 := by kernel_rfl
theorem ag_53 : aggT Tryd.prog 53 = some 5 := by kernel_rfl
theorem ag_56 : aggT Tryd.prog 56 = some 11 := by kernel_rfl
theorem ag_58 : aggT Tryd.prog 58 = some 16 := by kernel_rfl
theorem ag_65 : aggT Tryd.prog 65 = some 2 := by kernel_rfl
theorem ag_99 : aggT Tryd.prog 99 = some 4 := by kernel_rfl
theorem eg_24 : Tryd.prog.eqGuardType Tryd.prog.depth 24 = false := by kernel_rfl
theorem eg_50 : Tryd.prog.eqGuardType Tryd.prog.depth 50 = false := by kernel_rfl
theorem eg_53 : Tryd.prog.eqGuardType Tryd.prog.depth 53 = false := by kernel_rfl
theorem eg_56 : Tryd.prog.eqGuardType Tryd.prog.depth 56 = false := by kernel_rfl
theorem eg_58 : Tryd.prog.eqGuardType Tryd.prog.depth 58 = false := by kernel_rfl
theorem fo_109_0 : fOff Tryd.prog 109 0 = some 0 := by kernel_rfl
theorem fo_109_1 : fOff Tryd.prog 109 1 = some 1 := by kernel_rfl
theorem fo_109_2 : fOff Tryd.prog 109 2 = some 2 := by kernel_rfl
theorem fo_113_0 : fOff Tryd.prog 113 0 = some 0 := by kernel_rfl
theorem fo_113_1 : fOff Tryd.prog 113 1 = some 1 := by kernel_rfl
theorem fo_113_2 : fOff Tryd.prog 113 2 = some 2 := by kernel_rfl
theorem fo_24_0 : fOff Tryd.prog 24 0 = some 0 := by kernel_rfl
theorem fo_24_1 : fOff Tryd.prog 24 1 = some 1 := by kernel_rfl
theorem fo_37_0 : fOff Tryd.prog 37 0 = some 0 := by kernel_rfl
theorem fo_37_1 : fOff Tryd.prog 37 1 = some 1 := by kernel_rfl
theorem fo_37_2 : fOff Tryd.prog 37 2 = some 2 := by kernel_rfl
theorem fo_53_0 : fOff Tryd.prog 53 0 = some 0 := by kernel_rfl
theorem fo_53_1 : fOff Tryd.prog 53 1 = some 1 := by kernel_rfl
theorem fo_53_2 : fOff Tryd.prog 53 2 = some 2 := by kernel_rfl
theorem fo_53_3 : fOff Tryd.prog 53 3 = some 3 := by kernel_rfl
theorem fo_53_4 : fOff Tryd.prog 53 4 = some 4 := by kernel_rfl
theorem fo_56_0 : fOff Tryd.prog 56 0 = some 0 := by kernel_rfl
theorem fo_56_1 : fOff Tryd.prog 56 1 = some 5 := by kernel_rfl
theorem fo_58_0 : fOff Tryd.prog 58 0 = some 0 := by kernel_rfl
theorem fo_58_1 : fOff Tryd.prog 58 1 = some 1 := by kernel_rfl
theorem fo_58_2 : fOff Tryd.prog 58 2 = some 4 := by kernel_rfl
theorem fo_58_3 : fOff Tryd.prog 58 3 = some 5 := by kernel_rfl
theorem fo_65_0 : fOff Tryd.prog 65 0 = some 0 := by kernel_rfl
theorem fo_65_1 : fOff Tryd.prog 65 1 = some 1 := by kernel_rfl
theorem fo_99_0 : fOff Tryd.prog 99 0 = some 0 := by kernel_rfl
theorem fo_99_1 : fOff Tryd.prog 99 1 = some 1 := by kernel_rfl
theorem fo_99_2 : fOff Tryd.prog 99 2 = some 2 := by kernel_rfl
theorem fo_99_3 : fOff Tryd.prog 99 3 = some 3 := by kernel_rfl
theorem go_101 : isGo Tryd.prog 101 = true := by kernel_rfl
theorem go_102 : isGo Tryd.prog 102 = true := by kernel_rfl
theorem go_103 : isGo Tryd.prog 103 = true := by kernel_rfl
theorem go_105 : isGo Tryd.prog 105 = true := by kernel_rfl
theorem go_106 : isGo Tryd.prog 106 = true := by kernel_rfl
theorem go_15 : isGo Tryd.prog 15 = true := by kernel_rfl
theorem go_16 : isGo Tryd.prog 16 = true := by kernel_rfl
theorem go_18 : isGo Tryd.prog 18 = true := by kernel_rfl
theorem go_19 : isGo Tryd.prog 19 = true := by kernel_rfl
theorem go_20 : isGo Tryd.prog 20 = true := by kernel_rfl
theorem go_21 : isGo Tryd.prog 21 = true := by kernel_rfl
theorem go_24 : isGo Tryd.prog 24 = true := by kernel_rfl
theorem go_26 : isGo Tryd.prog 26 = true := by kernel_rfl
theorem go_27 : isGo Tryd.prog 27 = true := by kernel_rfl
theorem go_28 : isGo Tryd.prog 28 = true := by kernel_rfl
theorem go_29 : isGo Tryd.prog 29 = true := by kernel_rfl
theorem go_31 : isGo Tryd.prog 31 = true := by kernel_rfl
theorem go_32 : isGo Tryd.prog 32 = true := by kernel_rfl
theorem go_33 : isGo Tryd.prog 33 = true := by kernel_rfl
theorem go_35 : isGo Tryd.prog 35 = true := by kernel_rfl
theorem go_52 : isGo Tryd.prog 52 = true := by kernel_rfl
theorem go_53 : isGo Tryd.prog 53 = true := by kernel_rfl
theorem go_54 : isGo Tryd.prog 54 = true := by kernel_rfl
theorem go_55 : isGo Tryd.prog 55 = true := by kernel_rfl
theorem go_57 : isGo Tryd.prog 57 = true := by kernel_rfl
theorem go_58 : isGo Tryd.prog 58 = true := by kernel_rfl
theorem go_59 : isGo Tryd.prog 59 = true := by kernel_rfl
theorem go_60 : isGo Tryd.prog 60 = true := by kernel_rfl
theorem go_61 : isGo Tryd.prog 61 = true := by kernel_rfl
theorem go_62 : isGo Tryd.prog 62 = true := by kernel_rfl
theorem go_63 : isGo Tryd.prog 63 = true := by kernel_rfl
theorem go_64 : isGo Tryd.prog 64 = true := by kernel_rfl
theorem go_65 : isGo Tryd.prog 65 = true := by kernel_rfl
theorem go_66 : isGo Tryd.prog 66 = true := by kernel_rfl
theorem go_67 : isGo Tryd.prog 67 = true := by kernel_rfl
theorem go_68 : isGo Tryd.prog 68 = true := by kernel_rfl
theorem go_78 : isGo Tryd.prog 78 = true := by kernel_rfl
theorem go_80 : isGo Tryd.prog 80 = true := by kernel_rfl
theorem go_81 : isGo Tryd.prog 81 = true := by kernel_rfl
theorem go_82 : isGo Tryd.prog 82 = true := by kernel_rfl
theorem go_83 : isGo Tryd.prog 83 = true := by kernel_rfl
theorem go_84 : isGo Tryd.prog 84 = true := by kernel_rfl
theorem go_85 : isGo Tryd.prog 85 = true := by kernel_rfl
theorem go_86 : isGo Tryd.prog 86 = true := by kernel_rfl
theorem go_87 : isGo Tryd.prog 87 = true := by kernel_rfl
theorem go_88 : isGo Tryd.prog 88 = true := by kernel_rfl
theorem go_89 : isGo Tryd.prog 89 = true := by kernel_rfl
theorem go_92 : isGo Tryd.prog 92 = true := by kernel_rfl
theorem go_93 : isGo Tryd.prog 93 = true := by kernel_rfl
theorem go_94 : isGo Tryd.prog 94 = true := by kernel_rfl
theorem go_95 : isGo Tryd.prog 95 = true := by kernel_rfl
theorem go_96 : isGo Tryd.prog 96 = true := by kernel_rfl
theorem inf_24 : (Tryd.prog.info? 24).map (fun i => (i.zero, i.size, i.bytes)) = some (some (.agg #[.int .i64 0, .int .i64 0]), 2, 16) := by kernel_rfl
theorem inf_3 : (Tryd.prog.info? 3).map (fun i => (i.zero, i.size, i.bytes)) = some (some (.int .i64 0), 1, 8) := by kernel_rfl
theorem inf_37 : (Tryd.prog.info? 37).map (fun i => (i.zero, i.size, i.bytes)) = some (some (.agg #[.slice none 0 0, .int .i64 0, .int .i64 0]), 3, 40) := by kernel_rfl
theorem inf_58 : (Tryd.prog.info? 58).map (fun i => (i.zero, i.size, i.bytes)) = some (some (.agg #[.int .i32 0, .int .i32 0, .int .i32 0, .int .i32 0, .int .i64 0, .int .i64 0, .int .u8 0, .int .u8 0, .int .u8 0, .int .u8 0, .int .i64 0, .int .u8 0, .int .u8 0, .int .u8 0, .int .u8 0, .int .u8 0]), 16, 64) := by kernel_rfl
theorem inf_65 : (Tryd.prog.info? 65).map (fun i => (i.zero, i.size, i.bytes)) = some (some (.agg #[.slice none 0 0, .bool false]), 2, 32) := by kernel_rfl
theorem mix : Tryd.prog.follows .mixedOrders = true := by kernel_rfl
theorem pl_21 : plainT Tryd.prog 21 = true := by kernel_rfl
theorem pl_22 : plainT Tryd.prog 22 = true := by kernel_rfl
theorem pl_3 : plainT Tryd.prog 3 = true := by kernel_rfl
theorem pl_35 : plainT Tryd.prog 35 = true := by kernel_rfl
theorem pl_4 : plainT Tryd.prog 4 = true := by kernel_rfl
theorem pl_5 : plainT Tryd.prog 5 = true := by kernel_rfl
theorem pl_51 : plainT Tryd.prog 51 = true := by kernel_rfl
theorem pl_9 : plainT Tryd.prog 9 = true := by kernel_rfl
theorem pl_97 : plainT Tryd.prog 97 = true := by kernel_rfl
theorem se_125 : sEl Tryd.prog 125 = some (9, 1) := by kernel_rfl
theorem se_22 : sEl Tryd.prog 22 = some (65, 2) := by kernel_rfl
theorem se_34 : sEl Tryd.prog 34 = some (37, 3) := by kernel_rfl
theorem se_35 : sEl Tryd.prog 35 = some (58, 16) := by kernel_rfl
theorem se_43 : sEl Tryd.prog 43 = some (24, 2) := by kernel_rfl
theorem se_97 : sEl Tryd.prog 97 = some (3, 1) := by kernel_rfl
theorem szz_21 : sz Tryd.prog 21 = some 1 := by kernel_rfl
theorem szz_22 : sz Tryd.prog 22 = some 1 := by kernel_rfl
theorem szz_24 : sz Tryd.prog 24 = some 2 := by kernel_rfl
theorem szz_3 : sz Tryd.prog 3 = some 1 := by kernel_rfl
theorem szz_35 : sz Tryd.prog 35 = some 1 := by kernel_rfl
theorem szz_37 : sz Tryd.prog 37 = some 3 := by kernel_rfl
theorem szz_53 : sz Tryd.prog 53 = some 5 := by kernel_rfl
theorem szz_58 : sz Tryd.prog 58 = some 16 := by kernel_rfl
theorem szz_65 : sz Tryd.prog 65 = some 2 := by kernel_rfl
theorem szz_97 : sz Tryd.prog 97 = some 1 := by kernel_rfl
theorem szz_99 : sz Tryd.prog 99 = some 4 := by kernel_rfl
theorem zo_24 : zOf Tryd.prog 24 = some [.int .i64 0, .int .i64 0] := by kernel_rfl
theorem zo_37 : zOf Tryd.prog 37 = some [.slice none 0 0, .int .i64 0, .int .i64 0] := by kernel_rfl
theorem zo_53 : zOf Tryd.prog 53 = some [.int .i64 0, .int .u8 0, .int .u8 0, .int .u8 0, .int .u8 0] := by kernel_rfl
theorem zo_58 : zOf Tryd.prog 58 = some [.int .i32 0, .int .i32 0, .int .i32 0, .int .i32 0, .int .i64 0, .int .i64 0, .int .u8 0, .int .u8 0, .int .u8 0, .int .u8 0, .int .i64 0, .int .u8 0, .int .u8 0, .int .u8 0, .int .u8 0, .int .u8 0] := by kernel_rfl
theorem zo_65 : zOf Tryd.prog 65 = some [.slice none 0 0, .bool false] := by kernel_rfl
theorem zo_99 : zOf Tryd.prog 99 = some [.slice none 0 0, .slice none 0 0, .int .i64 0, .int .i64 0] := by kernel_rfl
end Go.Proofs.YtdmpodpdpncobaaDoor
