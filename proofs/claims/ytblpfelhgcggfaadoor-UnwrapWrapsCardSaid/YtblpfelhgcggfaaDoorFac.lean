/-
  Facts on types. No condition.
-/
import Derived.Test.YtblpfelhgcggfaaDoorBase
import Derived.Test.YtblpfelhgcggfaaDoorEng4
namespace Go.Proofs.YtblpfelhgcggfaaDoor
open Go.RowKit
set_option linter.unusedSimpArgs false
set_option linter.unusedVariables false
theorem ae_51 : aEl Tryd.prog 51 = some (21, 3, 1) := by kernel_rfl
theorem ag_34 : aggT Tryd.prog 34 = some 2 := by kernel_rfl
theorem ag_37 : aggT Tryd.prog 37 = some 2 := by kernel_rfl
theorem ag_44 : aggT Tryd.prog 44 = some 4 := by kernel_rfl
theorem ag_51 : aggT Tryd.prog 51 = some 3 := by kernel_rfl
theorem ag_54 : aggT Tryd.prog 54 = some 5 := by kernel_rfl
theorem ag_57 : aggT Tryd.prog 57 = some 11 := by kernel_rfl
theorem ag_59 : aggT Tryd.prog 59 = some 16 := by kernel_rfl
theorem ag_72 : aggT Tryd.prog 72 = some 3 := by kernel_rfl
theorem eg_37 : Tryd.prog.eqGuardType Tryd.prog.depth 37 = false := by kernel_rfl
theorem eg_51 : Tryd.prog.eqGuardType Tryd.prog.depth 51 = false := by kernel_rfl
theorem eg_54 : Tryd.prog.eqGuardType Tryd.prog.depth 54 = false := by kernel_rfl
theorem eg_57 : Tryd.prog.eqGuardType Tryd.prog.depth 57 = false := by kernel_rfl
theorem eg_59 : Tryd.prog.eqGuardType Tryd.prog.depth 59 = false := by kernel_rfl
theorem fo_34_0 : fOff Tryd.prog 34 0 = some 0 := by kernel_rfl
theorem fo_34_1 : fOff Tryd.prog 34 1 = some 1 := by kernel_rfl
theorem fo_37_0 : fOff Tryd.prog 37 0 = some 0 := by kernel_rfl
theorem fo_37_1 : fOff Tryd.prog 37 1 = some 1 := by kernel_rfl
theorem fo_44_0 : fOff Tryd.prog 44 0 = some 0 := by kernel_rfl
theorem fo_44_1 : fOff Tryd.prog 44 1 = some 1 := by kernel_rfl
theorem fo_44_2 : fOff Tryd.prog 44 2 = some 2 := by kernel_rfl
theorem fo_44_3 : fOff Tryd.prog 44 3 = some 3 := by kernel_rfl
theorem fo_54_0 : fOff Tryd.prog 54 0 = some 0 := by kernel_rfl
theorem fo_54_1 : fOff Tryd.prog 54 1 = some 1 := by kernel_rfl
theorem fo_54_2 : fOff Tryd.prog 54 2 = some 2 := by kernel_rfl
theorem fo_54_3 : fOff Tryd.prog 54 3 = some 3 := by kernel_rfl
theorem fo_54_4 : fOff Tryd.prog 54 4 = some 4 := by kernel_rfl
theorem fo_57_0 : fOff Tryd.prog 57 0 = some 0 := by kernel_rfl
theorem fo_57_1 : fOff Tryd.prog 57 1 = some 5 := by kernel_rfl
theorem fo_59_0 : fOff Tryd.prog 59 0 = some 0 := by kernel_rfl
theorem fo_59_1 : fOff Tryd.prog 59 1 = some 1 := by kernel_rfl
theorem fo_59_2 : fOff Tryd.prog 59 2 = some 4 := by kernel_rfl
theorem fo_59_3 : fOff Tryd.prog 59 3 = some 5 := by kernel_rfl
theorem fo_72_0 : fOff Tryd.prog 72 0 = some 0 := by kernel_rfl
theorem fo_72_1 : fOff Tryd.prog 72 1 = some 1 := by kernel_rfl
theorem fo_72_2 : fOff Tryd.prog 72 2 = some 2 := by kernel_rfl
theorem fo_85_0 : fOff Tryd.prog 85 0 = some 0 := by kernel_rfl
theorem fo_85_1 : fOff Tryd.prog 85 1 = some 1 := by kernel_rfl
theorem fo_85_2 : fOff Tryd.prog 85 2 = some 2 := by kernel_rfl
theorem fo_91_0 : fOff Tryd.prog 91 0 = some 0 := by kernel_rfl
theorem fo_91_1 : fOff Tryd.prog 91 1 = some 1 := by kernel_rfl
theorem fo_91_2 : fOff Tryd.prog 91 2 = some 2 := by kernel_rfl
theorem go_12 : isGo Tryd.prog 12 = true := by kernel_rfl
theorem go_13 : isGo Tryd.prog 13 = true := by kernel_rfl
theorem go_14 : isGo Tryd.prog 14 = true := by kernel_rfl
theorem go_15 : isGo Tryd.prog 15 = true := by kernel_rfl
theorem go_16 : isGo Tryd.prog 16 = true := by kernel_rfl
theorem go_17 : isGo Tryd.prog 17 = true := by kernel_rfl
theorem go_18 : isGo Tryd.prog 18 = true := by kernel_rfl
theorem go_19 : isGo Tryd.prog 19 = true := by kernel_rfl
theorem go_20 : isGo Tryd.prog 20 = true := by kernel_rfl
theorem go_21 : isGo Tryd.prog 21 = true := by kernel_rfl
theorem go_22 : isGo Tryd.prog 22 = true := by kernel_rfl
theorem go_23 : isGo Tryd.prog 23 = true := by kernel_rfl
theorem go_24 : isGo Tryd.prog 24 = true := by kernel_rfl
theorem go_25 : isGo Tryd.prog 25 = true := by kernel_rfl
theorem go_26 : isGo Tryd.prog 26 = true := by kernel_rfl
theorem go_27 : isGo Tryd.prog 27 = true := by kernel_rfl
theorem go_28 : isGo Tryd.prog 28 = true := by kernel_rfl
theorem go_29 : isGo Tryd.prog 29 = true := by kernel_rfl
theorem go_30 : isGo Tryd.prog 30 = true := by kernel_rfl
theorem go_31 : isGo Tryd.prog 31 = true := by kernel_rfl
theorem go_32 : isGo Tryd.prog 32 = true := by kernel_rfl
theorem go_33 : isGo Tryd.prog 33 = true := by kernel_rfl
theorem go_34 : isGo Tryd.prog 34 = true := by kernel_rfl
theorem go_35 : isGo Tryd.prog 35 = true := by kernel_rfl
theorem go_36 : isGo Tryd.prog 36 = true := by kernel_rfl
theorem go_37 : isGo Tryd.prog 37 = true := by kernel_rfl
theorem go_38 : isGo Tryd.prog 38 = true := by kernel_rfl
theorem go_39 : isGo Tryd.prog 39 = true := by kernel_rfl
theorem go_40 : isGo Tryd.prog 40 = true := by kernel_rfl
theorem go_41 : isGo Tryd.prog 41 = true := by kernel_rfl
theorem go_42 : isGo Tryd.prog 42 = true := by kernel_rfl
theorem go_43 : isGo Tryd.prog 43 = true := by kernel_rfl
theorem go_44 : isGo Tryd.prog 44 = true := by kernel_rfl
theorem go_45 : isGo Tryd.prog 45 = true := by kernel_rfl
theorem go_46 : isGo Tryd.prog 46 = true := by kernel_rfl
theorem go_47 : isGo Tryd.prog 47 = true := by kernel_rfl
theorem go_48 : isGo Tryd.prog 48 = true := by kernel_rfl
theorem go_49 : isGo Tryd.prog 49 = true := by kernel_rfl
theorem go_50 : isGo Tryd.prog 50 = true := by kernel_rfl
theorem go_51 : isGo Tryd.prog 51 = true := by kernel_rfl
theorem go_52 : isGo Tryd.prog 52 = true := by kernel_rfl
theorem go_53 : isGo Tryd.prog 53 = true := by kernel_rfl
theorem go_54 : isGo Tryd.prog 54 = true := by kernel_rfl
theorem go_55 : isGo Tryd.prog 55 = true := by kernel_rfl
theorem go_56 : isGo Tryd.prog 56 = true := by kernel_rfl
theorem go_57 : isGo Tryd.prog 57 = true := by kernel_rfl
theorem go_58 : isGo Tryd.prog 58 = true := by kernel_rfl
theorem go_59 : isGo Tryd.prog 59 = true := by kernel_rfl
theorem go_60 : isGo Tryd.prog 60 = true := by kernel_rfl
theorem go_61 : isGo Tryd.prog 61 = true := by kernel_rfl
theorem go_62 : isGo Tryd.prog 62 = true := by kernel_rfl
theorem go_63 : isGo Tryd.prog 63 = true := by kernel_rfl
theorem go_64 : isGo Tryd.prog 64 = true := by kernel_rfl
theorem go_65 : isGo Tryd.prog 65 = true := by kernel_rfl
theorem go_66 : isGo Tryd.prog 66 = true := by kernel_rfl
theorem go_67 : isGo Tryd.prog 67 = true := by kernel_rfl
theorem go_68 : isGo Tryd.prog 68 = true := by kernel_rfl
theorem go_69 : isGo Tryd.prog 69 = true := by kernel_rfl
theorem go_70 : isGo Tryd.prog 70 = true := by kernel_rfl
theorem go_71 : isGo Tryd.prog 71 = true := by kernel_rfl
theorem go_72 : isGo Tryd.prog 72 = true := by kernel_rfl
theorem go_73 : isGo Tryd.prog 73 = true := by kernel_rfl
theorem go_74 : isGo Tryd.prog 74 = true := by kernel_rfl
theorem go_75 : isGo Tryd.prog 75 = true := by kernel_rfl
theorem go_76 : isGo Tryd.prog 76 = true := by kernel_rfl
theorem go_81 : isGo Tryd.prog 81 = true := by kernel_rfl
theorem go_82 : isGo Tryd.prog 82 = true := by kernel_rfl
theorem go_83 : isGo Tryd.prog 83 = true := by kernel_rfl
theorem go_84 : isGo Tryd.prog 84 = true := by kernel_rfl
theorem go_86 : isGo Tryd.prog 86 = true := by kernel_rfl
theorem go_87 : isGo Tryd.prog 87 = true := by kernel_rfl
theorem inf_21 : (Tryd.prog.info? 21).map (fun i => (i.zero, i.size, i.bytes)) = some (some (.int .i32 0), 1, 4) := by kernel_rfl
theorem inf_3 : (Tryd.prog.info? 3).map (fun i => (i.zero, i.size, i.bytes)) = some (some (.int .i64 0), 1, 8) := by kernel_rfl
theorem inf_34 : (Tryd.prog.info? 34).map (fun i => (i.zero, i.size, i.bytes)) = some (some (.agg #[.slice none 0 0, .bool false]), 2, 32) := by kernel_rfl
theorem inf_59 : (Tryd.prog.info? 59).map (fun i => (i.zero, i.size, i.bytes)) = some (some (.agg #[.int .i32 0, .int .i32 0, .int .i32 0, .int .i32 0, .int .i64 0, .int .i64 0, .int .u8 0, .int .u8 0, .int .u8 0, .int .u8 0, .int .i64 0, .int .u8 0, .int .u8 0, .int .u8 0, .int .u8 0, .int .u8 0]), 16, 64) := by kernel_rfl
theorem inf_72 : (Tryd.prog.info? 72).map (fun i => (i.zero, i.size, i.bytes)) = some (some (.agg #[.slice none 0 0, .int .i64 0, .int .i64 0]), 3, 40) := by kernel_rfl
theorem inf_9 : (Tryd.prog.info? 9).map (fun i => (i.zero, i.size, i.bytes)) = some (some (.string ⟨#[]⟩), 1, 16) := by kernel_rfl
theorem mix : Tryd.prog.follows .mixedOrders = true := by kernel_rfl
theorem pl_21 : plainT Tryd.prog 21 = true := by kernel_rfl
theorem pl_22 : plainT Tryd.prog 22 = true := by kernel_rfl
theorem pl_28 : plainT Tryd.prog 28 = true := by kernel_rfl
theorem pl_3 : plainT Tryd.prog 3 = true := by kernel_rfl
theorem pl_4 : plainT Tryd.prog 4 = true := by kernel_rfl
theorem pl_42 : plainT Tryd.prog 42 = true := by kernel_rfl
theorem pl_5 : plainT Tryd.prog 5 = true := by kernel_rfl
theorem pl_52 : plainT Tryd.prog 52 = true := by kernel_rfl
theorem pl_9 : plainT Tryd.prog 9 = true := by kernel_rfl
theorem se_22 : sEl Tryd.prog 22 = some (59, 16) := by kernel_rfl
theorem se_28 : sEl Tryd.prog 28 = some (34, 2) := by kernel_rfl
theorem se_42 : sEl Tryd.prog 42 = some (3, 1) := by kernel_rfl
theorem se_69 : sEl Tryd.prog 69 = some (72, 3) := by kernel_rfl
theorem se_77 : sEl Tryd.prog 77 = some (9, 1) := by kernel_rfl
theorem szz_21 : sz Tryd.prog 21 = some 1 := by kernel_rfl
theorem szz_22 : sz Tryd.prog 22 = some 1 := by kernel_rfl
theorem szz_28 : sz Tryd.prog 28 = some 1 := by kernel_rfl
theorem szz_3 : sz Tryd.prog 3 = some 1 := by kernel_rfl
theorem szz_34 : sz Tryd.prog 34 = some 2 := by kernel_rfl
theorem szz_37 : sz Tryd.prog 37 = some 2 := by kernel_rfl
theorem szz_42 : sz Tryd.prog 42 = some 1 := by kernel_rfl
theorem szz_44 : sz Tryd.prog 44 = some 4 := by kernel_rfl
theorem szz_54 : sz Tryd.prog 54 = some 5 := by kernel_rfl
theorem szz_59 : sz Tryd.prog 59 = some 16 := by kernel_rfl
theorem szz_72 : sz Tryd.prog 72 = some 3 := by kernel_rfl
theorem zo_34 : zOf Tryd.prog 34 = some [.slice none 0 0, .bool false] := by kernel_rfl
theorem zo_37 : zOf Tryd.prog 37 = some [.int .i64 0, .int .i64 0] := by kernel_rfl
theorem zo_44 : zOf Tryd.prog 44 = some [.slice none 0 0, .slice none 0 0, .int .i64 0, .int .i64 0] := by kernel_rfl
theorem zo_54 : zOf Tryd.prog 54 = some [.int .i64 0, .int .u8 0, .int .u8 0, .int .u8 0, .int .u8 0] := by kernel_rfl
theorem zo_59 : zOf Tryd.prog 59 = some [.int .i32 0, .int .i32 0, .int .i32 0, .int .i32 0, .int .i64 0, .int .i64 0, .int .u8 0, .int .u8 0, .int .u8 0, .int .u8 0, .int .i64 0, .int .u8 0, .int .u8 0, .int .u8 0, .int .u8 0, .int .u8 0] := by kernel_rfl
theorem zo_72 : zOf Tryd.prog 72 = some [.slice none 0 0, .int .i64 0, .int .i64 0] := by kernel_rfl
end Go.Proofs.YtblpfelhgcggfaaDoor
