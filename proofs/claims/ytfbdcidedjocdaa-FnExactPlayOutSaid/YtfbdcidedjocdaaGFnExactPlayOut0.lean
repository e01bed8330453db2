/- What each Go function computes, as a Lean function, and the proof that it does: written by a program of this session (wip/gen), part 0. -/
import Derived.Test.YtfbdcidedjocdaaProg
import Derived.KernelRfl
import Derived.Test.YtfbdcidedjocdaaKC
namespace Go.Proofs.Ytfbdcidedjocdaa.G
open Go Go.RowKit Go.Proofs.Ytfbdcidedjocdaa.K
set_option linter.unusedVariables false
set_option linter.unusedSimpArgs false
theorem ag_35 : aggSize Try.prog 35 = some 2 := by kernel_rfl
theorem ap_22 : AppTy Try.prog 22 2 1 8 := apTy (by kernel_rfl) (by kernel_rfl) (by decide)
theorem ap_52 : AppTy Try.prog 52 22 1 24 := apTy (by kernel_rfl) (by kernel_rfl) (by decide)
theorem ap_74 : AppTy Try.prog 74 5 1 1 := apTy (by kernel_rfl) (by kernel_rfl) (by decide)
theorem bi_35 : buildInfo Try.prog 35 = some ([.int .i64 0, .slice none 0 0], [(0, 1), (1, 1)]) := by kernel_rfl
theorem by_2 : (Try.prog.info? 2).map (fun i => decide (i.bytes ≤ 1024)) = some true := by kernel_rfl
theorem can_14 : canCall Try.prog 14 = true := by kernel_rfl
theorem can_16 : canCall Try.prog 16 = true := by kernel_rfl
theorem can_17 : canCall Try.prog 17 = true := by kernel_rfl
theorem can_18 : canCall Try.prog 18 = true := by kernel_rfl
theorem can_19 : canCall Try.prog 19 = true := by kernel_rfl
theorem can_20 : canCall Try.prog 20 = true := by kernel_rfl
theorem can_37 : canCall Try.prog 37 = true := by kernel_rfl
theorem can_38 : canCall Try.prog 38 = true := by kernel_rfl
theorem can_39 : canCall Try.prog 39 = true := by kernel_rfl
theorem can_40 : canCall Try.prog 40 = true := by kernel_rfl
theorem can_41 : canCall Try.prog 41 = true := by kernel_rfl
theorem can_42 : canCall Try.prog 42 = true := by kernel_rfl
theorem can_43 : canCall Try.prog 43 = true := by kernel_rfl
theorem can_44 : canCall Try.prog 44 = true := by kernel_rfl
theorem can_45 : canCall Try.prog 45 = true := by kernel_rfl
theorem can_46 : canCall Try.prog 46 = true := by kernel_rfl
theorem can_47 : canCall Try.prog 47 = true := by kernel_rfl
theorem can_48 : canCall Try.prog 48 = true := by kernel_rfl
theorem can_49 : canCall Try.prog 49 = true := by kernel_rfl
theorem can_50 : canCall Try.prog 50 = true := by kernel_rfl
theorem can_51 : canCall Try.prog 51 = true := by kernel_rfl
theorem can_52 : canCall Try.prog 52 = true := by kernel_rfl
theorem can_54 : canCall Try.prog 54 = true := by kernel_rfl
theorem can_56 : canCall Try.prog 56 = true := by kernel_rfl
theorem can_58 : canCall Try.prog 58 = true := by kernel_rfl
theorem can_59 : canCall Try.prog 59 = true := by kernel_rfl
theorem can_60 : canCall Try.prog 60 = true := by kernel_rfl
theorem can_62 : canCall Try.prog 62 = true := by kernel_rfl
theorem can_63 : canCall Try.prog 63 = true := by kernel_rfl
theorem can_64 : canCall Try.prog 64 = true := by kernel_rfl
theorem can_66 : canCall Try.prog 66 = true := by kernel_rfl
theorem can_67 : canCall Try.prog 67 = true := by kernel_rfl
theorem can_71 : canCall Try.prog 71 = true := by kernel_rfl
theorem can_72 : canCall Try.prog 72 = true := by kernel_rfl
theorem can_73 : canCall Try.prog 73 = true := by kernel_rfl
theorem can_74 : canCall Try.prog 74 = true := by kernel_rfl
theorem can_75 : canCall Try.prog 75 = true := by kernel_rfl
theorem can_76 : canCall Try.prog 76 = true := by kernel_rfl
theorem can_77 : canCall Try.prog 77 = true := by kernel_rfl
theorem can_78 : canCall Try.prog 78 = true := by kernel_rfl
theorem can_79 : canCall Try.prog 79 = true := by kernel_rfl
theorem can_80 : canCall Try.prog 80 = true := by kernel_rfl
theorem can_81 : canCall Try.prog 81 = true := by kernel_rfl
theorem can_82 : canCall Try.prog 82 = true := by kernel_rfl
theorem can_83 : canCall Try.prog 83 = true := by kernel_rfl
theorem can_84 : canCall Try.prog 84 = true := by kernel_rfl
theorem can_88 : canCall Try.prog 88 = true := by kernel_rfl
theorem can_89 : canCall Try.prog 89 = true := by kernel_rfl
theorem can_90 : canCall Try.prog 90 = true := by kernel_rfl
theorem can_91 : canCall Try.prog 91 = true := by kernel_rfl
theorem fo_35_0 : fieldOff Try.prog 35 0 = some 0 := by kernel_rfl
theorem fo_35_1 : fieldOff Try.prog 35 1 = some 1 := by kernel_rfl
theorem mixed : Try.prog.follows .mixedOrders = true := by kernel_rfl
theorem mu_42 : Try.prog.underlying 42 = some (.map 9 2) := by kernel_rfl
theorem sc_2 : isScalar Try.prog 2 = true := by kernel_rfl
theorem sc_22 : isScalar Try.prog 22 = true := by kernel_rfl
theorem sc_42 : isScalar Try.prog 42 = true := by kernel_rfl
theorem so_22 : sliceOf Try.prog 22 = some 1 := by kernel_rfl
theorem so_52 : sliceOf Try.prog 52 = some 1 := by kernel_rfl
theorem sz1_2 : (Try.prog.info? 2).map (·.size) = some 1 := by kernel_rfl
theorem sz1_22 : (Try.prog.info? 22).map (·.size) = some 1 := by kernel_rfl
theorem sz1_5 : (Try.prog.info? 5).map (·.size) = some 1 := by kernel_rfl
theorem szn_35 : (Try.prog.info? 35).map (·.size) = some 2 := by kernel_rfl
theorem und_2 : Try.prog.underlying 2 = some (.int .i64) := by kernel_rfl
theorem und_22 : Try.prog.underlying 22 = some (.slice 2) := by kernel_rfl
theorem und_3 : Try.prog.underlying 3 = some (.int .i64) := by kernel_rfl
theorem und_5 : Try.prog.underlying 5 = some (.int .u8) := by kernel_rfl
theorem und_52 : Try.prog.underlying 52 = some (.slice 22) := by kernel_rfl
theorem und_65 : Try.prog.underlying 65 = some (.int .u64) := by kernel_rfl
theorem und_74 : Try.prog.underlying 74 = some (.slice 5) := by kernel_rfl
theorem und_9 : Try.prog.underlying 9 = some (.string) := by kernel_rfl
theorem zo_2 : zeroOf Try.prog 2 = some [.int .i64 0] := by kernel_rfl
theorem zo_22 : zeroOf Try.prog 22 = some [.slice none 0 0] := by kernel_rfl
theorem zo_35 : zeroOf Try.prog 35 = some [.int .i64 0, .slice none 0 0] := by kernel_rfl
theorem zo_5 : zeroOf Try.prog 5 = some [.int .u8 0] := by kernel_rfl
theorem zv_2 : (Try.prog.info? 2).map (·.zero) = some (some (.int .i64 0)) := by kernel_rfl

end Go.Proofs.Ytfbdcidedjocdaa.G
