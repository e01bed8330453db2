/- What each Go function computes, as a Lean function, and the proof that it does: written by a program of this session (wip/gen), part 0. -/
import Derived.Test.YtfhbamlpnicomaaProg
import Derived.KernelRfl
import Derived.Test.YtfhbamlpnicomaaK8
namespace Go.Proofs.Ytfhbamlpnicomaa.G
open Go Go.RowKit Go.Proofs.Ytfhbamlpnicomaa.K
set_option linter.unusedVariables false
set_option linter.unusedSimpArgs false
theorem ag_22 : aggSize Try.prog 22 = some 136 := by kernel_rfl
theorem ag_24 : aggSize Try.prog 24 = some 138 := by kernel_rfl
theorem ag_28 : aggSize Try.prog 28 = some 138 := by kernel_rfl
theorem ap_25 : AppTy Try.prog 25 2 1 8 := apTy (by kernel_rfl) (by kernel_rfl) (by decide)
theorem ar_22 : arrOf Try.prog 22 = some (136, 1) := by kernel_rfl
theorem can_102 : canCall Try.prog 102 = true := by kernel_rfl
theorem can_103 : canCall Try.prog 103 = true := by kernel_rfl
theorem can_104 : canCall Try.prog 104 = true := by kernel_rfl
theorem can_106 : canCall Try.prog 106 = true := by kernel_rfl
theorem can_108 : canCall Try.prog 108 = true := by kernel_rfl
theorem can_15 : canCall Try.prog 15 = true := by kernel_rfl
theorem can_17 : canCall Try.prog 17 = true := by kernel_rfl
theorem can_18 : canCall Try.prog 18 = true := by kernel_rfl
theorem can_19 : canCall Try.prog 19 = true := by kernel_rfl
theorem can_38 : canCall Try.prog 38 = true := by kernel_rfl
theorem can_39 : canCall Try.prog 39 = true := by kernel_rfl
theorem can_42 : canCall Try.prog 42 = true := by kernel_rfl
theorem can_44 : canCall Try.prog 44 = true := by kernel_rfl
theorem can_45 : canCall Try.prog 45 = true := by kernel_rfl
theorem can_46 : canCall Try.prog 46 = true := by kernel_rfl
theorem can_49 : canCall Try.prog 49 = true := by kernel_rfl
theorem can_52 : canCall Try.prog 52 = true := by kernel_rfl
theorem can_54 : canCall Try.prog 54 = true := by kernel_rfl
theorem can_55 : canCall Try.prog 55 = true := by kernel_rfl
theorem can_63 : canCall Try.prog 63 = true := by kernel_rfl
theorem can_65 : canCall Try.prog 65 = true := by kernel_rfl
theorem can_73 : canCall Try.prog 73 = true := by kernel_rfl
theorem can_80 : canCall Try.prog 80 = true := by kernel_rfl
theorem can_81 : canCall Try.prog 81 = true := by kernel_rfl
theorem can_86 : canCall Try.prog 86 = true := by kernel_rfl
theorem can_87 : canCall Try.prog 87 = true := by kernel_rfl
theorem can_88 : canCall Try.prog 88 = true := by kernel_rfl
theorem can_89 : canCall Try.prog 89 = true := by kernel_rfl
theorem can_91 : canCall Try.prog 91 = true := by kernel_rfl
theorem can_92 : canCall Try.prog 92 = true := by kernel_rfl
theorem can_93 : canCall Try.prog 93 = true := by kernel_rfl
theorem can_97 : canCall Try.prog 97 = true := by kernel_rfl
theorem fo_24_0 : fieldOff Try.prog 24 0 = some 0 := by kernel_rfl
theorem fo_24_1 : fieldOff Try.prog 24 1 = some 1 := by kernel_rfl
theorem fo_24_2 : fieldOff Try.prog 24 2 = some 2 := by kernel_rfl
theorem fo_28_0 : fieldOff Try.prog 28 0 = some 0 := by kernel_rfl
theorem fo_28_1 : fieldOff Try.prog 28 1 = some 1 := by kernel_rfl
theorem fo_28_2 : fieldOff Try.prog 28 2 = some 2 := by kernel_rfl
theorem mixed : Try.prog.follows .mixedOrders = true := by kernel_rfl
theorem sc_2 : isScalar Try.prog 2 = true := by kernel_rfl
theorem sc_4 : isScalar Try.prog 4 = true := by kernel_rfl
theorem sc_5 : isScalar Try.prog 5 = true := by kernel_rfl
theorem sc_82 : isScalar Try.prog 82 = true := by kernel_rfl
theorem so_25 : sliceOf Try.prog 25 = some 1 := by kernel_rfl
theorem sz1_2 : (Try.prog.info? 2).map (·.size) = some 1 := by kernel_rfl
theorem sz1_5 : (Try.prog.info? 5).map (·.size) = some 1 := by kernel_rfl
theorem szn_22 : (Try.prog.info? 22).map (·.size) = some 136 := by kernel_rfl
theorem szn_28 : (Try.prog.info? 28).map (·.size) = some 138 := by kernel_rfl
theorem und_2 : Try.prog.underlying 2 = some (.int .i64) := by kernel_rfl
theorem und_22 : Try.prog.underlying 22 = some (.array 136 5) := by kernel_rfl
theorem und_25 : Try.prog.underlying 25 = some (.slice 2) := by kernel_rfl
theorem und_5 : Try.prog.underlying 5 = some (.int .u8) := by kernel_rfl
theorem und_81 : Try.prog.underlying 81 = some (.int .u64) := by kernel_rfl
theorem zo_2 : zeroOf Try.prog 2 = some [.int .i64 0] := by kernel_rfl
theorem zo_22 : zeroOf Try.prog 22 = some (bytesC 136 (fun _ => 0)) := by kernel_rfl
theorem zo_28 : zeroOf Try.prog 28 = some (Col.cells Col.zero) := by kernel_rfl

end Go.Proofs.Ytfhbamlpnicomaa.G
