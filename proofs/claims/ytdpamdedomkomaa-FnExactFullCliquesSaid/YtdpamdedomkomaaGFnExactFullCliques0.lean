/- What each Go function computes, as a Lean function, and the proof that it does: written by a program of this session (wip/gen), part 0. -/
import Derived.Test.YtdpamdedomkomaaProg
import Derived.KernelRfl
import Derived.Test.YtdpamdedomkomaaKC
namespace Go.Proofs.Ytdpamdedomkomaa.G
open Go Go.RowKit Go.Proofs.Ytdpamdedomkomaa.K
set_option linter.unusedVariables false
set_option linter.unusedSimpArgs false
theorem ag_22 : aggSize Try.prog 22 = some 136 := by kernel_rfl
theorem ag_24 : aggSize Try.prog 24 = some 138 := by kernel_rfl
theorem ag_28 : aggSize Try.prog 28 = some 138 := by kernel_rfl
theorem ap_25 : AppTy Try.prog 25 2 1 8 := apTy (by kernel_rfl) (by kernel_rfl) (by decide)
theorem ap_49 : AppTy Try.prog 49 25 1 24 := apTy (by kernel_rfl) (by kernel_rfl) (by decide)
theorem ar_22 : arrOf Try.prog 22 = some (136, 1) := by kernel_rfl
theorem can_100 : canCall Try.prog 100 = true := by kernel_rfl
theorem can_101 : canCall Try.prog 101 = true := by kernel_rfl
theorem can_103 : canCall Try.prog 103 = true := by kernel_rfl
theorem can_104 : canCall Try.prog 104 = true := by kernel_rfl
theorem can_106 : canCall Try.prog 106 = true := by kernel_rfl
theorem can_112 : canCall Try.prog 112 = true := by kernel_rfl
theorem can_115 : canCall Try.prog 115 = true := by kernel_rfl
theorem can_118 : canCall Try.prog 118 = true := by kernel_rfl
theorem can_119 : canCall Try.prog 119 = true := by kernel_rfl
theorem can_120 : canCall Try.prog 120 = true := by kernel_rfl
theorem can_121 : canCall Try.prog 121 = true := by kernel_rfl
theorem can_122 : canCall Try.prog 122 = true := by kernel_rfl
theorem can_123 : canCall Try.prog 123 = true := by kernel_rfl
theorem can_127 : canCall Try.prog 127 = true := by kernel_rfl
theorem can_128 : canCall Try.prog 128 = true := by kernel_rfl
theorem can_16 : canCall Try.prog 16 = true := by kernel_rfl
theorem can_19 : canCall Try.prog 19 = true := by kernel_rfl
theorem can_26 : canCall Try.prog 26 = true := by kernel_rfl
theorem can_27 : canCall Try.prog 27 = true := by kernel_rfl
theorem can_40 : canCall Try.prog 40 = true := by kernel_rfl
theorem can_41 : canCall Try.prog 41 = true := by kernel_rfl
theorem can_42 : canCall Try.prog 42 = true := by kernel_rfl
theorem can_45 : canCall Try.prog 45 = true := by kernel_rfl
theorem can_46 : canCall Try.prog 46 = true := by kernel_rfl
theorem can_47 : canCall Try.prog 47 = true := by kernel_rfl
theorem can_51 : canCall Try.prog 51 = true := by kernel_rfl
theorem can_52 : canCall Try.prog 52 = true := by kernel_rfl
theorem can_54 : canCall Try.prog 54 = true := by kernel_rfl
theorem can_57 : canCall Try.prog 57 = true := by kernel_rfl
theorem can_59 : canCall Try.prog 59 = true := by kernel_rfl
theorem can_61 : canCall Try.prog 61 = true := by kernel_rfl
theorem can_67 : canCall Try.prog 67 = true := by kernel_rfl
theorem can_68 : canCall Try.prog 68 = true := by kernel_rfl
theorem can_83 : canCall Try.prog 83 = true := by kernel_rfl
theorem can_90 : canCall Try.prog 90 = true := by kernel_rfl
theorem can_92 : canCall Try.prog 92 = true := by kernel_rfl
theorem can_93 : canCall Try.prog 93 = true := by kernel_rfl
theorem can_94 : canCall Try.prog 94 = true := by kernel_rfl
theorem can_95 : canCall Try.prog 95 = true := by kernel_rfl
theorem can_96 : canCall Try.prog 96 = true := by kernel_rfl
theorem can_97 : canCall Try.prog 97 = true := by kernel_rfl
theorem can_98 : canCall Try.prog 98 = true := by kernel_rfl
theorem can_99 : canCall Try.prog 99 = true := by kernel_rfl
theorem fo_24_0 : fieldOff Try.prog 24 0 = some 0 := by kernel_rfl
theorem fo_24_1 : fieldOff Try.prog 24 1 = some 1 := by kernel_rfl
theorem fo_24_2 : fieldOff Try.prog 24 2 = some 2 := by kernel_rfl
theorem fo_28_0 : fieldOff Try.prog 28 0 = some 0 := by kernel_rfl
theorem fo_28_1 : fieldOff Try.prog 28 1 = some 1 := by kernel_rfl
theorem fo_28_2 : fieldOff Try.prog 28 2 = some 2 := by kernel_rfl
theorem mixed : Try.prog.follows .mixedOrders = true := by kernel_rfl
theorem sc_2 : isScalar Try.prog 2 = true := by kernel_rfl
theorem sc_25 : isScalar Try.prog 25 = true := by kernel_rfl
theorem sc_49 : isScalar Try.prog 49 = true := by kernel_rfl
theorem sc_5 : isScalar Try.prog 5 = true := by kernel_rfl
theorem sc_62 : isScalar Try.prog 62 = true := by kernel_rfl
theorem sc_87 : isScalar Try.prog 87 = true := by kernel_rfl
theorem so_25 : sliceOf Try.prog 25 = some 1 := by kernel_rfl
theorem so_49 : sliceOf Try.prog 49 = some 1 := by kernel_rfl
theorem sz1_2 : (Try.prog.info? 2).map (·.size) = some 1 := by kernel_rfl
theorem sz1_25 : (Try.prog.info? 25).map (·.size) = some 1 := by kernel_rfl
theorem sz1_49 : (Try.prog.info? 49).map (·.size) = some 1 := by kernel_rfl
theorem sz1_5 : (Try.prog.info? 5).map (·.size) = some 1 := by kernel_rfl
theorem szn_22 : (Try.prog.info? 22).map (·.size) = some 136 := by kernel_rfl
theorem szn_28 : (Try.prog.info? 28).map (·.size) = some 138 := by kernel_rfl
theorem und_2 : Try.prog.underlying 2 = some (.int .i64) := by kernel_rfl
theorem und_22 : Try.prog.underlying 22 = some (.array 136 5) := by kernel_rfl
theorem und_25 : Try.prog.underlying 25 = some (.slice 2) := by kernel_rfl
theorem und_49 : Try.prog.underlying 49 = some (.slice 25) := by kernel_rfl
theorem und_5 : Try.prog.underlying 5 = some (.int .u8) := by kernel_rfl
theorem und_68 : Try.prog.underlying 68 = some (.int .u64) := by kernel_rfl
theorem zo_2 : zeroOf Try.prog 2 = some [.int .i64 0] := by kernel_rfl
theorem zo_22 : zeroOf Try.prog 22 = some (bytesC 136 (fun _ => 0)) := by kernel_rfl
theorem zo_25 : zeroOf Try.prog 25 = some [.slice none 0 0] := by kernel_rfl
theorem zo_28 : zeroOf Try.prog 28 = some (Col.cells Col.zero) := by kernel_rfl
theorem zo_49 : zeroOf Try.prog 49 = some [.slice none 0 0] := by kernel_rfl

end Go.Proofs.Ytdpamdedomkomaa.G
