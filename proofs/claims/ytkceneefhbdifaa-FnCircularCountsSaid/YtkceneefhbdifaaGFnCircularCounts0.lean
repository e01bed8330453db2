/- What each Go function computes, as a Lean function, and the proof that it does: written by a program of this session (wip/gen), part 0. -/
import Derived.Test.YtkceneefhbdifaaProg
import Derived.KernelRfl
import Derived.Test.YtkceneefhbdifaaKF
namespace Go.Proofs.Ytkceneefhbdifaa.G
open Go Go.RowKit Go.Proofs.Ytkceneefhbdifaa.K
set_option linter.unusedVariables false
set_option linter.unusedSimpArgs false
theorem ag_27 : aggSize Try.prog 27 = some 136 := by kernel_rfl
theorem ag_29 : aggSize Try.prog 29 = some 138 := by kernel_rfl
theorem ap_24 : AppTy Try.prog 24 2 1 8 := apTy (by kernel_rfl) (by kernel_rfl) (by decide)
theorem ap_46 : AppTy Try.prog 46 29 138 152 := apTyN (by kernel_rfl) (by kernel_rfl) (by decide)
theorem ar_27 : arrOf Try.prog 27 = some (136, 1) := by kernel_rfl
theorem bi_29 : buildInfo Try.prog 29 = some (Col.cells Col.zero, [(0, 1), (1, 1), (2, 136)]) := by kernel_rfl
theorem bi_58 : buildInfo Try.prog 58 = some ([.slice none 0 0, .int .i64 0, .int .u64 0], [(0, 1), (1, 1), (2, 1)]) := by kernel_rfl
theorem can_10 : canCall Try.prog 10 = true := by kernel_rfl
theorem can_11 : canCall Try.prog 11 = true := by kernel_rfl
theorem can_12 : canCall Try.prog 12 = true := by kernel_rfl
theorem can_13 : canCall Try.prog 13 = true := by kernel_rfl
theorem can_14 : canCall Try.prog 14 = true := by kernel_rfl
theorem can_15 : canCall Try.prog 15 = true := by kernel_rfl
theorem can_16 : canCall Try.prog 16 = true := by kernel_rfl
theorem can_17 : canCall Try.prog 17 = true := by kernel_rfl
theorem can_18 : canCall Try.prog 18 = true := by kernel_rfl
theorem can_19 : canCall Try.prog 19 = true := by kernel_rfl
theorem can_20 : canCall Try.prog 20 = true := by kernel_rfl
theorem can_21 : canCall Try.prog 21 = true := by kernel_rfl
theorem can_22 : canCall Try.prog 22 = true := by kernel_rfl
theorem can_23 : canCall Try.prog 23 = true := by kernel_rfl
theorem can_24 : canCall Try.prog 24 = true := by kernel_rfl
theorem can_25 : canCall Try.prog 25 = true := by kernel_rfl
theorem can_26 : canCall Try.prog 26 = true := by kernel_rfl
theorem can_27 : canCall Try.prog 27 = true := by kernel_rfl
theorem can_28 : canCall Try.prog 28 = true := by kernel_rfl
theorem can_29 : canCall Try.prog 29 = true := by kernel_rfl
theorem can_30 : canCall Try.prog 30 = true := by kernel_rfl
theorem can_31 : canCall Try.prog 31 = true := by kernel_rfl
theorem can_32 : canCall Try.prog 32 = true := by kernel_rfl
theorem can_33 : canCall Try.prog 33 = true := by kernel_rfl
theorem can_34 : canCall Try.prog 34 = true := by kernel_rfl
theorem can_35 : canCall Try.prog 35 = true := by kernel_rfl
theorem can_36 : canCall Try.prog 36 = true := by kernel_rfl
theorem can_37 : canCall Try.prog 37 = true := by kernel_rfl
theorem can_38 : canCall Try.prog 38 = true := by kernel_rfl
theorem can_39 : canCall Try.prog 39 = true := by kernel_rfl
theorem can_4 : canCall Try.prog 4 = true := by kernel_rfl
theorem can_40 : canCall Try.prog 40 = true := by kernel_rfl
theorem can_41 : canCall Try.prog 41 = true := by kernel_rfl
theorem can_42 : canCall Try.prog 42 = true := by kernel_rfl
theorem can_43 : canCall Try.prog 43 = true := by kernel_rfl
theorem can_44 : canCall Try.prog 44 = true := by kernel_rfl
theorem can_45 : canCall Try.prog 45 = true := by kernel_rfl
theorem can_46 : canCall Try.prog 46 = true := by kernel_rfl
theorem can_47 : canCall Try.prog 47 = true := by kernel_rfl
theorem can_48 : canCall Try.prog 48 = true := by kernel_rfl
theorem can_49 : canCall Try.prog 49 = true := by kernel_rfl
theorem can_5 : canCall Try.prog 5 = true := by kernel_rfl
theorem can_50 : canCall Try.prog 50 = true := by kernel_rfl
theorem can_51 : canCall Try.prog 51 = true := by kernel_rfl
theorem can_52 : canCall Try.prog 52 = true := by kernel_rfl
theorem can_53 : canCall Try.prog 53 = true := by kernel_rfl
theorem can_54 : canCall Try.prog 54 = true := by kernel_rfl
theorem can_55 : canCall Try.prog 55 = true := by kernel_rfl
theorem can_56 : canCall Try.prog 56 = true := by kernel_rfl
theorem can_57 : canCall Try.prog 57 = true := by kernel_rfl
theorem can_58 : canCall Try.prog 58 = true := by kernel_rfl
theorem can_59 : canCall Try.prog 59 = true := by kernel_rfl
theorem can_6 : canCall Try.prog 6 = true := by kernel_rfl
theorem can_60 : canCall Try.prog 60 = true := by kernel_rfl
theorem can_61 : canCall Try.prog 61 = true := by kernel_rfl
theorem can_62 : canCall Try.prog 62 = true := by kernel_rfl
theorem can_63 : canCall Try.prog 63 = true := by kernel_rfl
theorem can_7 : canCall Try.prog 7 = true := by kernel_rfl
theorem can_8 : canCall Try.prog 8 = true := by kernel_rfl
theorem can_9 : canCall Try.prog 9 = true := by kernel_rfl
theorem ct_29 : colTy Try.prog 29 = true := by kernel_rfl
theorem fo_29_0 : fieldOff Try.prog 29 0 = some 0 := by kernel_rfl
theorem fo_29_1 : fieldOff Try.prog 29 1 = some 1 := by kernel_rfl
theorem fo_29_2 : fieldOff Try.prog 29 2 = some 2 := by kernel_rfl
theorem fo_58_0 : fieldOff Try.prog 58 0 = some 0 := by kernel_rfl
theorem fo_58_1 : fieldOff Try.prog 58 1 = some 1 := by kernel_rfl
theorem fo_58_2 : fieldOff Try.prog 58 2 = some 2 := by kernel_rfl
theorem mixed : Try.prog.follows .mixedOrders = true := by kernel_rfl
theorem sc_2 : isScalar Try.prog 2 = true := by kernel_rfl
theorem sc_22 : isScalar Try.prog 22 = true := by kernel_rfl
theorem sc_24 : isScalar Try.prog 24 = true := by kernel_rfl
theorem sc_3 : isScalar Try.prog 3 = true := by kernel_rfl
theorem sc_5 : isScalar Try.prog 5 = true := by kernel_rfl
theorem sc_52 : isScalar Try.prog 52 = true := by kernel_rfl
theorem sc_56 : isScalar Try.prog 56 = true := by kernel_rfl
theorem sc_63 : isScalar Try.prog 63 = true := by kernel_rfl
theorem so_22 : sliceOf Try.prog 22 = some 1 := by kernel_rfl
theorem so_24 : sliceOf Try.prog 24 = some 1 := by kernel_rfl
theorem so_46 : sliceOf Try.prog 46 = some 138 := by kernel_rfl
theorem sz1_2 : (Try.prog.info? 2).map (·.size) = some 1 := by kernel_rfl
theorem sz1_24 : (Try.prog.info? 24).map (·.size) = some 1 := by kernel_rfl
theorem sz1_3 : (Try.prog.info? 3).map (·.size) = some 1 := by kernel_rfl
theorem sz1_5 : (Try.prog.info? 5).map (·.size) = some 1 := by kernel_rfl
theorem sz1_56 : (Try.prog.info? 56).map (·.size) = some 1 := by kernel_rfl
theorem szn_29 : (Try.prog.info? 29).map (·.size) = some 138 := by kernel_rfl
theorem und_2 : Try.prog.underlying 2 = some (.int .i64) := by kernel_rfl
theorem und_22 : Try.prog.underlying 22 = some (.slice 5) := by kernel_rfl
theorem und_24 : Try.prog.underlying 24 = some (.slice 2) := by kernel_rfl
theorem und_27 : Try.prog.underlying 27 = some (.array 136 5) := by kernel_rfl
theorem und_3 : Try.prog.underlying 3 = some (.int .i64) := by kernel_rfl
theorem und_4 : Try.prog.underlying 4 = some (.bool) := by kernel_rfl
theorem und_46 : Try.prog.underlying 46 = some (.slice 29) := by kernel_rfl
theorem und_5 : Try.prog.underlying 5 = some (.int .u8) := by kernel_rfl
theorem und_56 : Try.prog.underlying 56 = some (.int .u64) := by kernel_rfl
theorem zo_2 : zeroOf Try.prog 2 = some [.int .i64 0] := by kernel_rfl
theorem zo_24 : zeroOf Try.prog 24 = some [.slice none 0 0] := by kernel_rfl
theorem zo_29 : zeroOf Try.prog 29 = some (Col.cells Col.zero) := by kernel_rfl

end Go.Proofs.Ytkceneefhbdifaa.G
