/- What each Go function computes, as a Lean function, and the proof that it does: written by a program of this session (wip/gen), part 0. -/
import Derived.Test.YtbgniopmmankdaaProg
import Derived.KernelRfl
import Derived.Test.YtbgniopmmankdaaKF
namespace Go.Proofs.Ytbgniopmmankdaa.G
open Go Go.RowKit Go.Proofs.Ytbgniopmmankdaa.K
set_option linter.unusedVariables false
set_option linter.unusedSimpArgs false
theorem ag_22 : aggSize Try.prog 22 = some 136 := by kernel_rfl
theorem ag_24 : aggSize Try.prog 24 = some 138 := by kernel_rfl
theorem ag_27 : aggSize Try.prog 27 = some 138 := by kernel_rfl
theorem ap_35 : AppTy Try.prog 35 43 1 24 := apTy (by kernel_rfl) (by kernel_rfl) (by decide)
theorem ap_43 : AppTy Try.prog 43 2 1 8 := apTy (by kernel_rfl) (by kernel_rfl) (by decide)
theorem ar_22 : arrOf Try.prog 22 = some (136, 1) := by kernel_rfl
theorem ar_83 : arrOf Try.prog 83 = some (17, 1) := by kernel_rfl
theorem ar_84 : arrOf Try.prog 84 = some (17, 17) := by kernel_rfl
theorem bi_27 : buildInfo Try.prog 27 = some (Col.cells Col.zero, [(0, 1), (1, 1), (2, 136)]) := by kernel_rfl
theorem bi_45 : buildInfo Try.prog 45 = some (Col.cells Col.zero ++ (Col.cells Col.zero ++ [.slice none 0 0, .slice none 0 0, .int .i64 0, .int .i64 0, .slice none 0 0]), [(0, 138), (138, 138), (276, 1), (277, 1), (278, 1), (279, 1), (280, 1)]) := by kernel_rfl
theorem bi_86 : buildInfo Try.prog 86 = some ([.pointer none, .pointer none, .slice none 0 0] ++ (gridC 289 (fun _ => false)), [(0, 1), (1, 1), (2, 1), (3, 289)]) := by kernel_rfl
theorem by_2 : (Try.prog.info? 2).map (fun i => decide (i.bytes ≤ 1024)) = some true := by kernel_rfl
theorem by_4 : (Try.prog.info? 4).map (fun i => decide (i.bytes ≤ 1024)) = some true := by kernel_rfl
theorem can_15 : canCall Try.prog 15 = true := by kernel_rfl
theorem can_16 : canCall Try.prog 16 = true := by kernel_rfl
theorem can_17 : canCall Try.prog 17 = true := by kernel_rfl
theorem can_18 : canCall Try.prog 18 = true := by kernel_rfl
theorem can_19 : canCall Try.prog 19 = true := by kernel_rfl
theorem can_20 : canCall Try.prog 20 = true := by kernel_rfl
theorem can_22 : canCall Try.prog 22 = true := by kernel_rfl
theorem can_23 : canCall Try.prog 23 = true := by kernel_rfl
theorem can_24 : canCall Try.prog 24 = true := by kernel_rfl
theorem can_28 : canCall Try.prog 28 = true := by kernel_rfl
theorem can_36 : canCall Try.prog 36 = true := by kernel_rfl
theorem can_37 : canCall Try.prog 37 = true := by kernel_rfl
theorem can_38 : canCall Try.prog 38 = true := by kernel_rfl
theorem can_39 : canCall Try.prog 39 = true := by kernel_rfl
theorem can_40 : canCall Try.prog 40 = true := by kernel_rfl
theorem can_41 : canCall Try.prog 41 = true := by kernel_rfl
theorem can_42 : canCall Try.prog 42 = true := by kernel_rfl
theorem can_43 : canCall Try.prog 43 = true := by kernel_rfl
theorem can_44 : canCall Try.prog 44 = true := by kernel_rfl
theorem can_45 : canCall Try.prog 45 = true := by kernel_rfl
theorem can_46 : canCall Try.prog 46 = true := by kernel_rfl
theorem can_47 : canCall Try.prog 47 = true := by kernel_rfl
theorem can_49 : canCall Try.prog 49 = true := by kernel_rfl
theorem can_50 : canCall Try.prog 50 = true := by kernel_rfl
theorem can_51 : canCall Try.prog 51 = true := by kernel_rfl
theorem can_52 : canCall Try.prog 52 = true := by kernel_rfl
theorem can_57 : canCall Try.prog 57 = true := by kernel_rfl
theorem can_60 : canCall Try.prog 60 = true := by kernel_rfl
theorem can_61 : canCall Try.prog 61 = true := by kernel_rfl
theorem can_62 : canCall Try.prog 62 = true := by kernel_rfl
theorem can_63 : canCall Try.prog 63 = true := by kernel_rfl
theorem can_64 : canCall Try.prog 64 = true := by kernel_rfl
theorem can_65 : canCall Try.prog 65 = true := by kernel_rfl
theorem can_66 : canCall Try.prog 66 = true := by kernel_rfl
theorem can_67 : canCall Try.prog 67 = true := by kernel_rfl
theorem can_68 : canCall Try.prog 68 = true := by kernel_rfl
theorem can_71 : canCall Try.prog 71 = true := by kernel_rfl
theorem can_8 : canCall Try.prog 8 = true := by kernel_rfl
theorem fo_24_0 : fieldOff Try.prog 24 0 = some 0 := by kernel_rfl
theorem fo_24_1 : fieldOff Try.prog 24 1 = some 1 := by kernel_rfl
theorem fo_24_2 : fieldOff Try.prog 24 2 = some 2 := by kernel_rfl
theorem fo_27_0 : fieldOff Try.prog 27 0 = some 0 := by kernel_rfl
theorem fo_27_1 : fieldOff Try.prog 27 1 = some 1 := by kernel_rfl
theorem fo_27_2 : fieldOff Try.prog 27 2 = some 2 := by kernel_rfl
theorem fo_45_0 : fieldOff Try.prog 45 0 = some 0 := by kernel_rfl
theorem fo_45_1 : fieldOff Try.prog 45 1 = some 138 := by kernel_rfl
theorem fo_45_2 : fieldOff Try.prog 45 2 = some 276 := by kernel_rfl
theorem fo_45_3 : fieldOff Try.prog 45 3 = some 277 := by kernel_rfl
theorem fo_45_4 : fieldOff Try.prog 45 4 = some 278 := by kernel_rfl
theorem fo_45_5 : fieldOff Try.prog 45 5 = some 279 := by kernel_rfl
theorem fo_45_6 : fieldOff Try.prog 45 6 = some 280 := by kernel_rfl
theorem fo_86_0 : fieldOff Try.prog 86 0 = some 0 := by kernel_rfl
theorem fo_86_1 : fieldOff Try.prog 86 1 = some 1 := by kernel_rfl
theorem fo_86_2 : fieldOff Try.prog 86 2 = some 2 := by kernel_rfl
theorem fo_86_3 : fieldOff Try.prog 86 3 = some 3 := by kernel_rfl
theorem mixed : Try.prog.follows .mixedOrders = true := by kernel_rfl
theorem sc_2 : isScalar Try.prog 2 = true := by kernel_rfl
theorem sc_4 : isScalar Try.prog 4 = true := by kernel_rfl
theorem sc_43 : isScalar Try.prog 43 = true := by kernel_rfl
theorem sc_5 : isScalar Try.prog 5 = true := by kernel_rfl
theorem sc_50 : isScalar Try.prog 50 = true := by kernel_rfl
theorem so_35 : sliceOf Try.prog 35 = some 1 := by kernel_rfl
theorem so_43 : sliceOf Try.prog 43 = some 1 := by kernel_rfl
theorem so_59 : sliceOf Try.prog 59 = some 1 := by kernel_rfl
theorem sz1_2 : (Try.prog.info? 2).map (·.size) = some 1 := by kernel_rfl
theorem sz1_4 : (Try.prog.info? 4).map (·.size) = some 1 := by kernel_rfl
theorem sz1_43 : (Try.prog.info? 43).map (·.size) = some 1 := by kernel_rfl
theorem sz1_5 : (Try.prog.info? 5).map (·.size) = some 1 := by kernel_rfl
theorem szn_22 : (Try.prog.info? 22).map (·.size) = some 136 := by kernel_rfl
theorem szn_27 : (Try.prog.info? 27).map (·.size) = some 138 := by kernel_rfl
theorem und_2 : Try.prog.underlying 2 = some (.int .i64) := by kernel_rfl
theorem und_22 : Try.prog.underlying 22 = some (.array 136 5) := by kernel_rfl
theorem und_35 : Try.prog.underlying 35 = some (.slice 43) := by kernel_rfl
theorem und_43 : Try.prog.underlying 43 = some (.slice 2) := by kernel_rfl
theorem und_5 : Try.prog.underlying 5 = some (.int .u8) := by kernel_rfl
theorem und_59 : Try.prog.underlying 59 = some (.slice 4) := by kernel_rfl
theorem und_88 : Try.prog.underlying 88 = some (.int .u64) := by kernel_rfl
theorem zo_2 : zeroOf Try.prog 2 = some [.int .i64 0] := by kernel_rfl
theorem zo_22 : zeroOf Try.prog 22 = some (bytesC 136 (fun _ => 0)) := by kernel_rfl
theorem zo_27 : zeroOf Try.prog 27 = some (Col.cells Col.zero) := by kernel_rfl
theorem zo_4 : zeroOf Try.prog 4 = some [.bool false] := by kernel_rfl
theorem zo_43 : zeroOf Try.prog 43 = some [.slice none 0 0] := by kernel_rfl

end Go.Proofs.Ytbgniopmmankdaa.G
