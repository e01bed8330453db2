/- What each Go function computes, as a Lean function, and the proof that it does: written by a program of this session (wip/gen), part 0. -/
import Derived.Test.YtjhcacfhahpdgaaProg
import Derived.KernelRfl
import Derived.Test.YtjhcacfhahpdgaaKC
namespace Go.Proofs.Ytjhcacfhahpdgaa.G
open Go Go.RowKit Go.Proofs.Ytjhcacfhahpdgaa.K
set_option linter.unusedVariables false
set_option linter.unusedSimpArgs false
theorem ag_22 : aggSize Try.prog 22 = some 136 := by kernel_rfl
theorem ag_24 : aggSize Try.prog 24 = some 138 := by kernel_rfl
theorem ag_28 : aggSize Try.prog 28 = some 138 := by kernel_rfl
theorem ap_25 : AppTy Try.prog 25 2 1 8 := apTy (by kernel_rfl) (by kernel_rfl) (by decide)
theorem ar_22 : arrOf Try.prog 22 = some (136, 1) := by kernel_rfl
theorem by_2 : (Try.prog.info? 2).map (fun i => decide (i.bytes ≤ 1024)) = some true := by kernel_rfl
theorem by_4 : (Try.prog.info? 4).map (fun i => decide (i.bytes ≤ 1024)) = some true := by kernel_rfl
theorem can_10 : canCall Try.prog 10 = true := by kernel_rfl
theorem can_11 : canCall Try.prog 11 = true := by kernel_rfl
theorem can_12 : canCall Try.prog 12 = true := by kernel_rfl
theorem can_20 : canCall Try.prog 20 = true := by kernel_rfl
theorem can_21 : canCall Try.prog 21 = true := by kernel_rfl
theorem can_22 : canCall Try.prog 22 = true := by kernel_rfl
theorem can_23 : canCall Try.prog 23 = true := by kernel_rfl
theorem can_24 : canCall Try.prog 24 = true := by kernel_rfl
theorem can_25 : canCall Try.prog 25 = true := by kernel_rfl
theorem can_26 : canCall Try.prog 26 = true := by kernel_rfl
theorem can_27 : canCall Try.prog 27 = true := by kernel_rfl
theorem can_29 : canCall Try.prog 29 = true := by kernel_rfl
theorem can_33 : canCall Try.prog 33 = true := by kernel_rfl
theorem can_34 : canCall Try.prog 34 = true := by kernel_rfl
theorem can_35 : canCall Try.prog 35 = true := by kernel_rfl
theorem can_36 : canCall Try.prog 36 = true := by kernel_rfl
theorem can_37 : canCall Try.prog 37 = true := by kernel_rfl
theorem can_38 : canCall Try.prog 38 = true := by kernel_rfl
theorem can_39 : canCall Try.prog 39 = true := by kernel_rfl
theorem can_40 : canCall Try.prog 40 = true := by kernel_rfl
theorem can_42 : canCall Try.prog 42 = true := by kernel_rfl
theorem can_43 : canCall Try.prog 43 = true := by kernel_rfl
theorem can_44 : canCall Try.prog 44 = true := by kernel_rfl
theorem can_46 : canCall Try.prog 46 = true := by kernel_rfl
theorem can_50 : canCall Try.prog 50 = true := by kernel_rfl
theorem can_51 : canCall Try.prog 51 = true := by kernel_rfl
theorem can_52 : canCall Try.prog 52 = true := by kernel_rfl
theorem can_53 : canCall Try.prog 53 = true := by kernel_rfl
theorem can_54 : canCall Try.prog 54 = true := by kernel_rfl
theorem can_55 : canCall Try.prog 55 = true := by kernel_rfl
theorem can_56 : canCall Try.prog 56 = true := by kernel_rfl
theorem can_59 : canCall Try.prog 59 = true := by kernel_rfl
theorem can_60 : canCall Try.prog 60 = true := by kernel_rfl
theorem can_61 : canCall Try.prog 61 = true := by kernel_rfl
theorem can_62 : canCall Try.prog 62 = true := by kernel_rfl
theorem can_63 : canCall Try.prog 63 = true := by kernel_rfl
theorem can_64 : canCall Try.prog 64 = true := by kernel_rfl
theorem can_8 : canCall Try.prog 8 = true := by kernel_rfl
theorem fo_24_0 : fieldOff Try.prog 24 0 = some 0 := by kernel_rfl
theorem fo_24_1 : fieldOff Try.prog 24 1 = some 1 := by kernel_rfl
theorem fo_24_2 : fieldOff Try.prog 24 2 = some 2 := by kernel_rfl
theorem fo_28_0 : fieldOff Try.prog 28 0 = some 0 := by kernel_rfl
theorem fo_28_1 : fieldOff Try.prog 28 1 = some 1 := by kernel_rfl
theorem fo_28_2 : fieldOff Try.prog 28 2 = some 2 := by kernel_rfl
theorem mixed : Try.prog.follows .mixedOrders = true := by kernel_rfl
theorem sc_2 : isScalar Try.prog 2 = true := by kernel_rfl
theorem sc_4 : isScalar Try.prog 4 = true := by kernel_rfl
theorem sc_5 : isScalar Try.prog 5 = true := by kernel_rfl
theorem sc_55 : isScalar Try.prog 55 = true := by kernel_rfl
theorem so_25 : sliceOf Try.prog 25 = some 1 := by kernel_rfl
theorem so_52 : sliceOf Try.prog 52 = some 1 := by kernel_rfl
theorem sz1_2 : (Try.prog.info? 2).map (·.size) = some 1 := by kernel_rfl
theorem sz1_4 : (Try.prog.info? 4).map (·.size) = some 1 := by kernel_rfl
theorem sz1_5 : (Try.prog.info? 5).map (·.size) = some 1 := by kernel_rfl
theorem szn_22 : (Try.prog.info? 22).map (·.size) = some 136 := by kernel_rfl
theorem szn_28 : (Try.prog.info? 28).map (·.size) = some 138 := by kernel_rfl
theorem und_2 : Try.prog.underlying 2 = some (.int .i64) := by kernel_rfl
theorem und_22 : Try.prog.underlying 22 = some (.array 136 5) := by kernel_rfl
theorem und_25 : Try.prog.underlying 25 = some (.slice 2) := by kernel_rfl
theorem und_5 : Try.prog.underlying 5 = some (.int .u8) := by kernel_rfl
theorem und_52 : Try.prog.underlying 52 = some (.slice 4) := by kernel_rfl
theorem und_53 : Try.prog.underlying 53 = some (.int .u64) := by kernel_rfl
theorem zo_2 : zeroOf Try.prog 2 = some [.int .i64 0] := by kernel_rfl
theorem zo_22 : zeroOf Try.prog 22 = some (bytesC 136 (fun _ => 0)) := by kernel_rfl
theorem zo_28 : zeroOf Try.prog 28 = some (Col.cells Col.zero) := by kernel_rfl
theorem zo_4 : zeroOf Try.prog 4 = some [.bool false] := by kernel_rfl

end Go.Proofs.Ytjhcacfhahpdgaa.G
