/- What the pure functions come to, one by one (part 3). -/
import Derived.Test.YtfhbamlpnicomaaPFnExactTakePoint2
import Derived.Test.YtfhbamlpnicomaaGFnExactTakePoint5
namespace Go.Proofs.Ytfhbamlpnicomaa.P
open Go Go.RowKit Go.Proofs.Ytfhbamlpnicomaa.K Go.Proofs.Ytfhbamlpnicomaa.G
set_option linter.unusedVariables false
set_option linter.unusedSimpArgs false

theorem impl_TakePoint_run (x : Col) (hx : ByteC x) (p : Int) : Run (fun k => impl_TakePoint.f k x p) (· = takeM x p) := by
  unfold impl_TakePoint.f
  refine Run.bindE (impl_Colouring_code__TakePoint_1_run x hx p) ?_
  rw [takeM]
  refine Run.itn (fun h => ?_) (fun h => ?_)
  · exact Run.ret (by rw [if_neg h])
  have hc := isB_spec (given_zero h).1
  have hp := hc.1
  rw [if_pos h]
  refine Run.ite (fun h4 => Run.ret (by rw [if_pos h4])) (fun h4 => ?_)
  rw [if_neg h4]
  refine Run.bindE (impl_Colouring_that__TakePoint_2_run x hx (by omega) p) ?_
  refine Run.bindE (impl_Colouring_part_run x hx (by omega) _ (points_sel hp.2 _ (by omega))) ?_
  exact Run.ret rfl

theorem laws_eqByteA136_run (e : Nat → Int) : Run (fun k => laws_eqByteA136.f k e e) (· = true) := by
  unfold laws_eqByteA136.f
  refine Run.loop (L := fun q (i : Int) => laws_eqByteA136.l0 q e e i) (fun i => (136 - i).toNat) (fun i => 0 ≤ i ∧ i ≤ 136) ?_ 0 ⟨by omega, by omega⟩
  rintro i ⟨h0, h3⟩ ih
  simp only [laws_eqByteA136.l0]
  refine Run.ite (fun h => ?_) (fun h => ?_)
  · refine Run.bindE (Run.getB' h0 h) ?_
    refine Run.bindE (Run.getB' h0 h) ?_
    refine Run.no (fun hn => hn rfl) ?_
    rw [w64_id (by omega)]
    exact ih (i + 1) ⟨by omega, by omega⟩ (by omega)
  · exact Run.ret rfl

theorem laws_eqColouring_run (a : Col) : Run (fun k => laws_eqColouring.f k a a) (· = true) := by
  unfold laws_eqColouring.f
  refine Run.no (fun h => h rfl) (Run.no (fun h => h rfl) ?_)
  refine Run.bindE (laws_eqByteA136_run a.e) ?_
  exact Run.yes rfl (Run.ret rfl)

theorem laws_FnExactTakePoint_run (x : Col) (p : Int) (hx : ByteC x) (_ : I64 p) : Run (fun k => laws_FnExactTakePoint.f k x p) (· = true) := by
  unfold laws_FnExactTakePoint.f
  have hx' := cutC_bytes hx
  refine Run.bindE (laws_toColouring_run x) ?_
  refine Run.bindE (spec_TakePoint_run _ hx' p) ?_
  refine Run.bindE (laws_toColouring_run x) ?_
  refine Run.bindE (impl_TakePoint_run _ hx' p) ?_
  refine Run.bindE (laws_eqColouring_run _) ?_
  exact Run.yes rfl (Run.no (fun h => h rfl) (Run.ret rfl))
end Go.Proofs.Ytfhbamlpnicomaa.P
