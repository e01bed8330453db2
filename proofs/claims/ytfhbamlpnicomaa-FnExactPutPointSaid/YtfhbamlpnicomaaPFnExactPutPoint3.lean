/- What the pure functions come to, one by one (part 3). -/
import Derived.Test.YtfhbamlpnicomaaPFnExactPutPoint2
import Derived.Test.YtfhbamlpnicomaaGFnExactPutPoint4
namespace Go.Proofs.Ytfhbamlpnicomaa.P
open Go Go.RowKit Go.Proofs.Ytfhbamlpnicomaa.K Go.Proofs.Ytfhbamlpnicomaa.G
set_option linter.unusedVariables false
set_option linter.unusedSimpArgs false

theorem laws_FnExactPutPoint_run (x : Col) (l : List Int) (hx : ByteC x) (_ : Big l) : Run (fun k => laws_FnExactPutPoint.f k x l) (· = true) := by
  unfold laws_FnExactPutPoint.f
  have hx' := cutC_bytes hx
  refine Run.ite (fun _ => Run.ret rfl) (fun hlen => ?_)
  refine Run.bindE (laws_toColouring_run x) ?_
  refine Run.bindE (laws_toInt64S_run l (by omega)) ?_
  refine Run.bindE (spec_PutPoint_run _ hx' l (by omega)) ?_
  refine Run.bindE (laws_toInt64S_run l (by omega)) ?_
  refine Run.bindE (laws_toColouring_run x) ?_
  refine Run.bindE (impl_PutPoint_run _ hx' l (by omega)) ?_
  refine Run.bindE (laws_eqColouring_run _) ?_
  refine Run.yes rfl (Run.no (fun h => h rfl) ?_)
  refine Run.bindE (laws_toInt64S_run l (by omega)) ?_
  refine Run.bindE (laws_eqInt64S_run _ _ (by omega)) ?_
  exact Run.yes (decide_eq_true rfl) (Run.ret rfl)
end Go.Proofs.Ytfhbamlpnicomaa.P
