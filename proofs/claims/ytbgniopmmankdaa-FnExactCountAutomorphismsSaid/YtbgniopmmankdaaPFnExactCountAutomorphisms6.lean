/- What the pure functions come to, one by one (part 6). -/
import Derived.Test.YtbgniopmmankdaaPFnExactCountAutomorphisms5
import Derived.Test.YtbgniopmmankdaaGFnExactCountAutomorphisms8
namespace Go.Proofs.Ytbgniopmmankdaa.P
open Go Go.RowKit Go.Proofs.Ytbgniopmmankdaa.K Go.Proofs.Ytbgniopmmankdaa.G
set_option linter.unusedVariables false
set_option linter.unusedSimpArgs false

theorem laws_FnExactCountAutomorphisms_run (x : Col) (hx : ByteC x) : Run (fun k => laws_FnExactCountAutomorphisms.f k x) (· = true) := by
  unfold laws_FnExactCountAutomorphisms.f
  have hx' := cutC_bytes hx
  refine Run.bindE (laws_toColouring_run x) ?_
  refine Run.bindE (spec_CountAutomorphisms_run _ hx') ?_
  refine Run.bindE (laws_toColouring_run x) ?_
  refine Run.bindE (impl_CountAutomorphisms_run _ hx') ?_
  exact Run.no (fun h => h rfl) (Run.no (fun h => h rfl) (Run.ret rfl))
end Go.Proofs.Ytbgniopmmankdaa.P
