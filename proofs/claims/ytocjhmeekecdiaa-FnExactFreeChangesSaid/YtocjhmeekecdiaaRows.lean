/-
  No cell of these rows narrows 'for every input' (looked for: loops, veiled, ifaces, maps, wideKeys, modest, calm, conditions, laid).
  DERIVED. THE GIVEN ROWS OF THIS SEAT. 6 by the template 'for every input the law returns true; each argument reads behind the call as it read before'; 0 by the template 'total and deterministic' (their statements: YtocjhmeekecdiaaTotals.lean).
  GIVEN WITH THE SEED: the statements are not yours to turn. If you find one false, say at which input.
  Laid BY PROGRAM, IN A SANDBOX (cutbox-rows.mjs): the forced cells as the released guide's own fill.sh prints them over the translation 745aaf8ed1cd26fd… (all of the seat's roots in one cut). By AI agents, Wed Nov 11 2026. No macro, syntax, notation, axiom, sorry.
-/
import Derived.Test.YtocjhmeekecdiaaChecked
import GoSem.Claim
import GoSem.ClaimJoined
import GoSem.ClaimMapViews
import Derived.JoinedTies
import Derived.KernelRfl
namespace Go.Proofs.Ytocjhmeekecdiaa
/- THE CELL 'sum', in the pinned program and in every row, IS THE sha256 OF THE DUMP (.gsa) THAT YtocjhmeekecdiaaProg.lean LOADS. Nothing in Lean hashes anything: it is a label: what it is worth is what the hold of that sum in a sandbox is worth. -/
noncomputable def Try.pinned : Pinned := { name := "ytocjhmeekecdiaa", sum := "745aaf8ed1cd26fdbd207dcbd567d91ce635ae87c0953e3fd0e10963b48df6be", checked := Try.checked }
namespace Rows
def none {H : Type} : Left H := { results := [], args := [] }

/-- 'laws.FnExactFirstExtension': WHATEVER THE INPUT: true; the input reads as it did. -/
def fnExactFirstExtensionSpec : ChangeSpec := { name := "fnExactFirstExtension", fn := fun _ => fun
  | [d1, d2] => { results := [.lit (.bool true)], args := [d1, d2] }
  | _ => none }
def fnExactFirstExtensionRow : OpenClaim := { program := "ytocjhmeekecdiaa", sum := "745aaf8ed1cd26fdbd207dcbd567d91ce635ae87c0953e3fd0e10963b48df6be", func := "loop.example/g01362/laws.FnExactFirstExtension", spec := "fnExactFirstExtension", unfollowed := true, recurses := true, apart := false }
def FnExactFirstExtensionSaid : Prop := fnExactFirstExtensionRow.holds Try.pinned (OpenSpec.ofChange fnExactFirstExtensionSpec)

/-- ITS FALSE NEIGHBOUR: 'it returns false'. Refute it at one input. -/
def fnExactFirstExtensionWrong : ChangeSpec := { name := "fnExactFirstExtension", fn := fun _ => fun
  | [d1, d2] => { results := [.lit (.bool false)], args := [d1, d2] }
  | _ => none }
def FnExactFirstExtensionWrongFalsely : Prop := fnExactFirstExtensionRow.holds Try.pinned (OpenSpec.ofChange fnExactFirstExtensionWrong)

/-- 'laws.FnExactIsExtension': WHATEVER THE INPUT: true; the input reads as it did. -/
def fnExactIsExtensionSpec : ChangeSpec := { name := "fnExactIsExtension", fn := fun _ => fun
  | [d1, d2, d3] => { results := [.lit (.bool true)], args := [d1, d2, d3] }
  | _ => none }
def fnExactIsExtensionRow : OpenClaim := { program := "ytocjhmeekecdiaa", sum := "745aaf8ed1cd26fdbd207dcbd567d91ce635ae87c0953e3fd0e10963b48df6be", func := "loop.example/g01362/laws.FnExactIsExtension", spec := "fnExactIsExtension", unfollowed := true, recurses := true, apart := false }
def FnExactIsExtensionSaid : Prop := fnExactIsExtensionRow.holds Try.pinned (OpenSpec.ofChange fnExactIsExtensionSpec)

/-- ITS FALSE NEIGHBOUR: 'it returns false'. Refute it at one input. -/
def fnExactIsExtensionWrong : ChangeSpec := { name := "fnExactIsExtension", fn := fun _ => fun
  | [d1, d2, d3] => { results := [.lit (.bool false)], args := [d1, d2, d3] }
  | _ => none }
def FnExactIsExtensionWrongFalsely : Prop := fnExactIsExtensionRow.holds Try.pinned (OpenSpec.ofChange fnExactIsExtensionWrong)

/-- 'laws.FnExactIsClosed': WHATEVER THE INPUT: true; the input reads as it did. -/
def fnExactIsClosedSpec : ChangeSpec := { name := "fnExactIsClosed", fn := fun _ => fun
  | [d1, d2] => { results := [.lit (.bool true)], args := [d1, d2] }
  | _ => none }
def fnExactIsClosedRow : OpenClaim := { program := "ytocjhmeekecdiaa", sum := "745aaf8ed1cd26fdbd207dcbd567d91ce635ae87c0953e3fd0e10963b48df6be", func := "loop.example/g01362/laws.FnExactIsClosed", spec := "fnExactIsClosed", unfollowed := true, recurses := true, apart := false }
def FnExactIsClosedSaid : Prop := fnExactIsClosedRow.holds Try.pinned (OpenSpec.ofChange fnExactIsClosedSpec)

/-- ITS FALSE NEIGHBOUR: 'it returns false'. Refute it at one input. -/
def fnExactIsClosedWrong : ChangeSpec := { name := "fnExactIsClosed", fn := fun _ => fun
  | [d1, d2] => { results := [.lit (.bool false)], args := [d1, d2] }
  | _ => none }
def FnExactIsClosedWrongFalsely : Prop := fnExactIsClosedRow.holds Try.pinned (OpenSpec.ofChange fnExactIsClosedWrong)

/-- 'laws.FnExactFreeChanges': WHATEVER THE INPUT: true; the input reads as it did. -/
def fnExactFreeChangesSpec : ChangeSpec := { name := "fnExactFreeChanges", fn := fun _ => fun
  | [d1, d2] => { results := [.lit (.bool true)], args := [d1, d2] }
  | _ => none }
def fnExactFreeChangesRow : OpenClaim := { program := "ytocjhmeekecdiaa", sum := "745aaf8ed1cd26fdbd207dcbd567d91ce635ae87c0953e3fd0e10963b48df6be", func := "loop.example/g01362/laws.FnExactFreeChanges", spec := "fnExactFreeChanges", unfollowed := true, recurses := true, apart := false }
def FnExactFreeChangesSaid : Prop := fnExactFreeChangesRow.holds Try.pinned (OpenSpec.ofChange fnExactFreeChangesSpec)

/-- ITS FALSE NEIGHBOUR: 'it returns false'. Refute it at one input. -/
def fnExactFreeChangesWrong : ChangeSpec := { name := "fnExactFreeChanges", fn := fun _ => fun
  | [d1, d2] => { results := [.lit (.bool false)], args := [d1, d2] }
  | _ => none }
def FnExactFreeChangesWrongFalsely : Prop := fnExactFreeChangesRow.holds Try.pinned (OpenSpec.ofChange fnExactFreeChangesWrong)

/-- 'laws.FnExactCountExtensions': WHATEVER THE INPUT: true; the input reads as it did. -/
def fnExactCountExtensionsSpec : ChangeSpec := { name := "fnExactCountExtensions", fn := fun _ => fun
  | [d1, d2] => { results := [.lit (.bool true)], args := [d1, d2] }
  | _ => none }
def fnExactCountExtensionsRow : OpenClaim := { program := "ytocjhmeekecdiaa", sum := "745aaf8ed1cd26fdbd207dcbd567d91ce635ae87c0953e3fd0e10963b48df6be", func := "loop.example/g01362/laws.FnExactCountExtensions", spec := "fnExactCountExtensions", unfollowed := true, recurses := true, apart := false }
def FnExactCountExtensionsSaid : Prop := fnExactCountExtensionsRow.holds Try.pinned (OpenSpec.ofChange fnExactCountExtensionsSpec)

/-- ITS FALSE NEIGHBOUR: 'it returns false'. Refute it at one input. -/
def fnExactCountExtensionsWrong : ChangeSpec := { name := "fnExactCountExtensions", fn := fun _ => fun
  | [d1, d2] => { results := [.lit (.bool false)], args := [d1, d2] }
  | _ => none }
def FnExactCountExtensionsWrongFalsely : Prop := fnExactCountExtensionsRow.holds Try.pinned (OpenSpec.ofChange fnExactCountExtensionsWrong)

/-- 'laws.FnExactExtensionsByDegree': WHATEVER THE INPUT: true; the input reads as it did. -/
def fnExactExtensionsByDegreeSpec : ChangeSpec := { name := "fnExactExtensionsByDegree", fn := fun _ => fun
  | [d1, d2] => { results := [.lit (.bool true)], args := [d1, d2] }
  | _ => none }
def fnExactExtensionsByDegreeRow : OpenClaim := { program := "ytocjhmeekecdiaa", sum := "745aaf8ed1cd26fdbd207dcbd567d91ce635ae87c0953e3fd0e10963b48df6be", func := "loop.example/g01362/laws.FnExactExtensionsByDegree", spec := "fnExactExtensionsByDegree", unfollowed := true, recurses := true, apart := false }
def FnExactExtensionsByDegreeSaid : Prop := fnExactExtensionsByDegreeRow.holds Try.pinned (OpenSpec.ofChange fnExactExtensionsByDegreeSpec)

/-- ITS FALSE NEIGHBOUR: 'it returns false'. Refute it at one input. -/
def fnExactExtensionsByDegreeWrong : ChangeSpec := { name := "fnExactExtensionsByDegree", fn := fun _ => fun
  | [d1, d2] => { results := [.lit (.bool false)], args := [d1, d2] }
  | _ => none }
def FnExactExtensionsByDegreeWrongFalsely : Prop := fnExactExtensionsByDegreeRow.holds Try.pinned (OpenSpec.ofChange fnExactExtensionsByDegreeWrong)

/- THE SECOND FORM. 'bulk': how many values and letters a reading holds, each counted each time it is reached (what is shared counts as often as it is met; a slice's spare places count too). A statement '..UptoSaid' is the law's where the arguments, and the package variables that the reading takes, are together of bulk at most 1048576: NARROWER than '..Said'. Prove '..Said' where nothing that the law and all that it calls make is longer than what came in: it says more and counts as full. Else prove '..UptoSaid'. A law counts once. -/
mutual
def uptoBulk {H : Type} : DataW H → Nat
  | .lit (.string bytes) => bytes.length + 1
  | .lit _ => 1
  | .nil => 1
  | .ptr d => uptoBulk d + 1
  | .slice elems spare => uptoBulkAll elems + uptoBulkAll spare + 1
  | .agg parts => uptoBulkAll parts + 1
  | .iface _ d => uptoBulk d + 1
  | .map entries => uptoBulkEntries entries + 1
  | .held _ => 1
def uptoBulkAll {H : Type} : List (DataW H) → Nat
  | [] => 0
  | d :: r => uptoBulk d + uptoBulkAll r
def uptoBulkEntries {H : Type} : List (Lit × DataW H) → Nat
  | [] => 0
  | x :: r => uptoBulkEntry x + uptoBulkEntries r
def uptoBulkEntry {H : Type} : Lit × DataW H → Nat
  | (.string bytes, d) => bytes.length + uptoBulk d + 1
  | (_, d) => uptoBulk d + 1
 end
def uptoSmall : (H : Type) → List (DataW H) → Bool := fun _ ds => decide (uptoBulkAll ds ≤ 1048576)
def OpenSpec.upto (s : _root_.Go.ChangeSpec) : _root_.Go.OpenSpec := { _root_.Go.OpenSpec.ofChange s with cond := some uptoSmall }

/-- 'laws.FnExactFirstExtension', WHERE WHAT IT READS IS OF BULK AT MOST 1048576: true; the input reads as it did. -/
def fnExactFirstExtensionUptoRow : OpenClaim := { program := "ytocjhmeekecdiaa", sum := "745aaf8ed1cd26fdbd207dcbd567d91ce635ae87c0953e3fd0e10963b48df6be", func := "loop.example/g01362/laws.FnExactFirstExtension", spec := "fnExactFirstExtension", unfollowed := true, recurses := true, apart := false, narrowed := true }
def FnExactFirstExtensionUptoSaid : Prop := fnExactFirstExtensionUptoRow.holds Try.pinned (OpenSpec.upto fnExactFirstExtensionSpec)

/-- 'laws.FnExactIsExtension', WHERE WHAT IT READS IS OF BULK AT MOST 1048576: true; the input reads as it did. -/
def fnExactIsExtensionUptoRow : OpenClaim := { program := "ytocjhmeekecdiaa", sum := "745aaf8ed1cd26fdbd207dcbd567d91ce635ae87c0953e3fd0e10963b48df6be", func := "loop.example/g01362/laws.FnExactIsExtension", spec := "fnExactIsExtension", unfollowed := true, recurses := true, apart := false, narrowed := true }
def FnExactIsExtensionUptoSaid : Prop := fnExactIsExtensionUptoRow.holds Try.pinned (OpenSpec.upto fnExactIsExtensionSpec)

/-- 'laws.FnExactIsClosed', WHERE WHAT IT READS IS OF BULK AT MOST 1048576: true; the input reads as it did. -/
def fnExactIsClosedUptoRow : OpenClaim := { program := "ytocjhmeekecdiaa", sum := "745aaf8ed1cd26fdbd207dcbd567d91ce635ae87c0953e3fd0e10963b48df6be", func := "loop.example/g01362/laws.FnExactIsClosed", spec := "fnExactIsClosed", unfollowed := true, recurses := true, apart := false, narrowed := true }
def FnExactIsClosedUptoSaid : Prop := fnExactIsClosedUptoRow.holds Try.pinned (OpenSpec.upto fnExactIsClosedSpec)

/-- 'laws.FnExactFreeChanges', WHERE WHAT IT READS IS OF BULK AT MOST 1048576: true; the input reads as it did. -/
def fnExactFreeChangesUptoRow : OpenClaim := { program := "ytocjhmeekecdiaa", sum := "745aaf8ed1cd26fdbd207dcbd567d91ce635ae87c0953e3fd0e10963b48df6be", func := "loop.example/g01362/laws.FnExactFreeChanges", spec := "fnExactFreeChanges", unfollowed := true, recurses := true, apart := false, narrowed := true }
def FnExactFreeChangesUptoSaid : Prop := fnExactFreeChangesUptoRow.holds Try.pinned (OpenSpec.upto fnExactFreeChangesSpec)

/-- 'laws.FnExactCountExtensions', WHERE WHAT IT READS IS OF BULK AT MOST 1048576: true; the input reads as it did. -/
def fnExactCountExtensionsUptoRow : OpenClaim := { program := "ytocjhmeekecdiaa", sum := "745aaf8ed1cd26fdbd207dcbd567d91ce635ae87c0953e3fd0e10963b48df6be", func := "loop.example/g01362/laws.FnExactCountExtensions", spec := "fnExactCountExtensions", unfollowed := true, recurses := true, apart := false, narrowed := true }
def FnExactCountExtensionsUptoSaid : Prop := fnExactCountExtensionsUptoRow.holds Try.pinned (OpenSpec.upto fnExactCountExtensionsSpec)

/-- 'laws.FnExactExtensionsByDegree', WHERE WHAT IT READS IS OF BULK AT MOST 1048576: true; the input reads as it did. -/
def fnExactExtensionsByDegreeUptoRow : OpenClaim := { program := "ytocjhmeekecdiaa", sum := "745aaf8ed1cd26fdbd207dcbd567d91ce635ae87c0953e3fd0e10963b48df6be", func := "loop.example/g01362/laws.FnExactExtensionsByDegree", spec := "fnExactExtensionsByDegree", unfollowed := true, recurses := true, apart := false, narrowed := true }
def FnExactExtensionsByDegreeUptoSaid : Prop := fnExactExtensionsByDegreeUptoRow.holds Try.pinned (OpenSpec.upto fnExactExtensionsByDegreeSpec)

end Rows
end Go.Proofs.Ytocjhmeekecdiaa
