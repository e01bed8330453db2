/-
  No cell of these rows narrows 'for every input' (looked for: loops, veiled, ifaces, maps, wideKeys, modest, calm, conditions, laid).
  DERIVED. THE GIVEN ROWS OF THIS SEAT. 4 by the template 'for every input the law returns true; each argument reads behind the call as it read before'; 0 by the template 'total and deterministic' (their statements: YtjhcacfhahpdgaaTotals.lean).
  GIVEN WITH THE SEED: the statements are not yours to turn. If you find one false, say at which input.
  Laid BY PROGRAM, IN A SANDBOX (cutbox-rows.mjs): the forced cells as the released guide's own fill.sh prints them over the translation bc77e1c543d2421b… (all of the seat's roots in one cut). By AI agents, Wed Nov 11 2026. No macro, syntax, notation, axiom, sorry.
-/
import Derived.Test.YtjhcacfhahpdgaaChecked
import GoSem.Claim
import GoSem.ClaimJoined
import GoSem.ClaimMapViews
import Derived.JoinedTies
import Derived.KernelRfl
namespace Go.Proofs.Ytjhcacfhahpdgaa
/- THE CELL 'sum', in the pinned program and in every row, IS THE sha256 OF THE DUMP (.gsa) THAT YtjhcacfhahpdgaaProg.lean LOADS. Nothing in Lean hashes anything: it is a label: what it is worth is what the hold of that sum in a sandbox is worth. -/
noncomputable def Try.pinned : Pinned := { name := "ytjhcacfhahpdgaa", sum := "bc77e1c543d2421b87dde70084f6c3d7767612ed907b88e6c8a95044d8ae87dd", checked := Try.checked }
namespace Rows
def none {H : Type} : Left H := { results := [], args := [] }

/-- 'laws.FnExactCycleLengths': WHATEVER THE INPUT: true; the input reads as it did. -/
def fnExactCycleLengthsSpec : ChangeSpec := { name := "fnExactCycleLengths", fn := fun _ => fun
  | [d1, d2] => { results := [.lit (.bool true)], args := [d1, d2] }
  | _ => none }
def fnExactCycleLengthsRow : OpenClaim := { program := "ytjhcacfhahpdgaa", sum := "bc77e1c543d2421b87dde70084f6c3d7767612ed907b88e6c8a95044d8ae87dd", func := "loop.example/g01362/laws.FnExactCycleLengths", spec := "fnExactCycleLengths", unfollowed := true, recurses := true, plainKeys := false, apart := false }
def FnExactCycleLengthsSaid : Prop := fnExactCycleLengthsRow.holds Try.pinned (OpenSpec.ofChange fnExactCycleLengthsSpec)

/-- ITS FALSE NEIGHBOUR: 'it returns false'. Refute it at one input. -/
def fnExactCycleLengthsWrong : ChangeSpec := { name := "fnExactCycleLengths", fn := fun _ => fun
  | [d1, d2] => { results := [.lit (.bool false)], args := [d1, d2] }
  | _ => none }
def FnExactCycleLengthsWrongFalsely : Prop := fnExactCycleLengthsRow.holds Try.pinned (OpenSpec.ofChange fnExactCycleLengthsWrong)

/-- 'laws.FnExactGreatestMatching': WHATEVER THE INPUT: true; the input reads as it did. -/
def fnExactGreatestMatchingSpec : ChangeSpec := { name := "fnExactGreatestMatching", fn := fun _ => fun
  | [d1, d2] => { results := [.lit (.bool true)], args := [d1, d2] }
  | _ => none }
def fnExactGreatestMatchingRow : OpenClaim := { program := "ytjhcacfhahpdgaa", sum := "bc77e1c543d2421b87dde70084f6c3d7767612ed907b88e6c8a95044d8ae87dd", func := "loop.example/g01362/laws.FnExactGreatestMatching", spec := "fnExactGreatestMatching", unfollowed := true, recurses := true, plainKeys := false, apart := false }
def FnExactGreatestMatchingSaid : Prop := fnExactGreatestMatchingRow.holds Try.pinned (OpenSpec.ofChange fnExactGreatestMatchingSpec)

/-- ITS FALSE NEIGHBOUR: 'it returns false'. Refute it at one input. -/
def fnExactGreatestMatchingWrong : ChangeSpec := { name := "fnExactGreatestMatching", fn := fun _ => fun
  | [d1, d2] => { results := [.lit (.bool false)], args := [d1, d2] }
  | _ => none }
def FnExactGreatestMatchingWrongFalsely : Prop := fnExactGreatestMatchingRow.holds Try.pinned (OpenSpec.ofChange fnExactGreatestMatchingWrong)

/-- 'laws.FnExactLongestPath': WHATEVER THE INPUT: true; the input reads as it did. -/
def fnExactLongestPathSpec : ChangeSpec := { name := "fnExactLongestPath", fn := fun _ => fun
  | [d1, d2] => { results := [.lit (.bool true)], args := [d1, d2] }
  | _ => none }
def fnExactLongestPathRow : OpenClaim := { program := "ytjhcacfhahpdgaa", sum := "bc77e1c543d2421b87dde70084f6c3d7767612ed907b88e6c8a95044d8ae87dd", func := "loop.example/g01362/laws.FnExactLongestPath", spec := "fnExactLongestPath", unfollowed := true, recurses := true, plainKeys := false, apart := false }
def FnExactLongestPathSaid : Prop := fnExactLongestPathRow.holds Try.pinned (OpenSpec.ofChange fnExactLongestPathSpec)

/-- ITS FALSE NEIGHBOUR: 'it returns false'. Refute it at one input. -/
def fnExactLongestPathWrong : ChangeSpec := { name := "fnExactLongestPath", fn := fun _ => fun
  | [d1, d2] => { results := [.lit (.bool false)], args := [d1, d2] }
  | _ => none }
def FnExactLongestPathWrongFalsely : Prop := fnExactLongestPathRow.holds Try.pinned (OpenSpec.ofChange fnExactLongestPathWrong)

/-- 'laws.FnExactFirstCycle': WHATEVER THE INPUT: true; the input reads as it did. -/
def fnExactFirstCycleSpec : ChangeSpec := { name := "fnExactFirstCycle", fn := fun _ => fun
  | [d1, d2, d3] => { results := [.lit (.bool true)], args := [d1, d2, d3] }
  | _ => none }
def fnExactFirstCycleRow : OpenClaim := { program := "ytjhcacfhahpdgaa", sum := "bc77e1c543d2421b87dde70084f6c3d7767612ed907b88e6c8a95044d8ae87dd", func := "loop.example/g01362/laws.FnExactFirstCycle", spec := "fnExactFirstCycle", unfollowed := true, recurses := true, plainKeys := false, apart := false }
def FnExactFirstCycleSaid : Prop := fnExactFirstCycleRow.holds Try.pinned (OpenSpec.ofChange fnExactFirstCycleSpec)

/-- ITS FALSE NEIGHBOUR: 'it returns false'. Refute it at one input. -/
def fnExactFirstCycleWrong : ChangeSpec := { name := "fnExactFirstCycle", fn := fun _ => fun
  | [d1, d2, d3] => { results := [.lit (.bool false)], args := [d1, d2, d3] }
  | _ => none }
def FnExactFirstCycleWrongFalsely : Prop := fnExactFirstCycleRow.holds Try.pinned (OpenSpec.ofChange fnExactFirstCycleWrong)

/- THE SECOND FORM. 'bulk': how many values and letters a reading holds, each counted each time it is reached (what is shared counts as often as it is met; a slice's spare places count too). A statement '..UptoSaid' is the law's where the arguments, and the package variables that the reading takes, are together of bulk at most 1048576: NARROWER than '..Said'. Prove '..Said' where nothing that the law and all that it calls make is longer than what came in: it says more and counts as full. Else prove '..UptoSaid'. A law counts once. -/
mutual
def uptoBulk {H : Type} : DataW H → Nat
  | .lit (.string bytes) => bytes.length + 1
  | .lit _ => 1
  | .nil => 1
  | .ptr d => uptoBulk d + 1
  | .slice elems spare => uptoBulkAll elems + uptoBulkAll spare + 1
  | .agg parts => uptoBulkAll parts + 1
  | .iface _ d => uptoBulk d + 1
  | .map entries => uptoBulkEntries entries + 1
  | .held _ => 1
def uptoBulkAll {H : Type} : List (DataW H) → Nat
  | [] => 0
  | d :: r => uptoBulk d + uptoBulkAll r
def uptoBulkEntries {H : Type} : List (Lit × DataW H) → Nat
  | [] => 0
  | x :: r => uptoBulkEntry x + uptoBulkEntries r
def uptoBulkEntry {H : Type} : Lit × DataW H → Nat
  | (.string bytes, d) => bytes.length + uptoBulk d + 1
  | (_, d) => uptoBulk d + 1
 end
def uptoSmall : (H : Type) → List (DataW H) → Bool := fun _ ds => decide (uptoBulkAll ds ≤ 1048576)
def OpenSpec.upto (s : _root_.Go.ChangeSpec) : _root_.Go.OpenSpec := { _root_.Go.OpenSpec.ofChange s with cond := some uptoSmall }

/-- 'laws.FnExactCycleLengths', WHERE WHAT IT READS IS OF BULK AT MOST 1048576: true; the input reads as it did. -/
def fnExactCycleLengthsUptoRow : OpenClaim := { program := "ytjhcacfhahpdgaa", sum := "bc77e1c543d2421b87dde70084f6c3d7767612ed907b88e6c8a95044d8ae87dd", func := "loop.example/g01362/laws.FnExactCycleLengths", spec := "fnExactCycleLengths", unfollowed := true, recurses := true, plainKeys := false, apart := false, narrowed := true }
def FnExactCycleLengthsUptoSaid : Prop := fnExactCycleLengthsUptoRow.holds Try.pinned (OpenSpec.upto fnExactCycleLengthsSpec)

/-- 'laws.FnExactGreatestMatching', WHERE WHAT IT READS IS OF BULK AT MOST 1048576: true; the input reads as it did. -/
def fnExactGreatestMatchingUptoRow : OpenClaim := { program := "ytjhcacfhahpdgaa", sum := "bc77e1c543d2421b87dde70084f6c3d7767612ed907b88e6c8a95044d8ae87dd", func := "loop.example/g01362/laws.FnExactGreatestMatching", spec := "fnExactGreatestMatching", unfollowed := true, recurses := true, plainKeys := false, apart := false, narrowed := true }
def FnExactGreatestMatchingUptoSaid : Prop := fnExactGreatestMatchingUptoRow.holds Try.pinned (OpenSpec.upto fnExactGreatestMatchingSpec)

/-- 'laws.FnExactLongestPath', WHERE WHAT IT READS IS OF BULK AT MOST 1048576: true; the input reads as it did. -/
def fnExactLongestPathUptoRow : OpenClaim := { program := "ytjhcacfhahpdgaa", sum := "bc77e1c543d2421b87dde70084f6c3d7767612ed907b88e6c8a95044d8ae87dd", func := "loop.example/g01362/laws.FnExactLongestPath", spec := "fnExactLongestPath", unfollowed := true, recurses := true, plainKeys := false, apart := false, narrowed := true }
def FnExactLongestPathUptoSaid : Prop := fnExactLongestPathUptoRow.holds Try.pinned (OpenSpec.upto fnExactLongestPathSpec)

/-- 'laws.FnExactFirstCycle', WHERE WHAT IT READS IS OF BULK AT MOST 1048576: true; the input reads as it did. -/
def fnExactFirstCycleUptoRow : OpenClaim := { program := "ytjhcacfhahpdgaa", sum := "bc77e1c543d2421b87dde70084f6c3d7767612ed907b88e6c8a95044d8ae87dd", func := "loop.example/g01362/laws.FnExactFirstCycle", spec := "fnExactFirstCycle", unfollowed := true, recurses := true, plainKeys := false, apart := false, narrowed := true }
def FnExactFirstCycleUptoSaid : Prop := fnExactFirstCycleUptoRow.holds Try.pinned (OpenSpec.upto fnExactFirstCycleSpec)

end Rows
end Go.Proofs.Ytjhcacfhahpdgaa
