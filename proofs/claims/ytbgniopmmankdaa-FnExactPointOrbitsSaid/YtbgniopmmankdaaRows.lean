/-
  No cell of these rows narrows 'for every input' (looked for: loops, veiled, ifaces, maps, wideKeys, modest, calm, conditions, laid).
  DERIVED. THE GIVEN ROWS OF THIS SEAT. 4 by the template 'for every input the law returns true; each argument reads behind the call as it read before'; 0 by the template 'total and deterministic' (their statements: YtbgniopmmankdaaTotals.lean).
  GIVEN WITH THE SEED: the statements are not yours to turn. If you find one false, say at which input.
  Laid BY PROGRAM, IN A SANDBOX (cutbox-rows.mjs): the forced cells as the released guide's own fill.sh prints them over the translation 37ed779dfe7edfa3… (all of the seat's roots in one cut). By AI agents, Wed Nov 11 2026. No macro, syntax, notation, axiom, sorry.
-/
import Derived.Test.YtbgniopmmankdaaChecked
import GoSem.Claim
import GoSem.ClaimJoined
import GoSem.ClaimMapViews
import Derived.JoinedTies
import Derived.KernelRfl
namespace Go.Proofs.Ytbgniopmmankdaa
/- THE CELL 'sum', in the pinned program and in every row, IS THE sha256 OF THE DUMP (.gsa) THAT YtbgniopmmankdaaProg.lean LOADS. Nothing in Lean hashes anything: it is a label: what it is worth is what the hold of that sum in a sandbox is worth. -/
noncomputable def Try.pinned : Pinned := { name := "ytbgniopmmankdaa", sum := "37ed779dfe7edfa37eec40561fbf58119121279c1a7302ef593b9563b62abb51", checked := Try.checked }
namespace Rows
def none {H : Type} : Left H := { results := [], args := [] }

/-- 'laws.FnExactCountAutomorphisms': WHATEVER THE INPUT: true; the input reads as it did. -/
def fnExactCountAutomorphismsSpec : ChangeSpec := { name := "fnExactCountAutomorphisms", fn := fun _ => fun
  | [d] => { results := [.lit (.bool true)], args := [d] }
  | _ => none }
def fnExactCountAutomorphismsRow : OpenClaim := { program := "ytbgniopmmankdaa", sum := "37ed779dfe7edfa37eec40561fbf58119121279c1a7302ef593b9563b62abb51", func := "loop.example/g01362/laws.FnExactCountAutomorphisms", spec := "fnExactCountAutomorphisms", unfollowed := true, recurses := true, apart := false }
def FnExactCountAutomorphismsSaid : Prop := fnExactCountAutomorphismsRow.holds Try.pinned (OpenSpec.ofChange fnExactCountAutomorphismsSpec)

/-- ITS FALSE NEIGHBOUR: 'it returns false'. Refute it at one input. -/
def fnExactCountAutomorphismsWrong : ChangeSpec := { name := "fnExactCountAutomorphisms", fn := fun _ => fun
  | [d] => { results := [.lit (.bool false)], args := [d] }
  | _ => none }
def FnExactCountAutomorphismsWrongFalsely : Prop := fnExactCountAutomorphismsRow.holds Try.pinned (OpenSpec.ofChange fnExactCountAutomorphismsWrong)

/-- 'laws.FnExactLeastForm': WHATEVER THE INPUT: true; the input reads as it did. -/
def fnExactLeastFormSpec : ChangeSpec := { name := "fnExactLeastForm", fn := fun _ => fun
  | [d] => { results := [.lit (.bool true)], args := [d] }
  | _ => none }
def fnExactLeastFormRow : OpenClaim := { program := "ytbgniopmmankdaa", sum := "37ed779dfe7edfa37eec40561fbf58119121279c1a7302ef593b9563b62abb51", func := "loop.example/g01362/laws.FnExactLeastForm", spec := "fnExactLeastForm", unfollowed := true, recurses := true, apart := false }
def FnExactLeastFormSaid : Prop := fnExactLeastFormRow.holds Try.pinned (OpenSpec.ofChange fnExactLeastFormSpec)

/-- ITS FALSE NEIGHBOUR: 'it returns false'. Refute it at one input. -/
def fnExactLeastFormWrong : ChangeSpec := { name := "fnExactLeastForm", fn := fun _ => fun
  | [d] => { results := [.lit (.bool false)], args := [d] }
  | _ => none }
def FnExactLeastFormWrongFalsely : Prop := fnExactLeastFormRow.holds Try.pinned (OpenSpec.ofChange fnExactLeastFormWrong)

/-- 'laws.FnExactIsSelfAlike': WHATEVER THE INPUT: true; the input reads as it did. -/
def fnExactIsSelfAlikeSpec : ChangeSpec := { name := "fnExactIsSelfAlike", fn := fun _ => fun
  | [d] => { results := [.lit (.bool true)], args := [d] }
  | _ => none }
def fnExactIsSelfAlikeRow : OpenClaim := { program := "ytbgniopmmankdaa", sum := "37ed779dfe7edfa37eec40561fbf58119121279c1a7302ef593b9563b62abb51", func := "loop.example/g01362/laws.FnExactIsSelfAlike", spec := "fnExactIsSelfAlike", unfollowed := true, recurses := true, apart := false }
def FnExactIsSelfAlikeSaid : Prop := fnExactIsSelfAlikeRow.holds Try.pinned (OpenSpec.ofChange fnExactIsSelfAlikeSpec)

/-- ITS FALSE NEIGHBOUR: 'it returns false'. Refute it at one input. -/
def fnExactIsSelfAlikeWrong : ChangeSpec := { name := "fnExactIsSelfAlike", fn := fun _ => fun
  | [d] => { results := [.lit (.bool false)], args := [d] }
  | _ => none }
def FnExactIsSelfAlikeWrongFalsely : Prop := fnExactIsSelfAlikeRow.holds Try.pinned (OpenSpec.ofChange fnExactIsSelfAlikeWrong)

/-- 'laws.FnExactPointOrbits': WHATEVER THE INPUT: true; the input reads as it did. -/
def fnExactPointOrbitsSpec : ChangeSpec := { name := "fnExactPointOrbits", fn := fun _ => fun
  | [d] => { results := [.lit (.bool true)], args := [d] }
  | _ => none }
def fnExactPointOrbitsRow : OpenClaim := { program := "ytbgniopmmankdaa", sum := "37ed779dfe7edfa37eec40561fbf58119121279c1a7302ef593b9563b62abb51", func := "loop.example/g01362/laws.FnExactPointOrbits", spec := "fnExactPointOrbits", unfollowed := true, recurses := true, apart := false }
def FnExactPointOrbitsSaid : Prop := fnExactPointOrbitsRow.holds Try.pinned (OpenSpec.ofChange fnExactPointOrbitsSpec)

/-- ITS FALSE NEIGHBOUR: 'it returns false'. Refute it at one input. -/
def fnExactPointOrbitsWrong : ChangeSpec := { name := "fnExactPointOrbits", fn := fun _ => fun
  | [d] => { results := [.lit (.bool false)], args := [d] }
  | _ => none }
def FnExactPointOrbitsWrongFalsely : Prop := fnExactPointOrbitsRow.holds Try.pinned (OpenSpec.ofChange fnExactPointOrbitsWrong)

/- THE SECOND FORM. 'bulk': how many values and letters a reading holds, each counted each time it is reached (what is shared counts as often as it is met; a slice's spare places count too). A statement '..UptoSaid' is the law's where the arguments, and the package variables that the reading takes, are together of bulk at most 1048576: NARROWER than '..Said'. Prove '..Said' where nothing that the law and all that it calls make is longer than what came in: it says more and counts as full. Else prove '..UptoSaid'. A law counts once. -/
mutual
def uptoBulk {H : Type} : DataW H → Nat
  | .lit (.string bytes) => bytes.length + 1
  | .lit _ => 1
  | .nil => 1
  | .ptr d => uptoBulk d + 1
  | .slice elems spare => uptoBulkAll elems + uptoBulkAll spare + 1
  | .agg parts => uptoBulkAll parts + 1
  | .iface _ d => uptoBulk d + 1
  | .map entries => uptoBulkEntries entries + 1
  | .held _ => 1
def uptoBulkAll {H : Type} : List (DataW H) → Nat
  | [] => 0
  | d :: r => uptoBulk d + uptoBulkAll r
def uptoBulkEntries {H : Type} : List (Lit × DataW H) → Nat
  | [] => 0
  | x :: r => uptoBulkEntry x + uptoBulkEntries r
def uptoBulkEntry {H : Type} : Lit × DataW H → Nat
  | (.string bytes, d) => bytes.length + uptoBulk d + 1
  | (_, d) => uptoBulk d + 1
 end
def uptoSmall : (H : Type) → List (DataW H) → Bool := fun _ ds => decide (uptoBulkAll ds ≤ 1048576)
def OpenSpec.upto (s : _root_.Go.ChangeSpec) : _root_.Go.OpenSpec := { _root_.Go.OpenSpec.ofChange s with cond := some uptoSmall }

/-- 'laws.FnExactCountAutomorphisms', WHERE WHAT IT READS IS OF BULK AT MOST 1048576: true; the input reads as it did. -/
def fnExactCountAutomorphismsUptoRow : OpenClaim := { program := "ytbgniopmmankdaa", sum := "37ed779dfe7edfa37eec40561fbf58119121279c1a7302ef593b9563b62abb51", func := "loop.example/g01362/laws.FnExactCountAutomorphisms", spec := "fnExactCountAutomorphisms", unfollowed := true, recurses := true, apart := false, narrowed := true }
def FnExactCountAutomorphismsUptoSaid : Prop := fnExactCountAutomorphismsUptoRow.holds Try.pinned (OpenSpec.upto fnExactCountAutomorphismsSpec)

/-- 'laws.FnExactLeastForm', WHERE WHAT IT READS IS OF BULK AT MOST 1048576: true; the input reads as it did. -/
def fnExactLeastFormUptoRow : OpenClaim := { program := "ytbgniopmmankdaa", sum := "37ed779dfe7edfa37eec40561fbf58119121279c1a7302ef593b9563b62abb51", func := "loop.example/g01362/laws.FnExactLeastForm", spec := "fnExactLeastForm", unfollowed := true, recurses := true, apart := false, narrowed := true }
def FnExactLeastFormUptoSaid : Prop := fnExactLeastFormUptoRow.holds Try.pinned (OpenSpec.upto fnExactLeastFormSpec)

/-- 'laws.FnExactIsSelfAlike', WHERE WHAT IT READS IS OF BULK AT MOST 1048576: true; the input reads as it did. -/
def fnExactIsSelfAlikeUptoRow : OpenClaim := { program := "ytbgniopmmankdaa", sum := "37ed779dfe7edfa37eec40561fbf58119121279c1a7302ef593b9563b62abb51", func := "loop.example/g01362/laws.FnExactIsSelfAlike", spec := "fnExactIsSelfAlike", unfollowed := true, recurses := true, apart := false, narrowed := true }
def FnExactIsSelfAlikeUptoSaid : Prop := fnExactIsSelfAlikeUptoRow.holds Try.pinned (OpenSpec.upto fnExactIsSelfAlikeSpec)

/-- 'laws.FnExactPointOrbits', WHERE WHAT IT READS IS OF BULK AT MOST 1048576: true; the input reads as it did. -/
def fnExactPointOrbitsUptoRow : OpenClaim := { program := "ytbgniopmmankdaa", sum := "37ed779dfe7edfa37eec40561fbf58119121279c1a7302ef593b9563b62abb51", func := "loop.example/g01362/laws.FnExactPointOrbits", spec := "fnExactPointOrbits", unfollowed := true, recurses := true, apart := false, narrowed := true }
def FnExactPointOrbitsUptoSaid : Prop := fnExactPointOrbitsUptoRow.holds Try.pinned (OpenSpec.upto fnExactPointOrbitsSpec)

end Rows
end Go.Proofs.Ytbgniopmmankdaa
