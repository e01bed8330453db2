/-
  No cell of these rows narrows 'for every input' (looked for: loops, veiled, ifaces, maps, wideKeys, modest, calm, conditions, laid).
  DERIVED. THE GIVEN ROWS OF THIS SEAT. 12 by the template 'for every input the law returns true; each argument reads behind the call as it read before'; 0 by the template 'total and deterministic' (their statements: YtdpamdedomkomaaTotals.lean).
  GIVEN WITH THE SEED: the statements are not yours to turn. If you find one false, say at which input.
  Laid BY PROGRAM, IN A SANDBOX (cutbox-rows.mjs): the forced cells as the released guide's own fill.sh prints them over the translation 058f03165b5943e3… (all of the seat's roots in one cut). By AI agents, Wed Nov 11 2026. No macro, syntax, notation, axiom, sorry.
-/
import Derived.Test.YtdpamdedomkomaaChecked
import GoSem.Claim
import GoSem.ClaimJoined
import GoSem.ClaimMapViews
import Derived.JoinedTies
import Derived.KernelRfl
namespace Go.Proofs.Ytdpamdedomkomaa
/- THE CELL 'sum', in the pinned program and in every row, IS THE sha256 OF THE DUMP (.gsa) THAT YtdpamdedomkomaaProg.lean LOADS. Nothing in Lean hashes anything: it is a label: what it is worth is what the hold of that sum in a sandbox is worth. -/
noncomputable def Try.pinned : Pinned := { name := "ytdpamdedomkomaa", sum := "058f03165b5943e3b4451dc733b8a1fa702327aa50461a409204ce9825d7265a", checked := Try.checked }
namespace Rows
def none {H : Type} : Left H := { results := [], args := [] }

/-- 'laws.FnExactIsClique': WHATEVER THE INPUT: true; the input reads as it did. -/
def fnExactIsCliqueSpec : ChangeSpec := { name := "fnExactIsClique", fn := fun _ => fun
  | [d1, d2, d3] => { results := [.lit (.bool true)], args := [d1, d2, d3] }
  | _ => none }
def fnExactIsCliqueRow : OpenClaim := { program := "ytdpamdedomkomaa", sum := "058f03165b5943e3b4451dc733b8a1fa702327aa50461a409204ce9825d7265a", func := "loop.example/g01362/laws.FnExactIsClique", spec := "fnExactIsClique", unfollowed := true, recurses := true, apart := false }
def FnExactIsCliqueSaid : Prop := fnExactIsCliqueRow.holds Try.pinned (OpenSpec.ofChange fnExactIsCliqueSpec)

/-- ITS FALSE NEIGHBOUR: 'it returns false'. Refute it at one input. -/
def fnExactIsCliqueWrong : ChangeSpec := { name := "fnExactIsClique", fn := fun _ => fun
  | [d1, d2, d3] => { results := [.lit (.bool false)], args := [d1, d2, d3] }
  | _ => none }
def FnExactIsCliqueWrongFalsely : Prop := fnExactIsCliqueRow.holds Try.pinned (OpenSpec.ofChange fnExactIsCliqueWrong)

/-- 'laws.FnExactCountCliques': WHATEVER THE INPUT: true; the input reads as it did. -/
def fnExactCountCliquesSpec : ChangeSpec := { name := "fnExactCountCliques", fn := fun _ => fun
  | [d1, d2, d3] => { results := [.lit (.bool true)], args := [d1, d2, d3] }
  | _ => none }
def fnExactCountCliquesRow : OpenClaim := { program := "ytdpamdedomkomaa", sum := "058f03165b5943e3b4451dc733b8a1fa702327aa50461a409204ce9825d7265a", func := "loop.example/g01362/laws.FnExactCountCliques", spec := "fnExactCountCliques", unfollowed := true, recurses := true, apart := false }
def FnExactCountCliquesSaid : Prop := fnExactCountCliquesRow.holds Try.pinned (OpenSpec.ofChange fnExactCountCliquesSpec)

/-- ITS FALSE NEIGHBOUR: 'it returns false'. Refute it at one input. -/
def fnExactCountCliquesWrong : ChangeSpec := { name := "fnExactCountCliques", fn := fun _ => fun
  | [d1, d2, d3] => { results := [.lit (.bool false)], args := [d1, d2, d3] }
  | _ => none }
def FnExactCountCliquesWrongFalsely : Prop := fnExactCountCliquesRow.holds Try.pinned (OpenSpec.ofChange fnExactCountCliquesWrong)

/-- 'laws.FnExactCliquesAt': WHATEVER THE INPUT: true; the input reads as it did. -/
def fnExactCliquesAtSpec : ChangeSpec := { name := "fnExactCliquesAt", fn := fun _ => fun
  | [d1, d2, d3, d4] => { results := [.lit (.bool true)], args := [d1, d2, d3, d4] }
  | _ => none }
def fnExactCliquesAtRow : OpenClaim := { program := "ytdpamdedomkomaa", sum := "058f03165b5943e3b4451dc733b8a1fa702327aa50461a409204ce9825d7265a", func := "loop.example/g01362/laws.FnExactCliquesAt", spec := "fnExactCliquesAt", unfollowed := true, recurses := true, apart := false }
def FnExactCliquesAtSaid : Prop := fnExactCliquesAtRow.holds Try.pinned (OpenSpec.ofChange fnExactCliquesAtSpec)

/-- ITS FALSE NEIGHBOUR: 'it returns false'. Refute it at one input. -/
def fnExactCliquesAtWrong : ChangeSpec := { name := "fnExactCliquesAt", fn := fun _ => fun
  | [d1, d2, d3, d4] => { results := [.lit (.bool false)], args := [d1, d2, d3, d4] }
  | _ => none }
def FnExactCliquesAtWrongFalsely : Prop := fnExactCliquesAtRow.holds Try.pinned (OpenSpec.ofChange fnExactCliquesAtWrong)

/-- 'laws.FnExactCountTriangles': WHATEVER THE INPUT: true; the input reads as it did. -/
def fnExactCountTrianglesSpec : ChangeSpec := { name := "fnExactCountTriangles", fn := fun _ => fun
  | [d] => { results := [.lit (.bool true)], args := [d] }
  | _ => none }
def fnExactCountTrianglesRow : OpenClaim := { program := "ytdpamdedomkomaa", sum := "058f03165b5943e3b4451dc733b8a1fa702327aa50461a409204ce9825d7265a", func := "loop.example/g01362/laws.FnExactCountTriangles", spec := "fnExactCountTriangles", unfollowed := true, recurses := true, apart := false }
def FnExactCountTrianglesSaid : Prop := fnExactCountTrianglesRow.holds Try.pinned (OpenSpec.ofChange fnExactCountTrianglesSpec)

/-- ITS FALSE NEIGHBOUR: 'it returns false'. Refute it at one input. -/
def fnExactCountTrianglesWrong : ChangeSpec := { name := "fnExactCountTriangles", fn := fun _ => fun
  | [d] => { results := [.lit (.bool false)], args := [d] }
  | _ => none }
def FnExactCountTrianglesWrongFalsely : Prop := fnExactCountTrianglesRow.holds Try.pinned (OpenSpec.ofChange fnExactCountTrianglesWrong)

/-- 'laws.FnExactCliqueNumbers': WHATEVER THE INPUT: true; the input reads as it did. -/
def fnExactCliqueNumbersSpec : ChangeSpec := { name := "fnExactCliqueNumbers", fn := fun _ => fun
  | [d] => { results := [.lit (.bool true)], args := [d] }
  | _ => none }
def fnExactCliqueNumbersRow : OpenClaim := { program := "ytdpamdedomkomaa", sum := "058f03165b5943e3b4451dc733b8a1fa702327aa50461a409204ce9825d7265a", func := "loop.example/g01362/laws.FnExactCliqueNumbers", spec := "fnExactCliqueNumbers", unfollowed := true, recurses := true, apart := false }
def FnExactCliqueNumbersSaid : Prop := fnExactCliqueNumbersRow.holds Try.pinned (OpenSpec.ofChange fnExactCliqueNumbersSpec)

/-- ITS FALSE NEIGHBOUR: 'it returns false'. Refute it at one input. -/
def fnExactCliqueNumbersWrong : ChangeSpec := { name := "fnExactCliqueNumbers", fn := fun _ => fun
  | [d] => { results := [.lit (.bool false)], args := [d] }
  | _ => none }
def FnExactCliqueNumbersWrongFalsely : Prop := fnExactCliqueNumbersRow.holds Try.pinned (OpenSpec.ofChange fnExactCliqueNumbersWrong)

/-- 'laws.FnExactGreatestClique': WHATEVER THE INPUT: true; the input reads as it did. -/
def fnExactGreatestCliqueSpec : ChangeSpec := { name := "fnExactGreatestClique", fn := fun _ => fun
  | [d1, d2] => { results := [.lit (.bool true)], args := [d1, d2] }
  | _ => none }
def fnExactGreatestCliqueRow : OpenClaim := { program := "ytdpamdedomkomaa", sum := "058f03165b5943e3b4451dc733b8a1fa702327aa50461a409204ce9825d7265a", func := "loop.example/g01362/laws.FnExactGreatestClique", spec := "fnExactGreatestClique", unfollowed := true, recurses := true, apart := false }
def FnExactGreatestCliqueSaid : Prop := fnExactGreatestCliqueRow.holds Try.pinned (OpenSpec.ofChange fnExactGreatestCliqueSpec)

/-- ITS FALSE NEIGHBOUR: 'it returns false'. Refute it at one input. -/
def fnExactGreatestCliqueWrong : ChangeSpec := { name := "fnExactGreatestClique", fn := fun _ => fun
  | [d1, d2] => { results := [.lit (.bool false)], args := [d1, d2] }
  | _ => none }
def FnExactGreatestCliqueWrongFalsely : Prop := fnExactGreatestCliqueRow.holds Try.pinned (OpenSpec.ofChange fnExactGreatestCliqueWrong)

/-- 'laws.FnExactAvoidsSizes': WHATEVER THE INPUT: true; the input reads as it did. -/
def fnExactAvoidsSizesSpec : ChangeSpec := { name := "fnExactAvoidsSizes", fn := fun _ => fun
  | [d1, d2] => { results := [.lit (.bool true)], args := [d1, d2] }
  | _ => none }
def fnExactAvoidsSizesRow : OpenClaim := { program := "ytdpamdedomkomaa", sum := "058f03165b5943e3b4451dc733b8a1fa702327aa50461a409204ce9825d7265a", func := "loop.example/g01362/laws.FnExactAvoidsSizes", spec := "fnExactAvoidsSizes", unfollowed := true, recurses := true, apart := false }
def FnExactAvoidsSizesSaid : Prop := fnExactAvoidsSizesRow.holds Try.pinned (OpenSpec.ofChange fnExactAvoidsSizesSpec)

/-- ITS FALSE NEIGHBOUR: 'it returns false'. Refute it at one input. -/
def fnExactAvoidsSizesWrong : ChangeSpec := { name := "fnExactAvoidsSizes", fn := fun _ => fun
  | [d1, d2] => { results := [.lit (.bool false)], args := [d1, d2] }
  | _ => none }
def FnExactAvoidsSizesWrongFalsely : Prop := fnExactAvoidsSizesRow.holds Try.pinned (OpenSpec.ofChange fnExactAvoidsSizesWrong)

/-- 'laws.FnExactFirstOfSizes': WHATEVER THE INPUT: true; the input reads as it did. -/
def fnExactFirstOfSizesSpec : ChangeSpec := { name := "fnExactFirstOfSizes", fn := fun _ => fun
  | [d1, d2] => { results := [.lit (.bool true)], args := [d1, d2] }
  | _ => none }
def fnExactFirstOfSizesRow : OpenClaim := { program := "ytdpamdedomkomaa", sum := "058f03165b5943e3b4451dc733b8a1fa702327aa50461a409204ce9825d7265a", func := "loop.example/g01362/laws.FnExactFirstOfSizes", spec := "fnExactFirstOfSizes", unfollowed := true, recurses := true, apart := false }
def FnExactFirstOfSizesSaid : Prop := fnExactFirstOfSizesRow.holds Try.pinned (OpenSpec.ofChange fnExactFirstOfSizesSpec)

/-- ITS FALSE NEIGHBOUR: 'it returns false'. Refute it at one input. -/
def fnExactFirstOfSizesWrong : ChangeSpec := { name := "fnExactFirstOfSizes", fn := fun _ => fun
  | [d1, d2] => { results := [.lit (.bool false)], args := [d1, d2] }
  | _ => none }
def FnExactFirstOfSizesWrongFalsely : Prop := fnExactFirstOfSizesRow.holds Try.pinned (OpenSpec.ofChange fnExactFirstOfSizesWrong)

/-- 'laws.FnExactLowerBound': WHATEVER THE INPUT: true; the input reads as it did. -/
def fnExactLowerBoundSpec : ChangeSpec := { name := "fnExactLowerBound", fn := fun _ => fun
  | [d1, d2] => { results := [.lit (.bool true)], args := [d1, d2] }
  | _ => none }
def fnExactLowerBoundRow : OpenClaim := { program := "ytdpamdedomkomaa", sum := "058f03165b5943e3b4451dc733b8a1fa702327aa50461a409204ce9825d7265a", func := "loop.example/g01362/laws.FnExactLowerBound", spec := "fnExactLowerBound", unfollowed := true, recurses := true, apart := false }
def FnExactLowerBoundSaid : Prop := fnExactLowerBoundRow.holds Try.pinned (OpenSpec.ofChange fnExactLowerBoundSpec)

/-- ITS FALSE NEIGHBOUR: 'it returns false'. Refute it at one input. -/
def fnExactLowerBoundWrong : ChangeSpec := { name := "fnExactLowerBound", fn := fun _ => fun
  | [d1, d2] => { results := [.lit (.bool false)], args := [d1, d2] }
  | _ => none }
def FnExactLowerBoundWrongFalsely : Prop := fnExactLowerBoundRow.holds Try.pinned (OpenSpec.ofChange fnExactLowerBoundWrong)

/-- 'laws.FnExactCliqueList': WHATEVER THE INPUT: true; the input reads as it did. -/
def fnExactCliqueListSpec : ChangeSpec := { name := "fnExactCliqueList", fn := fun _ => fun
  | [d1, d2, d3] => { results := [.lit (.bool true)], args := [d1, d2, d3] }
  | _ => none }
def fnExactCliqueListRow : OpenClaim := { program := "ytdpamdedomkomaa", sum := "058f03165b5943e3b4451dc733b8a1fa702327aa50461a409204ce9825d7265a", func := "loop.example/g01362/laws.FnExactCliqueList", spec := "fnExactCliqueList", unfollowed := true, recurses := true, apart := false }
def FnExactCliqueListSaid : Prop := fnExactCliqueListRow.holds Try.pinned (OpenSpec.ofChange fnExactCliqueListSpec)

/-- ITS FALSE NEIGHBOUR: 'it returns false'. Refute it at one input. -/
def fnExactCliqueListWrong : ChangeSpec := { name := "fnExactCliqueList", fn := fun _ => fun
  | [d1, d2, d3] => { results := [.lit (.bool false)], args := [d1, d2, d3] }
  | _ => none }
def FnExactCliqueListWrongFalsely : Prop := fnExactCliqueListRow.holds Try.pinned (OpenSpec.ofChange fnExactCliqueListWrong)

/-- 'laws.FnExactLongestBeginning': WHATEVER THE INPUT: true; the input reads as it did. -/
def fnExactLongestBeginningSpec : ChangeSpec := { name := "fnExactLongestBeginning", fn := fun _ => fun
  | [d1, d2] => { results := [.lit (.bool true)], args := [d1, d2] }
  | _ => none }
def fnExactLongestBeginningRow : OpenClaim := { program := "ytdpamdedomkomaa", sum := "058f03165b5943e3b4451dc733b8a1fa702327aa50461a409204ce9825d7265a", func := "loop.example/g01362/laws.FnExactLongestBeginning", spec := "fnExactLongestBeginning", unfollowed := true, recurses := true, apart := false }
def FnExactLongestBeginningSaid : Prop := fnExactLongestBeginningRow.holds Try.pinned (OpenSpec.ofChange fnExactLongestBeginningSpec)

/-- ITS FALSE NEIGHBOUR: 'it returns false'. Refute it at one input. -/
def fnExactLongestBeginningWrong : ChangeSpec := { name := "fnExactLongestBeginning", fn := fun _ => fun
  | [d1, d2] => { results := [.lit (.bool false)], args := [d1, d2] }
  | _ => none }
def FnExactLongestBeginningWrongFalsely : Prop := fnExactLongestBeginningRow.holds Try.pinned (OpenSpec.ofChange fnExactLongestBeginningWrong)

/-- 'laws.FnExactFullCliques': WHATEVER THE INPUT: true; the input reads as it did. -/
def fnExactFullCliquesSpec : ChangeSpec := { name := "fnExactFullCliques", fn := fun _ => fun
  | [d1, d2] => { results := [.lit (.bool true)], args := [d1, d2] }
  | _ => none }
def fnExactFullCliquesRow : OpenClaim := { program := "ytdpamdedomkomaa", sum := "058f03165b5943e3b4451dc733b8a1fa702327aa50461a409204ce9825d7265a", func := "loop.example/g01362/laws.FnExactFullCliques", spec := "fnExactFullCliques", unfollowed := true, recurses := true, apart := false }
def FnExactFullCliquesSaid : Prop := fnExactFullCliquesRow.holds Try.pinned (OpenSpec.ofChange fnExactFullCliquesSpec)

/-- ITS FALSE NEIGHBOUR: 'it returns false'. Refute it at one input. -/
def fnExactFullCliquesWrong : ChangeSpec := { name := "fnExactFullCliques", fn := fun _ => fun
  | [d1, d2] => { results := [.lit (.bool false)], args := [d1, d2] }
  | _ => none }
def FnExactFullCliquesWrongFalsely : Prop := fnExactFullCliquesRow.holds Try.pinned (OpenSpec.ofChange fnExactFullCliquesWrong)

/- THE SECOND FORM. 'bulk': how many values and letters a reading holds, each counted each time it is reached (what is shared counts as often as it is met; a slice's spare places count too). A statement '..UptoSaid' is the law's where the arguments, and the package variables that the reading takes, are together of bulk at most 1048576: NARROWER than '..Said'. Prove '..Said' where nothing that the law and all that it calls make is longer than what came in: it says more and counts as full. Else prove '..UptoSaid'. A law counts once. -/
mutual
def uptoBulk {H : Type} : DataW H → Nat
  | .lit (.string bytes) => bytes.length + 1
  | .lit _ => 1
  | .nil => 1
  | .ptr d => uptoBulk d + 1
  | .slice elems spare => uptoBulkAll elems + uptoBulkAll spare + 1
  | .agg parts => uptoBulkAll parts + 1
  | .iface _ d => uptoBulk d + 1
  | .map entries => uptoBulkEntries entries + 1
  | .held _ => 1
def uptoBulkAll {H : Type} : List (DataW H) → Nat
  | [] => 0
  | d :: r => uptoBulk d + uptoBulkAll r
def uptoBulkEntries {H : Type} : List (Lit × DataW H) → Nat
  | [] => 0
  | x :: r => uptoBulkEntry x + uptoBulkEntries r
def uptoBulkEntry {H : Type} : Lit × DataW H → Nat
  | (.string bytes, d) => bytes.length + uptoBulk d + 1
  | (_, d) => uptoBulk d + 1
 end
def uptoSmall : (H : Type) → List (DataW H) → Bool := fun _ ds => decide (uptoBulkAll ds ≤ 1048576)
def OpenSpec.upto (s : _root_.Go.ChangeSpec) : _root_.Go.OpenSpec := { _root_.Go.OpenSpec.ofChange s with cond := some uptoSmall }

/-- 'laws.FnExactIsClique', WHERE WHAT IT READS IS OF BULK AT MOST 1048576: true; the input reads as it did. -/
def fnExactIsCliqueUptoRow : OpenClaim := { program := "ytdpamdedomkomaa", sum := "058f03165b5943e3b4451dc733b8a1fa702327aa50461a409204ce9825d7265a", func := "loop.example/g01362/laws.FnExactIsClique", spec := "fnExactIsClique", unfollowed := true, recurses := true, apart := false, narrowed := true }
def FnExactIsCliqueUptoSaid : Prop := fnExactIsCliqueUptoRow.holds Try.pinned (OpenSpec.upto fnExactIsCliqueSpec)

/-- 'laws.FnExactCountCliques', WHERE WHAT IT READS IS OF BULK AT MOST 1048576: true; the input reads as it did. -/
def fnExactCountCliquesUptoRow : OpenClaim := { program := "ytdpamdedomkomaa", sum := "058f03165b5943e3b4451dc733b8a1fa702327aa50461a409204ce9825d7265a", func := "loop.example/g01362/laws.FnExactCountCliques", spec := "fnExactCountCliques", unfollowed := true, recurses := true, apart := false, narrowed := true }
def FnExactCountCliquesUptoSaid : Prop := fnExactCountCliquesUptoRow.holds Try.pinned (OpenSpec.upto fnExactCountCliquesSpec)

/-- 'laws.FnExactCliquesAt', WHERE WHAT IT READS IS OF BULK AT MOST 1048576: true; the input reads as it did. -/
def fnExactCliquesAtUptoRow : OpenClaim := { program := "ytdpamdedomkomaa", sum := "058f03165b5943e3b4451dc733b8a1fa702327aa50461a409204ce9825d7265a", func := "loop.example/g01362/laws.FnExactCliquesAt", spec := "fnExactCliquesAt", unfollowed := true, recurses := true, apart := false, narrowed := true }
def FnExactCliquesAtUptoSaid : Prop := fnExactCliquesAtUptoRow.holds Try.pinned (OpenSpec.upto fnExactCliquesAtSpec)

/-- 'laws.FnExactCountTriangles', WHERE WHAT IT READS IS OF BULK AT MOST 1048576: true; the input reads as it did. -/
def fnExactCountTrianglesUptoRow : OpenClaim := { program := "ytdpamdedomkomaa", sum := "058f03165b5943e3b4451dc733b8a1fa702327aa50461a409204ce9825d7265a", func := "loop.example/g01362/laws.FnExactCountTriangles", spec := "fnExactCountTriangles", unfollowed := true, recurses := true, apart := false, narrowed := true }
def FnExactCountTrianglesUptoSaid : Prop := fnExactCountTrianglesUptoRow.holds Try.pinned (OpenSpec.upto fnExactCountTrianglesSpec)

/-- 'laws.FnExactCliqueNumbers', WHERE WHAT IT READS IS OF BULK AT MOST 1048576: true; the input reads as it did. -/
def fnExactCliqueNumbersUptoRow : OpenClaim := { program := "ytdpamdedomkomaa", sum := "058f03165b5943e3b4451dc733b8a1fa702327aa50461a409204ce9825d7265a", func := "loop.example/g01362/laws.FnExactCliqueNumbers", spec := "fnExactCliqueNumbers", unfollowed := true, recurses := true, apart := false, narrowed := true }
def FnExactCliqueNumbersUptoSaid : Prop := fnExactCliqueNumbersUptoRow.holds Try.pinned (OpenSpec.upto fnExactCliqueNumbersSpec)

/-- 'laws.FnExactGreatestClique', WHERE WHAT IT READS IS OF BULK AT MOST 1048576: true; the input reads as it did. -/
def fnExactGreatestCliqueUptoRow : OpenClaim := { program := "ytdpamdedomkomaa", sum := "058f03165b5943e3b4451dc733b8a1fa702327aa50461a409204ce9825d7265a", func := "loop.example/g01362/laws.FnExactGreatestClique", spec := "fnExactGreatestClique", unfollowed := true, recurses := true, apart := false, narrowed := true }
def FnExactGreatestCliqueUptoSaid : Prop := fnExactGreatestCliqueUptoRow.holds Try.pinned (OpenSpec.upto fnExactGreatestCliqueSpec)

/-- 'laws.FnExactAvoidsSizes', WHERE WHAT IT READS IS OF BULK AT MOST 1048576: true; the input reads as it did. -/
def fnExactAvoidsSizesUptoRow : OpenClaim := { program := "ytdpamdedomkomaa", sum := "058f03165b5943e3b4451dc733b8a1fa702327aa50461a409204ce9825d7265a", func := "loop.example/g01362/laws.FnExactAvoidsSizes", spec := "fnExactAvoidsSizes", unfollowed := true, recurses := true, apart := false, narrowed := true }
def FnExactAvoidsSizesUptoSaid : Prop := fnExactAvoidsSizesUptoRow.holds Try.pinned (OpenSpec.upto fnExactAvoidsSizesSpec)

/-- 'laws.FnExactFirstOfSizes', WHERE WHAT IT READS IS OF BULK AT MOST 1048576: true; the input reads as it did. -/
def fnExactFirstOfSizesUptoRow : OpenClaim := { program := "ytdpamdedomkomaa", sum := "058f03165b5943e3b4451dc733b8a1fa702327aa50461a409204ce9825d7265a", func := "loop.example/g01362/laws.FnExactFirstOfSizes", spec := "fnExactFirstOfSizes", unfollowed := true, recurses := true, apart := false, narrowed := true }
def FnExactFirstOfSizesUptoSaid : Prop := fnExactFirstOfSizesUptoRow.holds Try.pinned (OpenSpec.upto fnExactFirstOfSizesSpec)

/-- 'laws.FnExactLowerBound', WHERE WHAT IT READS IS OF BULK AT MOST 1048576: true; the input reads as it did. -/
def fnExactLowerBoundUptoRow : OpenClaim := { program := "ytdpamdedomkomaa", sum := "058f03165b5943e3b4451dc733b8a1fa702327aa50461a409204ce9825d7265a", func := "loop.example/g01362/laws.FnExactLowerBound", spec := "fnExactLowerBound", unfollowed := true, recurses := true, apart := false, narrowed := true }
def FnExactLowerBoundUptoSaid : Prop := fnExactLowerBoundUptoRow.holds Try.pinned (OpenSpec.upto fnExactLowerBoundSpec)

/-- 'laws.FnExactCliqueList', WHERE WHAT IT READS IS OF BULK AT MOST 1048576: true; the input reads as it did. -/
def fnExactCliqueListUptoRow : OpenClaim := { program := "ytdpamdedomkomaa", sum := "058f03165b5943e3b4451dc733b8a1fa702327aa50461a409204ce9825d7265a", func := "loop.example/g01362/laws.FnExactCliqueList", spec := "fnExactCliqueList", unfollowed := true, recurses := true, apart := false, narrowed := true }
def FnExactCliqueListUptoSaid : Prop := fnExactCliqueListUptoRow.holds Try.pinned (OpenSpec.upto fnExactCliqueListSpec)

/-- 'laws.FnExactLongestBeginning', WHERE WHAT IT READS IS OF BULK AT MOST 1048576: true; the input reads as it did. -/
def fnExactLongestBeginningUptoRow : OpenClaim := { program := "ytdpamdedomkomaa", sum := "058f03165b5943e3b4451dc733b8a1fa702327aa50461a409204ce9825d7265a", func := "loop.example/g01362/laws.FnExactLongestBeginning", spec := "fnExactLongestBeginning", unfollowed := true, recurses := true, apart := false, narrowed := true }
def FnExactLongestBeginningUptoSaid : Prop := fnExactLongestBeginningUptoRow.holds Try.pinned (OpenSpec.upto fnExactLongestBeginningSpec)

/-- 'laws.FnExactFullCliques', WHERE WHAT IT READS IS OF BULK AT MOST 1048576: true; the input reads as it did. -/
def fnExactFullCliquesUptoRow : OpenClaim := { program := "ytdpamdedomkomaa", sum := "058f03165b5943e3b4451dc733b8a1fa702327aa50461a409204ce9825d7265a", func := "loop.example/g01362/laws.FnExactFullCliques", spec := "fnExactFullCliques", unfollowed := true, recurses := true, apart := false, narrowed := true }
def FnExactFullCliquesUptoSaid : Prop := fnExactFullCliquesUptoRow.holds Try.pinned (OpenSpec.upto fnExactFullCliquesSpec)

end Rows
end Go.Proofs.Ytdpamdedomkomaa
