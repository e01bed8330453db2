/-
  No cell of these rows narrows 'for every input' (looked for: loops, veiled, ifaces, maps, wideKeys, modest, calm, conditions, laid).
  DERIVED. THE GIVEN ROWS OF THIS SEAT. 11 by the template 'for every input the law returns true; each argument reads behind the call as it read before'; 0 by the template 'total and deterministic' (their statements: YtfhbamlpnicomaaTotals.lean).
  GIVEN WITH THE SEED: the statements are not yours to turn. If you find one false, say at which input.
  Laid BY PROGRAM, IN A SANDBOX (cutbox-rows.mjs): the forced cells as the released guide's own fill.sh prints them over the translation 1c1425113d60a25e… (all of the seat's roots in one cut). By AI agents, Wed Nov 11 2026. No macro, syntax, notation, axiom, sorry.
-/
import Derived.Test.YtfhbamlpnicomaaChecked
import GoSem.Claim
import GoSem.ClaimJoined
import GoSem.ClaimMapViews
import Derived.JoinedTies
import Derived.KernelRfl
namespace Go.Proofs.Ytfhbamlpnicomaa
/- THE CELL 'sum', in the pinned program and in every row, IS THE sha256 OF THE DUMP (.gsa) THAT YtfhbamlpnicomaaProg.lean LOADS. Nothing in Lean hashes anything: it is a label: what it is worth is what the hold of that sum in a sandbox is worth. -/
noncomputable def Try.pinned : Pinned := { name := "ytfhbamlpnicomaa", sum := "1c1425113d60a25e75fb63333c012ba0a8ba1c7b0f986037385de1d19390adcf", checked := Try.checked }
namespace Rows
def none {H : Type} : Left H := { results := [], args := [] }

/-- 'laws.FnExactNeighboursOf': WHATEVER THE INPUT: true; the input reads as it did. -/
def fnExactNeighboursOfSpec : ChangeSpec := { name := "fnExactNeighboursOf", fn := fun _ => fun
  | [d1, d2, d3] => { results := [.lit (.bool true)], args := [d1, d2, d3] }
  | _ => none }
def fnExactNeighboursOfRow : OpenClaim := { program := "ytfhbamlpnicomaa", sum := "1c1425113d60a25e75fb63333c012ba0a8ba1c7b0f986037385de1d19390adcf", func := "loop.example/g01362/laws.FnExactNeighboursOf", spec := "fnExactNeighboursOf", unfollowed := true, recurses := true, apart := false }
def FnExactNeighboursOfSaid : Prop := fnExactNeighboursOfRow.holds Try.pinned (OpenSpec.ofChange fnExactNeighboursOfSpec)

/-- ITS FALSE NEIGHBOUR: 'it returns false'. Refute it at one input. -/
def fnExactNeighboursOfWrong : ChangeSpec := { name := "fnExactNeighboursOf", fn := fun _ => fun
  | [d1, d2, d3] => { results := [.lit (.bool false)], args := [d1, d2, d3] }
  | _ => none }
def FnExactNeighboursOfWrongFalsely : Prop := fnExactNeighboursOfRow.holds Try.pinned (OpenSpec.ofChange fnExactNeighboursOfWrong)

/-- 'laws.FnExactGreatestStar': WHATEVER THE INPUT: true; the input reads as it did. -/
def fnExactGreatestStarSpec : ChangeSpec := { name := "fnExactGreatestStar", fn := fun _ => fun
  | [d1, d2] => { results := [.lit (.bool true)], args := [d1, d2] }
  | _ => none }
def fnExactGreatestStarRow : OpenClaim := { program := "ytfhbamlpnicomaa", sum := "1c1425113d60a25e75fb63333c012ba0a8ba1c7b0f986037385de1d19390adcf", func := "loop.example/g01362/laws.FnExactGreatestStar", spec := "fnExactGreatestStar", unfollowed := true, recurses := true, apart := false }
def FnExactGreatestStarSaid : Prop := fnExactGreatestStarRow.holds Try.pinned (OpenSpec.ofChange fnExactGreatestStarSpec)

/-- ITS FALSE NEIGHBOUR: 'it returns false'. Refute it at one input. -/
def fnExactGreatestStarWrong : ChangeSpec := { name := "fnExactGreatestStar", fn := fun _ => fun
  | [d1, d2] => { results := [.lit (.bool false)], args := [d1, d2] }
  | _ => none }
def FnExactGreatestStarWrongFalsely : Prop := fnExactGreatestStarRow.holds Try.pinned (OpenSpec.ofChange fnExactGreatestStarWrong)

/-- 'laws.FnExactPutPoint': WHATEVER THE INPUT: true; the input reads as it did. -/
def fnExactPutPointSpec : ChangeSpec := { name := "fnExactPutPoint", fn := fun _ => fun
  | [d1, d2] => { results := [.lit (.bool true)], args := [d1, d2] }
  | _ => none }
def fnExactPutPointRow : OpenClaim := { program := "ytfhbamlpnicomaa", sum := "1c1425113d60a25e75fb63333c012ba0a8ba1c7b0f986037385de1d19390adcf", func := "loop.example/g01362/laws.FnExactPutPoint", spec := "fnExactPutPoint", unfollowed := true, recurses := true, apart := false }
def FnExactPutPointSaid : Prop := fnExactPutPointRow.holds Try.pinned (OpenSpec.ofChange fnExactPutPointSpec)

/-- ITS FALSE NEIGHBOUR: 'it returns false'. Refute it at one input. -/
def fnExactPutPointWrong : ChangeSpec := { name := "fnExactPutPoint", fn := fun _ => fun
  | [d1, d2] => { results := [.lit (.bool false)], args := [d1, d2] }
  | _ => none }
def FnExactPutPointWrongFalsely : Prop := fnExactPutPointRow.holds Try.pinned (OpenSpec.ofChange fnExactPutPointWrong)

/-- 'laws.FnExactCommonNeighbours': WHATEVER THE INPUT: true; the input reads as it did. -/
def fnExactCommonNeighboursSpec : ChangeSpec := { name := "fnExactCommonNeighbours", fn := fun _ => fun
  | [d1, d2, d3, d4] => { results := [.lit (.bool true)], args := [d1, d2, d3, d4] }
  | _ => none }
def fnExactCommonNeighboursRow : OpenClaim := { program := "ytfhbamlpnicomaa", sum := "1c1425113d60a25e75fb63333c012ba0a8ba1c7b0f986037385de1d19390adcf", func := "loop.example/g01362/laws.FnExactCommonNeighbours", spec := "fnExactCommonNeighbours", unfollowed := true, recurses := true, apart := false }
def FnExactCommonNeighboursSaid : Prop := fnExactCommonNeighboursRow.holds Try.pinned (OpenSpec.ofChange fnExactCommonNeighboursSpec)

/-- ITS FALSE NEIGHBOUR: 'it returns false'. Refute it at one input. -/
def fnExactCommonNeighboursWrong : ChangeSpec := { name := "fnExactCommonNeighbours", fn := fun _ => fun
  | [d1, d2, d3, d4] => { results := [.lit (.bool false)], args := [d1, d2, d3, d4] }
  | _ => none }
def FnExactCommonNeighboursWrongFalsely : Prop := fnExactCommonNeighboursRow.holds Try.pinned (OpenSpec.ofChange fnExactCommonNeighboursWrong)

/-- 'laws.FnExactListOfCircular': WHATEVER THE INPUT: true; the input reads as it did. -/
def fnExactListOfCircularSpec : ChangeSpec := { name := "fnExactListOfCircular", fn := fun _ => fun
  | [d] => { results := [.lit (.bool true)], args := [d] }
  | _ => none }
def fnExactListOfCircularRow : OpenClaim := { program := "ytfhbamlpnicomaa", sum := "1c1425113d60a25e75fb63333c012ba0a8ba1c7b0f986037385de1d19390adcf", func := "loop.example/g01362/laws.FnExactListOfCircular", spec := "fnExactListOfCircular", unfollowed := true, recurses := true, apart := false }
def FnExactListOfCircularSaid : Prop := fnExactListOfCircularRow.holds Try.pinned (OpenSpec.ofChange fnExactListOfCircularSpec)

/-- ITS FALSE NEIGHBOUR: 'it returns false'. Refute it at one input. -/
def fnExactListOfCircularWrong : ChangeSpec := { name := "fnExactListOfCircular", fn := fun _ => fun
  | [d] => { results := [.lit (.bool false)], args := [d] }
  | _ => none }
def FnExactListOfCircularWrongFalsely : Prop := fnExactListOfCircularRow.holds Try.pinned (OpenSpec.ofChange fnExactListOfCircularWrong)

/-- 'laws.FnExactTakePoint': WHATEVER THE INPUT: true; the input reads as it did. -/
def fnExactTakePointSpec : ChangeSpec := { name := "fnExactTakePoint", fn := fun _ => fun
  | [d1, d2] => { results := [.lit (.bool true)], args := [d1, d2] }
  | _ => none }
def fnExactTakePointRow : OpenClaim := { program := "ytfhbamlpnicomaa", sum := "1c1425113d60a25e75fb63333c012ba0a8ba1c7b0f986037385de1d19390adcf", func := "loop.example/g01362/laws.FnExactTakePoint", spec := "fnExactTakePoint", unfollowed := true, recurses := true, apart := false }
def FnExactTakePointSaid : Prop := fnExactTakePointRow.holds Try.pinned (OpenSpec.ofChange fnExactTakePointSpec)

/-- ITS FALSE NEIGHBOUR: 'it returns false'. Refute it at one input. -/
def fnExactTakePointWrong : ChangeSpec := { name := "fnExactTakePoint", fn := fun _ => fun
  | [d1, d2] => { results := [.lit (.bool false)], args := [d1, d2] }
  | _ => none }
def FnExactTakePointWrongFalsely : Prop := fnExactTakePointRow.holds Try.pinned (OpenSpec.ofChange fnExactTakePointWrong)

/-- 'laws.FnExactDegreesOf': WHATEVER THE INPUT: true; the input reads as it did. -/
def fnExactDegreesOfSpec : ChangeSpec := { name := "fnExactDegreesOf", fn := fun _ => fun
  | [d1, d2] => { results := [.lit (.bool true)], args := [d1, d2] }
  | _ => none }
def fnExactDegreesOfRow : OpenClaim := { program := "ytfhbamlpnicomaa", sum := "1c1425113d60a25e75fb63333c012ba0a8ba1c7b0f986037385de1d19390adcf", func := "loop.example/g01362/laws.FnExactDegreesOf", spec := "fnExactDegreesOf", unfollowed := true, recurses := true, apart := false }
def FnExactDegreesOfSaid : Prop := fnExactDegreesOfRow.holds Try.pinned (OpenSpec.ofChange fnExactDegreesOfSpec)

/-- ITS FALSE NEIGHBOUR: 'it returns false'. Refute it at one input. -/
def fnExactDegreesOfWrong : ChangeSpec := { name := "fnExactDegreesOf", fn := fun _ => fun
  | [d1, d2] => { results := [.lit (.bool false)], args := [d1, d2] }
  | _ => none }
def FnExactDegreesOfWrongFalsely : Prop := fnExactDegreesOfRow.holds Try.pinned (OpenSpec.ofChange fnExactDegreesOfWrong)

/-- 'laws.FnExactPartOn': WHATEVER THE INPUT: true; the input reads as it did. -/
def fnExactPartOnSpec : ChangeSpec := { name := "fnExactPartOn", fn := fun _ => fun
  | [d1, d2] => { results := [.lit (.bool true)], args := [d1, d2] }
  | _ => none }
def fnExactPartOnRow : OpenClaim := { program := "ytfhbamlpnicomaa", sum := "1c1425113d60a25e75fb63333c012ba0a8ba1c7b0f986037385de1d19390adcf", func := "loop.example/g01362/laws.FnExactPartOn", spec := "fnExactPartOn", unfollowed := true, recurses := true, apart := false }
def FnExactPartOnSaid : Prop := fnExactPartOnRow.holds Try.pinned (OpenSpec.ofChange fnExactPartOnSpec)

/-- ITS FALSE NEIGHBOUR: 'it returns false'. Refute it at one input. -/
def fnExactPartOnWrong : ChangeSpec := { name := "fnExactPartOn", fn := fun _ => fun
  | [d1, d2] => { results := [.lit (.bool false)], args := [d1, d2] }
  | _ => none }
def FnExactPartOnWrongFalsely : Prop := fnExactPartOnRow.holds Try.pinned (OpenSpec.ofChange fnExactPartOnWrong)

/-- 'laws.FnExactGreatestBook': WHATEVER THE INPUT: true; the input reads as it did. -/
def fnExactGreatestBookSpec : ChangeSpec := { name := "fnExactGreatestBook", fn := fun _ => fun
  | [d1, d2] => { results := [.lit (.bool true)], args := [d1, d2] }
  | _ => none }
def fnExactGreatestBookRow : OpenClaim := { program := "ytfhbamlpnicomaa", sum := "1c1425113d60a25e75fb63333c012ba0a8ba1c7b0f986037385de1d19390adcf", func := "loop.example/g01362/laws.FnExactGreatestBook", spec := "fnExactGreatestBook", unfollowed := true, recurses := true, apart := false }
def FnExactGreatestBookSaid : Prop := fnExactGreatestBookRow.holds Try.pinned (OpenSpec.ofChange fnExactGreatestBookSpec)

/-- ITS FALSE NEIGHBOUR: 'it returns false'. Refute it at one input. -/
def fnExactGreatestBookWrong : ChangeSpec := { name := "fnExactGreatestBook", fn := fun _ => fun
  | [d1, d2] => { results := [.lit (.bool false)], args := [d1, d2] }
  | _ => none }
def FnExactGreatestBookWrongFalsely : Prop := fnExactGreatestBookRow.holds Try.pinned (OpenSpec.ofChange fnExactGreatestBookWrong)

/-- 'laws.FnExactGreatestDouble': WHATEVER THE INPUT: true; the input reads as it did. -/
def fnExactGreatestDoubleSpec : ChangeSpec := { name := "fnExactGreatestDouble", fn := fun _ => fun
  | [d1, d2] => { results := [.lit (.bool true)], args := [d1, d2] }
  | _ => none }
def fnExactGreatestDoubleRow : OpenClaim := { program := "ytfhbamlpnicomaa", sum := "1c1425113d60a25e75fb63333c012ba0a8ba1c7b0f986037385de1d19390adcf", func := "loop.example/g01362/laws.FnExactGreatestDouble", spec := "fnExactGreatestDouble", unfollowed := true, recurses := true, apart := false }
def FnExactGreatestDoubleSaid : Prop := fnExactGreatestDoubleRow.holds Try.pinned (OpenSpec.ofChange fnExactGreatestDoubleSpec)

/-- ITS FALSE NEIGHBOUR: 'it returns false'. Refute it at one input. -/
def fnExactGreatestDoubleWrong : ChangeSpec := { name := "fnExactGreatestDouble", fn := fun _ => fun
  | [d1, d2] => { results := [.lit (.bool false)], args := [d1, d2] }
  | _ => none }
def FnExactGreatestDoubleWrongFalsely : Prop := fnExactGreatestDoubleRow.holds Try.pinned (OpenSpec.ofChange fnExactGreatestDoubleWrong)

/-- 'laws.FnExactMultipliersOf': WHATEVER THE INPUT: true; the input reads as it did. -/
def fnExactMultipliersOfSpec : ChangeSpec := { name := "fnExactMultipliersOf", fn := fun _ => fun
  | [d] => { results := [.lit (.bool true)], args := [d] }
  | _ => none }
def fnExactMultipliersOfRow : OpenClaim := { program := "ytfhbamlpnicomaa", sum := "1c1425113d60a25e75fb63333c012ba0a8ba1c7b0f986037385de1d19390adcf", func := "loop.example/g01362/laws.FnExactMultipliersOf", spec := "fnExactMultipliersOf", unfollowed := true, recurses := true, apart := false }
def FnExactMultipliersOfSaid : Prop := fnExactMultipliersOfRow.holds Try.pinned (OpenSpec.ofChange fnExactMultipliersOfSpec)

/-- ITS FALSE NEIGHBOUR: 'it returns false'. Refute it at one input. -/
def fnExactMultipliersOfWrong : ChangeSpec := { name := "fnExactMultipliersOf", fn := fun _ => fun
  | [d] => { results := [.lit (.bool false)], args := [d] }
  | _ => none }
def FnExactMultipliersOfWrongFalsely : Prop := fnExactMultipliersOfRow.holds Try.pinned (OpenSpec.ofChange fnExactMultipliersOfWrong)

/- THE SECOND FORM. 'bulk': how many values and letters a reading holds, each counted each time it is reached (what is shared counts as often as it is met; a slice's spare places count too). A statement '..UptoSaid' is the law's where the arguments, and the package variables that the reading takes, are together of bulk at most 1048576: NARROWER than '..Said'. Prove '..Said' where nothing that the law and all that it calls make is longer than what came in: it says more and counts as full. Else prove '..UptoSaid'. A law counts once. -/
mutual
def uptoBulk {H : Type} : DataW H → Nat
  | .lit (.string bytes) => bytes.length + 1
  | .lit _ => 1
  | .nil => 1
  | .ptr d => uptoBulk d + 1
  | .slice elems spare => uptoBulkAll elems + uptoBulkAll spare + 1
  | .agg parts => uptoBulkAll parts + 1
  | .iface _ d => uptoBulk d + 1
  | .map entries => uptoBulkEntries entries + 1
  | .held _ => 1
def uptoBulkAll {H : Type} : List (DataW H) → Nat
  | [] => 0
  | d :: r => uptoBulk d + uptoBulkAll r
def uptoBulkEntries {H : Type} : List (Lit × DataW H) → Nat
  | [] => 0
  | x :: r => uptoBulkEntry x + uptoBulkEntries r
def uptoBulkEntry {H : Type} : Lit × DataW H → Nat
  | (.string bytes, d) => bytes.length + uptoBulk d + 1
  | (_, d) => uptoBulk d + 1
 end
def uptoSmall : (H : Type) → List (DataW H) → Bool := fun _ ds => decide (uptoBulkAll ds ≤ 1048576)
def OpenSpec.upto (s : _root_.Go.ChangeSpec) : _root_.Go.OpenSpec := { _root_.Go.OpenSpec.ofChange s with cond := some uptoSmall }

/-- 'laws.FnExactNeighboursOf', WHERE WHAT IT READS IS OF BULK AT MOST 1048576: true; the input reads as it did. -/
def fnExactNeighboursOfUptoRow : OpenClaim := { program := "ytfhbamlpnicomaa", sum := "1c1425113d60a25e75fb63333c012ba0a8ba1c7b0f986037385de1d19390adcf", func := "loop.example/g01362/laws.FnExactNeighboursOf", spec := "fnExactNeighboursOf", unfollowed := true, recurses := true, apart := false, narrowed := true }
def FnExactNeighboursOfUptoSaid : Prop := fnExactNeighboursOfUptoRow.holds Try.pinned (OpenSpec.upto fnExactNeighboursOfSpec)

/-- 'laws.FnExactGreatestStar', WHERE WHAT IT READS IS OF BULK AT MOST 1048576: true; the input reads as it did. -/
def fnExactGreatestStarUptoRow : OpenClaim := { program := "ytfhbamlpnicomaa", sum := "1c1425113d60a25e75fb63333c012ba0a8ba1c7b0f986037385de1d19390adcf", func := "loop.example/g01362/laws.FnExactGreatestStar", spec := "fnExactGreatestStar", unfollowed := true, recurses := true, apart := false, narrowed := true }
def FnExactGreatestStarUptoSaid : Prop := fnExactGreatestStarUptoRow.holds Try.pinned (OpenSpec.upto fnExactGreatestStarSpec)

/-- 'laws.FnExactPutPoint', WHERE WHAT IT READS IS OF BULK AT MOST 1048576: true; the input reads as it did. -/
def fnExactPutPointUptoRow : OpenClaim := { program := "ytfhbamlpnicomaa", sum := "1c1425113d60a25e75fb63333c012ba0a8ba1c7b0f986037385de1d19390adcf", func := "loop.example/g01362/laws.FnExactPutPoint", spec := "fnExactPutPoint", unfollowed := true, recurses := true, apart := false, narrowed := true }
def FnExactPutPointUptoSaid : Prop := fnExactPutPointUptoRow.holds Try.pinned (OpenSpec.upto fnExactPutPointSpec)

/-- 'laws.FnExactCommonNeighbours', WHERE WHAT IT READS IS OF BULK AT MOST 1048576: true; the input reads as it did. -/
def fnExactCommonNeighboursUptoRow : OpenClaim := { program := "ytfhbamlpnicomaa", sum := "1c1425113d60a25e75fb63333c012ba0a8ba1c7b0f986037385de1d19390adcf", func := "loop.example/g01362/laws.FnExactCommonNeighbours", spec := "fnExactCommonNeighbours", unfollowed := true, recurses := true, apart := false, narrowed := true }
def FnExactCommonNeighboursUptoSaid : Prop := fnExactCommonNeighboursUptoRow.holds Try.pinned (OpenSpec.upto fnExactCommonNeighboursSpec)

/-- 'laws.FnExactListOfCircular', WHERE WHAT IT READS IS OF BULK AT MOST 1048576: true; the input reads as it did. -/
def fnExactListOfCircularUptoRow : OpenClaim := { program := "ytfhbamlpnicomaa", sum := "1c1425113d60a25e75fb63333c012ba0a8ba1c7b0f986037385de1d19390adcf", func := "loop.example/g01362/laws.FnExactListOfCircular", spec := "fnExactListOfCircular", unfollowed := true, recurses := true, apart := false, narrowed := true }
def FnExactListOfCircularUptoSaid : Prop := fnExactListOfCircularUptoRow.holds Try.pinned (OpenSpec.upto fnExactListOfCircularSpec)

/-- 'laws.FnExactTakePoint', WHERE WHAT IT READS IS OF BULK AT MOST 1048576: true; the input reads as it did. -/
def fnExactTakePointUptoRow : OpenClaim := { program := "ytfhbamlpnicomaa", sum := "1c1425113d60a25e75fb63333c012ba0a8ba1c7b0f986037385de1d19390adcf", func := "loop.example/g01362/laws.FnExactTakePoint", spec := "fnExactTakePoint", unfollowed := true, recurses := true, apart := false, narrowed := true }
def FnExactTakePointUptoSaid : Prop := fnExactTakePointUptoRow.holds Try.pinned (OpenSpec.upto fnExactTakePointSpec)

/-- 'laws.FnExactDegreesOf', WHERE WHAT IT READS IS OF BULK AT MOST 1048576: true; the input reads as it did. -/
def fnExactDegreesOfUptoRow : OpenClaim := { program := "ytfhbamlpnicomaa", sum := "1c1425113d60a25e75fb63333c012ba0a8ba1c7b0f986037385de1d19390adcf", func := "loop.example/g01362/laws.FnExactDegreesOf", spec := "fnExactDegreesOf", unfollowed := true, recurses := true, apart := false, narrowed := true }
def FnExactDegreesOfUptoSaid : Prop := fnExactDegreesOfUptoRow.holds Try.pinned (OpenSpec.upto fnExactDegreesOfSpec)

/-- 'laws.FnExactPartOn', WHERE WHAT IT READS IS OF BULK AT MOST 1048576: true; the input reads as it did. -/
def fnExactPartOnUptoRow : OpenClaim := { program := "ytfhbamlpnicomaa", sum := "1c1425113d60a25e75fb63333c012ba0a8ba1c7b0f986037385de1d19390adcf", func := "loop.example/g01362/laws.FnExactPartOn", spec := "fnExactPartOn", unfollowed := true, recurses := true, apart := false, narrowed := true }
def FnExactPartOnUptoSaid : Prop := fnExactPartOnUptoRow.holds Try.pinned (OpenSpec.upto fnExactPartOnSpec)

/-- 'laws.FnExactGreatestBook', WHERE WHAT IT READS IS OF BULK AT MOST 1048576: true; the input reads as it did. -/
def fnExactGreatestBookUptoRow : OpenClaim := { program := "ytfhbamlpnicomaa", sum := "1c1425113d60a25e75fb63333c012ba0a8ba1c7b0f986037385de1d19390adcf", func := "loop.example/g01362/laws.FnExactGreatestBook", spec := "fnExactGreatestBook", unfollowed := true, recurses := true, apart := false, narrowed := true }
def FnExactGreatestBookUptoSaid : Prop := fnExactGreatestBookUptoRow.holds Try.pinned (OpenSpec.upto fnExactGreatestBookSpec)

/-- 'laws.FnExactGreatestDouble', WHERE WHAT IT READS IS OF BULK AT MOST 1048576: true; the input reads as it did. -/
def fnExactGreatestDoubleUptoRow : OpenClaim := { program := "ytfhbamlpnicomaa", sum := "1c1425113d60a25e75fb63333c012ba0a8ba1c7b0f986037385de1d19390adcf", func := "loop.example/g01362/laws.FnExactGreatestDouble", spec := "fnExactGreatestDouble", unfollowed := true, recurses := true, apart := false, narrowed := true }
def FnExactGreatestDoubleUptoSaid : Prop := fnExactGreatestDoubleUptoRow.holds Try.pinned (OpenSpec.upto fnExactGreatestDoubleSpec)

/-- 'laws.FnExactMultipliersOf', WHERE WHAT IT READS IS OF BULK AT MOST 1048576: true; the input reads as it did. -/
def fnExactMultipliersOfUptoRow : OpenClaim := { program := "ytfhbamlpnicomaa", sum := "1c1425113d60a25e75fb63333c012ba0a8ba1c7b0f986037385de1d19390adcf", func := "loop.example/g01362/laws.FnExactMultipliersOf", spec := "fnExactMultipliersOf", unfollowed := true, recurses := true, apart := false, narrowed := true }
def FnExactMultipliersOfUptoSaid : Prop := fnExactMultipliersOfUptoRow.holds Try.pinned (OpenSpec.upto fnExactMultipliersOfSpec)

end Rows
end Go.Proofs.Ytfhbamlpnicomaa
