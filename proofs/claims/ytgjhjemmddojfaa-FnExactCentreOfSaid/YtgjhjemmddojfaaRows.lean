/-
  No cell of these rows narrows 'for every input' (looked for: loops, veiled, ifaces, maps, wideKeys, modest, calm, conditions, laid).
  DERIVED. THE GIVEN ROWS OF THIS SEAT. 12 by the template 'for every input the law returns true; each argument reads behind the call as it read before'; 0 by the template 'total and deterministic' (their statements: YtgjhjemmddojfaaTotals.lean).
  GIVEN WITH THE SEED: the statements are not yours to turn. If you find one false, say at which input.
  Laid BY PROGRAM, IN A SANDBOX (cutbox-rows.mjs): the forced cells as the released guide's own fill.sh prints them over the translation 9bd484690516029a… (all of the seat's roots in one cut). By AI agents, Wed Nov 11 2026. No macro, syntax, notation, axiom, sorry.
-/
import Derived.Test.YtgjhjemmddojfaaChecked
import GoSem.Claim
import GoSem.ClaimJoined
import GoSem.ClaimMapViews
import Derived.JoinedTies
import Derived.KernelRfl
namespace Go.Proofs.Ytgjhjemmddojfaa
/- THE CELL 'sum', in the pinned program and in every row, IS THE sha256 OF THE DUMP (.gsa) THAT YtgjhjemmddojfaaProg.lean LOADS. Nothing in Lean hashes anything: it is a label: what it is worth is what the hold of that sum in a sandbox is worth. -/
noncomputable def Try.pinned : Pinned := { name := "ytgjhjemmddojfaa", sum := "9bd484690516029a7af3c3c3b4e5cfe51d72f7470dd6c8d7deaade73564fed2b", checked := Try.checked }
namespace Rows
def none {H : Type} : Left H := { results := [], args := [] }

/-- 'laws.FnExactComparePlaces': WHATEVER THE INPUT: true; the input reads as it did. -/
def fnExactComparePlacesSpec : ChangeSpec := { name := "fnExactComparePlaces", fn := fun _ => fun
  | [d1, d2] => { results := [.lit (.bool true)], args := [d1, d2] }
  | _ => none }
def fnExactComparePlacesRow : OpenClaim := { program := "ytgjhjemmddojfaa", sum := "9bd484690516029a7af3c3c3b4e5cfe51d72f7470dd6c8d7deaade73564fed2b", func := "loop.example/g01204/laws.FnExactComparePlaces", spec := "fnExactComparePlaces", apart := false }
def FnExactComparePlacesSaid : Prop := fnExactComparePlacesRow.holds Try.pinned (OpenSpec.ofChange fnExactComparePlacesSpec)

/-- ITS FALSE NEIGHBOUR: 'it returns false'. Refute it at one input. -/
def fnExactComparePlacesWrong : ChangeSpec := { name := "fnExactComparePlaces", fn := fun _ => fun
  | [d1, d2] => { results := [.lit (.bool false)], args := [d1, d2] }
  | _ => none }
def FnExactComparePlacesWrongFalsely : Prop := fnExactComparePlacesRow.holds Try.pinned (OpenSpec.ofChange fnExactComparePlacesWrong)

/-- 'laws.FnExactBetterMark': WHATEVER THE INPUT: true; the input reads as it did. -/
def fnExactBetterMarkSpec : ChangeSpec := { name := "fnExactBetterMark", fn := fun _ => fun
  | [d1, d2] => { results := [.lit (.bool true)], args := [d1, d2] }
  | _ => none }
def fnExactBetterMarkRow : OpenClaim := { program := "ytgjhjemmddojfaa", sum := "9bd484690516029a7af3c3c3b4e5cfe51d72f7470dd6c8d7deaade73564fed2b", func := "loop.example/g01204/laws.FnExactBetterMark", spec := "fnExactBetterMark", inPlace := ["math.Float32bits", "math.Float64bits"], apart := false }
def FnExactBetterMarkSaid : Prop := fnExactBetterMarkRow.holds Try.pinned (OpenSpec.ofChange fnExactBetterMarkSpec)

/-- ITS FALSE NEIGHBOUR: 'it returns false'. Refute it at one input. -/
def fnExactBetterMarkWrong : ChangeSpec := { name := "fnExactBetterMark", fn := fun _ => fun
  | [d1, d2] => { results := [.lit (.bool false)], args := [d1, d2] }
  | _ => none }
def FnExactBetterMarkWrongFalsely : Prop := fnExactBetterMarkRow.holds Try.pinned (OpenSpec.ofChange fnExactBetterMarkWrong)

/-- 'laws.FnExactCellOf': WHATEVER THE INPUT: true; the input reads as it did. -/
def fnExactCellOfSpec : ChangeSpec := { name := "fnExactCellOf", fn := fun _ => fun
  | [d1, d2] => { results := [.lit (.bool true)], args := [d1, d2] }
  | _ => none }
def fnExactCellOfRow : OpenClaim := { program := "ytgjhjemmddojfaa", sum := "9bd484690516029a7af3c3c3b4e5cfe51d72f7470dd6c8d7deaade73564fed2b", func := "loop.example/g01204/laws.FnExactCellOf", spec := "fnExactCellOf", inPlace := ["math.archFloor", "math.Float64bits", "math.Float64frombits", "math.archTrunc"], apart := false }
def FnExactCellOfSaid : Prop := fnExactCellOfRow.holds Try.pinned (OpenSpec.ofChange fnExactCellOfSpec)

/-- ITS FALSE NEIGHBOUR: 'it returns false'. Refute it at one input. -/
def fnExactCellOfWrong : ChangeSpec := { name := "fnExactCellOf", fn := fun _ => fun
  | [d1, d2] => { results := [.lit (.bool false)], args := [d1, d2] }
  | _ => none }
def FnExactCellOfWrongFalsely : Prop := fnExactCellOfRow.holds Try.pinned (OpenSpec.ofChange fnExactCellOfWrong)

/-- 'laws.FnExactEmptyMap': WHATEVER THE INPUT: true; the input reads as it did. -/
def fnExactEmptyMapSpec : ChangeSpec := { name := "fnExactEmptyMap", fn := fun _ => fun
  | [d] => { results := [.lit (.bool true)], args := [d] }
  | _ => none }
def fnExactEmptyMapRow : OpenClaim := { program := "ytgjhjemmddojfaa", sum := "9bd484690516029a7af3c3c3b4e5cfe51d72f7470dd6c8d7deaade73564fed2b", func := "loop.example/g01204/laws.FnExactEmptyMap", spec := "fnExactEmptyMap", apart := false }
def FnExactEmptyMapSaid : Prop := fnExactEmptyMapRow.holds Try.pinned (OpenSpec.ofChange fnExactEmptyMapSpec)

/-- ITS FALSE NEIGHBOUR: 'it returns false'. Refute it at one input. -/
def fnExactEmptyMapWrong : ChangeSpec := { name := "fnExactEmptyMap", fn := fun _ => fun
  | [d] => { results := [.lit (.bool false)], args := [d] }
  | _ => none }
def FnExactEmptyMapWrongFalsely : Prop := fnExactEmptyMapRow.holds Try.pinned (OpenSpec.ofChange fnExactEmptyMapWrong)

/-- 'laws.FnExactSameMap': WHATEVER THE INPUT: true; the input reads as it did. -/
def fnExactSameMapSpec : ChangeSpec := { name := "fnExactSameMap", fn := fun _ => fun
  | [d1, d2] => { results := [.lit (.bool true)], args := [d1, d2] }
  | _ => none }
def fnExactSameMapRow : OpenClaim := { program := "ytgjhjemmddojfaa", sum := "9bd484690516029a7af3c3c3b4e5cfe51d72f7470dd6c8d7deaade73564fed2b", func := "loop.example/g01204/laws.FnExactSameMap", spec := "fnExactSameMap", inPlace := ["math.Float32bits"], unfollowed := true, recurses := true, apart := false }
def FnExactSameMapSaid : Prop := fnExactSameMapRow.holds Try.pinned (OpenSpec.ofChange fnExactSameMapSpec)

/-- ITS FALSE NEIGHBOUR: 'it returns false'. Refute it at one input. -/
def fnExactSameMapWrong : ChangeSpec := { name := "fnExactSameMap", fn := fun _ => fun
  | [d1, d2] => { results := [.lit (.bool false)], args := [d1, d2] }
  | _ => none }
def FnExactSameMapWrongFalsely : Prop := fnExactSameMapRow.holds Try.pinned (OpenSpec.ofChange fnExactSameMapWrong)

/-- 'laws.FnExactValidMap': WHATEVER THE INPUT: true; the input reads as it did. -/
def fnExactValidMapSpec : ChangeSpec := { name := "fnExactValidMap", fn := fun _ => fun
  | [d] => { results := [.lit (.bool true)], args := [d] }
  | _ => none }
def fnExactValidMapRow : OpenClaim := { program := "ytgjhjemmddojfaa", sum := "9bd484690516029a7af3c3c3b4e5cfe51d72f7470dd6c8d7deaade73564fed2b", func := "loop.example/g01204/laws.FnExactValidMap", spec := "fnExactValidMap", apart := false }
def FnExactValidMapSaid : Prop := fnExactValidMapRow.holds Try.pinned (OpenSpec.ofChange fnExactValidMapSpec)

/-- ITS FALSE NEIGHBOUR: 'it returns false'. Refute it at one input. -/
def fnExactValidMapWrong : ChangeSpec := { name := "fnExactValidMap", fn := fun _ => fun
  | [d] => { results := [.lit (.bool false)], args := [d] }
  | _ => none }
def FnExactValidMapWrongFalsely : Prop := fnExactValidMapRow.holds Try.pinned (OpenSpec.ofChange fnExactValidMapWrong)

/-- 'laws.FnExactMarkIn': WHATEVER THE INPUT: true; the input reads as it did. -/
def fnExactMarkInSpec : ChangeSpec := { name := "fnExactMarkIn", fn := fun _ => fun
  | [d1, d2] => { results := [.lit (.bool true)], args := [d1, d2] }
  | _ => none }
def fnExactMarkInRow : OpenClaim := { program := "ytgjhjemmddojfaa", sum := "9bd484690516029a7af3c3c3b4e5cfe51d72f7470dd6c8d7deaade73564fed2b", func := "loop.example/g01204/laws.FnExactMarkIn", spec := "fnExactMarkIn", unfollowed := true, recurses := true, apart := false }
def FnExactMarkInSaid : Prop := fnExactMarkInRow.holds Try.pinned (OpenSpec.ofChange fnExactMarkInSpec)

/-- ITS FALSE NEIGHBOUR: 'it returns false'. Refute it at one input. -/
def fnExactMarkInWrong : ChangeSpec := { name := "fnExactMarkIn", fn := fun _ => fun
  | [d1, d2] => { results := [.lit (.bool false)], args := [d1, d2] }
  | _ => none }
def FnExactMarkInWrongFalsely : Prop := fnExactMarkInRow.holds Try.pinned (OpenSpec.ofChange fnExactMarkInWrong)

/-- 'laws.FnExactCentreOf': WHATEVER THE INPUT: true; the input reads as it did. -/
def fnExactCentreOfSpec : ChangeSpec := { name := "fnExactCentreOf", fn := fun _ => fun
  | [d] => { results := [.lit (.bool true)], args := [d] }
  | _ => none }
def fnExactCentreOfRow : OpenClaim := { program := "ytgjhjemmddojfaa", sum := "9bd484690516029a7af3c3c3b4e5cfe51d72f7470dd6c8d7deaade73564fed2b", func := "loop.example/g01204/laws.FnExactCentreOf", spec := "fnExactCentreOf", apart := false }
def FnExactCentreOfSaid : Prop := fnExactCentreOfRow.holds Try.pinned (OpenSpec.ofChange fnExactCentreOfSpec)

/-- ITS FALSE NEIGHBOUR: 'it returns false'. Refute it at one input. -/
def fnExactCentreOfWrong : ChangeSpec := { name := "fnExactCentreOf", fn := fun _ => fun
  | [d] => { results := [.lit (.bool false)], args := [d] }
  | _ => none }
def FnExactCentreOfWrongFalsely : Prop := fnExactCentreOfRow.holds Try.pinned (OpenSpec.ofChange fnExactCentreOfWrong)

/-- 'laws.FnExactForgetBefore': WHATEVER THE INPUT: true; the input reads as it did. -/
def fnExactForgetBeforeSpec : ChangeSpec := { name := "fnExactForgetBefore", fn := fun _ => fun
  | [d1, d2] => { results := [.lit (.bool true)], args := [d1, d2] }
  | _ => none }
def fnExactForgetBeforeRow : OpenClaim := { program := "ytgjhjemmddojfaa", sum := "9bd484690516029a7af3c3c3b4e5cfe51d72f7470dd6c8d7deaade73564fed2b", func := "loop.example/g01204/laws.FnExactForgetBefore", spec := "fnExactForgetBefore", unfollowed := true, recurses := true, apart := false }
def FnExactForgetBeforeSaid : Prop := fnExactForgetBeforeRow.holds Try.pinned (OpenSpec.ofChange fnExactForgetBeforeSpec)

/-- ITS FALSE NEIGHBOUR: 'it returns false'. Refute it at one input. -/
def fnExactForgetBeforeWrong : ChangeSpec := { name := "fnExactForgetBefore", fn := fun _ => fun
  | [d1, d2] => { results := [.lit (.bool false)], args := [d1, d2] }
  | _ => none }
def FnExactForgetBeforeWrongFalsely : Prop := fnExactForgetBeforeRow.holds Try.pinned (OpenSpec.ofChange fnExactForgetBeforeWrong)

/-- 'laws.FnExactLeaveLighter': WHATEVER THE INPUT: true; the input reads as it did. -/
def fnExactLeaveLighterSpec : ChangeSpec := { name := "fnExactLeaveLighter", fn := fun _ => fun
  | [d1, d2] => { results := [.lit (.bool true)], args := [d1, d2] }
  | _ => none }
def fnExactLeaveLighterRow : OpenClaim := { program := "ytgjhjemmddojfaa", sum := "9bd484690516029a7af3c3c3b4e5cfe51d72f7470dd6c8d7deaade73564fed2b", func := "loop.example/g01204/laws.FnExactLeaveLighter", spec := "fnExactLeaveLighter", unfollowed := true, recurses := true, apart := false }
def FnExactLeaveLighterSaid : Prop := fnExactLeaveLighterRow.holds Try.pinned (OpenSpec.ofChange fnExactLeaveLighterSpec)

/-- ITS FALSE NEIGHBOUR: 'it returns false'. Refute it at one input. -/
def fnExactLeaveLighterWrong : ChangeSpec := { name := "fnExactLeaveLighter", fn := fun _ => fun
  | [d1, d2] => { results := [.lit (.bool false)], args := [d1, d2] }
  | _ => none }
def FnExactLeaveLighterWrongFalsely : Prop := fnExactLeaveLighterRow.holds Try.pinned (OpenSpec.ofChange fnExactLeaveLighterWrong)

/-- 'laws.FnExactMarksWithin': WHATEVER THE INPUT: true; the input reads as it did. -/
def fnExactMarksWithinSpec : ChangeSpec := { name := "fnExactMarksWithin", fn := fun _ => fun
  | [d1, d2, d3] => { results := [.lit (.bool true)], args := [d1, d2, d3] }
  | _ => none }
def fnExactMarksWithinRow : OpenClaim := { program := "ytgjhjemmddojfaa", sum := "9bd484690516029a7af3c3c3b4e5cfe51d72f7470dd6c8d7deaade73564fed2b", func := "loop.example/g01204/laws.FnExactMarksWithin", spec := "fnExactMarksWithin", inPlace := ["math.sqrt"], unfollowed := true, recurses := true, apart := false }
def FnExactMarksWithinSaid : Prop := fnExactMarksWithinRow.holds Try.pinned (OpenSpec.ofChange fnExactMarksWithinSpec)

/-- ITS FALSE NEIGHBOUR: 'it returns false'. Refute it at one input. -/
def fnExactMarksWithinWrong : ChangeSpec := { name := "fnExactMarksWithin", fn := fun _ => fun
  | [d1, d2, d3] => { results := [.lit (.bool false)], args := [d1, d2, d3] }
  | _ => none }
def FnExactMarksWithinWrongFalsely : Prop := fnExactMarksWithinRow.holds Try.pinned (OpenSpec.ofChange fnExactMarksWithinWrong)

/-- 'laws.FnExactNearestMark': WHATEVER THE INPUT: true; the input reads as it did. -/
def fnExactNearestMarkSpec : ChangeSpec := { name := "fnExactNearestMark", fn := fun _ => fun
  | [d1, d2, d3] => { results := [.lit (.bool true)], args := [d1, d2, d3] }
  | _ => none }
def fnExactNearestMarkRow : OpenClaim := { program := "ytgjhjemmddojfaa", sum := "9bd484690516029a7af3c3c3b4e5cfe51d72f7470dd6c8d7deaade73564fed2b", func := "loop.example/g01204/laws.FnExactNearestMark", spec := "fnExactNearestMark", inPlace := ["math.archFloor", "math.Float64bits", "math.Float64frombits", "math.archTrunc", "math.sqrt"], apart := false }
def FnExactNearestMarkSaid : Prop := fnExactNearestMarkRow.holds Try.pinned (OpenSpec.ofChange fnExactNearestMarkSpec)

/-- ITS FALSE NEIGHBOUR: 'it returns false'. Refute it at one input. -/
def fnExactNearestMarkWrong : ChangeSpec := { name := "fnExactNearestMark", fn := fun _ => fun
  | [d1, d2, d3] => { results := [.lit (.bool false)], args := [d1, d2, d3] }
  | _ => none }
def FnExactNearestMarkWrongFalsely : Prop := fnExactNearestMarkRow.holds Try.pinned (OpenSpec.ofChange fnExactNearestMarkWrong)

/- THE SECOND FORM. 'bulk': how many values and letters a reading holds, each counted each time it is reached (what is shared counts as often as it is met; a slice's spare places count too). A statement '..UptoSaid' is the law's where the arguments, and the package variables that the reading takes, are together of bulk at most 1048576: NARROWER than '..Said'. Prove '..Said' where nothing that the law and all that it calls make is longer than what came in: it says more and counts as full. Else prove '..UptoSaid'. A law counts once. -/
mutual
def uptoBulk {H : Type} : DataW H → Nat
  | .lit (.string bytes) => bytes.length + 1
  | .lit _ => 1
  | .nil => 1
  | .ptr d => uptoBulk d + 1
  | .slice elems spare => uptoBulkAll elems + uptoBulkAll spare + 1
  | .agg parts => uptoBulkAll parts + 1
  | .iface _ d => uptoBulk d + 1
  | .map entries => uptoBulkEntries entries + 1
  | .held _ => 1
def uptoBulkAll {H : Type} : List (DataW H) → Nat
  | [] => 0
  | d :: r => uptoBulk d + uptoBulkAll r
def uptoBulkEntries {H : Type} : List (Lit × DataW H) → Nat
  | [] => 0
  | x :: r => uptoBulkEntry x + uptoBulkEntries r
def uptoBulkEntry {H : Type} : Lit × DataW H → Nat
  | (.string bytes, d) => bytes.length + uptoBulk d + 1
  | (_, d) => uptoBulk d + 1
 end
def uptoSmall : (H : Type) → List (DataW H) → Bool := fun _ ds => decide (uptoBulkAll ds ≤ 1048576)
def OpenSpec.upto (s : _root_.Go.ChangeSpec) : _root_.Go.OpenSpec := { _root_.Go.OpenSpec.ofChange s with cond := some uptoSmall }

/-- 'laws.FnExactComparePlaces', WHERE WHAT IT READS IS OF BULK AT MOST 1048576: true; the input reads as it did. -/
def fnExactComparePlacesUptoRow : OpenClaim := { program := "ytgjhjemmddojfaa", sum := "9bd484690516029a7af3c3c3b4e5cfe51d72f7470dd6c8d7deaade73564fed2b", func := "loop.example/g01204/laws.FnExactComparePlaces", spec := "fnExactComparePlaces", apart := false, narrowed := true }
def FnExactComparePlacesUptoSaid : Prop := fnExactComparePlacesUptoRow.holds Try.pinned (OpenSpec.upto fnExactComparePlacesSpec)

/-- 'laws.FnExactBetterMark', WHERE WHAT IT READS IS OF BULK AT MOST 1048576: true; the input reads as it did. -/
def fnExactBetterMarkUptoRow : OpenClaim := { program := "ytgjhjemmddojfaa", sum := "9bd484690516029a7af3c3c3b4e5cfe51d72f7470dd6c8d7deaade73564fed2b", func := "loop.example/g01204/laws.FnExactBetterMark", spec := "fnExactBetterMark", inPlace := ["math.Float32bits", "math.Float64bits"], apart := false, narrowed := true }
def FnExactBetterMarkUptoSaid : Prop := fnExactBetterMarkUptoRow.holds Try.pinned (OpenSpec.upto fnExactBetterMarkSpec)

/-- 'laws.FnExactCellOf', WHERE WHAT IT READS IS OF BULK AT MOST 1048576: true; the input reads as it did. -/
def fnExactCellOfUptoRow : OpenClaim := { program := "ytgjhjemmddojfaa", sum := "9bd484690516029a7af3c3c3b4e5cfe51d72f7470dd6c8d7deaade73564fed2b", func := "loop.example/g01204/laws.FnExactCellOf", spec := "fnExactCellOf", inPlace := ["math.archFloor", "math.Float64bits", "math.Float64frombits", "math.archTrunc"], apart := false, narrowed := true }
def FnExactCellOfUptoSaid : Prop := fnExactCellOfUptoRow.holds Try.pinned (OpenSpec.upto fnExactCellOfSpec)

/-- 'laws.FnExactEmptyMap', WHERE WHAT IT READS IS OF BULK AT MOST 1048576: true; the input reads as it did. -/
def fnExactEmptyMapUptoRow : OpenClaim := { program := "ytgjhjemmddojfaa", sum := "9bd484690516029a7af3c3c3b4e5cfe51d72f7470dd6c8d7deaade73564fed2b", func := "loop.example/g01204/laws.FnExactEmptyMap", spec := "fnExactEmptyMap", apart := false, narrowed := true }
def FnExactEmptyMapUptoSaid : Prop := fnExactEmptyMapUptoRow.holds Try.pinned (OpenSpec.upto fnExactEmptyMapSpec)

/-- 'laws.FnExactSameMap', WHERE WHAT IT READS IS OF BULK AT MOST 1048576: true; the input reads as it did. -/
def fnExactSameMapUptoRow : OpenClaim := { program := "ytgjhjemmddojfaa", sum := "9bd484690516029a7af3c3c3b4e5cfe51d72f7470dd6c8d7deaade73564fed2b", func := "loop.example/g01204/laws.FnExactSameMap", spec := "fnExactSameMap", inPlace := ["math.Float32bits"], unfollowed := true, recurses := true, apart := false, narrowed := true }
def FnExactSameMapUptoSaid : Prop := fnExactSameMapUptoRow.holds Try.pinned (OpenSpec.upto fnExactSameMapSpec)

/-- 'laws.FnExactValidMap', WHERE WHAT IT READS IS OF BULK AT MOST 1048576: true; the input reads as it did. -/
def fnExactValidMapUptoRow : OpenClaim := { program := "ytgjhjemmddojfaa", sum := "9bd484690516029a7af3c3c3b4e5cfe51d72f7470dd6c8d7deaade73564fed2b", func := "loop.example/g01204/laws.FnExactValidMap", spec := "fnExactValidMap", apart := false, narrowed := true }
def FnExactValidMapUptoSaid : Prop := fnExactValidMapUptoRow.holds Try.pinned (OpenSpec.upto fnExactValidMapSpec)

/-- 'laws.FnExactMarkIn', WHERE WHAT IT READS IS OF BULK AT MOST 1048576: true; the input reads as it did. -/
def fnExactMarkInUptoRow : OpenClaim := { program := "ytgjhjemmddojfaa", sum := "9bd484690516029a7af3c3c3b4e5cfe51d72f7470dd6c8d7deaade73564fed2b", func := "loop.example/g01204/laws.FnExactMarkIn", spec := "fnExactMarkIn", unfollowed := true, recurses := true, apart := false, narrowed := true }
def FnExactMarkInUptoSaid : Prop := fnExactMarkInUptoRow.holds Try.pinned (OpenSpec.upto fnExactMarkInSpec)

/-- 'laws.FnExactCentreOf', WHERE WHAT IT READS IS OF BULK AT MOST 1048576: true; the input reads as it did. -/
def fnExactCentreOfUptoRow : OpenClaim := { program := "ytgjhjemmddojfaa", sum := "9bd484690516029a7af3c3c3b4e5cfe51d72f7470dd6c8d7deaade73564fed2b", func := "loop.example/g01204/laws.FnExactCentreOf", spec := "fnExactCentreOf", apart := false, narrowed := true }
def FnExactCentreOfUptoSaid : Prop := fnExactCentreOfUptoRow.holds Try.pinned (OpenSpec.upto fnExactCentreOfSpec)

/-- 'laws.FnExactForgetBefore', WHERE WHAT IT READS IS OF BULK AT MOST 1048576: true; the input reads as it did. -/
def fnExactForgetBeforeUptoRow : OpenClaim := { program := "ytgjhjemmddojfaa", sum := "9bd484690516029a7af3c3c3b4e5cfe51d72f7470dd6c8d7deaade73564fed2b", func := "loop.example/g01204/laws.FnExactForgetBefore", spec := "fnExactForgetBefore", unfollowed := true, recurses := true, apart := false, narrowed := true }
def FnExactForgetBeforeUptoSaid : Prop := fnExactForgetBeforeUptoRow.holds Try.pinned (OpenSpec.upto fnExactForgetBeforeSpec)

/-- 'laws.FnExactLeaveLighter', WHERE WHAT IT READS IS OF BULK AT MOST 1048576: true; the input reads as it did. -/
def fnExactLeaveLighterUptoRow : OpenClaim := { program := "ytgjhjemmddojfaa", sum := "9bd484690516029a7af3c3c3b4e5cfe51d72f7470dd6c8d7deaade73564fed2b", func := "loop.example/g01204/laws.FnExactLeaveLighter", spec := "fnExactLeaveLighter", unfollowed := true, recurses := true, apart := false, narrowed := true }
def FnExactLeaveLighterUptoSaid : Prop := fnExactLeaveLighterUptoRow.holds Try.pinned (OpenSpec.upto fnExactLeaveLighterSpec)

/-- 'laws.FnExactMarksWithin', WHERE WHAT IT READS IS OF BULK AT MOST 1048576: true; the input reads as it did. -/
def fnExactMarksWithinUptoRow : OpenClaim := { program := "ytgjhjemmddojfaa", sum := "9bd484690516029a7af3c3c3b4e5cfe51d72f7470dd6c8d7deaade73564fed2b", func := "loop.example/g01204/laws.FnExactMarksWithin", spec := "fnExactMarksWithin", inPlace := ["math.sqrt"], unfollowed := true, recurses := true, apart := false, narrowed := true }
def FnExactMarksWithinUptoSaid : Prop := fnExactMarksWithinUptoRow.holds Try.pinned (OpenSpec.upto fnExactMarksWithinSpec)

/-- 'laws.FnExactNearestMark', WHERE WHAT IT READS IS OF BULK AT MOST 1048576: true; the input reads as it did. -/
def fnExactNearestMarkUptoRow : OpenClaim := { program := "ytgjhjemmddojfaa", sum := "9bd484690516029a7af3c3c3b4e5cfe51d72f7470dd6c8d7deaade73564fed2b", func := "loop.example/g01204/laws.FnExactNearestMark", spec := "fnExactNearestMark", inPlace := ["math.archFloor", "math.Float64bits", "math.Float64frombits", "math.archTrunc", "math.sqrt"], apart := false, narrowed := true }
def FnExactNearestMarkUptoSaid : Prop := fnExactNearestMarkUptoRow.holds Try.pinned (OpenSpec.upto fnExactNearestMarkSpec)

end Rows
end Go.Proofs.Ytgjhjemmddojfaa
