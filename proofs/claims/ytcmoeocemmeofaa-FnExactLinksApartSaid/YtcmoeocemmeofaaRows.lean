/-
  No cell of these rows narrows 'for every input' (looked for: loops, veiled, ifaces, maps, wideKeys, modest, calm, conditions, laid).
  DERIVED. THE GIVEN ROWS OF THIS SEAT. 10 by the template 'for every input the law returns true; each argument reads behind the call as it read before'; 0 by the template 'total and deterministic' (their statements: YtcmoeocemmeofaaTotals.lean).
  GIVEN WITH THE SEED: the statements are not yours to turn. If you find one false, say at which input.
  Laid BY PROGRAM, IN A SANDBOX (cutbox-rows.mjs): the forced cells as the released guide's own fill.sh prints them over the translation 0a4da5d3e3e091d1… (all of the seat's roots in one cut). By AI agents, Wed Nov 11 2026. No macro, syntax, notation, axiom, sorry.
-/
import Derived.Test.YtcmoeocemmeofaaChecked
import GoSem.Claim
import GoSem.ClaimJoined
import GoSem.ClaimMapViews
import Derived.JoinedTies
import Derived.KernelRfl
namespace Go.Proofs.Ytcmoeocemmeofaa
/- THE CELL 'sum', in the pinned program and in every row, IS THE sha256 OF THE DUMP (.gsa) THAT YtcmoeocemmeofaaProg.lean LOADS. Nothing in Lean hashes anything: it is a label: what it is worth is what the hold of that sum in a sandbox is worth. -/
noncomputable def Try.pinned : Pinned := { name := "ytcmoeocemmeofaa", sum := "0a4da5d3e3e091d1048039e6d721e9c42151cff20b1e4e422f3eb21fbe6218ca", checked := Try.checked }
namespace Rows
def none {H : Type} : Left H := { results := [], args := [] }

/-- 'laws.FnExactSameGraph': WHATEVER THE INPUT: true; the input reads as it did. -/
def fnExactSameGraphSpec : ChangeSpec := { name := "fnExactSameGraph", fn := fun _ => fun
  | [d1, d2] => { results := [.lit (.bool true)], args := [d1, d2] }
  | _ => none }
def fnExactSameGraphRow : OpenClaim := { program := "ytcmoeocemmeofaa", sum := "0a4da5d3e3e091d1048039e6d721e9c42151cff20b1e4e422f3eb21fbe6218ca", func := "loop.example/g01204/laws.FnExactSameGraph", spec := "fnExactSameGraph", inPlace := ["math.Float32bits"], unfollowed := true, recurses := true, apart := false }
def FnExactSameGraphSaid : Prop := fnExactSameGraphRow.holds Try.pinned (OpenSpec.ofChange fnExactSameGraphSpec)

/-- ITS FALSE NEIGHBOUR: 'it returns false'. Refute it at one input. -/
def fnExactSameGraphWrong : ChangeSpec := { name := "fnExactSameGraph", fn := fun _ => fun
  | [d1, d2] => { results := [.lit (.bool false)], args := [d1, d2] }
  | _ => none }
def FnExactSameGraphWrongFalsely : Prop := fnExactSameGraphRow.holds Try.pinned (OpenSpec.ofChange fnExactSameGraphWrong)

/-- 'laws.FnExactReckonPoses': WHATEVER THE INPUT: true; the input reads as it did. -/
def fnExactReckonPosesSpec : ChangeSpec := { name := "fnExactReckonPoses", fn := fun _ => fun
  | [d1, d2] => { results := [.lit (.bool true)], args := [d1, d2] }
  | _ => none }
def fnExactReckonPosesRow : OpenClaim := { program := "ytcmoeocemmeofaa", sum := "0a4da5d3e3e091d1048039e6d721e9c42151cff20b1e4e422f3eb21fbe6218ca", func := "loop.example/g01204/laws.FnExactReckonPoses", spec := "fnExactReckonPoses", inPlace := ["math.Float64frombits", "math.archFloor", "math.Float64bits", "math.archTrunc", "math.RoundToEven"], unfollowed := true, recurses := true, apart := false }
def FnExactReckonPosesSaid : Prop := fnExactReckonPosesRow.holds Try.pinned (OpenSpec.ofChange fnExactReckonPosesSpec)

/-- ITS FALSE NEIGHBOUR: 'it returns false'. Refute it at one input. -/
def fnExactReckonPosesWrong : ChangeSpec := { name := "fnExactReckonPoses", fn := fun _ => fun
  | [d1, d2] => { results := [.lit (.bool false)], args := [d1, d2] }
  | _ => none }
def FnExactReckonPosesWrongFalsely : Prop := fnExactReckonPosesRow.holds Try.pinned (OpenSpec.ofChange fnExactReckonPosesWrong)

/-- 'laws.FnExactResidualOf': WHATEVER THE INPUT: true; the input reads as it did. -/
def fnExactResidualOfSpec : ChangeSpec := { name := "fnExactResidualOf", fn := fun _ => fun
  | [d1, d2] => { results := [.lit (.bool true)], args := [d1, d2] }
  | _ => none }
def fnExactResidualOfRow : OpenClaim := { program := "ytcmoeocemmeofaa", sum := "0a4da5d3e3e091d1048039e6d721e9c42151cff20b1e4e422f3eb21fbe6218ca", func := "loop.example/g01204/laws.FnExactResidualOf", spec := "fnExactResidualOf", inPlace := ["math.Float64frombits", "math.archFloor", "math.Float64bits", "math.archTrunc", "math.RoundToEven"], unfollowed := true, recurses := true, apart := false }
def FnExactResidualOfSaid : Prop := fnExactResidualOfRow.holds Try.pinned (OpenSpec.ofChange fnExactResidualOfSpec)

/-- ITS FALSE NEIGHBOUR: 'it returns false'. Refute it at one input. -/
def fnExactResidualOfWrong : ChangeSpec := { name := "fnExactResidualOf", fn := fun _ => fun
  | [d1, d2] => { results := [.lit (.bool false)], args := [d1, d2] }
  | _ => none }
def FnExactResidualOfWrongFalsely : Prop := fnExactResidualOfRow.holds Try.pinned (OpenSpec.ofChange fnExactResidualOfWrong)

/-- 'laws.FnExactCostOf': WHATEVER THE INPUT: true; the input reads as it did. -/
def fnExactCostOfSpec : ChangeSpec := { name := "fnExactCostOf", fn := fun _ => fun
  | [d] => { results := [.lit (.bool true)], args := [d] }
  | _ => none }
def fnExactCostOfRow : OpenClaim := { program := "ytcmoeocemmeofaa", sum := "0a4da5d3e3e091d1048039e6d721e9c42151cff20b1e4e422f3eb21fbe6218ca", func := "loop.example/g01204/laws.FnExactCostOf", spec := "fnExactCostOf", inPlace := ["math.Float64frombits", "math.archFloor", "math.Float64bits", "math.archTrunc", "math.RoundToEven"], unfollowed := true, recurses := true, apart := false }
def FnExactCostOfSaid : Prop := fnExactCostOfRow.holds Try.pinned (OpenSpec.ofChange fnExactCostOfSpec)

/-- ITS FALSE NEIGHBOUR: 'it returns false'. Refute it at one input. -/
def fnExactCostOfWrong : ChangeSpec := { name := "fnExactCostOf", fn := fun _ => fun
  | [d] => { results := [.lit (.bool false)], args := [d] }
  | _ => none }
def FnExactCostOfWrongFalsely : Prop := fnExactCostOfRow.holds Try.pinned (OpenSpec.ofChange fnExactCostOfWrong)

/-- 'laws.FnExactLinksApart': WHATEVER THE INPUT: true; the input reads as it did. -/
def fnExactLinksApartSpec : ChangeSpec := { name := "fnExactLinksApart", fn := fun _ => fun
  | [d1, d2, d3] => { results := [.lit (.bool true)], args := [d1, d2, d3] }
  | _ => none }
def fnExactLinksApartRow : OpenClaim := { program := "ytcmoeocemmeofaa", sum := "0a4da5d3e3e091d1048039e6d721e9c42151cff20b1e4e422f3eb21fbe6218ca", func := "loop.example/g01204/laws.FnExactLinksApart", spec := "fnExactLinksApart", unfollowed := true, recurses := true, apart := false }
def FnExactLinksApartSaid : Prop := fnExactLinksApartRow.holds Try.pinned (OpenSpec.ofChange fnExactLinksApartSpec)

/-- ITS FALSE NEIGHBOUR: 'it returns false'. Refute it at one input. -/
def fnExactLinksApartWrong : ChangeSpec := { name := "fnExactLinksApart", fn := fun _ => fun
  | [d1, d2, d3] => { results := [.lit (.bool false)], args := [d1, d2, d3] }
  | _ => none }
def FnExactLinksApartWrongFalsely : Prop := fnExactLinksApartRow.holds Try.pinned (OpenSpec.ofChange fnExactLinksApartWrong)

/-- 'laws.FnExactWorstLink': WHATEVER THE INPUT: true; the input reads as it did. -/
def fnExactWorstLinkSpec : ChangeSpec := { name := "fnExactWorstLink", fn := fun _ => fun
  | [d] => { results := [.lit (.bool true)], args := [d] }
  | _ => none }
def fnExactWorstLinkRow : OpenClaim := { program := "ytcmoeocemmeofaa", sum := "0a4da5d3e3e091d1048039e6d721e9c42151cff20b1e4e422f3eb21fbe6218ca", func := "loop.example/g01204/laws.FnExactWorstLink", spec := "fnExactWorstLink", inPlace := ["math.Float64frombits", "math.archFloor", "math.Float64bits", "math.archTrunc", "math.RoundToEven"], unfollowed := true, recurses := true, apart := false }
def FnExactWorstLinkSaid : Prop := fnExactWorstLinkRow.holds Try.pinned (OpenSpec.ofChange fnExactWorstLinkSpec)

/-- ITS FALSE NEIGHBOUR: 'it returns false'. Refute it at one input. -/
def fnExactWorstLinkWrong : ChangeSpec := { name := "fnExactWorstLink", fn := fun _ => fun
  | [d] => { results := [.lit (.bool false)], args := [d] }
  | _ => none }
def FnExactWorstLinkWrongFalsely : Prop := fnExactWorstLinkRow.holds Try.pinned (OpenSpec.ofChange fnExactWorstLinkWrong)

/-- 'laws.FnExactChainGraph': WHATEVER THE INPUT: true; the input reads as it did. -/
def fnExactChainGraphSpec : ChangeSpec := { name := "fnExactChainGraph", fn := fun _ => fun
  | [d1, d2, d3] => { results := [.lit (.bool true)], args := [d1, d2, d3] }
  | _ => none }
def fnExactChainGraphRow : OpenClaim := { program := "ytcmoeocemmeofaa", sum := "0a4da5d3e3e091d1048039e6d721e9c42151cff20b1e4e422f3eb21fbe6218ca", func := "loop.example/g01204/laws.FnExactChainGraph", spec := "fnExactChainGraph", inPlace := ["math.Float64frombits", "math.archFloor", "math.Float64bits", "math.archTrunc", "math.RoundToEven"], unfollowed := true, recurses := true, apart := false }
def FnExactChainGraphSaid : Prop := fnExactChainGraphRow.holds Try.pinned (OpenSpec.ofChange fnExactChainGraphSpec)

/-- ITS FALSE NEIGHBOUR: 'it returns false'. Refute it at one input. -/
def fnExactChainGraphWrong : ChangeSpec := { name := "fnExactChainGraph", fn := fun _ => fun
  | [d1, d2, d3] => { results := [.lit (.bool false)], args := [d1, d2, d3] }
  | _ => none }
def FnExactChainGraphWrongFalsely : Prop := fnExactChainGraphRow.holds Try.pinned (OpenSpec.ofChange fnExactChainGraphWrong)

/-- 'laws.FnExactTakeLoop': WHATEVER THE INPUT: true; the input reads as it did. -/
def fnExactTakeLoopSpec : ChangeSpec := { name := "fnExactTakeLoop", fn := fun _ => fun
  | [d1, d2, d3] => { results := [.lit (.bool true)], args := [d1, d2, d3] }
  | _ => none }
def fnExactTakeLoopRow : OpenClaim := { program := "ytcmoeocemmeofaa", sum := "0a4da5d3e3e091d1048039e6d721e9c42151cff20b1e4e422f3eb21fbe6218ca", func := "loop.example/g01204/laws.FnExactTakeLoop", spec := "fnExactTakeLoop", inPlace := ["math.Float64frombits", "math.archFloor", "math.Float64bits", "math.archTrunc", "math.RoundToEven"], unfollowed := true, recurses := true, apart := false }
def FnExactTakeLoopSaid : Prop := fnExactTakeLoopRow.holds Try.pinned (OpenSpec.ofChange fnExactTakeLoopSpec)

/-- ITS FALSE NEIGHBOUR: 'it returns false'. Refute it at one input. -/
def fnExactTakeLoopWrong : ChangeSpec := { name := "fnExactTakeLoop", fn := fun _ => fun
  | [d1, d2, d3] => { results := [.lit (.bool false)], args := [d1, d2, d3] }
  | _ => none }
def FnExactTakeLoopWrongFalsely : Prop := fnExactTakeLoopRow.holds Try.pinned (OpenSpec.ofChange fnExactTakeLoopWrong)

/-- 'laws.FnExactSweepOnce': WHATEVER THE INPUT: true; the input reads as it did. -/
def fnExactSweepOnceSpec : ChangeSpec := { name := "fnExactSweepOnce", fn := fun _ => fun
  | [d] => { results := [.lit (.bool true)], args := [d] }
  | _ => none }
def fnExactSweepOnceRow : OpenClaim := { program := "ytcmoeocemmeofaa", sum := "0a4da5d3e3e091d1048039e6d721e9c42151cff20b1e4e422f3eb21fbe6218ca", func := "loop.example/g01204/laws.FnExactSweepOnce", spec := "fnExactSweepOnce", inPlace := ["math.Float64frombits", "math.archFloor", "math.Float64bits", "math.archTrunc", "math.RoundToEven"], unfollowed := true, recurses := true, apart := false }
def FnExactSweepOnceSaid : Prop := fnExactSweepOnceRow.holds Try.pinned (OpenSpec.ofChange fnExactSweepOnceSpec)

/-- ITS FALSE NEIGHBOUR: 'it returns false'. Refute it at one input. -/
def fnExactSweepOnceWrong : ChangeSpec := { name := "fnExactSweepOnce", fn := fun _ => fun
  | [d] => { results := [.lit (.bool false)], args := [d] }
  | _ => none }
def FnExactSweepOnceWrongFalsely : Prop := fnExactSweepOnceRow.holds Try.pinned (OpenSpec.ofChange fnExactSweepOnceWrong)

/-- 'laws.FnExactRelaxGraph': WHATEVER THE INPUT: true; the input reads as it did. -/
def fnExactRelaxGraphSpec : ChangeSpec := { name := "fnExactRelaxGraph", fn := fun _ => fun
  | [d1, d2] => { results := [.lit (.bool true)], args := [d1, d2] }
  | _ => none }
def fnExactRelaxGraphRow : OpenClaim := { program := "ytcmoeocemmeofaa", sum := "0a4da5d3e3e091d1048039e6d721e9c42151cff20b1e4e422f3eb21fbe6218ca", func := "loop.example/g01204/laws.FnExactRelaxGraph", spec := "fnExactRelaxGraph", inPlace := ["math.Float64frombits", "math.archFloor", "math.Float64bits", "math.archTrunc", "math.RoundToEven"], unfollowed := true, recurses := true, apart := false }
def FnExactRelaxGraphSaid : Prop := fnExactRelaxGraphRow.holds Try.pinned (OpenSpec.ofChange fnExactRelaxGraphSpec)

/-- ITS FALSE NEIGHBOUR: 'it returns false'. Refute it at one input. -/
def fnExactRelaxGraphWrong : ChangeSpec := { name := "fnExactRelaxGraph", fn := fun _ => fun
  | [d1, d2] => { results := [.lit (.bool false)], args := [d1, d2] }
  | _ => none }
def FnExactRelaxGraphWrongFalsely : Prop := fnExactRelaxGraphRow.holds Try.pinned (OpenSpec.ofChange fnExactRelaxGraphWrong)

/- THE SECOND FORM. 'bulk': how many values and letters a reading holds, each counted each time it is reached (what is shared counts as often as it is met; a slice's spare places count too). A statement '..UptoSaid' is the law's where the arguments, and the package variables that the reading takes, are together of bulk at most 1048576: NARROWER than '..Said'. Prove '..Said' where nothing that the law and all that it calls make is longer than what came in: it says more and counts as full. Else prove '..UptoSaid'. A law counts once. -/
mutual
def uptoBulk {H : Type} : DataW H → Nat
  | .lit (.string bytes) => bytes.length + 1
  | .lit _ => 1
  | .nil => 1
  | .ptr d => uptoBulk d + 1
  | .slice elems spare => uptoBulkAll elems + uptoBulkAll spare + 1
  | .agg parts => uptoBulkAll parts + 1
  | .iface _ d => uptoBulk d + 1
  | .map entries => uptoBulkEntries entries + 1
  | .held _ => 1
def uptoBulkAll {H : Type} : List (DataW H) → Nat
  | [] => 0
  | d :: r => uptoBulk d + uptoBulkAll r
def uptoBulkEntries {H : Type} : List (Lit × DataW H) → Nat
  | [] => 0
  | x :: r => uptoBulkEntry x + uptoBulkEntries r
def uptoBulkEntry {H : Type} : Lit × DataW H → Nat
  | (.string bytes, d) => bytes.length + uptoBulk d + 1
  | (_, d) => uptoBulk d + 1
 end
def uptoSmall : (H : Type) → List (DataW H) → Bool := fun _ ds => decide (uptoBulkAll ds ≤ 1048576)
def OpenSpec.upto (s : _root_.Go.ChangeSpec) : _root_.Go.OpenSpec := { _root_.Go.OpenSpec.ofChange s with cond := some uptoSmall }

/-- 'laws.FnExactSameGraph', WHERE WHAT IT READS IS OF BULK AT MOST 1048576: true; the input reads as it did. -/
def fnExactSameGraphUptoRow : OpenClaim := { program := "ytcmoeocemmeofaa", sum := "0a4da5d3e3e091d1048039e6d721e9c42151cff20b1e4e422f3eb21fbe6218ca", func := "loop.example/g01204/laws.FnExactSameGraph", spec := "fnExactSameGraph", inPlace := ["math.Float32bits"], unfollowed := true, recurses := true, apart := false, narrowed := true }
def FnExactSameGraphUptoSaid : Prop := fnExactSameGraphUptoRow.holds Try.pinned (OpenSpec.upto fnExactSameGraphSpec)

/-- 'laws.FnExactReckonPoses', WHERE WHAT IT READS IS OF BULK AT MOST 1048576: true; the input reads as it did. -/
def fnExactReckonPosesUptoRow : OpenClaim := { program := "ytcmoeocemmeofaa", sum := "0a4da5d3e3e091d1048039e6d721e9c42151cff20b1e4e422f3eb21fbe6218ca", func := "loop.example/g01204/laws.FnExactReckonPoses", spec := "fnExactReckonPoses", inPlace := ["math.Float64frombits", "math.archFloor", "math.Float64bits", "math.archTrunc", "math.RoundToEven"], unfollowed := true, recurses := true, apart := false, narrowed := true }
def FnExactReckonPosesUptoSaid : Prop := fnExactReckonPosesUptoRow.holds Try.pinned (OpenSpec.upto fnExactReckonPosesSpec)

/-- 'laws.FnExactResidualOf', WHERE WHAT IT READS IS OF BULK AT MOST 1048576: true; the input reads as it did. -/
def fnExactResidualOfUptoRow : OpenClaim := { program := "ytcmoeocemmeofaa", sum := "0a4da5d3e3e091d1048039e6d721e9c42151cff20b1e4e422f3eb21fbe6218ca", func := "loop.example/g01204/laws.FnExactResidualOf", spec := "fnExactResidualOf", inPlace := ["math.Float64frombits", "math.archFloor", "math.Float64bits", "math.archTrunc", "math.RoundToEven"], unfollowed := true, recurses := true, apart := false, narrowed := true }
def FnExactResidualOfUptoSaid : Prop := fnExactResidualOfUptoRow.holds Try.pinned (OpenSpec.upto fnExactResidualOfSpec)

/-- 'laws.FnExactCostOf', WHERE WHAT IT READS IS OF BULK AT MOST 1048576: true; the input reads as it did. -/
def fnExactCostOfUptoRow : OpenClaim := { program := "ytcmoeocemmeofaa", sum := "0a4da5d3e3e091d1048039e6d721e9c42151cff20b1e4e422f3eb21fbe6218ca", func := "loop.example/g01204/laws.FnExactCostOf", spec := "fnExactCostOf", inPlace := ["math.Float64frombits", "math.archFloor", "math.Float64bits", "math.archTrunc", "math.RoundToEven"], unfollowed := true, recurses := true, apart := false, narrowed := true }
def FnExactCostOfUptoSaid : Prop := fnExactCostOfUptoRow.holds Try.pinned (OpenSpec.upto fnExactCostOfSpec)

/-- 'laws.FnExactLinksApart', WHERE WHAT IT READS IS OF BULK AT MOST 1048576: true; the input reads as it did. -/
def fnExactLinksApartUptoRow : OpenClaim := { program := "ytcmoeocemmeofaa", sum := "0a4da5d3e3e091d1048039e6d721e9c42151cff20b1e4e422f3eb21fbe6218ca", func := "loop.example/g01204/laws.FnExactLinksApart", spec := "fnExactLinksApart", unfollowed := true, recurses := true, apart := false, narrowed := true }
def FnExactLinksApartUptoSaid : Prop := fnExactLinksApartUptoRow.holds Try.pinned (OpenSpec.upto fnExactLinksApartSpec)

/-- 'laws.FnExactWorstLink', WHERE WHAT IT READS IS OF BULK AT MOST 1048576: true; the input reads as it did. -/
def fnExactWorstLinkUptoRow : OpenClaim := { program := "ytcmoeocemmeofaa", sum := "0a4da5d3e3e091d1048039e6d721e9c42151cff20b1e4e422f3eb21fbe6218ca", func := "loop.example/g01204/laws.FnExactWorstLink", spec := "fnExactWorstLink", inPlace := ["math.Float64frombits", "math.archFloor", "math.Float64bits", "math.archTrunc", "math.RoundToEven"], unfollowed := true, recurses := true, apart := false, narrowed := true }
def FnExactWorstLinkUptoSaid : Prop := fnExactWorstLinkUptoRow.holds Try.pinned (OpenSpec.upto fnExactWorstLinkSpec)

/-- 'laws.FnExactChainGraph', WHERE WHAT IT READS IS OF BULK AT MOST 1048576: true; the input reads as it did. -/
def fnExactChainGraphUptoRow : OpenClaim := { program := "ytcmoeocemmeofaa", sum := "0a4da5d3e3e091d1048039e6d721e9c42151cff20b1e4e422f3eb21fbe6218ca", func := "loop.example/g01204/laws.FnExactChainGraph", spec := "fnExactChainGraph", inPlace := ["math.Float64frombits", "math.archFloor", "math.Float64bits", "math.archTrunc", "math.RoundToEven"], unfollowed := true, recurses := true, apart := false, narrowed := true }
def FnExactChainGraphUptoSaid : Prop := fnExactChainGraphUptoRow.holds Try.pinned (OpenSpec.upto fnExactChainGraphSpec)

/-- 'laws.FnExactTakeLoop', WHERE WHAT IT READS IS OF BULK AT MOST 1048576: true; the input reads as it did. -/
def fnExactTakeLoopUptoRow : OpenClaim := { program := "ytcmoeocemmeofaa", sum := "0a4da5d3e3e091d1048039e6d721e9c42151cff20b1e4e422f3eb21fbe6218ca", func := "loop.example/g01204/laws.FnExactTakeLoop", spec := "fnExactTakeLoop", inPlace := ["math.Float64frombits", "math.archFloor", "math.Float64bits", "math.archTrunc", "math.RoundToEven"], unfollowed := true, recurses := true, apart := false, narrowed := true }
def FnExactTakeLoopUptoSaid : Prop := fnExactTakeLoopUptoRow.holds Try.pinned (OpenSpec.upto fnExactTakeLoopSpec)

/-- 'laws.FnExactSweepOnce', WHERE WHAT IT READS IS OF BULK AT MOST 1048576: true; the input reads as it did. -/
def fnExactSweepOnceUptoRow : OpenClaim := { program := "ytcmoeocemmeofaa", sum := "0a4da5d3e3e091d1048039e6d721e9c42151cff20b1e4e422f3eb21fbe6218ca", func := "loop.example/g01204/laws.FnExactSweepOnce", spec := "fnExactSweepOnce", inPlace := ["math.Float64frombits", "math.archFloor", "math.Float64bits", "math.archTrunc", "math.RoundToEven"], unfollowed := true, recurses := true, apart := false, narrowed := true }
def FnExactSweepOnceUptoSaid : Prop := fnExactSweepOnceUptoRow.holds Try.pinned (OpenSpec.upto fnExactSweepOnceSpec)

/-- 'laws.FnExactRelaxGraph', WHERE WHAT IT READS IS OF BULK AT MOST 1048576: true; the input reads as it did. -/
def fnExactRelaxGraphUptoRow : OpenClaim := { program := "ytcmoeocemmeofaa", sum := "0a4da5d3e3e091d1048039e6d721e9c42151cff20b1e4e422f3eb21fbe6218ca", func := "loop.example/g01204/laws.FnExactRelaxGraph", spec := "fnExactRelaxGraph", inPlace := ["math.Float64frombits", "math.archFloor", "math.Float64bits", "math.archTrunc", "math.RoundToEven"], unfollowed := true, recurses := true, apart := false, narrowed := true }
def FnExactRelaxGraphUptoSaid : Prop := fnExactRelaxGraphUptoRow.holds Try.pinned (OpenSpec.upto fnExactRelaxGraphSpec)

end Rows
end Go.Proofs.Ytcmoeocemmeofaa
