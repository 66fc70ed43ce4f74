/-
  No cell of these rows narrows 'for every input' (looked for: loops, veiled, ifaces, maps, wideKeys, modest, calm, conditions, laid).
  DERIVED. THE GIVEN ROWS OF THIS SEAT. 12 by the template 'for every input the law returns true; each argument reads behind the call as it read before'; 0 by the template 'total and deterministic' (their statements: YtllgmcgdkhnilaaTotals.lean).
  GIVEN WITH THE SEED: the statements are not yours to turn. If you find one false, say at which input.
  Laid BY PROGRAM, IN A SANDBOX (cutbox-rows.mjs): the forced cells as the released guide's own fill.sh prints them over the translation 6ae000e3cf4e868e… (all of the seat's roots in one cut). By AI agents, Wed Nov 11 2026. No macro, syntax, notation, axiom, sorry.
-/
import Derived.Test.YtllgmcgdkhnilaaChecked
import GoSem.Claim
import GoSem.ClaimJoined
import GoSem.ClaimMapViews
import Derived.JoinedTies
import Derived.KernelRfl
namespace Go.Proofs.Ytllgmcgdkhnilaa
/- THE CELL 'sum', in the pinned program and in every row, IS THE sha256 OF THE DUMP (.gsa) THAT YtllgmcgdkhnilaaProg.lean LOADS. Nothing in Lean hashes anything: it is a label: what it is worth is what the hold of that sum in a sandbox is worth. -/
noncomputable def Try.pinned : Pinned := { name := "ytllgmcgdkhnilaa", sum := "6ae000e3cf4e868eb59ca760b8fc519106daa52c6600c913803ca11f5d4310ca", checked := Try.checked }
namespace Rows
def none {H : Type} : Left H := { results := [], args := [] }

/-- 'laws.FnExactIsFinitePose': WHATEVER THE INPUT: true; the input reads as it did. -/
def fnExactIsFinitePoseSpec : ChangeSpec := { name := "fnExactIsFinitePose", fn := fun _ => fun
  | [d] => { results := [.lit (.bool true)], args := [d] }
  | _ => none }
def fnExactIsFinitePoseRow : OpenClaim := { program := "ytllgmcgdkhnilaa", sum := "6ae000e3cf4e868eb59ca760b8fc519106daa52c6600c913803ca11f5d4310ca", func := "loop.example/g01204/laws.FnExactIsFinitePose", spec := "fnExactIsFinitePose", apart := false }
def FnExactIsFinitePoseSaid : Prop := fnExactIsFinitePoseRow.holds Try.pinned (OpenSpec.ofChange fnExactIsFinitePoseSpec)

/-- ITS FALSE NEIGHBOUR: 'it returns false'. Refute it at one input. -/
def fnExactIsFinitePoseWrong : ChangeSpec := { name := "fnExactIsFinitePose", fn := fun _ => fun
  | [d] => { results := [.lit (.bool false)], args := [d] }
  | _ => none }
def FnExactIsFinitePoseWrongFalsely : Prop := fnExactIsFinitePoseRow.holds Try.pinned (OpenSpec.ofChange fnExactIsFinitePoseWrong)

/-- 'laws.FnExactSamePose': WHATEVER THE INPUT: true; the input reads as it did. -/
def fnExactSamePoseSpec : ChangeSpec := { name := "fnExactSamePose", fn := fun _ => fun
  | [d1, d2] => { results := [.lit (.bool true)], args := [d1, d2] }
  | _ => none }
def fnExactSamePoseRow : OpenClaim := { program := "ytllgmcgdkhnilaa", sum := "6ae000e3cf4e868eb59ca760b8fc519106daa52c6600c913803ca11f5d4310ca", func := "loop.example/g01204/laws.FnExactSamePose", spec := "fnExactSamePose", inPlace := ["math.Float32bits"], unfollowed := true, recurses := true, apart := false }
def FnExactSamePoseSaid : Prop := fnExactSamePoseRow.holds Try.pinned (OpenSpec.ofChange fnExactSamePoseSpec)

/-- ITS FALSE NEIGHBOUR: 'it returns false'. Refute it at one input. -/
def fnExactSamePoseWrong : ChangeSpec := { name := "fnExactSamePose", fn := fun _ => fun
  | [d1, d2] => { results := [.lit (.bool false)], args := [d1, d2] }
  | _ => none }
def FnExactSamePoseWrongFalsely : Prop := fnExactSamePoseRow.holds Try.pinned (OpenSpec.ofChange fnExactSamePoseWrong)

/-- 'laws.FnExactSameGraph': WHATEVER THE INPUT: true; the input reads as it did. -/
def fnExactSameGraphSpec : ChangeSpec := { name := "fnExactSameGraph", fn := fun _ => fun
  | [d1, d2] => { results := [.lit (.bool true)], args := [d1, d2] }
  | _ => none }
def fnExactSameGraphRow : OpenClaim := { program := "ytllgmcgdkhnilaa", sum := "6ae000e3cf4e868eb59ca760b8fc519106daa52c6600c913803ca11f5d4310ca", func := "loop.example/g01204/laws.FnExactSameGraph", spec := "fnExactSameGraph", inPlace := ["math.Float32bits"], unfollowed := true, recurses := true, apart := false }
def FnExactSameGraphSaid : Prop := fnExactSameGraphRow.holds Try.pinned (OpenSpec.ofChange fnExactSameGraphSpec)

/-- ITS FALSE NEIGHBOUR: 'it returns false'. Refute it at one input. -/
def fnExactSameGraphWrong : ChangeSpec := { name := "fnExactSameGraph", fn := fun _ => fun
  | [d1, d2] => { results := [.lit (.bool false)], args := [d1, d2] }
  | _ => none }
def FnExactSameGraphWrongFalsely : Prop := fnExactSameGraphRow.holds Try.pinned (OpenSpec.ofChange fnExactSameGraphWrong)

/-- 'laws.FnExactValidGraph': WHATEVER THE INPUT: true; the input reads as it did. -/
def fnExactValidGraphSpec : ChangeSpec := { name := "fnExactValidGraph", fn := fun _ => fun
  | [d] => { results := [.lit (.bool true)], args := [d] }
  | _ => none }
def fnExactValidGraphRow : OpenClaim := { program := "ytllgmcgdkhnilaa", sum := "6ae000e3cf4e868eb59ca760b8fc519106daa52c6600c913803ca11f5d4310ca", func := "loop.example/g01204/laws.FnExactValidGraph", spec := "fnExactValidGraph", unfollowed := true, recurses := true, apart := false }
def FnExactValidGraphSaid : Prop := fnExactValidGraphRow.holds Try.pinned (OpenSpec.ofChange fnExactValidGraphSpec)

/-- ITS FALSE NEIGHBOUR: 'it returns false'. Refute it at one input. -/
def fnExactValidGraphWrong : ChangeSpec := { name := "fnExactValidGraph", fn := fun _ => fun
  | [d] => { results := [.lit (.bool false)], args := [d] }
  | _ => none }
def FnExactValidGraphWrongFalsely : Prop := fnExactValidGraphRow.holds Try.pinned (OpenSpec.ofChange fnExactValidGraphWrong)

/-- 'laws.FnExactBackPose': WHATEVER THE INPUT: true; the input reads as it did. -/
def fnExactBackPoseSpec : ChangeSpec := { name := "fnExactBackPose", fn := fun _ => fun
  | [d] => { results := [.lit (.bool true)], args := [d] }
  | _ => none }
def fnExactBackPoseRow : OpenClaim := { program := "ytllgmcgdkhnilaa", sum := "6ae000e3cf4e868eb59ca760b8fc519106daa52c6600c913803ca11f5d4310ca", func := "loop.example/g01204/laws.FnExactBackPose", spec := "fnExactBackPose", inPlace := ["math.Float64frombits", "math.archFloor", "math.Float64bits", "math.archTrunc", "math.RoundToEven"], apart := false }
def FnExactBackPoseSaid : Prop := fnExactBackPoseRow.holds Try.pinned (OpenSpec.ofChange fnExactBackPoseSpec)

/-- ITS FALSE NEIGHBOUR: 'it returns false'. Refute it at one input. -/
def fnExactBackPoseWrong : ChangeSpec := { name := "fnExactBackPose", fn := fun _ => fun
  | [d] => { results := [.lit (.bool false)], args := [d] }
  | _ => none }
def FnExactBackPoseWrongFalsely : Prop := fnExactBackPoseRow.holds Try.pinned (OpenSpec.ofChange fnExactBackPoseWrong)

/-- 'laws.FnExactComposePoses': WHATEVER THE INPUT: true; the input reads as it did. -/
def fnExactComposePosesSpec : ChangeSpec := { name := "fnExactComposePoses", fn := fun _ => fun
  | [d1, d2] => { results := [.lit (.bool true)], args := [d1, d2] }
  | _ => none }
def fnExactComposePosesRow : OpenClaim := { program := "ytllgmcgdkhnilaa", sum := "6ae000e3cf4e868eb59ca760b8fc519106daa52c6600c913803ca11f5d4310ca", func := "loop.example/g01204/laws.FnExactComposePoses", spec := "fnExactComposePoses", inPlace := ["math.Float64frombits", "math.archFloor", "math.Float64bits", "math.archTrunc", "math.RoundToEven"], apart := false }
def FnExactComposePosesSaid : Prop := fnExactComposePosesRow.holds Try.pinned (OpenSpec.ofChange fnExactComposePosesSpec)

/-- ITS FALSE NEIGHBOUR: 'it returns false'. Refute it at one input. -/
def fnExactComposePosesWrong : ChangeSpec := { name := "fnExactComposePoses", fn := fun _ => fun
  | [d1, d2] => { results := [.lit (.bool false)], args := [d1, d2] }
  | _ => none }
def FnExactComposePosesWrongFalsely : Prop := fnExactComposePosesRow.holds Try.pinned (OpenSpec.ofChange fnExactComposePosesWrong)

/-- 'laws.FnExactStepBetween': WHATEVER THE INPUT: true; the input reads as it did. -/
def fnExactStepBetweenSpec : ChangeSpec := { name := "fnExactStepBetween", fn := fun _ => fun
  | [d1, d2] => { results := [.lit (.bool true)], args := [d1, d2] }
  | _ => none }
def fnExactStepBetweenRow : OpenClaim := { program := "ytllgmcgdkhnilaa", sum := "6ae000e3cf4e868eb59ca760b8fc519106daa52c6600c913803ca11f5d4310ca", func := "loop.example/g01204/laws.FnExactStepBetween", spec := "fnExactStepBetween", inPlace := ["math.Float64frombits", "math.archFloor", "math.Float64bits", "math.archTrunc", "math.RoundToEven"], apart := false }
def FnExactStepBetweenSaid : Prop := fnExactStepBetweenRow.holds Try.pinned (OpenSpec.ofChange fnExactStepBetweenSpec)

/-- ITS FALSE NEIGHBOUR: 'it returns false'. Refute it at one input. -/
def fnExactStepBetweenWrong : ChangeSpec := { name := "fnExactStepBetween", fn := fun _ => fun
  | [d1, d2] => { results := [.lit (.bool false)], args := [d1, d2] }
  | _ => none }
def FnExactStepBetweenWrongFalsely : Prop := fnExactStepBetweenRow.holds Try.pinned (OpenSpec.ofChange fnExactStepBetweenWrong)

/-- 'laws.FnExactPointAt': WHATEVER THE INPUT: true; the input reads as it did. -/
def fnExactPointAtSpec : ChangeSpec := { name := "fnExactPointAt", fn := fun _ => fun
  | [d1, d2] => { results := [.lit (.bool true)], args := [d1, d2] }
  | _ => none }
def fnExactPointAtRow : OpenClaim := { program := "ytllgmcgdkhnilaa", sum := "6ae000e3cf4e868eb59ca760b8fc519106daa52c6600c913803ca11f5d4310ca", func := "loop.example/g01204/laws.FnExactPointAt", spec := "fnExactPointAt", inPlace := ["math.Float64frombits", "math.archFloor", "math.Float64bits", "math.archTrunc", "math.RoundToEven"], apart := false }
def FnExactPointAtSaid : Prop := fnExactPointAtRow.holds Try.pinned (OpenSpec.ofChange fnExactPointAtSpec)

/-- ITS FALSE NEIGHBOUR: 'it returns false'. Refute it at one input. -/
def fnExactPointAtWrong : ChangeSpec := { name := "fnExactPointAt", fn := fun _ => fun
  | [d1, d2] => { results := [.lit (.bool false)], args := [d1, d2] }
  | _ => none }
def FnExactPointAtWrongFalsely : Prop := fnExactPointAtRow.holds Try.pinned (OpenSpec.ofChange fnExactPointAtWrong)

/-- 'laws.FnExactAddLink': WHATEVER THE INPUT: true; the input reads as it did. -/
def fnExactAddLinkSpec : ChangeSpec := { name := "fnExactAddLink", fn := fun _ => fun
  | [d1, d2] => { results := [.lit (.bool true)], args := [d1, d2] }
  | _ => none }
def fnExactAddLinkRow : OpenClaim := { program := "ytllgmcgdkhnilaa", sum := "6ae000e3cf4e868eb59ca760b8fc519106daa52c6600c913803ca11f5d4310ca", func := "loop.example/g01204/laws.FnExactAddLink", spec := "fnExactAddLink", unfollowed := true, recurses := true, apart := false }
def FnExactAddLinkSaid : Prop := fnExactAddLinkRow.holds Try.pinned (OpenSpec.ofChange fnExactAddLinkSpec)

/-- ITS FALSE NEIGHBOUR: 'it returns false'. Refute it at one input. -/
def fnExactAddLinkWrong : ChangeSpec := { name := "fnExactAddLink", fn := fun _ => fun
  | [d1, d2] => { results := [.lit (.bool false)], args := [d1, d2] }
  | _ => none }
def FnExactAddLinkWrongFalsely : Prop := fnExactAddLinkRow.holds Try.pinned (OpenSpec.ofChange fnExactAddLinkWrong)

/-- 'laws.FnExactReckonPoses': WHATEVER THE INPUT: true; the input reads as it did. -/
def fnExactReckonPosesSpec : ChangeSpec := { name := "fnExactReckonPoses", fn := fun _ => fun
  | [d1, d2] => { results := [.lit (.bool true)], args := [d1, d2] }
  | _ => none }
def fnExactReckonPosesRow : OpenClaim := { program := "ytllgmcgdkhnilaa", sum := "6ae000e3cf4e868eb59ca760b8fc519106daa52c6600c913803ca11f5d4310ca", func := "loop.example/g01204/laws.FnExactReckonPoses", spec := "fnExactReckonPoses", inPlace := ["math.Float64frombits", "math.archFloor", "math.Float64bits", "math.archTrunc", "math.RoundToEven"], unfollowed := true, recurses := true, apart := false }
def FnExactReckonPosesSaid : Prop := fnExactReckonPosesRow.holds Try.pinned (OpenSpec.ofChange fnExactReckonPosesSpec)

/-- ITS FALSE NEIGHBOUR: 'it returns false'. Refute it at one input. -/
def fnExactReckonPosesWrong : ChangeSpec := { name := "fnExactReckonPoses", fn := fun _ => fun
  | [d1, d2] => { results := [.lit (.bool false)], args := [d1, d2] }
  | _ => none }
def FnExactReckonPosesWrongFalsely : Prop := fnExactReckonPosesRow.holds Try.pinned (OpenSpec.ofChange fnExactReckonPosesWrong)

/-- 'laws.FnExactResidualOf': WHATEVER THE INPUT: true; the input reads as it did. -/
def fnExactResidualOfSpec : ChangeSpec := { name := "fnExactResidualOf", fn := fun _ => fun
  | [d1, d2] => { results := [.lit (.bool true)], args := [d1, d2] }
  | _ => none }
def fnExactResidualOfRow : OpenClaim := { program := "ytllgmcgdkhnilaa", sum := "6ae000e3cf4e868eb59ca760b8fc519106daa52c6600c913803ca11f5d4310ca", func := "loop.example/g01204/laws.FnExactResidualOf", spec := "fnExactResidualOf", inPlace := ["math.Float64frombits", "math.archFloor", "math.Float64bits", "math.archTrunc", "math.RoundToEven"], unfollowed := true, recurses := true, apart := false }
def FnExactResidualOfSaid : Prop := fnExactResidualOfRow.holds Try.pinned (OpenSpec.ofChange fnExactResidualOfSpec)

/-- ITS FALSE NEIGHBOUR: 'it returns false'. Refute it at one input. -/
def fnExactResidualOfWrong : ChangeSpec := { name := "fnExactResidualOf", fn := fun _ => fun
  | [d1, d2] => { results := [.lit (.bool false)], args := [d1, d2] }
  | _ => none }
def FnExactResidualOfWrongFalsely : Prop := fnExactResidualOfRow.holds Try.pinned (OpenSpec.ofChange fnExactResidualOfWrong)

/-- 'laws.FnExactCostOf': WHATEVER THE INPUT: true; the input reads as it did. -/
def fnExactCostOfSpec : ChangeSpec := { name := "fnExactCostOf", fn := fun _ => fun
  | [d] => { results := [.lit (.bool true)], args := [d] }
  | _ => none }
def fnExactCostOfRow : OpenClaim := { program := "ytllgmcgdkhnilaa", sum := "6ae000e3cf4e868eb59ca760b8fc519106daa52c6600c913803ca11f5d4310ca", func := "loop.example/g01204/laws.FnExactCostOf", spec := "fnExactCostOf", inPlace := ["math.Float64frombits", "math.archFloor", "math.Float64bits", "math.archTrunc", "math.RoundToEven"], unfollowed := true, recurses := true, apart := false }
def FnExactCostOfSaid : Prop := fnExactCostOfRow.holds Try.pinned (OpenSpec.ofChange fnExactCostOfSpec)

/-- ITS FALSE NEIGHBOUR: 'it returns false'. Refute it at one input. -/
def fnExactCostOfWrong : ChangeSpec := { name := "fnExactCostOf", fn := fun _ => fun
  | [d] => { results := [.lit (.bool false)], args := [d] }
  | _ => none }
def FnExactCostOfWrongFalsely : Prop := fnExactCostOfRow.holds Try.pinned (OpenSpec.ofChange fnExactCostOfWrong)

/- THE SECOND FORM. 'bulk': how many values and letters a reading holds, each counted each time it is reached (what is shared counts as often as it is met; a slice's spare places count too). A statement '..UptoSaid' is the law's where the arguments, and the package variables that the reading takes, are together of bulk at most 1048576: NARROWER than '..Said'. Prove '..Said' where nothing that the law and all that it calls make is longer than what came in: it says more and counts as full. Else prove '..UptoSaid'. A law counts once. -/
mutual
def uptoBulk {H : Type} : DataW H → Nat
  | .lit (.string bytes) => bytes.length + 1
  | .lit _ => 1
  | .nil => 1
  | .ptr d => uptoBulk d + 1
  | .slice elems spare => uptoBulkAll elems + uptoBulkAll spare + 1
  | .agg parts => uptoBulkAll parts + 1
  | .iface _ d => uptoBulk d + 1
  | .map entries => uptoBulkEntries entries + 1
  | .held _ => 1
def uptoBulkAll {H : Type} : List (DataW H) → Nat
  | [] => 0
  | d :: r => uptoBulk d + uptoBulkAll r
def uptoBulkEntries {H : Type} : List (Lit × DataW H) → Nat
  | [] => 0
  | x :: r => uptoBulkEntry x + uptoBulkEntries r
def uptoBulkEntry {H : Type} : Lit × DataW H → Nat
  | (.string bytes, d) => bytes.length + uptoBulk d + 1
  | (_, d) => uptoBulk d + 1
 end
def uptoSmall : (H : Type) → List (DataW H) → Bool := fun _ ds => decide (uptoBulkAll ds ≤ 1048576)
def OpenSpec.upto (s : _root_.Go.ChangeSpec) : _root_.Go.OpenSpec := { _root_.Go.OpenSpec.ofChange s with cond := some uptoSmall }

/-- 'laws.FnExactIsFinitePose', WHERE WHAT IT READS IS OF BULK AT MOST 1048576: true; the input reads as it did. -/
def fnExactIsFinitePoseUptoRow : OpenClaim := { program := "ytllgmcgdkhnilaa", sum := "6ae000e3cf4e868eb59ca760b8fc519106daa52c6600c913803ca11f5d4310ca", func := "loop.example/g01204/laws.FnExactIsFinitePose", spec := "fnExactIsFinitePose", apart := false, narrowed := true }
def FnExactIsFinitePoseUptoSaid : Prop := fnExactIsFinitePoseUptoRow.holds Try.pinned (OpenSpec.upto fnExactIsFinitePoseSpec)

/-- 'laws.FnExactSamePose', WHERE WHAT IT READS IS OF BULK AT MOST 1048576: true; the input reads as it did. -/
def fnExactSamePoseUptoRow : OpenClaim := { program := "ytllgmcgdkhnilaa", sum := "6ae000e3cf4e868eb59ca760b8fc519106daa52c6600c913803ca11f5d4310ca", func := "loop.example/g01204/laws.FnExactSamePose", spec := "fnExactSamePose", inPlace := ["math.Float32bits"], unfollowed := true, recurses := true, apart := false, narrowed := true }
def FnExactSamePoseUptoSaid : Prop := fnExactSamePoseUptoRow.holds Try.pinned (OpenSpec.upto fnExactSamePoseSpec)

/-- 'laws.FnExactSameGraph', WHERE WHAT IT READS IS OF BULK AT MOST 1048576: true; the input reads as it did. -/
def fnExactSameGraphUptoRow : OpenClaim := { program := "ytllgmcgdkhnilaa", sum := "6ae000e3cf4e868eb59ca760b8fc519106daa52c6600c913803ca11f5d4310ca", func := "loop.example/g01204/laws.FnExactSameGraph", spec := "fnExactSameGraph", inPlace := ["math.Float32bits"], unfollowed := true, recurses := true, apart := false, narrowed := true }
def FnExactSameGraphUptoSaid : Prop := fnExactSameGraphUptoRow.holds Try.pinned (OpenSpec.upto fnExactSameGraphSpec)

/-- 'laws.FnExactValidGraph', WHERE WHAT IT READS IS OF BULK AT MOST 1048576: true; the input reads as it did. -/
def fnExactValidGraphUptoRow : OpenClaim := { program := "ytllgmcgdkhnilaa", sum := "6ae000e3cf4e868eb59ca760b8fc519106daa52c6600c913803ca11f5d4310ca", func := "loop.example/g01204/laws.FnExactValidGraph", spec := "fnExactValidGraph", unfollowed := true, recurses := true, apart := false, narrowed := true }
def FnExactValidGraphUptoSaid : Prop := fnExactValidGraphUptoRow.holds Try.pinned (OpenSpec.upto fnExactValidGraphSpec)

/-- 'laws.FnExactBackPose', WHERE WHAT IT READS IS OF BULK AT MOST 1048576: true; the input reads as it did. -/
def fnExactBackPoseUptoRow : OpenClaim := { program := "ytllgmcgdkhnilaa", sum := "6ae000e3cf4e868eb59ca760b8fc519106daa52c6600c913803ca11f5d4310ca", func := "loop.example/g01204/laws.FnExactBackPose", spec := "fnExactBackPose", inPlace := ["math.Float64frombits", "math.archFloor", "math.Float64bits", "math.archTrunc", "math.RoundToEven"], apart := false, narrowed := true }
def FnExactBackPoseUptoSaid : Prop := fnExactBackPoseUptoRow.holds Try.pinned (OpenSpec.upto fnExactBackPoseSpec)

/-- 'laws.FnExactComposePoses', WHERE WHAT IT READS IS OF BULK AT MOST 1048576: true; the input reads as it did. -/
def fnExactComposePosesUptoRow : OpenClaim := { program := "ytllgmcgdkhnilaa", sum := "6ae000e3cf4e868eb59ca760b8fc519106daa52c6600c913803ca11f5d4310ca", func := "loop.example/g01204/laws.FnExactComposePoses", spec := "fnExactComposePoses", inPlace := ["math.Float64frombits", "math.archFloor", "math.Float64bits", "math.archTrunc", "math.RoundToEven"], apart := false, narrowed := true }
def FnExactComposePosesUptoSaid : Prop := fnExactComposePosesUptoRow.holds Try.pinned (OpenSpec.upto fnExactComposePosesSpec)

/-- 'laws.FnExactStepBetween', WHERE WHAT IT READS IS OF BULK AT MOST 1048576: true; the input reads as it did. -/
def fnExactStepBetweenUptoRow : OpenClaim := { program := "ytllgmcgdkhnilaa", sum := "6ae000e3cf4e868eb59ca760b8fc519106daa52c6600c913803ca11f5d4310ca", func := "loop.example/g01204/laws.FnExactStepBetween", spec := "fnExactStepBetween", inPlace := ["math.Float64frombits", "math.archFloor", "math.Float64bits", "math.archTrunc", "math.RoundToEven"], apart := false, narrowed := true }
def FnExactStepBetweenUptoSaid : Prop := fnExactStepBetweenUptoRow.holds Try.pinned (OpenSpec.upto fnExactStepBetweenSpec)

/-- 'laws.FnExactPointAt', WHERE WHAT IT READS IS OF BULK AT MOST 1048576: true; the input reads as it did. -/
def fnExactPointAtUptoRow : OpenClaim := { program := "ytllgmcgdkhnilaa", sum := "6ae000e3cf4e868eb59ca760b8fc519106daa52c6600c913803ca11f5d4310ca", func := "loop.example/g01204/laws.FnExactPointAt", spec := "fnExactPointAt", inPlace := ["math.Float64frombits", "math.archFloor", "math.Float64bits", "math.archTrunc", "math.RoundToEven"], apart := false, narrowed := true }
def FnExactPointAtUptoSaid : Prop := fnExactPointAtUptoRow.holds Try.pinned (OpenSpec.upto fnExactPointAtSpec)

/-- 'laws.FnExactAddLink', WHERE WHAT IT READS IS OF BULK AT MOST 1048576: true; the input reads as it did. -/
def fnExactAddLinkUptoRow : OpenClaim := { program := "ytllgmcgdkhnilaa", sum := "6ae000e3cf4e868eb59ca760b8fc519106daa52c6600c913803ca11f5d4310ca", func := "loop.example/g01204/laws.FnExactAddLink", spec := "fnExactAddLink", unfollowed := true, recurses := true, apart := false, narrowed := true }
def FnExactAddLinkUptoSaid : Prop := fnExactAddLinkUptoRow.holds Try.pinned (OpenSpec.upto fnExactAddLinkSpec)

/-- 'laws.FnExactReckonPoses', WHERE WHAT IT READS IS OF BULK AT MOST 1048576: true; the input reads as it did. -/
def fnExactReckonPosesUptoRow : OpenClaim := { program := "ytllgmcgdkhnilaa", sum := "6ae000e3cf4e868eb59ca760b8fc519106daa52c6600c913803ca11f5d4310ca", func := "loop.example/g01204/laws.FnExactReckonPoses", spec := "fnExactReckonPoses", inPlace := ["math.Float64frombits", "math.archFloor", "math.Float64bits", "math.archTrunc", "math.RoundToEven"], unfollowed := true, recurses := true, apart := false, narrowed := true }
def FnExactReckonPosesUptoSaid : Prop := fnExactReckonPosesUptoRow.holds Try.pinned (OpenSpec.upto fnExactReckonPosesSpec)

/-- 'laws.FnExactResidualOf', WHERE WHAT IT READS IS OF BULK AT MOST 1048576: true; the input reads as it did. -/
def fnExactResidualOfUptoRow : OpenClaim := { program := "ytllgmcgdkhnilaa", sum := "6ae000e3cf4e868eb59ca760b8fc519106daa52c6600c913803ca11f5d4310ca", func := "loop.example/g01204/laws.FnExactResidualOf", spec := "fnExactResidualOf", inPlace := ["math.Float64frombits", "math.archFloor", "math.Float64bits", "math.archTrunc", "math.RoundToEven"], unfollowed := true, recurses := true, apart := false, narrowed := true }
def FnExactResidualOfUptoSaid : Prop := fnExactResidualOfUptoRow.holds Try.pinned (OpenSpec.upto fnExactResidualOfSpec)

/-- 'laws.FnExactCostOf', WHERE WHAT IT READS IS OF BULK AT MOST 1048576: true; the input reads as it did. -/
def fnExactCostOfUptoRow : OpenClaim := { program := "ytllgmcgdkhnilaa", sum := "6ae000e3cf4e868eb59ca760b8fc519106daa52c6600c913803ca11f5d4310ca", func := "loop.example/g01204/laws.FnExactCostOf", spec := "fnExactCostOf", inPlace := ["math.Float64frombits", "math.archFloor", "math.Float64bits", "math.archTrunc", "math.RoundToEven"], unfollowed := true, recurses := true, apart := false, narrowed := true }
def FnExactCostOfUptoSaid : Prop := fnExactCostOfUptoRow.holds Try.pinned (OpenSpec.upto fnExactCostOfSpec)

end Rows
end Go.Proofs.Ytllgmcgdkhnilaa
