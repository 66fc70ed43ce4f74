/-
  No cell of these rows narrows 'for every input' (looked for: loops, veiled, ifaces, maps, wideKeys, modest, calm, conditions, laid).
  DERIVED. THE GIVEN ROWS OF THIS SEAT. 4 by the template 'for every input the law returns true; each argument reads behind the call as it read before'; 0 by the template 'total and deterministic' (their statements: YtacligocjfhckaaTotals.lean).
  GIVEN WITH THE SEED: the statements are not yours to turn. If you find one false, say at which input.
  Laid BY PROGRAM, IN A SANDBOX (cutbox-rows.mjs): the forced cells as the released guide's own fill.sh prints them over the translation 9a90704de33ab379… (all of the seat's roots in one cut). By AI agents, Wed Nov 11 2026. No macro, syntax, notation, axiom, sorry.
-/
import Derived.Test.YtacligocjfhckaaChecked
import GoSem.Claim
import GoSem.ClaimJoined
import GoSem.ClaimMapViews
import Derived.JoinedTies
import Derived.KernelRfl
namespace Go.Proofs.Ytacligocjfhckaa
/- THE CELL 'sum', in the pinned program and in every row, IS THE sha256 OF THE DUMP (.gsa) THAT YtacligocjfhckaaProg.lean LOADS. Nothing in Lean hashes anything: it is a label: what it is worth is what the hold of that sum in a sandbox is worth. -/
noncomputable def Try.pinned : Pinned := { name := "ytacligocjfhckaa", sum := "9a90704de33ab3792d3f6264e47d3550c5697ac59425d62cd497bc576635d79c", checked := Try.checked }
namespace Rows
def none {H : Type} : Left H := { results := [], args := [] }

/-- 'laws.FnExactPutMark': WHATEVER THE INPUT: true; the input reads as it did. -/
def fnExactPutMarkSpec : ChangeSpec := { name := "fnExactPutMark", fn := fun _ => fun
  | [d1, d2] => { results := [.lit (.bool true)], args := [d1, d2] }
  | _ => none }
def fnExactPutMarkRow : OpenClaim := { program := "ytacligocjfhckaa", sum := "9a90704de33ab3792d3f6264e47d3550c5697ac59425d62cd497bc576635d79c", func := "loop.example/g01204/laws.FnExactPutMark", spec := "fnExactPutMark", inPlace := ["math.Float32bits", "math.Float64bits", "slices.overlaps[loop.example/g01204/impl.Mark]"], unfollowed := true, recurses := true, apart := false }
def FnExactPutMarkSaid : Prop := fnExactPutMarkRow.holds Try.pinned (OpenSpec.ofChange fnExactPutMarkSpec)

/-- ITS FALSE NEIGHBOUR: 'it returns false'. Refute it at one input. -/
def fnExactPutMarkWrong : ChangeSpec := { name := "fnExactPutMark", fn := fun _ => fun
  | [d1, d2] => { results := [.lit (.bool false)], args := [d1, d2] }
  | _ => none }
def FnExactPutMarkWrongFalsely : Prop := fnExactPutMarkRow.holds Try.pinned (OpenSpec.ofChange fnExactPutMarkWrong)

/-- 'laws.FnExactMergeMaps': WHATEVER THE INPUT: true; the input reads as it did. -/
def fnExactMergeMapsSpec : ChangeSpec := { name := "fnExactMergeMaps", fn := fun _ => fun
  | [d1, d2] => { results := [.lit (.bool true)], args := [d1, d2] }
  | _ => none }
def fnExactMergeMapsRow : OpenClaim := { program := "ytacligocjfhckaa", sum := "9a90704de33ab3792d3f6264e47d3550c5697ac59425d62cd497bc576635d79c", func := "loop.example/g01204/laws.FnExactMergeMaps", spec := "fnExactMergeMaps", inPlace := ["math.Float32bits", "math.Float64bits", "slices.overlaps[loop.example/g01204/impl.Mark]"], unfollowed := true, recurses := true, apart := false }
def FnExactMergeMapsSaid : Prop := fnExactMergeMapsRow.holds Try.pinned (OpenSpec.ofChange fnExactMergeMapsSpec)

/-- ITS FALSE NEIGHBOUR: 'it returns false'. Refute it at one input. -/
def fnExactMergeMapsWrong : ChangeSpec := { name := "fnExactMergeMaps", fn := fun _ => fun
  | [d1, d2] => { results := [.lit (.bool false)], args := [d1, d2] }
  | _ => none }
def FnExactMergeMapsWrongFalsely : Prop := fnExactMergeMapsRow.holds Try.pinned (OpenSpec.ofChange fnExactMergeMapsWrong)

/-- 'laws.FnExactObserveMark': WHATEVER THE INPUT: true; the input reads as it did. -/
def fnExactObserveMarkSpec : ChangeSpec := { name := "fnExactObserveMark", fn := fun _ => fun
  | [d1, d2, d3, d4, d5] => { results := [.lit (.bool true)], args := [d1, d2, d3, d4, d5] }
  | _ => none }
def fnExactObserveMarkRow : OpenClaim := { program := "ytacligocjfhckaa", sum := "9a90704de33ab3792d3f6264e47d3550c5697ac59425d62cd497bc576635d79c", func := "loop.example/g01204/laws.FnExactObserveMark", spec := "fnExactObserveMark", inPlace := ["math.archFloor", "math.Float64bits", "math.Float64frombits", "math.archTrunc", "math.sqrt", "math.Float32bits", "slices.overlaps[loop.example/g01204/impl.Mark]"], unfollowed := true, recurses := true, apart := false }
def FnExactObserveMarkSaid : Prop := fnExactObserveMarkRow.holds Try.pinned (OpenSpec.ofChange fnExactObserveMarkSpec)

/-- ITS FALSE NEIGHBOUR: 'it returns false'. Refute it at one input. -/
def fnExactObserveMarkWrong : ChangeSpec := { name := "fnExactObserveMark", fn := fun _ => fun
  | [d1, d2, d3, d4, d5] => { results := [.lit (.bool false)], args := [d1, d2, d3, d4, d5] }
  | _ => none }
def FnExactObserveMarkWrongFalsely : Prop := fnExactObserveMarkRow.holds Try.pinned (OpenSpec.ofChange fnExactObserveMarkWrong)

/-- 'laws.FnExactObserveAll': WHATEVER THE INPUT: true; the input reads as it did. -/
def fnExactObserveAllSpec : ChangeSpec := { name := "fnExactObserveAll", fn := fun _ => fun
  | [d1, d2, d3, d4, d5] => { results := [.lit (.bool true)], args := [d1, d2, d3, d4, d5] }
  | _ => none }
def fnExactObserveAllRow : OpenClaim := { program := "ytacligocjfhckaa", sum := "9a90704de33ab3792d3f6264e47d3550c5697ac59425d62cd497bc576635d79c", func := "loop.example/g01204/laws.FnExactObserveAll", spec := "fnExactObserveAll", inPlace := ["math.archFloor", "math.Float64bits", "math.Float64frombits", "math.archTrunc", "math.sqrt", "math.Float32bits", "slices.overlaps[loop.example/g01204/impl.Mark]"], unfollowed := true, recurses := true, apart := false }
def FnExactObserveAllSaid : Prop := fnExactObserveAllRow.holds Try.pinned (OpenSpec.ofChange fnExactObserveAllSpec)

/-- ITS FALSE NEIGHBOUR: 'it returns false'. Refute it at one input. -/
def fnExactObserveAllWrong : ChangeSpec := { name := "fnExactObserveAll", fn := fun _ => fun
  | [d1, d2, d3, d4, d5] => { results := [.lit (.bool false)], args := [d1, d2, d3, d4, d5] }
  | _ => none }
def FnExactObserveAllWrongFalsely : Prop := fnExactObserveAllRow.holds Try.pinned (OpenSpec.ofChange fnExactObserveAllWrong)

/- THE SECOND FORM. 'bulk': how many values and letters a reading holds, each counted each time it is reached (what is shared counts as often as it is met; a slice's spare places count too). A statement '..UptoSaid' is the law's where the arguments, and the package variables that the reading takes, are together of bulk at most 1048576: NARROWER than '..Said'. Prove '..Said' where nothing that the law and all that it calls make is longer than what came in: it says more and counts as full. Else prove '..UptoSaid'. A law counts once. -/
mutual
def uptoBulk {H : Type} : DataW H → Nat
  | .lit (.string bytes) => bytes.length + 1
  | .lit _ => 1
  | .nil => 1
  | .ptr d => uptoBulk d + 1
  | .slice elems spare => uptoBulkAll elems + uptoBulkAll spare + 1
  | .agg parts => uptoBulkAll parts + 1
  | .iface _ d => uptoBulk d + 1
  | .map entries => uptoBulkEntries entries + 1
  | .held _ => 1
def uptoBulkAll {H : Type} : List (DataW H) → Nat
  | [] => 0
  | d :: r => uptoBulk d + uptoBulkAll r
def uptoBulkEntries {H : Type} : List (Lit × DataW H) → Nat
  | [] => 0
  | x :: r => uptoBulkEntry x + uptoBulkEntries r
def uptoBulkEntry {H : Type} : Lit × DataW H → Nat
  | (.string bytes, d) => bytes.length + uptoBulk d + 1
  | (_, d) => uptoBulk d + 1
 end
def uptoSmall : (H : Type) → List (DataW H) → Bool := fun _ ds => decide (uptoBulkAll ds ≤ 1048576)
def OpenSpec.upto (s : _root_.Go.ChangeSpec) : _root_.Go.OpenSpec := { _root_.Go.OpenSpec.ofChange s with cond := some uptoSmall }

/-- 'laws.FnExactPutMark', WHERE WHAT IT READS IS OF BULK AT MOST 1048576: true; the input reads as it did. -/
def fnExactPutMarkUptoRow : OpenClaim := { program := "ytacligocjfhckaa", sum := "9a90704de33ab3792d3f6264e47d3550c5697ac59425d62cd497bc576635d79c", func := "loop.example/g01204/laws.FnExactPutMark", spec := "fnExactPutMark", inPlace := ["math.Float32bits", "math.Float64bits", "slices.overlaps[loop.example/g01204/impl.Mark]"], unfollowed := true, recurses := true, apart := false, narrowed := true }
def FnExactPutMarkUptoSaid : Prop := fnExactPutMarkUptoRow.holds Try.pinned (OpenSpec.upto fnExactPutMarkSpec)

/-- 'laws.FnExactMergeMaps', WHERE WHAT IT READS IS OF BULK AT MOST 1048576: true; the input reads as it did. -/
def fnExactMergeMapsUptoRow : OpenClaim := { program := "ytacligocjfhckaa", sum := "9a90704de33ab3792d3f6264e47d3550c5697ac59425d62cd497bc576635d79c", func := "loop.example/g01204/laws.FnExactMergeMaps", spec := "fnExactMergeMaps", inPlace := ["math.Float32bits", "math.Float64bits", "slices.overlaps[loop.example/g01204/impl.Mark]"], unfollowed := true, recurses := true, apart := false, narrowed := true }
def FnExactMergeMapsUptoSaid : Prop := fnExactMergeMapsUptoRow.holds Try.pinned (OpenSpec.upto fnExactMergeMapsSpec)

/-- 'laws.FnExactObserveMark', WHERE WHAT IT READS IS OF BULK AT MOST 1048576: true; the input reads as it did. -/
def fnExactObserveMarkUptoRow : OpenClaim := { program := "ytacligocjfhckaa", sum := "9a90704de33ab3792d3f6264e47d3550c5697ac59425d62cd497bc576635d79c", func := "loop.example/g01204/laws.FnExactObserveMark", spec := "fnExactObserveMark", inPlace := ["math.archFloor", "math.Float64bits", "math.Float64frombits", "math.archTrunc", "math.sqrt", "math.Float32bits", "slices.overlaps[loop.example/g01204/impl.Mark]"], unfollowed := true, recurses := true, apart := false, narrowed := true }
def FnExactObserveMarkUptoSaid : Prop := fnExactObserveMarkUptoRow.holds Try.pinned (OpenSpec.upto fnExactObserveMarkSpec)

/-- 'laws.FnExactObserveAll', WHERE WHAT IT READS IS OF BULK AT MOST 1048576: true; the input reads as it did. -/
def fnExactObserveAllUptoRow : OpenClaim := { program := "ytacligocjfhckaa", sum := "9a90704de33ab3792d3f6264e47d3550c5697ac59425d62cd497bc576635d79c", func := "loop.example/g01204/laws.FnExactObserveAll", spec := "fnExactObserveAll", inPlace := ["math.archFloor", "math.Float64bits", "math.Float64frombits", "math.archTrunc", "math.sqrt", "math.Float32bits", "slices.overlaps[loop.example/g01204/impl.Mark]"], unfollowed := true, recurses := true, apart := false, narrowed := true }
def FnExactObserveAllUptoSaid : Prop := fnExactObserveAllUptoRow.holds Try.pinned (OpenSpec.upto fnExactObserveAllSpec)

end Rows
end Go.Proofs.Ytacligocjfhckaa
