/-
  No cell of these rows narrows 'for every input' (looked for: loops, veiled, ifaces, maps, wideKeys, modest, calm, conditions, laid).
  DERIVED. THE GIVEN ROWS OF THIS SEAT. 10 by the template 'for every input the law returns true; each argument reads behind the call as it read before'; 0 by the template 'total and deterministic' (their statements: YtnleibiniajbnaaTotals.lean).
  GIVEN WITH THE SEED: the statements are not yours to turn. If you find one false, say at which input.
  Laid BY PROGRAM, IN A SANDBOX (cutbox-rows.mjs): the forced cells as the released guide's own fill.sh prints them over the translation 5f99e0827a55114b… (all of the seat's roots in one cut). By AI agents, Wed Nov 11 2026. No macro, syntax, notation, axiom, sorry.
-/
import Derived.Test.YtnleibiniajbnaaChecked
import GoSem.Claim
import GoSem.ClaimJoined
import GoSem.ClaimMapViews
import Derived.JoinedTies
import Derived.KernelRfl
namespace Go.Proofs.Ytnleibiniajbnaa
/- THE CELL 'sum', in the pinned program and in every row, IS THE sha256 OF THE DUMP (.gsa) THAT YtnleibiniajbnaaProg.lean LOADS. Nothing in Lean hashes anything: it is a label: what it is worth is what the hold of that sum in a sandbox is worth. -/
noncomputable def Try.pinned : Pinned := { name := "ytnleibiniajbnaa", sum := "5f99e0827a55114bc88a16d2021f486b71fb5f238379b82cc8a6ac2944a2208c", checked := Try.checked }
namespace Rows
def none {H : Type} : Left H := { results := [], args := [] }

/-- 'laws.FnExactValidGrid': WHATEVER THE INPUT: true; the input reads as it did. -/
def fnExactValidGridSpec : ChangeSpec := { name := "fnExactValidGrid", fn := fun _ => fun
  | [d] => { results := [.lit (.bool true)], args := [d] }
  | _ => none }
def fnExactValidGridRow : OpenClaim := { program := "ytnleibiniajbnaa", sum := "5f99e0827a55114bc88a16d2021f486b71fb5f238379b82cc8a6ac2944a2208c", func := "loop.example/g01204/laws.FnExactValidGrid", spec := "fnExactValidGrid", apart := false }
def FnExactValidGridSaid : Prop := fnExactValidGridRow.holds Try.pinned (OpenSpec.ofChange fnExactValidGridSpec)

/-- ITS FALSE NEIGHBOUR: 'it returns false'. Refute it at one input. -/
def fnExactValidGridWrong : ChangeSpec := { name := "fnExactValidGrid", fn := fun _ => fun
  | [d] => { results := [.lit (.bool false)], args := [d] }
  | _ => none }
def FnExactValidGridWrongFalsely : Prop := fnExactValidGridRow.holds Try.pinned (OpenSpec.ofChange fnExactValidGridWrong)

/-- 'laws.FnExactEmptyGrid': WHATEVER THE INPUT: true; the input reads as it did. -/
def fnExactEmptyGridSpec : ChangeSpec := { name := "fnExactEmptyGrid", fn := fun _ => fun
  | [d1, d2] => { results := [.lit (.bool true)], args := [d1, d2] }
  | _ => none }
def fnExactEmptyGridRow : OpenClaim := { program := "ytnleibiniajbnaa", sum := "5f99e0827a55114bc88a16d2021f486b71fb5f238379b82cc8a6ac2944a2208c", func := "loop.example/g01204/laws.FnExactEmptyGrid", spec := "fnExactEmptyGrid", apart := false }
def FnExactEmptyGridSaid : Prop := fnExactEmptyGridRow.holds Try.pinned (OpenSpec.ofChange fnExactEmptyGridSpec)

/-- ITS FALSE NEIGHBOUR: 'it returns false'. Refute it at one input. -/
def fnExactEmptyGridWrong : ChangeSpec := { name := "fnExactEmptyGrid", fn := fun _ => fun
  | [d1, d2] => { results := [.lit (.bool false)], args := [d1, d2] }
  | _ => none }
def FnExactEmptyGridWrongFalsely : Prop := fnExactEmptyGridRow.holds Try.pinned (OpenSpec.ofChange fnExactEmptyGridWrong)

/-- 'laws.FnExactSameGrid': WHATEVER THE INPUT: true; the input reads as it did. -/
def fnExactSameGridSpec : ChangeSpec := { name := "fnExactSameGrid", fn := fun _ => fun
  | [d1, d2] => { results := [.lit (.bool true)], args := [d1, d2] }
  | _ => none }
def fnExactSameGridRow : OpenClaim := { program := "ytnleibiniajbnaa", sum := "5f99e0827a55114bc88a16d2021f486b71fb5f238379b82cc8a6ac2944a2208c", func := "loop.example/g01204/laws.FnExactSameGrid", spec := "fnExactSameGrid", apart := false }
def FnExactSameGridSaid : Prop := fnExactSameGridRow.holds Try.pinned (OpenSpec.ofChange fnExactSameGridSpec)

/-- ITS FALSE NEIGHBOUR: 'it returns false'. Refute it at one input. -/
def fnExactSameGridWrong : ChangeSpec := { name := "fnExactSameGrid", fn := fun _ => fun
  | [d1, d2] => { results := [.lit (.bool false)], args := [d1, d2] }
  | _ => none }
def FnExactSameGridWrongFalsely : Prop := fnExactSameGridRow.holds Try.pinned (OpenSpec.ofChange fnExactSameGridWrong)

/-- 'laws.FnExactSpotsBetween': WHATEVER THE INPUT: true; the input reads as it did. -/
def fnExactSpotsBetweenSpec : ChangeSpec := { name := "fnExactSpotsBetween", fn := fun _ => fun
  | [d1, d2] => { results := [.lit (.bool true)], args := [d1, d2] }
  | _ => none }
def fnExactSpotsBetweenRow : OpenClaim := { program := "ytnleibiniajbnaa", sum := "5f99e0827a55114bc88a16d2021f486b71fb5f238379b82cc8a6ac2944a2208c", func := "loop.example/g01204/laws.FnExactSpotsBetween", spec := "fnExactSpotsBetween", apart := false }
def FnExactSpotsBetweenSaid : Prop := fnExactSpotsBetweenRow.holds Try.pinned (OpenSpec.ofChange fnExactSpotsBetweenSpec)

/-- ITS FALSE NEIGHBOUR: 'it returns false'. Refute it at one input. -/
def fnExactSpotsBetweenWrong : ChangeSpec := { name := "fnExactSpotsBetween", fn := fun _ => fun
  | [d1, d2] => { results := [.lit (.bool false)], args := [d1, d2] }
  | _ => none }
def FnExactSpotsBetweenWrongFalsely : Prop := fnExactSpotsBetweenRow.holds Try.pinned (OpenSpec.ofChange fnExactSpotsBetweenWrong)

/-- 'laws.FnExactGridText': WHATEVER THE INPUT: true; the input reads as it did. -/
def fnExactGridTextSpec : ChangeSpec := { name := "fnExactGridText", fn := fun _ => fun
  | [d] => { results := [.lit (.bool true)], args := [d] }
  | _ => none }
def fnExactGridTextRow : OpenClaim := { program := "ytnleibiniajbnaa", sum := "5f99e0827a55114bc88a16d2021f486b71fb5f238379b82cc8a6ac2944a2208c", func := "loop.example/g01204/laws.FnExactGridText", spec := "fnExactGridText", apart := false }
def FnExactGridTextSaid : Prop := fnExactGridTextRow.holds Try.pinned (OpenSpec.ofChange fnExactGridTextSpec)

/-- ITS FALSE NEIGHBOUR: 'it returns false'. Refute it at one input. -/
def fnExactGridTextWrong : ChangeSpec := { name := "fnExactGridText", fn := fun _ => fun
  | [d] => { results := [.lit (.bool false)], args := [d] }
  | _ => none }
def FnExactGridTextWrongFalsely : Prop := fnExactGridTextRow.holds Try.pinned (OpenSpec.ofChange fnExactGridTextWrong)

/-- 'laws.FnExactReadPacket': WHATEVER THE INPUT: true; the input reads as it did. -/
def fnExactReadPacketSpec : ChangeSpec := { name := "fnExactReadPacket", fn := fun _ => fun
  | [d] => { results := [.lit (.bool true)], args := [d] }
  | _ => none }
def fnExactReadPacketRow : OpenClaim := { program := "ytnleibiniajbnaa", sum := "5f99e0827a55114bc88a16d2021f486b71fb5f238379b82cc8a6ac2944a2208c", func := "loop.example/g01204/laws.FnExactReadPacket", spec := "fnExactReadPacket", apart := false }
def FnExactReadPacketSaid : Prop := fnExactReadPacketRow.holds Try.pinned (OpenSpec.ofChange fnExactReadPacketSpec)

/-- ITS FALSE NEIGHBOUR: 'it returns false'. Refute it at one input. -/
def fnExactReadPacketWrong : ChangeSpec := { name := "fnExactReadPacket", fn := fun _ => fun
  | [d] => { results := [.lit (.bool false)], args := [d] }
  | _ => none }
def FnExactReadPacketWrongFalsely : Prop := fnExactReadPacketRow.holds Try.pinned (OpenSpec.ofChange fnExactReadPacketWrong)

/-- 'laws.FnExactMergeFeeds': WHATEVER THE INPUT: true; the input reads as it did. -/
def fnExactMergeFeedsSpec : ChangeSpec := { name := "fnExactMergeFeeds", fn := fun _ => fun
  | [d1, d2] => { results := [.lit (.bool true)], args := [d1, d2] }
  | _ => none }
def fnExactMergeFeedsRow : OpenClaim := { program := "ytnleibiniajbnaa", sum := "5f99e0827a55114bc88a16d2021f486b71fb5f238379b82cc8a6ac2944a2208c", func := "loop.example/g01204/laws.FnExactMergeFeeds", spec := "fnExactMergeFeeds", unfollowed := true, recurses := true, apart := false }
def FnExactMergeFeedsSaid : Prop := fnExactMergeFeedsRow.holds Try.pinned (OpenSpec.ofChange fnExactMergeFeedsSpec)

/-- ITS FALSE NEIGHBOUR: 'it returns false'. Refute it at one input. -/
def fnExactMergeFeedsWrong : ChangeSpec := { name := "fnExactMergeFeeds", fn := fun _ => fun
  | [d1, d2] => { results := [.lit (.bool false)], args := [d1, d2] }
  | _ => none }
def FnExactMergeFeedsWrongFalsely : Prop := fnExactMergeFeedsRow.holds Try.pinned (OpenSpec.ofChange fnExactMergeFeedsWrong)

/-- 'laws.FnExactInsertReading': WHATEVER THE INPUT: true; the input reads as it did. -/
def fnExactInsertReadingSpec : ChangeSpec := { name := "fnExactInsertReading", fn := fun _ => fun
  | [d1, d2] => { results := [.lit (.bool true)], args := [d1, d2] }
  | _ => none }
def fnExactInsertReadingRow : OpenClaim := { program := "ytnleibiniajbnaa", sum := "5f99e0827a55114bc88a16d2021f486b71fb5f238379b82cc8a6ac2944a2208c", func := "loop.example/g01204/laws.FnExactInsertReading", spec := "fnExactInsertReading", unfollowed := true, recurses := true, apart := false }
def FnExactInsertReadingSaid : Prop := fnExactInsertReadingRow.holds Try.pinned (OpenSpec.ofChange fnExactInsertReadingSpec)

/-- ITS FALSE NEIGHBOUR: 'it returns false'. Refute it at one input. -/
def fnExactInsertReadingWrong : ChangeSpec := { name := "fnExactInsertReading", fn := fun _ => fun
  | [d1, d2] => { results := [.lit (.bool false)], args := [d1, d2] }
  | _ => none }
def FnExactInsertReadingWrongFalsely : Prop := fnExactInsertReadingRow.holds Try.pinned (OpenSpec.ofChange fnExactInsertReadingWrong)

/-- 'laws.FnMeasured': WHATEVER THE INPUT: true; the input reads as it did. -/
def fnMeasuredSpec : ChangeSpec := { name := "fnMeasured", fn := fun _ => fun
  | [d1, d2] => { results := [.lit (.bool true)], args := [d1, d2] }
  | _ => none }
def fnMeasuredRow : OpenClaim := { program := "ytnleibiniajbnaa", sum := "5f99e0827a55114bc88a16d2021f486b71fb5f238379b82cc8a6ac2944a2208c", func := "loop.example/g01204/laws.FnMeasured", spec := "fnMeasured", inPlace := ["math.RoundToEven", "math.Float32bits", "math.Float32frombits"], apart := false }
def FnMeasuredSaid : Prop := fnMeasuredRow.holds Try.pinned (OpenSpec.ofChange fnMeasuredSpec)

/-- ITS FALSE NEIGHBOUR: 'it returns false'. Refute it at one input. -/
def fnMeasuredWrong : ChangeSpec := { name := "fnMeasured", fn := fun _ => fun
  | [d1, d2] => { results := [.lit (.bool false)], args := [d1, d2] }
  | _ => none }
def FnMeasuredWrongFalsely : Prop := fnMeasuredRow.holds Try.pinned (OpenSpec.ofChange fnMeasuredWrong)

/-- 'laws.FnFeeds': WHATEVER THE INPUT: true; the input reads as it did. -/
def fnFeedsSpec : ChangeSpec := { name := "fnFeeds", fn := fun _ => fun
  | [d1, d2] => { results := [.lit (.bool true)], args := [d1, d2] }
  | _ => none }
def fnFeedsRow : OpenClaim := { program := "ytnleibiniajbnaa", sum := "5f99e0827a55114bc88a16d2021f486b71fb5f238379b82cc8a6ac2944a2208c", func := "loop.example/g01204/laws.FnFeeds", spec := "fnFeeds", inPlace := ["math.Float32bits"], unfollowed := true, recurses := true, apart := false }
def FnFeedsSaid : Prop := fnFeedsRow.holds Try.pinned (OpenSpec.ofChange fnFeedsSpec)

/-- ITS FALSE NEIGHBOUR: 'it returns false'. Refute it at one input. -/
def fnFeedsWrong : ChangeSpec := { name := "fnFeeds", fn := fun _ => fun
  | [d1, d2] => { results := [.lit (.bool false)], args := [d1, d2] }
  | _ => none }
def FnFeedsWrongFalsely : Prop := fnFeedsRow.holds Try.pinned (OpenSpec.ofChange fnFeedsWrong)

/- THE SECOND FORM. 'bulk': how many values and letters a reading holds, each counted each time it is reached (what is shared counts as often as it is met; a slice's spare places count too). A statement '..UptoSaid' is the law's where the arguments, and the package variables that the reading takes, are together of bulk at most 1048576: NARROWER than '..Said'. Prove '..Said' where nothing that the law and all that it calls make is longer than what came in: it says more and counts as full. Else prove '..UptoSaid'. A law counts once. -/
mutual
def uptoBulk {H : Type} : DataW H → Nat
  | .lit (.string bytes) => bytes.length + 1
  | .lit _ => 1
  | .nil => 1
  | .ptr d => uptoBulk d + 1
  | .slice elems spare => uptoBulkAll elems + uptoBulkAll spare + 1
  | .agg parts => uptoBulkAll parts + 1
  | .iface _ d => uptoBulk d + 1
  | .map entries => uptoBulkEntries entries + 1
  | .held _ => 1
def uptoBulkAll {H : Type} : List (DataW H) → Nat
  | [] => 0
  | d :: r => uptoBulk d + uptoBulkAll r
def uptoBulkEntries {H : Type} : List (Lit × DataW H) → Nat
  | [] => 0
  | x :: r => uptoBulkEntry x + uptoBulkEntries r
def uptoBulkEntry {H : Type} : Lit × DataW H → Nat
  | (.string bytes, d) => bytes.length + uptoBulk d + 1
  | (_, d) => uptoBulk d + 1
 end
def uptoSmall : (H : Type) → List (DataW H) → Bool := fun _ ds => decide (uptoBulkAll ds ≤ 1048576)
def OpenSpec.upto (s : _root_.Go.ChangeSpec) : _root_.Go.OpenSpec := { _root_.Go.OpenSpec.ofChange s with cond := some uptoSmall }

/-- 'laws.FnExactValidGrid', WHERE WHAT IT READS IS OF BULK AT MOST 1048576: true; the input reads as it did. -/
def fnExactValidGridUptoRow : OpenClaim := { program := "ytnleibiniajbnaa", sum := "5f99e0827a55114bc88a16d2021f486b71fb5f238379b82cc8a6ac2944a2208c", func := "loop.example/g01204/laws.FnExactValidGrid", spec := "fnExactValidGrid", apart := false, narrowed := true }
def FnExactValidGridUptoSaid : Prop := fnExactValidGridUptoRow.holds Try.pinned (OpenSpec.upto fnExactValidGridSpec)

/-- 'laws.FnExactEmptyGrid', WHERE WHAT IT READS IS OF BULK AT MOST 1048576: true; the input reads as it did. -/
def fnExactEmptyGridUptoRow : OpenClaim := { program := "ytnleibiniajbnaa", sum := "5f99e0827a55114bc88a16d2021f486b71fb5f238379b82cc8a6ac2944a2208c", func := "loop.example/g01204/laws.FnExactEmptyGrid", spec := "fnExactEmptyGrid", apart := false, narrowed := true }
def FnExactEmptyGridUptoSaid : Prop := fnExactEmptyGridUptoRow.holds Try.pinned (OpenSpec.upto fnExactEmptyGridSpec)

/-- 'laws.FnExactSameGrid', WHERE WHAT IT READS IS OF BULK AT MOST 1048576: true; the input reads as it did. -/
def fnExactSameGridUptoRow : OpenClaim := { program := "ytnleibiniajbnaa", sum := "5f99e0827a55114bc88a16d2021f486b71fb5f238379b82cc8a6ac2944a2208c", func := "loop.example/g01204/laws.FnExactSameGrid", spec := "fnExactSameGrid", apart := false, narrowed := true }
def FnExactSameGridUptoSaid : Prop := fnExactSameGridUptoRow.holds Try.pinned (OpenSpec.upto fnExactSameGridSpec)

/-- 'laws.FnExactSpotsBetween', WHERE WHAT IT READS IS OF BULK AT MOST 1048576: true; the input reads as it did. -/
def fnExactSpotsBetweenUptoRow : OpenClaim := { program := "ytnleibiniajbnaa", sum := "5f99e0827a55114bc88a16d2021f486b71fb5f238379b82cc8a6ac2944a2208c", func := "loop.example/g01204/laws.FnExactSpotsBetween", spec := "fnExactSpotsBetween", apart := false, narrowed := true }
def FnExactSpotsBetweenUptoSaid : Prop := fnExactSpotsBetweenUptoRow.holds Try.pinned (OpenSpec.upto fnExactSpotsBetweenSpec)

/-- 'laws.FnExactGridText', WHERE WHAT IT READS IS OF BULK AT MOST 1048576: true; the input reads as it did. -/
def fnExactGridTextUptoRow : OpenClaim := { program := "ytnleibiniajbnaa", sum := "5f99e0827a55114bc88a16d2021f486b71fb5f238379b82cc8a6ac2944a2208c", func := "loop.example/g01204/laws.FnExactGridText", spec := "fnExactGridText", apart := false, narrowed := true }
def FnExactGridTextUptoSaid : Prop := fnExactGridTextUptoRow.holds Try.pinned (OpenSpec.upto fnExactGridTextSpec)

/-- 'laws.FnExactReadPacket', WHERE WHAT IT READS IS OF BULK AT MOST 1048576: true; the input reads as it did. -/
def fnExactReadPacketUptoRow : OpenClaim := { program := "ytnleibiniajbnaa", sum := "5f99e0827a55114bc88a16d2021f486b71fb5f238379b82cc8a6ac2944a2208c", func := "loop.example/g01204/laws.FnExactReadPacket", spec := "fnExactReadPacket", apart := false, narrowed := true }
def FnExactReadPacketUptoSaid : Prop := fnExactReadPacketUptoRow.holds Try.pinned (OpenSpec.upto fnExactReadPacketSpec)

/-- 'laws.FnExactMergeFeeds', WHERE WHAT IT READS IS OF BULK AT MOST 1048576: true; the input reads as it did. -/
def fnExactMergeFeedsUptoRow : OpenClaim := { program := "ytnleibiniajbnaa", sum := "5f99e0827a55114bc88a16d2021f486b71fb5f238379b82cc8a6ac2944a2208c", func := "loop.example/g01204/laws.FnExactMergeFeeds", spec := "fnExactMergeFeeds", unfollowed := true, recurses := true, apart := false, narrowed := true }
def FnExactMergeFeedsUptoSaid : Prop := fnExactMergeFeedsUptoRow.holds Try.pinned (OpenSpec.upto fnExactMergeFeedsSpec)

/-- 'laws.FnExactInsertReading', WHERE WHAT IT READS IS OF BULK AT MOST 1048576: true; the input reads as it did. -/
def fnExactInsertReadingUptoRow : OpenClaim := { program := "ytnleibiniajbnaa", sum := "5f99e0827a55114bc88a16d2021f486b71fb5f238379b82cc8a6ac2944a2208c", func := "loop.example/g01204/laws.FnExactInsertReading", spec := "fnExactInsertReading", unfollowed := true, recurses := true, apart := false, narrowed := true }
def FnExactInsertReadingUptoSaid : Prop := fnExactInsertReadingUptoRow.holds Try.pinned (OpenSpec.upto fnExactInsertReadingSpec)

/-- 'laws.FnMeasured', WHERE WHAT IT READS IS OF BULK AT MOST 1048576: true; the input reads as it did. -/
def fnMeasuredUptoRow : OpenClaim := { program := "ytnleibiniajbnaa", sum := "5f99e0827a55114bc88a16d2021f486b71fb5f238379b82cc8a6ac2944a2208c", func := "loop.example/g01204/laws.FnMeasured", spec := "fnMeasured", inPlace := ["math.RoundToEven", "math.Float32bits", "math.Float32frombits"], apart := false, narrowed := true }
def FnMeasuredUptoSaid : Prop := fnMeasuredUptoRow.holds Try.pinned (OpenSpec.upto fnMeasuredSpec)

/-- 'laws.FnFeeds', WHERE WHAT IT READS IS OF BULK AT MOST 1048576: true; the input reads as it did. -/
def fnFeedsUptoRow : OpenClaim := { program := "ytnleibiniajbnaa", sum := "5f99e0827a55114bc88a16d2021f486b71fb5f238379b82cc8a6ac2944a2208c", func := "loop.example/g01204/laws.FnFeeds", spec := "fnFeeds", inPlace := ["math.Float32bits"], unfollowed := true, recurses := true, apart := false, narrowed := true }
def FnFeedsUptoSaid : Prop := fnFeedsUptoRow.holds Try.pinned (OpenSpec.upto fnFeedsSpec)

end Rows
end Go.Proofs.Ytnleibiniajbnaa
