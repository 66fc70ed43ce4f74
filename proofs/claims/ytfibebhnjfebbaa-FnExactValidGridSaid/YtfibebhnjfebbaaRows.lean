/-
  No cell of these rows narrows 'for every input' (looked for: loops, veiled, ifaces, maps, wideKeys, modest, calm, conditions, laid).
  DERIVED. THE GIVEN ROWS OF THIS SEAT. 6 by the template 'for every input the law returns true; each argument reads behind the call as it read before'; 0 by the template 'total and deterministic' (their statements: YtfibebhnjfebbaaTotals.lean).
  GIVEN WITH THE SEED: the statements are not yours to turn. If you find one false, say at which input.
  Laid BY PROGRAM, IN A SANDBOX (cutbox-rows.mjs): the forced cells as the released guide's own fill.sh prints them over the translation 6b84dd98cccb7ef2… (all of the seat's roots in one cut). By AI agents, Wed Nov 11 2026. No macro, syntax, notation, axiom, sorry.
-/
import Derived.Test.YtfibebhnjfebbaaChecked
import GoSem.Claim
import GoSem.ClaimJoined
import GoSem.ClaimMapViews
import Derived.JoinedTies
import Derived.KernelRfl
namespace Go.Proofs.Ytfibebhnjfebbaa
/- THE CELL 'sum', in the pinned program and in every row, IS THE sha256 OF THE DUMP (.gsa) THAT YtfibebhnjfebbaaProg.lean LOADS. Nothing in Lean hashes anything: it is a label: what it is worth is what the hold of that sum in a sandbox is worth. -/
noncomputable def Try.pinned : Pinned := { name := "ytfibebhnjfebbaa", sum := "6b84dd98cccb7ef2a3ac7c6278f85de761a367545e8c88cde8625cabe46fe5c4", checked := Try.checked }
namespace Rows
def none {H : Type} : Left H := { results := [], args := [] }

/-- 'laws.FnExactIsFinitePose': WHATEVER THE INPUT: true; the input reads as it did. -/
def fnExactIsFinitePoseSpec : ChangeSpec := { name := "fnExactIsFinitePose", fn := fun _ => fun
  | [d] => { results := [.lit (.bool true)], args := [d] }
  | _ => none }
def fnExactIsFinitePoseRow : OpenClaim := { program := "ytfibebhnjfebbaa", sum := "6b84dd98cccb7ef2a3ac7c6278f85de761a367545e8c88cde8625cabe46fe5c4", func := "loop.example/g01204/laws.FnExactIsFinitePose", spec := "fnExactIsFinitePose", apart := false }
def FnExactIsFinitePoseSaid : Prop := fnExactIsFinitePoseRow.holds Try.pinned (OpenSpec.ofChange fnExactIsFinitePoseSpec)

/-- ITS FALSE NEIGHBOUR: 'it returns false'. Refute it at one input. -/
def fnExactIsFinitePoseWrong : ChangeSpec := { name := "fnExactIsFinitePose", fn := fun _ => fun
  | [d] => { results := [.lit (.bool false)], args := [d] }
  | _ => none }
def FnExactIsFinitePoseWrongFalsely : Prop := fnExactIsFinitePoseRow.holds Try.pinned (OpenSpec.ofChange fnExactIsFinitePoseWrong)

/-- 'laws.FnExactSamePose': WHATEVER THE INPUT: true; the input reads as it did. -/
def fnExactSamePoseSpec : ChangeSpec := { name := "fnExactSamePose", fn := fun _ => fun
  | [d1, d2] => { results := [.lit (.bool true)], args := [d1, d2] }
  | _ => none }
def fnExactSamePoseRow : OpenClaim := { program := "ytfibebhnjfebbaa", sum := "6b84dd98cccb7ef2a3ac7c6278f85de761a367545e8c88cde8625cabe46fe5c4", func := "loop.example/g01204/laws.FnExactSamePose", spec := "fnExactSamePose", inPlace := ["math.Float32bits"], unfollowed := true, recurses := true, apart := false }
def FnExactSamePoseSaid : Prop := fnExactSamePoseRow.holds Try.pinned (OpenSpec.ofChange fnExactSamePoseSpec)

/-- ITS FALSE NEIGHBOUR: 'it returns false'. Refute it at one input. -/
def fnExactSamePoseWrong : ChangeSpec := { name := "fnExactSamePose", fn := fun _ => fun
  | [d1, d2] => { results := [.lit (.bool false)], args := [d1, d2] }
  | _ => none }
def FnExactSamePoseWrongFalsely : Prop := fnExactSamePoseRow.holds Try.pinned (OpenSpec.ofChange fnExactSamePoseWrong)

/-- 'laws.FnExactComparePlaces': WHATEVER THE INPUT: true; the input reads as it did. -/
def fnExactComparePlacesSpec : ChangeSpec := { name := "fnExactComparePlaces", fn := fun _ => fun
  | [d1, d2] => { results := [.lit (.bool true)], args := [d1, d2] }
  | _ => none }
def fnExactComparePlacesRow : OpenClaim := { program := "ytfibebhnjfebbaa", sum := "6b84dd98cccb7ef2a3ac7c6278f85de761a367545e8c88cde8625cabe46fe5c4", func := "loop.example/g01204/laws.FnExactComparePlaces", spec := "fnExactComparePlaces", apart := false }
def FnExactComparePlacesSaid : Prop := fnExactComparePlacesRow.holds Try.pinned (OpenSpec.ofChange fnExactComparePlacesSpec)

/-- ITS FALSE NEIGHBOUR: 'it returns false'. Refute it at one input. -/
def fnExactComparePlacesWrong : ChangeSpec := { name := "fnExactComparePlaces", fn := fun _ => fun
  | [d1, d2] => { results := [.lit (.bool false)], args := [d1, d2] }
  | _ => none }
def FnExactComparePlacesWrongFalsely : Prop := fnExactComparePlacesRow.holds Try.pinned (OpenSpec.ofChange fnExactComparePlacesWrong)

/-- 'laws.FnExactValidGrid': WHATEVER THE INPUT: true; the input reads as it did. -/
def fnExactValidGridSpec : ChangeSpec := { name := "fnExactValidGrid", fn := fun _ => fun
  | [d] => { results := [.lit (.bool true)], args := [d] }
  | _ => none }
def fnExactValidGridRow : OpenClaim := { program := "ytfibebhnjfebbaa", sum := "6b84dd98cccb7ef2a3ac7c6278f85de761a367545e8c88cde8625cabe46fe5c4", func := "loop.example/g01204/laws.FnExactValidGrid", spec := "fnExactValidGrid", apart := false }
def FnExactValidGridSaid : Prop := fnExactValidGridRow.holds Try.pinned (OpenSpec.ofChange fnExactValidGridSpec)

/-- ITS FALSE NEIGHBOUR: 'it returns false'. Refute it at one input. -/
def fnExactValidGridWrong : ChangeSpec := { name := "fnExactValidGrid", fn := fun _ => fun
  | [d] => { results := [.lit (.bool false)], args := [d] }
  | _ => none }
def FnExactValidGridWrongFalsely : Prop := fnExactValidGridRow.holds Try.pinned (OpenSpec.ofChange fnExactValidGridWrong)

/-- 'laws.FnExactEmptyGrid': WHATEVER THE INPUT: true; the input reads as it did. -/
def fnExactEmptyGridSpec : ChangeSpec := { name := "fnExactEmptyGrid", fn := fun _ => fun
  | [d1, d2] => { results := [.lit (.bool true)], args := [d1, d2] }
  | _ => none }
def fnExactEmptyGridRow : OpenClaim := { program := "ytfibebhnjfebbaa", sum := "6b84dd98cccb7ef2a3ac7c6278f85de761a367545e8c88cde8625cabe46fe5c4", func := "loop.example/g01204/laws.FnExactEmptyGrid", spec := "fnExactEmptyGrid", apart := false }
def FnExactEmptyGridSaid : Prop := fnExactEmptyGridRow.holds Try.pinned (OpenSpec.ofChange fnExactEmptyGridSpec)

/-- ITS FALSE NEIGHBOUR: 'it returns false'. Refute it at one input. -/
def fnExactEmptyGridWrong : ChangeSpec := { name := "fnExactEmptyGrid", fn := fun _ => fun
  | [d1, d2] => { results := [.lit (.bool false)], args := [d1, d2] }
  | _ => none }
def FnExactEmptyGridWrongFalsely : Prop := fnExactEmptyGridRow.holds Try.pinned (OpenSpec.ofChange fnExactEmptyGridWrong)

/-- 'laws.FnExactSameGrid': WHATEVER THE INPUT: true; the input reads as it did. -/
def fnExactSameGridSpec : ChangeSpec := { name := "fnExactSameGrid", fn := fun _ => fun
  | [d1, d2] => { results := [.lit (.bool true)], args := [d1, d2] }
  | _ => none }
def fnExactSameGridRow : OpenClaim := { program := "ytfibebhnjfebbaa", sum := "6b84dd98cccb7ef2a3ac7c6278f85de761a367545e8c88cde8625cabe46fe5c4", func := "loop.example/g01204/laws.FnExactSameGrid", spec := "fnExactSameGrid", apart := false }
def FnExactSameGridSaid : Prop := fnExactSameGridRow.holds Try.pinned (OpenSpec.ofChange fnExactSameGridSpec)

/-- ITS FALSE NEIGHBOUR: 'it returns false'. Refute it at one input. -/
def fnExactSameGridWrong : ChangeSpec := { name := "fnExactSameGrid", fn := fun _ => fun
  | [d1, d2] => { results := [.lit (.bool false)], args := [d1, d2] }
  | _ => none }
def FnExactSameGridWrongFalsely : Prop := fnExactSameGridRow.holds Try.pinned (OpenSpec.ofChange fnExactSameGridWrong)

/- THE SECOND FORM. 'bulk': how many values and letters a reading holds, each counted each time it is reached (what is shared counts as often as it is met; a slice's spare places count too). A statement '..UptoSaid' is the law's where the arguments, and the package variables that the reading takes, are together of bulk at most 1048576: NARROWER than '..Said'. Prove '..Said' where nothing that the law and all that it calls make is longer than what came in: it says more and counts as full. Else prove '..UptoSaid'. A law counts once. -/
mutual
def uptoBulk {H : Type} : DataW H → Nat
  | .lit (.string bytes) => bytes.length + 1
  | .lit _ => 1
  | .nil => 1
  | .ptr d => uptoBulk d + 1
  | .slice elems spare => uptoBulkAll elems + uptoBulkAll spare + 1
  | .agg parts => uptoBulkAll parts + 1
  | .iface _ d => uptoBulk d + 1
  | .map entries => uptoBulkEntries entries + 1
  | .held _ => 1
def uptoBulkAll {H : Type} : List (DataW H) → Nat
  | [] => 0
  | d :: r => uptoBulk d + uptoBulkAll r
def uptoBulkEntries {H : Type} : List (Lit × DataW H) → Nat
  | [] => 0
  | x :: r => uptoBulkEntry x + uptoBulkEntries r
def uptoBulkEntry {H : Type} : Lit × DataW H → Nat
  | (.string bytes, d) => bytes.length + uptoBulk d + 1
  | (_, d) => uptoBulk d + 1
 end
def uptoSmall : (H : Type) → List (DataW H) → Bool := fun _ ds => decide (uptoBulkAll ds ≤ 1048576)
def OpenSpec.upto (s : _root_.Go.ChangeSpec) : _root_.Go.OpenSpec := { _root_.Go.OpenSpec.ofChange s with cond := some uptoSmall }

/-- 'laws.FnExactIsFinitePose', WHERE WHAT IT READS IS OF BULK AT MOST 1048576: true; the input reads as it did. -/
def fnExactIsFinitePoseUptoRow : OpenClaim := { program := "ytfibebhnjfebbaa", sum := "6b84dd98cccb7ef2a3ac7c6278f85de761a367545e8c88cde8625cabe46fe5c4", func := "loop.example/g01204/laws.FnExactIsFinitePose", spec := "fnExactIsFinitePose", apart := false, narrowed := true }
def FnExactIsFinitePoseUptoSaid : Prop := fnExactIsFinitePoseUptoRow.holds Try.pinned (OpenSpec.upto fnExactIsFinitePoseSpec)

/-- 'laws.FnExactSamePose', WHERE WHAT IT READS IS OF BULK AT MOST 1048576: true; the input reads as it did. -/
def fnExactSamePoseUptoRow : OpenClaim := { program := "ytfibebhnjfebbaa", sum := "6b84dd98cccb7ef2a3ac7c6278f85de761a367545e8c88cde8625cabe46fe5c4", func := "loop.example/g01204/laws.FnExactSamePose", spec := "fnExactSamePose", inPlace := ["math.Float32bits"], unfollowed := true, recurses := true, apart := false, narrowed := true }
def FnExactSamePoseUptoSaid : Prop := fnExactSamePoseUptoRow.holds Try.pinned (OpenSpec.upto fnExactSamePoseSpec)

/-- 'laws.FnExactComparePlaces', WHERE WHAT IT READS IS OF BULK AT MOST 1048576: true; the input reads as it did. -/
def fnExactComparePlacesUptoRow : OpenClaim := { program := "ytfibebhnjfebbaa", sum := "6b84dd98cccb7ef2a3ac7c6278f85de761a367545e8c88cde8625cabe46fe5c4", func := "loop.example/g01204/laws.FnExactComparePlaces", spec := "fnExactComparePlaces", apart := false, narrowed := true }
def FnExactComparePlacesUptoSaid : Prop := fnExactComparePlacesUptoRow.holds Try.pinned (OpenSpec.upto fnExactComparePlacesSpec)

/-- 'laws.FnExactValidGrid', WHERE WHAT IT READS IS OF BULK AT MOST 1048576: true; the input reads as it did. -/
def fnExactValidGridUptoRow : OpenClaim := { program := "ytfibebhnjfebbaa", sum := "6b84dd98cccb7ef2a3ac7c6278f85de761a367545e8c88cde8625cabe46fe5c4", func := "loop.example/g01204/laws.FnExactValidGrid", spec := "fnExactValidGrid", apart := false, narrowed := true }
def FnExactValidGridUptoSaid : Prop := fnExactValidGridUptoRow.holds Try.pinned (OpenSpec.upto fnExactValidGridSpec)

/-- 'laws.FnExactEmptyGrid', WHERE WHAT IT READS IS OF BULK AT MOST 1048576: true; the input reads as it did. -/
def fnExactEmptyGridUptoRow : OpenClaim := { program := "ytfibebhnjfebbaa", sum := "6b84dd98cccb7ef2a3ac7c6278f85de761a367545e8c88cde8625cabe46fe5c4", func := "loop.example/g01204/laws.FnExactEmptyGrid", spec := "fnExactEmptyGrid", apart := false, narrowed := true }
def FnExactEmptyGridUptoSaid : Prop := fnExactEmptyGridUptoRow.holds Try.pinned (OpenSpec.upto fnExactEmptyGridSpec)

/-- 'laws.FnExactSameGrid', WHERE WHAT IT READS IS OF BULK AT MOST 1048576: true; the input reads as it did. -/
def fnExactSameGridUptoRow : OpenClaim := { program := "ytfibebhnjfebbaa", sum := "6b84dd98cccb7ef2a3ac7c6278f85de761a367545e8c88cde8625cabe46fe5c4", func := "loop.example/g01204/laws.FnExactSameGrid", spec := "fnExactSameGrid", apart := false, narrowed := true }
def FnExactSameGridUptoSaid : Prop := fnExactSameGridUptoRow.holds Try.pinned (OpenSpec.upto fnExactSameGridSpec)

end Rows
end Go.Proofs.Ytfibebhnjfebbaa
