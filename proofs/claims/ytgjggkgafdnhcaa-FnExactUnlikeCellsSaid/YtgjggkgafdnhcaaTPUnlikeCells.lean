/- Walks of functions of the given program, by the theory of the texts Ab. -/
import Derived.Test.YtgjggkgafdnhcaaTLawUn
import Derived.Test.YtgjggkgafdnhcaaAbD
import Derived.Test.YtgjggkgafdnhcaaSxE
set_option linter.unusedVariables false
set_option linter.unusedSimpArgs false
namespace Go.Proofs.Ytgjggkgafdnhcaa
open Go.Ab Go.ChangeShapes Go.WideShapes Go.ChangeAt Go.RowKit
set_option maxRecDepth 100000
/- ExactUnlikeCells: for every argument the law returns true, panics nowhere and leaves its arguments as they are. -/
theorem uG:ownKnob Try.prog.godebug=none:=by kernel_rfl
theorem tB:laidOutB Try.prog=true:=by kernel_rfl
set_option maxRecDepth 100000 in
theorem mG (os:Os) (started:os.Started) (H:Type) (enc:TypeId × Value->H) :
  ReturnsInHanded {} Try.checked os 3 .any (Rows.fnExactUnlikeCellsSpec.pre6 enc Try.prog Try.f3 Rows.fnExactUnlikeCellsRow.domain false) (Rows.fnExactUnlikeCellsSpec.post enc Try.prog Try.f3 false true false false):=by
 refine returnsInHanded_of_change (C:=Try.checked) uG started kr Try.func3
  (ChangeSpec.witness6 (enc:=enc) (C:=Try.checked) false ⟨#[],#[.agg #[.float .f32 0,.slice none 0 0],.agg #[.float .f32 0,.slice none 0 0]],[]⟩ 8 kr kr kr kr) ?_
 intro W base args ds gs before hval hW _ _
 refine qDW (P:=Try.prog) xS hW rfl hval tB kr (fun ds h=>?_) (tb:=4) kr kr (xs:=[(true,[.flt .f32,.sl [.int .i32,.int .i32,.int .i32,.flt .f32,.flt .f32,.flt .f32,.flt .f32,.int .i64,.int .i64]]),(true,[.flt .f32,.sl [.int .i32,.int .i32,.int .i32,.flt .f32,.flt .f32,.flt .f32,.flt .f32,.int .i64,.int .i64]])]) kr (fun H vs h=>uE H vs h)
 match ds,h with
 | [d0,d1],_=>exact⟨rfl,rfl,rfl⟩
theorem tE:Rows.fnExactUnlikeCellsRow.holds Try.pinned (OpenSpec.ofChange Rows.fnExactUnlikeCellsSpec):=
 OpenClaim.holds_of_wide 3 Try.f3 rfl rfl rfl rfl rfl rfl rfl ⟨rfl,rfl,rfl,rfl,rfl⟩ rfl rfl rfl rfl rfl kr Try.func3 kr
  (of_decide_eq_true kr) (by unfold Func.isWrapper;rw [if_neg (of_decide_eq_false kr)];exact⟨rfl,rfl⟩)
  (fun os started H enc _=>mG os started H enc)
theorem provedExactUnlikeCells:Rows.FnExactUnlikeCellsSaid:=tE
#print axioms provedExactUnlikeCells
end Go.Proofs.Ytgjggkgafdnhcaa
