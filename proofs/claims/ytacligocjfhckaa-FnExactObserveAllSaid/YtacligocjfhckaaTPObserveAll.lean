/- Walks of functions of the given program, by the theory of the texts Ab. -/
import Derived.Test.YtacligocjfhckaaTLawObsAll
import Derived.Test.YtacligocjfhckaaAbD
import Derived.Test.YtacligocjfhckaaSxE
set_option linter.unusedVariables false
set_option linter.unusedSimpArgs false
namespace Go.Proofs.Ytacligocjfhckaa
open Go.Ab Go.ChangeShapes Go.WideShapes Go.ChangeAt Go.RowKit
set_option maxRecDepth 100000
/- ExactObserveAll: for every argument the law returns true, panics nowhere and leaves its arguments as they are. -/
theorem qAR:ownKnob Try.prog.godebug=none:=by kernel_rfl
theorem cA:laidOutB Try.prog=true:=by kernel_rfl
set_option maxRecDepth 100000 in
theorem tF (os:Os) (started:os.Started) (H:Type) (enc:TypeId × Value->H) :
  ReturnsInHanded {} Try.checked os 6 .any (Rows.fnExactObserveAllSpec.pre6 enc Try.prog Try.f6 Rows.fnExactObserveAllRow.domain false) (Rows.fnExactObserveAllSpec.post enc Try.prog Try.f6 false true false false):=by
 refine returnsInHanded_of_change (C:=Try.checked) qAR started kr Try.func6
  (ChangeSpec.witness6 (enc:=enc) (C:=Try.checked) false ⟨#[],#[.agg #[.float .f32 0,.slice none 0 0],.slice none 0 0,.float .f32 0,.int .i64 0,.float .f32 0],[]⟩ 8 kr kr kr kr) ?_
 intro W base args ds gs before hval hW _ _
 refine qFY (P:=Try.prog) xN hW rfl hval cA kr (fun ds h=>?_) (tb:=4) kr kr (xs:=[(true,[.flt .f32,.sl [.int .i32,.int .i32,.int .i32,.flt .f32,.flt .f32,.flt .f32,.flt .f32,.int .i64,.int .i64]]),(false,[.sl [.flt .f32,.flt .f32,.flt .f32]]),(false,[.flt .f32]),(false,[.int .i64]),(false,[.flt .f32])]) kr (fun H vs h=>qAI H vs h)
 match ds,h with
 | [d0,d1,d2,d3,d4],_=>exact⟨rfl,rfl,rfl⟩
theorem cB:Rows.fnExactObserveAllRow.holds Try.pinned (OpenSpec.ofChange Rows.fnExactObserveAllSpec):=
 OpenClaim.holds_of_wide 6 Try.f6 rfl rfl rfl rfl rfl rfl rfl ⟨rfl,rfl,rfl,rfl,rfl⟩ rfl rfl rfl rfl rfl kr Try.func6 kr
  (of_decide_eq_true kr) (by unfold Func.isWrapper;rw [if_neg (of_decide_eq_false kr)];exact⟨rfl,rfl⟩)
  (fun os started H enc _=>tF os started H enc)
theorem provedExactObserveAll:Rows.FnExactObserveAllSaid:=cB
#print axioms provedExactObserveAll
end Go.Proofs.Ytacligocjfhckaa
