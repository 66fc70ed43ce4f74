/- Walks of functions of the given program, by the theory of the texts Ab. -/
import Derived.Test.YtnleibiniajbnaaTLawReadPacket
import Derived.Test.YtnleibiniajbnaaAbD
import Derived.Test.YtnleibiniajbnaaSxE
set_option linter.unusedVariables false
set_option linter.unusedSimpArgs false
namespace Go.Proofs.Ytnleibiniajbnaa
open Go.Ab Go.ChangeShapes Go.WideShapes Go.ChangeAt Go.RowKit
set_option maxRecDepth 100000
/- ExactReadPacket: for every argument the law returns true, panics nowhere and leaves its arguments as they are. -/
theorem ownExactReadPacket : ownKnob Try.prog.godebug = none := by kernel_rfl
theorem laidExactReadPacket : laidOutB Try.prog = true := by kernel_rfl
set_option maxRecDepth 100000 in
theorem liftedExactReadPacket (os : Os) (started : os.Started) (H : Type) (enc : TypeId × Value → H) :
  ReturnsInHanded {} Try.checked os 8 .any (Rows.fnExactReadPacketSpec.pre6 enc Try.prog Try.f8 Rows.fnExactReadPacketRow.domain false) (Rows.fnExactReadPacketSpec.post enc Try.prog Try.f8 false true false false) := by
 refine returnsInHanded_of_change (C := Try.checked) ownExactReadPacket started kr Try.func8
  (ChangeSpec.witness6 (enc := enc) (C := Try.checked) false ⟨#[], #[.slice none 0 0], []⟩ 8 kr kr kr kr) ?_
 intro W base args ds gs before hval hW _ _
 refine law_contract (P := Try.prog) h_laws_FnExactReadPacket hW rfl hval laidExactReadPacket kr (fun ds h => ?_) (tb := 4) kr kr (xs := [(false, [.sl [.int .u8]])]) kr (fun H vs h => lawExactReadPacket H vs h)
 match ds, h with
 | [d0], _ => exact ⟨rfl, rfl, rfl⟩
theorem overExactReadPacket : Rows.fnExactReadPacketRow.holds Try.pinned (OpenSpec.ofChange Rows.fnExactReadPacketSpec) :=
 OpenClaim.holds_of_wide 8 Try.f8 rfl rfl rfl rfl rfl rfl rfl ⟨rfl, rfl, rfl, rfl, rfl⟩ rfl rfl rfl rfl rfl kr Try.func8 kr
  (of_decide_eq_true kr) (by unfold Func.isWrapper; rw [if_neg (of_decide_eq_false kr)]; exact ⟨rfl, rfl⟩)
  (fun os started H enc _ => liftedExactReadPacket os started H enc)
theorem provedExactReadPacket : Rows.FnExactReadPacketSaid := overExactReadPacket
#print axioms provedExactReadPacket
end Go.Proofs.Ytnleibiniajbnaa
