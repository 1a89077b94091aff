/- A part of a proof about the given program: what its name says. No premise beyond the statements'. -/
import Derived.Test.YtkhioehebaghjaaSkSkyX5
import Derived.Test.YtkhioehebaghjaaRows
import Derived.WalkKit
import Derived.ProofKit
import Derived.OpenShut
import Derived.ShutString
import Derived.ChangeOld
import Derived.Below
import Derived.SizedLaws
set_option linter.unusedSimpArgs false
set_option linter.unusedVariables false
namespace Go.Proofs.Ytkhioehebaghjaa.skyBoxes
open Go.ChangeShapes Go.WideShapes Go.ChangeAt Go.RowKit Go.AM
theorem own : ownKnob Try.prog.godebug = none := by kernel_rfl
theorem laidOut : laidOutB Try.prog = true := by kernel_rfl
theorem layOut : layB Try.prog = true := by kernel_rfl
set_option maxRecDepth 100000 in
theorem lifted (os : Os) (started : os.Started) (H : Type) (enc : TypeId × Value → H) :
    ReturnsInHanded {} Try.checked os 3 .any (Rows.skyBoxesSpec.pre6 enc Try.prog Try.f3 Rows.skyBoxesRow.domain false) (Rows.skyBoxesSpec.post enc Try.prog Try.f3 false true false false) := by
  refine returnsInHanded_of_change_sized (C := Try.checked) own started (by kernel_rfl) Try.func3
    (ChangeSpec.witness6 (enc := enc) (C := Try.checked) false ⟨#[], #[.slice none 0 0], []⟩ 8 (by kernel_rfl) (by kernel_rfl) (by kernel_rfl) (by kernel_rfl)) ?_
  intro W base args ds gs before hval hW _ _ _
  refine law_post (tb := 4) layOut laidOut (by kernel_rfl) (by rfl) Try.underlying4 rfl (fun ds hd => ?_) (fun l h _ => ?_) hval hW
  · match ds, hd with
    | [d1], _ => rfl
  · exact Sk.skyBoxes_all l h
theorem over : Rows.skyBoxesRow.holds Try.pinned (OpenSpec.ofChange Rows.skyBoxesSpec) :=
  OpenClaim.holds_of_wide 3 Try.f3 rfl rfl rfl rfl rfl rfl rfl ⟨rfl, rfl, rfl, rfl, rfl⟩ rfl rfl rfl rfl rfl (by kernel_rfl) Try.func3 (by kernel_rfl)
    (of_decide_eq_true (by kernel_rfl)) (by unfold Func.isWrapper; first | (rw [if_pos (by decide +kernel)]; kernel_rfl) | (rw [if_neg (by decide +kernel)]; exact ⟨rfl, rfl⟩))
    (fun os started H enc _ => lifted os started H enc)
end Go.Proofs.Ytkhioehebaghjaa.skyBoxes
namespace Go.Proofs.Ytkhioehebaghjaa
/-- The row, under a short name, for the claim. -/
theorem skyBoxes_holds : Rows.SkyBoxesSaid := skyBoxes.over
end Go.Proofs.Ytkhioehebaghjaa
