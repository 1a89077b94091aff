/- A part of a proof about the given program: what its name says. No premise beyond the statements'. -/
import Derived.Test.YtjmcolfdpbohpaaGreatBmR
import Derived.Test.YtjmcolfdpbohpaaGreatRows
import Derived.WalkKit
import Derived.ProofKit
import Derived.OpenShut
import Derived.ShutString
import Derived.ChangeOld
import Derived.Below
import Derived.SizedLaws
set_option linter.unusedSimpArgs false
set_option linter.unusedVariables false
namespace Go.Proofs.YtjmcolfdpbohpaaGreat.beamLevels
open Go.ChangeShapes Go.WideShapes Go.ChangeAt Go.RowKit Go.AM
theorem own : ownKnob Tryz.prog.godebug = none := by kernel_rfl
theorem laidOut : laidOutB Tryz.prog = true := by kernel_rfl
theorem layOut : layB Tryz.prog = true := by kernel_rfl
set_option maxRecDepth 100000 in
theorem lifted (os : Os) (started : os.Started) (H : Type) (enc : TypeId × Value → H) :
    ReturnsInHanded {} Tryz.checked os 4 .any (Rows.beamLevelsSpec.pre6 enc Tryz.prog Tryz.f4 Rows.beamLevelsRow.domain false) (Rows.beamLevelsSpec.post enc Tryz.prog Tryz.f4 false true false false) := by
  refine returnsInHanded_of_change_sized (C := Tryz.checked) own started (by kernel_rfl) Tryz.func4
    (ChangeSpec.witness6 (enc := enc) (C := Tryz.checked) false ⟨#[], #[.slice none 0 0], []⟩ 8 (by kernel_rfl) (by kernel_rfl) (by kernel_rfl) (by kernel_rfl)) ?_
  intro W base args ds gs before hval hW _ _ _
  refine law_post (tb := 4) layOut laidOut (by kernel_rfl) (by rfl) Tryz.underlying4 rfl (fun ds hd => ?_) (fun l h _ => ?_) hval hW
  · match ds, hd with
    | [d1], _ => rfl
  · exact Bm.levels_all l h
theorem over : Rows.beamLevelsRow.holds Tryz.pinned (OpenSpec.ofChange Rows.beamLevelsSpec) :=
  OpenClaim.holds_of_wide 4 Tryz.f4 rfl rfl rfl rfl rfl rfl rfl ⟨rfl, rfl, rfl, rfl, rfl⟩ rfl rfl rfl rfl rfl (by kernel_rfl) Tryz.func4 (by kernel_rfl)
    (of_decide_eq_true (by kernel_rfl)) (by unfold Func.isWrapper; first | (rw [if_pos (by decide +kernel)]; kernel_rfl) | (rw [if_neg (by decide +kernel)]; exact ⟨rfl, rfl⟩))
    (fun os started H enc _ => lifted os started H enc)
end Go.Proofs.YtjmcolfdpbohpaaGreat.beamLevels
namespace Go.Proofs.YtjmcolfdpbohpaaGreat
/-- The row, under a short name, for the claim. -/
theorem beamLevels_holds : Rows.BeamLevelsSaid := beamLevels.over
end Go.Proofs.YtjmcolfdpbohpaaGreat
