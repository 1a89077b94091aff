/- A part of a proof about the given program: what its name says. No premise beyond the statements'. -/
import Derived.Test.YtjfmkhihhdhnnaaGreatDoorDzPfxRa
import Derived.Test.YtjfmkhihhdhnnaaGreatDoorDzPfxRb
set_option linter.unusedSimpArgs false
set_option linter.unusedVariables false
/- The row of the law on keys' signs. -/
namespace Go.Proofs.YtjfmkhihhdhnnaaGreatDoor.prefixKeys
open Go.ChangeShapes Go.WideShapes Go.ChangeAt Go.RowKit Go.AM
theorem named4 : Tryz.prog.funcNamed "neume/neumelaw26.PrefixKeys" = some 4 := by kernel_rfl
theorem over : Rows.prefixKeysRow.holds Tryz.pinned (OpenSpec.ofChange Rows.prefixKeysSpec) :=
  OpenClaim.holds_of_wide 4 Tryz.f4 rfl rfl rfl rfl rfl rfl rfl ⟨rfl, rfl, rfl, rfl, rfl⟩ rfl rfl rfl rfl rfl named4 Tryz.func4 closed
    (of_decide_eq_true (by kernel_rfl)) (by unfold Func.isWrapper; first | (rw [if_pos (by decide +kernel)]; kernel_rfl) | (rw [if_neg (by decide +kernel)]; exact ⟨rfl, rfl⟩))
    (fun os started H enc _ => lifted os started H enc)
end Go.Proofs.YtjfmkhihhdhnnaaGreatDoor.prefixKeys
