/- A part of a proof about the given program: what its name says. No premise beyond the statements'. -/
import Derived.Test.YtjfmkhihhdhnnaaGreatDoorDzPfxF1
import Derived.Test.YtjfmkhihhdhnnaaGreatDoorDzPfxF2
import Derived.Test.YtjfmkhihhdhnnaaGreatDoorDzPfxF3
import Derived.Test.YtjfmkhihhdhnnaaGreatDoorDzPfxF4
import Derived.JoinedOf
import Derived.KernelRfl
set_option linter.unusedSimpArgs false
set_option linter.unusedVariables false
/- The closed facts of the row of the law on keys' signs. -/
namespace Go.Proofs.YtjfmkhihhdhnnaaGreatDoor.prefixKeys
theorem closed : joinedFacts Tryz.prog 4 Tryz.f4 Rows.prefixKeysSpec Rows.prefixKeysRow = true := by
  unfold joinedFacts
  rw [hip, huf, hre, hna]
  kernel_rfl
end Go.Proofs.YtjfmkhihhdhnnaaGreatDoor.prefixKeys
