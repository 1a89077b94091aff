/- A part of a proof about the given program: what its name says. No premise beyond the statements'. -/
import Derived.Test.YtjfmkhihhdhnnaaGreatDoorRows
import Derived.KernelRfl
set_option linter.unusedSimpArgs false
set_option linter.unusedVariables false
/- A closed fact of the row of the law on keys' signs. -/
namespace Go.Proofs.YtjfmkhihhdhnnaaGreatDoor.prefixKeys
theorem huf : (Rows.prefixKeysRow.unfollowed == Tryz.prog.unfollowed 4) = true := by kernel_rfl
end Go.Proofs.YtjfmkhihhdhnnaaGreatDoor.prefixKeys
