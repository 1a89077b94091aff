/- A part of a proof about the given program: what its name says. No premise beyond the statements'. -/
import Derived.Test.YtjfmkhihhdhnnaaGreatDoorCards
import Derived.KernelRfl
import Derived.SevenTiedAt
set_option linter.unusedSimpArgs false
set_option linter.unusedVariables false
/- A closed fact of the card of the law on keys' signs. -/
namespace Go.Proofs.YtjfmkhihhdhnnaaGreatDoor.prefixKeys
theorem cw : Rows.prefixKeysRow.wfByText (OpenSpec.ofChange Rows.prefixKeysSpec) = true := by kernel_rfl
end Go.Proofs.YtjfmkhihhdhnnaaGreatDoor.prefixKeys
