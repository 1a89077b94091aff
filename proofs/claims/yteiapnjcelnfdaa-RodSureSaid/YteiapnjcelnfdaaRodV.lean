/- A part of a proof about the given program: what its name says. No premise beyond the statements'. -/
import Derived.Test.YteiapnjcelnfdaaRodX
import Derived.Test.YteiapnjcelnfdaaRodU
set_option linter.unusedSimpArgs false
set_option linter.unusedVariables false
namespace Go.AM.Rod
open Go.AM
open Go.Proofs.Try
theorem rodSure_all (l : List AV) (h : wtAll prog [25, 35] l) : ACalls prog 6 l [] 0 (fun r _ _ => r = .bool true) := by
  match l, h with
  | [a, b], ⟨⟨n, ha⟩, ⟨m, hb⟩, _⟩ =>
    obtain ⟨rs, rfl, _⟩ := rd_rods ha
    obtain ⟨xs, rfl, _⟩ := rd_ints hb
    exact rodSure_ok rs xs
end Go.AM.Rod
