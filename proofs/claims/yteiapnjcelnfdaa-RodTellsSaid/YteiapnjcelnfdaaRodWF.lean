/- A part of a proof about the given program: what its name says. No premise beyond the statements'. -/
import Derived.Test.YteiapnjcelnfdaaRodX
import Derived.Test.YteiapnjcelnfdaaRodWE
set_option linter.unusedSimpArgs false
set_option linter.unusedVariables false
namespace Go.AM.Rod
open Go.AM
open Go.Proofs.Try
theorem rodTells_all (l : List AV) (h : wtAll prog [25, 35, 3] l) : ACalls prog 4 l [] 0 (fun r _ _ => r = .bool true) := by
  match l, h with
  | [a, b, c], ⟨⟨n, ha⟩, ⟨m, hb⟩, ⟨k, hc⟩, _⟩ =>
    obtain ⟨rs, rfl, _⟩ := rd_rods ha
    obtain ⟨xs, rfl, _⟩ := rd_ints hb
    obtain ⟨k, rfl, _⟩ := wtA_int underlying3 hc
    exact rodTells_ok rs xs k
end Go.AM.Rod
