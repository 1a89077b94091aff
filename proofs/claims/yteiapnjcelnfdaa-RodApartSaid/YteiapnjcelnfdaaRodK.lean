/- A part of a proof about the given program: what its name says. No premise beyond the statements'. -/
import Derived.Test.YteiapnjcelnfdaaRodX
import Derived.Test.YteiapnjcelnfdaaRodJ
set_option linter.unusedSimpArgs false
set_option linter.unusedVariables false
namespace Go.AM.Rod
open Go.AM
open Go.Proofs.Try
theorem rodApart_all (l : List AV) (h : wtAll prog [22, 3, 35] l) : ACalls prog 7 l [] 0 (fun r _ _ => r = .bool true) := by
  match l, h with
  | [a, b, c], ⟨⟨n, ha⟩, ⟨m, hb⟩, ⟨k, hc⟩, _⟩ =>
    obtain ⟨rs, rfl, hl⟩ := rd_rows ha
    obtain ⟨k, rfl, _⟩ := wtA_int underlying3 hb
    obtain ⟨xs, rfl, _⟩ := rd_ints hc
    exact rodApart_ok rs k xs
end Go.AM.Rod
