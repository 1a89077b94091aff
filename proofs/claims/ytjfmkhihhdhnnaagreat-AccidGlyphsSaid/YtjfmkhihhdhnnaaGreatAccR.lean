/- A part of a proof about the given program: what its name says. No premise beyond the statements'. -/
import Derived.Test.YtjfmkhihhdhnnaaGreatFC
import Derived.Test.YtjfmkhihhdhnnaaGreatAccL
set_option linter.unusedSimpArgs false
set_option linter.unusedVariables false
/- The arguments of the law on accidentals, read by their types. -/
namespace Go.AM.Ez
open Go.AM
open Go.Proofs.Tryz
set_option maxRecDepth 100000 in
theorem accidGlyphs_all (l : List AV) (h : wtAll prog [3, 43] l) : ACalls prog 5 l [] 0 (fun r _ _ => r = .bool true) := by
  match l, h with
  | [a, b], ⟨⟨n, ha⟩, ⟨m, hb⟩, _⟩ =>
    obtain ⟨x, rfl, _⟩ := wtA_int underlying3 ha
    obtain ⟨y, rfl, _⟩ := wtA_int underlying43 hb
    exact accidGlyphs_ok x y
end Go.AM.Ez
