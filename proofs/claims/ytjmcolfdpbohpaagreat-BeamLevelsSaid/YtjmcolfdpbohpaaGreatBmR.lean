/- A part of a proof about the given program: what its name says. No premise beyond the statements'. -/
import Derived.Test.YtjmcolfdpbohpaaGreatBmTy
set_option linter.unusedSimpArgs false
set_option linter.unusedVariables false
/- The law on the beams of levels: its argument by its type. -/
namespace Go.AM.Bm
open Go.AM
open Go.AM.LineP
open Go.Proofs.Tryz
set_option maxRecDepth 100000 in
theorem levels_all (l : List AV) (h : wtAll prog [26] l) : ACalls prog 4 l [] 0 (fun r _ _ => r = .bool true) := by
  match l, h with
  | [a], ⟨⟨_, ha⟩, _⟩ =>
    obtain ⟨cs, e1, _⟩ := rd26 (wtA_slice underlying26 ha)
    cases e1
    exact levels_ok cs
end Go.AM.Bm
