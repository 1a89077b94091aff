/- A part of a proof about the given program: what its name says. No premise beyond the statements'. -/
import Derived.Test.YtejmalikojmmgaaGreatClTy
set_option linter.unusedSimpArgs false
set_option linter.unusedVariables false
/- The law on columns: its arguments by their types. -/
namespace Go.AM.Cl
open Go.AM
open Go.AM.LineP
open Go.Proofs.Tryz
set_option maxRecDepth 100000 in
theorem tells_all (l : List AV) (h : wtAll prog [22, 23, 25, 3, 3] l) : ACalls prog 3 l [] 0 (fun r _ _ => r = .bool true) := by
  match l, h with
  | [a, b, c, d, e], ⟨⟨_, ha⟩, ⟨_, hb⟩, ⟨_, hc⟩, ⟨_, hd⟩, ⟨_, he⟩, _⟩ =>
    obtain ⟨cs, e1, _⟩ := rd22 (wtA_slice underlying22 ha)
    obtain ⟨ls, e2, _⟩ := rd23 (wtA_slice underlying23 hb)
    obtain ⟨xs, rfl, hx⟩ := wtA_struct underlying25 hc
    obtain ⟨n, d, rfl, _⟩ := rd25 hx
    obtain ⟨i, rfl, _⟩ := wtA_int underlying3 hd
    obtain ⟨st, rfl, _⟩ := wtA_int underlying3 he
    cases e1
    cases e2
    exact tells_ok cs ls n d i st
end Go.AM.Cl
