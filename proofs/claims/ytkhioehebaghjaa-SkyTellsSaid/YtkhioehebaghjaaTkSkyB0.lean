/- A part of a proof about the given program: what its name says. No premise beyond the statements'. -/
import Derived.Test.YtkhioehebaghjaaTkSkyA
set_option linter.unusedSimpArgs false
set_option linter.unusedVariables false
/- Skylines: what a check says of each step. -/
namespace Go.AM.Sk
open Go.AM
open Go.AM.SkyP
open Classical in
theorem chk_okAt {l : List St} (h : chkB l = true) : ∀ (i : Nat) (h : i < l.length),okAt l i h:=(of_decide_eq_true h).2
theorem snd_h {s : St} (h : sndB s = true) : (-1099511627776 ≤ s.h ∧ s.h ≤ 1099511627776) ∧ s.x0 < s.x1:=by
  simp only [sndB,okF,Bool.and_eq_true,decide_eq_true_eq] at h
  exact ⟨h.1.2,h.2⟩
theorem chk_h {l : List St} (h : chkB l = true) {i : Nat} (hi : i < l.length) : -1099511627776 ≤ l[i].h ∧ l[i].h ≤ 1099511627776:=(snd_h (chk_okAt h i hi).1).1
end Go.AM.Sk
