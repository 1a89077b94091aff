/- A part of a proof about the given program: what its name says. No premise beyond the statements'. -/
import Derived.Test.YtkhioehebaghjaaTkHs
set_option linter.unusedSimpArgs false
set_option linter.unusedVariables false
/- The skyline of no steps: a closed run. -/
namespace Go.AM.Sk
open Go.AM
noncomputable section
def lnX : XP:=⟨hsZ,hsT0,hsG,kp.find⟩
theorem ln0 : runOKX tr.find lnX 2000 28 [.nils] (.tsl 3 []) = true:=by kernel_rfl
theorem line_nil : ACalls Go.Proofs.Try.prog 28 [.nils] [] 0 (fun r _ _ => r = .tsl 3 []):=(runOKX_sound (fun _ _ h => Tr.find_ok tr_ok h) hsT0_ok ln0).2
end
end Go.AM.Sk
