/- A part of a proof about the given program: what its name says. No premise beyond the statements'. -/
import Derived.Test.YtejmalikojmmgaaGreatClR
import Derived.Test.YtejmalikojmmgaaGreatRows
import Derived.WalkKit
import Derived.ProofKit
import Derived.OpenShut
import Derived.ShutString
import Derived.ChangeOld
import Derived.Below
import Derived.SizedLaws
set_option linter.unusedSimpArgs false
set_option linter.unusedVariables false
namespace Go.Proofs.YtejmalikojmmgaaGreat.columnsTell
open Go.ChangeShapes Go.WideShapes Go.ChangeAt Go.RowKit Go.AM
theorem own : ownKnob Tryz.prog.godebug = none := by kernel_rfl
theorem laidOut : laidOutB Tryz.prog = true := by kernel_rfl
theorem layOut : layB Tryz.prog = true := by kernel_rfl
set_option maxRecDepth 100000 in
theorem lifted (os : Os) (started : os.Started) (H : Type) (enc : TypeId × Value → H) :
    ReturnsInHanded {} Tryz.checked os 3 .any (Rows.columnsTellSpec.pre6 enc Tryz.prog Tryz.f3 Rows.columnsTellRow.domain false) (Rows.columnsTellSpec.post enc Tryz.prog Tryz.f3 false true false false) := by
  refine returnsInHanded_of_change_sized (C := Tryz.checked) own started (by kernel_rfl) Tryz.func3
    (ChangeSpec.witness6 (enc := enc) (C := Tryz.checked) false ⟨#[], #[.slice none 0 0, .slice none 0 0, .agg #[.int .i64 0, .int .i64 0], .int .i64 0, .int .i64 0], []⟩ 8 (by kernel_rfl) (by kernel_rfl) (by kernel_rfl) (by kernel_rfl)) ?_
  intro W base args ds gs before hval hW _ _ _
  refine law_post (tb := 4) layOut laidOut (by kernel_rfl) (by rfl) Tryz.underlying4 rfl (fun ds hd => ?_) (fun l h _ => ?_) hval hW
  · match ds, hd with
    | [d1, d2, d3, d4, d5], _ => rfl
  · exact Cl.tells_all l h
theorem over : Rows.columnsTellRow.holds Tryz.pinned (OpenSpec.ofChange Rows.columnsTellSpec) :=
  OpenClaim.holds_of_wide 3 Tryz.f3 rfl rfl rfl rfl rfl rfl rfl ⟨rfl, rfl, rfl, rfl, rfl⟩ rfl rfl rfl rfl rfl (by kernel_rfl) Tryz.func3 (by kernel_rfl)
    (of_decide_eq_true (by kernel_rfl)) (by unfold Func.isWrapper; first | (rw [if_pos (by decide +kernel)]; kernel_rfl) | (rw [if_neg (by decide +kernel)]; exact ⟨rfl, rfl⟩))
    (fun os started H enc _ => lifted os started H enc)
end Go.Proofs.YtejmalikojmmgaaGreat.columnsTell
namespace Go.Proofs.YtejmalikojmmgaaGreat
/-- The row, under a short name, for the claim. -/
theorem columnsTell_holds : Rows.ColumnsTellSaid := columnsTell.over
end Go.Proofs.YtejmalikojmmgaaGreat
