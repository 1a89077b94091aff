/- A part of a proof about the given program: what its name says. No premise beyond the statements'. -/
import Derived.Test.YtjfmkhihhdhnnaaGreatDoorDzPfxA
set_option linter.unusedSimpArgs false
set_option linter.unusedVariables false
/- Which clefs there are. -/
namespace Go.AM.Dz
open Go.AM
def clefH : Heap := [(0, .mp [(.int .i64 26, .int .i64 (-1024)), (.int .i64 27, .int .i64 1024), (.int .i64 28, .int .i64 0), (.int .i64 29, .int .i64 1024)])]
theorem heights_run : callG tr.find hdX0 (execX tr.find hdX0 60) 20 [] ⟨[], [], 0⟩ = some (.map 0, ⟨[], clefH, 1⟩) := by kernel_rfl
theorem heights_ok : ACalls Go.Proofs.Tryz.prog 20 [] [] 0 (postO 0 (.map 0) clefH) :=
  (ACalls.of_call (callG_ok (X := hdX0) (fun _ _ h => Tr.find_ok tr_ok h) (execX_sound hdT0_ok (fun _ _ h => Tr.find_ok tr_ok h) 60)) heights_run).mono fun _ _ _ h => ⟨h.1, h.2, Nat.zero_le _⟩

section
attribute [local simp ↓] List.map_nil List.map_cons
attribute [local simp] m_ o_ g_ stepsS stepS gd opEff appEff LArg.ev app_val app_new app_upd app_kill putV ins_e0 ins_e1 get_e0 get_e1 binV binI grd bnd ldCells AV.cells AV.scalar AV.known setAt fillL chunks elems mxI mnI del Nat.add_assoc nlt_self nne_self nne_self' List.take_of_length_le decT decF wrap_i64 stepsD stepD ST.as dEffF LOp.cls softOK LOp.args LOp.rds AV.ids appD_val appD_new appD_upd appD_kill AS.flush delAll
set_option maxHeartbeats 2000000 in
theorem clef_out (c : Int) (e1 : (c == 26) = false) (e2 : (c == 27) = false) (e3 : (c == 28) = false) (e4 : (c == 29) = false) : ACalls Go.Proofs.Tryz.prog 10 [.int .i64 c] [] 0 (fun r _ _ => r = .tup [.int .i64 0, .bool false]) := by
  refine pure_body ok10 rfl ?_
  simp only [parV]
  refine LWP_seq ?_
  apply LWP_run
  · repeat (simp -implicitDefEqProofs (maxSteps := 1000000) (disch := first | assumption | omega) [clefH, findKV, keyOK, lkV, eqV, eqS, e1, e2, e3, e4]; try simp only [List.getElem?_cons_zero, Option.getD_some, app_val])
    rfl
  refine LWP_seq ?_
  refine LWP_reg fun K hK => ?_
  refine rgnS_callO (heights_ok) rfl rfl (by simp [gd, get_e0, get_e1, LArg.ev]) fun n' hn' => ?_
  apply rgnS_pre 7
  · repeat (simp -implicitDefEqProofs (maxSteps := 1000000) (disch := first | assumption | omega) [clefH, findKV, keyOK, lkV, eqV, eqS, e1, e2, e3, e4]; try simp only [List.getElem?_cons_zero, Option.getD_some, app_val])
    rfl
  refine hK _ ?_; clear hK
  refine LWP_seq ?_
  apply LWP_run
  · repeat (simp -implicitDefEqProofs (maxSteps := 1000000) (disch := first | assumption | omega) [clefH, findKV, keyOK, lkV, eqV, eqS, e1, e2, e3, e4]; try simp only [List.getElem?_cons_zero, Option.getD_some, app_val])
    rfl
  -- leaf 0
  refine LWP_ret ⟨_, rfl, ?_⟩
  refine wkV_of_eq ?_
  simp only [retV]
  all_goals
    simp
end

end Go.AM.Dz
