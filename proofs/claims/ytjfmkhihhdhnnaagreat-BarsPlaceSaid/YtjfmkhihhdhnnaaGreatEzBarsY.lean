/- A part of a proof about the given program: what its name says. No premise beyond the statements'. -/
import Derived.Test.YtjfmkhihhdhnnaaGreatEzBarsX
set_option linter.unusedSimpArgs false
set_option linter.unusedVariables false
/- Where a bar ends. -/
namespace Go.AM.Ez
open Go.AM
/-- The fraction of a sum, or nothing. -/
def fR (r : Rat) : AV := .agg [.int .i64 (sN r.num r.den), .int .i64 (sD r.num r.den)]
theorem fR_ok {x : Rat} (h : okR x) : fR x = .agg (qR x).e := by
  obtain ⟨h1, h2⟩ := h
  have : sOK x.num x.den = true := by simp only [sOK, Bool.and_eq_true, decide_eq_true_eq]; omega
  simp [fR, sN, sD, this, Q.e, qR]
def barE (x : Rat) (n d : Int) : List AV := [.int .i64 x.num, .int .i64 (x.den : Nat), .int .i64 n, .int .i64 d]

section
attribute [local simp ↓] List.map_nil List.map_cons
attribute [local simp] m_ o_ g_ stepsS stepS gd opEff appEff LArg.ev app_val app_new app_upd app_kill putV ins_e0 ins_e1 get_e0 get_e1 binV binI grd bnd ldCells AV.cells AV.scalar AV.known setAt fillL chunks elems mxI mnI del Nat.add_assoc nlt_self nne_self nne_self' List.take_of_length_le decT decF wrap_i64 stepsD stepD ST.as dEffF LOp.cls softOK LOp.args LOp.rds AV.ids appD_val appD_new appD_upd appD_kill AS.flush delAll
set_option maxHeartbeats 2000000 in
theorem end_R (x : Rat) (n : Int) (d : Nat) (hx : okR x) (hm : mOk n d = true) : ACalls Go.Proofs.Tryz.prog 62 [.agg (barE x n (d : Nat))] [] 0 (fun r _ _ => r = fR (x + mkRat n d)) := by
  refine pure_body ok62 rfl ?_
  simp only [parV]
  have C0 := bar_R n d hm
  have hk : okR (mkRat n d) := by
    simp only [mOk, decide_eq_true_eq] at hm
    exact okR_mk (by omega) (by omega) (by omega) (by omega)
  have C2 := add_R x (mkRat n d) hx hk
  simp only [Q.e, qR, tR, sT] at C0 C2
  refine LWP_seq ?_
  apply LWP_run
  · repeat (simp -implicitDefEqProofs (maxSteps := 1000000) (disch := first | assumption | omega) [Q.e, qR, barE]; try simp only [List.getElem?_cons_zero, Option.getD_some, app_val])
    rfl
  refine LWP_seq ?_
  refine LWP_reg fun K hK => ?_
  apply rgnS_pre 2
  · repeat (simp -implicitDefEqProofs (maxSteps := 1000000) (disch := first | assumption | omega) [Q.e, qR, barE]; try simp only [List.getElem?_cons_zero, Option.getD_some, app_val])
    rfl
  refine rgnS_call (C0) rfl rfl (by simp [pureL, pureR, AV.pure, Q.e, qR, barE]) (by simp [pureL, pureR, AV.pure, Q.e, qR, barE]) (by simp [gd, get_e0, get_e1, LArg.ev]) ?_
  apply rgnS_pre 6
  · repeat (simp -implicitDefEqProofs (maxSteps := 1000000) (disch := first | assumption | omega) [Q.e, qR, barE]; try simp only [List.getElem?_cons_zero, Option.getD_some, app_val])
    rfl
  refine hK _ ?_; clear hK
  refine LWP_seq ?_
  refine LWP_reg fun K hK => ?_
  apply rgnS_pre 3
  · repeat (simp -implicitDefEqProofs (maxSteps := 1000000) (disch := first | assumption | omega) [Q.e, qR, barE]; try simp only [List.getElem?_cons_zero, Option.getD_some, app_val])
    rfl
  refine rgnS_call (C2) rfl rfl (by simp [pureL, pureR, AV.pure, Q.e, qR, barE]) (by simp [pureL, pureR, AV.pure, Q.e, qR, barE]) (by simp [gd, get_e0, get_e1, LArg.ev]) ?_
  apply rgnS_pre 6
  · repeat (simp -implicitDefEqProofs (maxSteps := 1000000) (disch := first | assumption | omega) [Q.e, qR, barE]; try simp only [List.getElem?_cons_zero, Option.getD_some, app_val])
    rfl
  refine hK _ ?_; clear hK
  refine LWP_seq ?_
  apply LWP_run
  · repeat (simp -implicitDefEqProofs (maxSteps := 1000000) (disch := first | assumption | omega) [Q.e, qR, barE]; try simp only [List.getElem?_cons_zero, Option.getD_some, app_val])
    rfl
  -- leaf 0
  refine LWP_ret ⟨_, rfl, ?_⟩
  refine wkV_of_eq ?_
  simp only [retV]
  all_goals
    simp [Nat.add_zero, fR]
end

end Go.AM.Ez
