/- A part of a proof about the given program: what its name says. No premise beyond the statements'. -/
import Derived.Test.YtjfmkhihhdhnnaaGreatEzRefM
set_option linter.unusedSimpArgs false
set_option linter.unusedVariables false
/- Which bar a time is in: the comparison that the search asks. -/
namespace Go.AM.Ez
open Go.AM

section
attribute [local simp ↓] List.map_nil List.map_cons
attribute [local simp] m_ o_ g_ stepsS stepS gd opEff appEff LArg.ev app_val app_new app_upd app_kill putV ins_e0 ins_e1 get_e0 get_e1 binV binI grd bnd ldCells AV.cells AV.scalar AV.known setAt fillL chunks elems mxI mnI del Nat.add_assoc nlt_self nne_self nne_self' List.take_of_length_le decT decF wrap_i64 stepsD stepD ST.as dEffF LOp.cls softOK LOp.args LOp.rds AV.ids appD_val appD_new appD_upd appD_kill AS.flush delAll
set_option maxHeartbeats 2000000 in
theorem cmpb_ok (x t : Rat) (n d : Int) (hx : okR x) (ht : okR t) : ACalls Go.Proofs.Tryz.prog 66 [.agg (barE x n d), .agg (qR t).e] [] 0 (fun r _ _ => r = .int .i64 (cmpR x t)) := by
  refine pure_body ok66 rfl ?_
  simp only [parV]
  have C := cmp_R x t hx ht
  simp only [Q.e, qR] at C
  refine LWP_seq ?_
  apply LWP_run
  · repeat (simp -implicitDefEqProofs (maxSteps := 1000000) (disch := first | assumption | omega) [Q.e, qR, barE]; try simp only [List.getElem?_cons_zero, Option.getD_some, app_val])
    rfl
  refine LWP_seq ?_
  refine LWP_reg fun K hK => ?_
  apply rgnS_pre 3
  · repeat (simp -implicitDefEqProofs (maxSteps := 1000000) (disch := first | assumption | omega) [Q.e, qR, barE]; try simp only [List.getElem?_cons_zero, Option.getD_some, app_val])
    rfl
  refine rgnS_call (C) rfl rfl (by simp [pureL, pureR, AV.pure, Q.e, qR, barE]) (by simp [pureL, pureR, AV.pure, Q.e, qR, barE]) (by simp [gd, get_e0, get_e1, LArg.ev]) ?_
  apply rgnS_pre 1
  · repeat (simp -implicitDefEqProofs (maxSteps := 1000000) (disch := first | assumption | omega) [Q.e, qR, barE]; try simp only [List.getElem?_cons_zero, Option.getD_some, app_val])
    rfl
  refine hK _ ?_; clear hK
  -- leaf 0
  refine LWP_ret ⟨_, rfl, ?_⟩
  refine wkV_of_eq ?_
  simp only [retV]
  all_goals
    simp [Nat.add_zero]
end

/-- A bar, as the model knows it: its onset and its meter. -/
structure Br where
  x : Rat
  n : Int
  d : Nat
def Br.e (b : Br) : List AV := barE b.x b.n (b.d : Nat)
def Br.ok (b : Br) : Prop := okR b.x ∧ mOk b.n b.d = true
/-- Each bar begins where the last one ended. -/
def chain : Rat → List Br → Prop
  | _, [] => True
  | t, b :: r => b.x = t ∧ mOk b.n b.d = true ∧ chain (t + mkRat b.n b.d) r

end Go.AM.Ez
