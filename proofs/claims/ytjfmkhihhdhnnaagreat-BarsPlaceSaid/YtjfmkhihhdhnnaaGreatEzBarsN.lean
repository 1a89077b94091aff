/- A part of a proof about the given program: what its name says. No premise beyond the statements'. -/
import Derived.Test.YtjfmkhihhdhnnaaGreatEzBarsM
import Derived.Test.YtjfmkhihhdhnnaaGreatEzHa
set_option linter.unusedSimpArgs false
set_option linter.unusedVariables false
/- The law on places in bars: the walk. -/
namespace Go.AM.Ez
open Go.AM
open Go.AM.BarsP
def same2 (a b a' b' : Int) : Bool := decide (a = a' ∧ b = b')
theorem eq2 (a b a' b' : Int) : eqV (.ag [.i, .i]) (.agg [.int .i64 a, .int .i64 b]) (.agg [.int .i64 a', .int .i64 b']) = some (same2 a b a' b') := by
  simp only [eqV, eqL, eqS, grd, same2, decide_true]
  by_cases h1 : a = a' <;> by_cases h2 : b = b' <;> simp [h1, h2, beqF]
theorem same2_refl (a b : Int) : same2 a b a b = true := by simp [same2]

section
attribute [local simp ↓] List.map_nil List.map_cons
attribute [local simp] m_ o_ g_ stepsS stepS gd opEff appEff LArg.ev app_val app_new app_upd app_kill putV ins_e0 ins_e1 get_e0 get_e1 binV binI grd bnd ldCells AV.cells AV.scalar AV.known setAt fillL chunks elems mxI mnI del Nat.add_assoc nlt_self nne_self nne_self' List.take_of_length_le decT decF wrap_i64 stepsD stepD ST.as dEffF LOp.cls softOK LOp.args LOp.rds AV.ids appD_val appD_new appD_upd appD_kill AS.flush delAll
set_option maxHeartbeats 2000000 in
theorem law_big (ws : List Rb) (q : Q) (hl : 200 < ws.length) : ACalls Go.Proofs.Tryz.prog 3 [.tsl 4 (ws.map Rb.e), .agg q.e] [] 0 (fun r _ _ => r = .bool true) := by
  refine pure_body ok3 rfl ?_
  simp only [parV]
  refine LWP_seq ?_
  apply LWP_run
  · repeat (simp -implicitDefEqProofs (maxSteps := 1000000) (disch := first | assumption | omega) [Q.e, Rb.e, eq2, same2_refl]; try simp only [List.getElem?_cons_zero, Option.getD_some, app_val])
    rfl
  refine LWP_seq ?_
  refine LWP_seq ?_
  apply LWP_run
  · repeat (simp -implicitDefEqProofs (maxSteps := 1000000) (disch := first | assumption | omega) [Q.e, Rb.e, eq2, same2_refl]; try simp only [List.getElem?_cons_zero, Option.getD_some, app_val])
    rfl
  refine LWP_cond rfl (fun h1 => ?_) (fun h1 => ?_)
  · try simp only [decide_eq_true_eq, decide_eq_false_iff_not, Bool.not_eq_true', Bool.not_eq_false', Bool.not_true, Bool.not_false, beq_iff_eq, bne_iff_ne, beq_eq_false_iff_ne, bne_eq_false_iff_eq, Bool.and_eq_true, Bool.or_eq_false_iff, Int.not_lt, Int.not_le, Nat.not_lt, Nat.not_le, ne_eq, Bool.true_eq_false, Bool.false_eq_true, reduceCtorEq] at h1
    all_goals try (exfalso; omega)
    all_goals
      refine LWP_seq ?_
      refine LWP_reg fun K hK => ?_
      refine rgnS_call (haheads) rfl rfl (by simp [pureL, pureR, AV.pure, Q.e, Rb.e, eq2, same2_refl]) (by simp [pureL, pureR, AV.pure, Q.e, Rb.e, eq2, same2_refl]) (by simp [gd, get_e0, get_e1, LArg.ev, h1]) ?_
      apply rgnS_pre 1
      · repeat (simp -implicitDefEqProofs (maxSteps := 1000000) (disch := first | assumption | omega) [Q.e, Rb.e, eq2, same2_refl, h1]; try simp only [List.getElem?_cons_zero, Option.getD_some, app_val])
        rfl
      refine hK _ ?_; clear hK
      -- leaf 0
      refine LWP_ret ⟨_, rfl, ?_⟩
      refine wkV_of_eq ?_
      simp only [retV]
      all_goals
        simp [Nat.add_zero]
  · try simp only [decide_eq_true_eq, decide_eq_false_iff_not, Bool.not_eq_true', Bool.not_eq_false', Bool.not_true, Bool.not_false, beq_iff_eq, bne_iff_ne, beq_eq_false_iff_ne, bne_eq_false_iff_eq, Bool.and_eq_true, Bool.or_eq_false_iff, Int.not_lt, Int.not_le, Nat.not_lt, Nat.not_le, ne_eq, Bool.true_eq_false, Bool.false_eq_true, reduceCtorEq] at h1
    all_goals try (exfalso; omega)
    all_goals
      refine LWP_skip ?_
      refine LWP_seq ?_
      refine LWP_reg fun K hK => ?_
      apply rgnS_pre 2
      · repeat (simp -implicitDefEqProofs (maxSteps := 1000000) (disch := first | assumption | omega) [Q.e, Rb.e, eq2, same2_refl, h1]; try simp only [List.getElem?_cons_zero, Option.getD_some, app_val])
        rfl
      refine rgnS_call (hA) rfl rfl (by simp [pureL, pureR, AV.pure, Q.e, Rb.e, eq2, same2_refl, pureR_rb]) (by simp [pureL, pureR, AV.pure, Q.e, Rb.e, eq2, same2_refl, pureR_rb]) (by simp [gd, get_e0, get_e1, LArg.ev, h1]) ?_
      apply rgnS_pre 5
      · repeat (simp -implicitDefEqProofs (maxSteps := 1000000) (disch := first | assumption | omega) [Q.e, Rb.e, eq2, same2_refl, h1]; try simp only [List.getElem?_cons_zero, Option.getD_some, app_val])
        rfl
      refine hK _ ?_; clear hK
      refine LWP_seq ?_
      refine LWP_reg fun K hK => ?_
      apply rgnS_pre 2
      · repeat (simp -implicitDefEqProofs (maxSteps := 1000000) (disch := first | assumption | omega) [Q.e, Rb.e, eq2, same2_refl, h1]; try simp only [List.getElem?_cons_zero, Option.getD_some, app_val])
        rfl
      refine rgnS_call (hP) rfl rfl (by simp [pureL, pureR, AV.pure, Q.e, Rb.e, eq2, same2_refl, pureR_rb]) (by simp [pureL, pureR, AV.pure, Q.e, Rb.e, eq2, same2_refl, pureR_rb]) (by simp [gd, get_e0, get_e1, LArg.ev, h1]) ?_
      apply rgnS_pre 6
      · repeat (simp -implicitDefEqProofs (maxSteps := 1000000) (disch := first | assumption | omega) [Q.e, Rb.e, eq2, same2_refl, h1]; try simp only [List.getElem?_cons_zero, Option.getD_some, app_val])
        rfl
      refine hK _ ?_; clear hK
      refine LWP_seq ?_
      refine LWP_seq ?_
      apply LWP_run
      · repeat (simp -implicitDefEqProofs (maxSteps := 1000000) (disch := first | assumption | omega) [Q.e, Rb.e, eq2, same2_refl, h1]; try simp only [List.getElem?_cons_zero, Option.getD_some, app_val])
        rfl
      refine LWP_cond rfl (fun h2 => ?_) (fun h2 => ?_)
      · try simp only [decide_eq_true_eq, decide_eq_false_iff_not, Bool.not_eq_true', Bool.not_eq_false', Bool.not_true, Bool.not_false, beq_iff_eq, bne_iff_ne, beq_eq_false_iff_ne, bne_eq_false_iff_eq, Bool.and_eq_true, Bool.or_eq_false_iff, Int.not_lt, Int.not_le, Nat.not_lt, Nat.not_le, ne_eq, Bool.true_eq_false, Bool.false_eq_true, reduceCtorEq] at h2
        all_goals try (exfalso; omega)
        all_goals
          refine LWP_seq ?_
          refine LWP_reg fun K hK => ?_
          apply rgnS_pre 4
          · repeat (simp -implicitDefEqProofs (maxSteps := 1000000) (disch := first | assumption | omega) [Q.e, Rb.e, eq2, same2_refl, h1, h2]; try simp only [List.getElem?_cons_zero, Option.getD_some, app_val])
            rfl
          refine rgnS_guard (x := 34) (b := true) rfl (fun h3 => ?_) (fun h3 => ?_)
          · try simp only [decide_eq_true_eq, decide_eq_false_iff_not, Bool.not_eq_true', Bool.not_eq_false', Bool.not_true, Bool.not_false, beq_iff_eq, bne_iff_ne, beq_eq_false_iff_ne, bne_eq_false_iff_eq, Bool.and_eq_true, Bool.or_eq_false_iff, Int.not_lt, Int.not_le, Nat.not_lt, Nat.not_le, ne_eq, Bool.true_eq_false, Bool.false_eq_true, reduceCtorEq] at h3
            all_goals try (exfalso; omega)
            all_goals
              apply rgnS_pre 4
              · repeat (simp -implicitDefEqProofs (maxSteps := 1000000) (disch := first | assumption | omega) [Q.e, Rb.e, eq2, same2_refl, h1, h2, h3]; try simp only [List.getElem?_cons_zero, Option.getD_some, app_val])
                rfl
              refine rgnS_guard (x := 38) (b := true) rfl (fun h4 => ?_) (fun h4 => ?_)
              · try simp only [decide_eq_true_eq, decide_eq_false_iff_not, Bool.not_eq_true', Bool.not_eq_false', Bool.not_true, Bool.not_false, beq_iff_eq, bne_iff_ne, beq_eq_false_iff_ne, bne_eq_false_iff_eq, Bool.and_eq_true, Bool.or_eq_false_iff, Int.not_lt, Int.not_le, Nat.not_lt, Nat.not_le, ne_eq, Bool.true_eq_false, Bool.false_eq_true, reduceCtorEq] at h4
                all_goals try (exfalso; omega)
                all_goals
                  apply rgnS_pre 4
                  · repeat (simp -implicitDefEqProofs (maxSteps := 1000000) (disch := first | assumption | omega) [Q.e, Rb.e, eq2, same2_refl, h1, h2, h3, h4]; try simp only [List.getElem?_cons_zero, Option.getD_some, app_val])
                    rfl
                  refine rgnS_guard (x := 42) (b := true) rfl (fun h5 => ?_) (fun h5 => ?_)
                  · try simp only [decide_eq_true_eq, decide_eq_false_iff_not, Bool.not_eq_true', Bool.not_eq_false', Bool.not_true, Bool.not_false, beq_iff_eq, bne_iff_ne, beq_eq_false_iff_ne, bne_eq_false_iff_eq, Bool.and_eq_true, Bool.or_eq_false_iff, Int.not_lt, Int.not_le, Nat.not_lt, Nat.not_le, ne_eq, Bool.true_eq_false, Bool.false_eq_true, reduceCtorEq] at h5
                    all_goals try (exfalso; omega)
                    all_goals
                      refine rgnS_call (haheads) rfl rfl (by simp [pureL, pureR, AV.pure, Q.e, Rb.e, eq2, same2_refl]) (by simp [pureL, pureR, AV.pure, Q.e, Rb.e, eq2, same2_refl]) (by simp [gd, get_e0, get_e1, LArg.ev, h1, h2, h3, h4, h5]) ?_
                      apply rgnS_pre 2
                      · repeat (simp -implicitDefEqProofs (maxSteps := 1000000) (disch := first | assumption | omega) [Q.e, Rb.e, eq2, same2_refl, h1, h2, h3, h4, h5]; try simp only [List.getElem?_cons_zero, Option.getD_some, app_val])
                        rfl
                      refine hK _ ?_; clear hK
                      -- leaf 1
                      refine LWP_ret ⟨_, rfl, ?_⟩
                      refine wkV_of_eq ?_
                      simp only [retV]
                      all_goals
                        simp [Nat.add_zero]
                  · try simp only [decide_eq_true_eq, decide_eq_false_iff_not, Bool.not_eq_true', Bool.not_eq_false', Bool.not_true, Bool.not_false, beq_iff_eq, bne_iff_ne, beq_eq_false_iff_ne, bne_eq_false_iff_eq, Bool.and_eq_true, Bool.or_eq_false_iff, Int.not_lt, Int.not_le, Nat.not_lt, Nat.not_le, ne_eq, Bool.true_eq_false, Bool.false_eq_true, reduceCtorEq] at h5
                    all_goals try (exfalso; omega)
                    all_goals
                      apply rgnS_pre 2
                      · repeat (simp -implicitDefEqProofs (maxSteps := 1000000) (disch := first | assumption | omega) [Q.e, Rb.e, eq2, same2_refl, h1, h2, h3, h4, h5]; try simp only [List.getElem?_cons_zero, Option.getD_some, app_val])
                        rfl
                      refine hK _ ?_; clear hK
                      -- leaf 2
                      refine LWP_ret ⟨_, rfl, ?_⟩
                      refine wkV_of_eq ?_
                      simp only [retV]
                      all_goals
                        simp [Nat.add_zero]
              · try simp only [decide_eq_true_eq, decide_eq_false_iff_not, Bool.not_eq_true', Bool.not_eq_false', Bool.not_true, Bool.not_false, beq_iff_eq, bne_iff_ne, beq_eq_false_iff_ne, bne_eq_false_iff_eq, Bool.and_eq_true, Bool.or_eq_false_iff, Int.not_lt, Int.not_le, Nat.not_lt, Nat.not_le, ne_eq, Bool.true_eq_false, Bool.false_eq_true, reduceCtorEq] at h4
                all_goals try (exfalso; omega)
                all_goals
                  apply rgnS_pre 6
                  · repeat (simp -implicitDefEqProofs (maxSteps := 1000000) (disch := first | assumption | omega) [Q.e, Rb.e, eq2, same2_refl, h1, h2, h3, h4]; try simp only [List.getElem?_cons_zero, Option.getD_some, app_val])
                    rfl
                  refine hK _ ?_; clear hK
                  -- leaf 3
                  refine LWP_ret ⟨_, rfl, ?_⟩
                  refine wkV_of_eq ?_
                  simp only [retV]
                  all_goals
                    simp [Nat.add_zero]
          · try simp only [decide_eq_true_eq, decide_eq_false_iff_not, Bool.not_eq_true', Bool.not_eq_false', Bool.not_true, Bool.not_false, beq_iff_eq, bne_iff_ne, beq_eq_false_iff_ne, bne_eq_false_iff_eq, Bool.and_eq_true, Bool.or_eq_false_iff, Int.not_lt, Int.not_le, Nat.not_lt, Nat.not_le, ne_eq, Bool.true_eq_false, Bool.false_eq_true, reduceCtorEq] at h3
            all_goals try (exfalso; omega)
            all_goals
              apply rgnS_pre 8
              · repeat (simp -implicitDefEqProofs (maxSteps := 1000000) (disch := first | assumption | omega) [Q.e, Rb.e, eq2, same2_refl, h1, h2, h3]; try simp only [List.getElem?_cons_zero, Option.getD_some, app_val])
                rfl
              apply rgnS_pre 2
              · repeat (simp -implicitDefEqProofs (maxSteps := 1000000) (disch := first | assumption | omega) [Q.e, Rb.e, eq2, same2_refl, h1, h2, h3]; try simp only [List.getElem?_cons_zero, Option.getD_some, app_val])
                rfl
              refine hK _ ?_; clear hK
              -- leaf 4
              refine LWP_ret ⟨_, rfl, ?_⟩
              refine wkV_of_eq ?_
              simp only [retV]
              all_goals
                simp [Nat.add_zero]
      · try simp only [decide_eq_true_eq, decide_eq_false_iff_not, Bool.not_eq_true', Bool.not_eq_false', Bool.not_true, Bool.not_false, beq_iff_eq, bne_iff_ne, beq_eq_false_iff_ne, bne_eq_false_iff_eq, Bool.and_eq_true, Bool.or_eq_false_iff, Int.not_lt, Int.not_le, Nat.not_lt, Nat.not_le, ne_eq, Bool.true_eq_false, Bool.false_eq_true, reduceCtorEq] at h2
        all_goals try (exfalso; omega)
        all_goals
          refine LWP_skip ?_
          refine LWP_seq ?_
          refine LWP_seq ?_
          apply LWP_run
          · repeat (simp -implicitDefEqProofs (maxSteps := 1000000) (disch := first | assumption | omega) [Q.e, Rb.e, eq2, same2_refl, h1, h2]; try simp only [List.getElem?_cons_zero, Option.getD_some, app_val])
            rfl
          refine LWP_cond rfl (fun h6 => ?_) (fun h6 => ?_)
          · try simp only [decide_eq_true_eq, decide_eq_false_iff_not, Bool.not_eq_true', Bool.not_eq_false', Bool.not_true, Bool.not_false, beq_iff_eq, bne_iff_ne, beq_eq_false_iff_ne, bne_eq_false_iff_eq, Bool.and_eq_true, Bool.or_eq_false_iff, Int.not_lt, Int.not_le, Nat.not_lt, Nat.not_le, ne_eq, Bool.true_eq_false, Bool.false_eq_true, reduceCtorEq] at h6
            all_goals try (exfalso; omega)
            all_goals
              refine LWP_seq ?_
              refine LWP_reg fun K hK => ?_
              refine rgnS_call (haheads) rfl rfl (by simp [pureL, pureR, AV.pure, Q.e, Rb.e, eq2, same2_refl]) (by simp [pureL, pureR, AV.pure, Q.e, Rb.e, eq2, same2_refl]) (by simp [gd, get_e0, get_e1, LArg.ev, h1, h2, h6]) ?_
              apply rgnS_pre 1
              · repeat (simp -implicitDefEqProofs (maxSteps := 1000000) (disch := first | assumption | omega) [Q.e, Rb.e, eq2, same2_refl, h1, h2, h6]; try simp only [List.getElem?_cons_zero, Option.getD_some, app_val])
                rfl
              refine hK _ ?_; clear hK
              -- leaf 5
              refine LWP_ret ⟨_, rfl, ?_⟩
              refine wkV_of_eq ?_
              simp only [retV]
              all_goals
                simp [Nat.add_zero]
          · try simp only [decide_eq_true_eq, decide_eq_false_iff_not, Bool.not_eq_true', Bool.not_eq_false', Bool.not_true, Bool.not_false, beq_iff_eq, bne_iff_ne, beq_eq_false_iff_ne, bne_eq_false_iff_eq, Bool.and_eq_true, Bool.or_eq_false_iff, Int.not_lt, Int.not_le, Nat.not_lt, Nat.not_le, ne_eq, Bool.true_eq_false, Bool.false_eq_true, reduceCtorEq] at h6
            all_goals try (exfalso; omega)
            all_goals
              refine LWP_skip ?_
              refine LWP_seq ?_
              refine LWP_reg fun K hK => ?_
              apply rgnS_pre 5
              · repeat (simp -implicitDefEqProofs (maxSteps := 1000000) (disch := first | assumption | omega) [Q.e, Rb.e, eq2, same2_refl, h1, h2, h6]; try simp only [List.getElem?_cons_zero, Option.getD_some, app_val])
                rfl
              refine rgnS_call (hB) rfl rfl (by simp [pureL, pureR, AV.pure, Q.e, Rb.e, eq2, same2_refl]) (by simp [pureL, pureR, AV.pure, Q.e, Rb.e, eq2, same2_refl]) (by simp [gd, get_e0, get_e1, LArg.ev, h1, h2, h6]) ?_
              apply rgnS_pre 6
              · repeat (simp -implicitDefEqProofs (maxSteps := 1000000) (disch := first | assumption | omega) [Q.e, Rb.e, eq2, same2_refl, h1, h2, h6]; try simp only [List.getElem?_cons_zero, Option.getD_some, app_val])
                rfl
              refine hK _ ?_; clear hK
              refine LWP_seq ?_
              refine LWP_regD' fun K hK => ?_
              apply rgnD_pre 6
              · repeat (simp -implicitDefEqProofs (maxSteps := 1000000) (disch := first | assumption | omega) [Q.e, Rb.e, eq2, same2_refl, h1, h2, h6]; try simp only [List.getElem?_cons_zero, Option.getD_some, app_val])
                rfl
              refine rgnD_call (hS) rfl rfl (by simp [pureL, pureR, AV.pure, Q.e, Rb.e, eq2, same2_refl]) (by simp [pureL, pureR, AV.pure, Q.e, Rb.e, eq2, same2_refl]) (by simp [gd, get_e0, get_e1, LArg.ev, h1, h2, h6]) (by simp (maxSteps := 1000000) (disch := first | assumption | omega) [Q.e, Rb.e, eq2, same2_refl]) ?_
              apply rgnD_pre 6
              · repeat (simp -implicitDefEqProofs (maxSteps := 1000000) (disch := first | assumption | omega) [Q.e, Rb.e, eq2, same2_refl, h1, h2, h6]; try simp only [List.getElem?_cons_zero, Option.getD_some, app_val])
                rfl
              refine hK _ _ (by simp [AS.fin, delAll, del, Nat.add_assoc]; rfl) ?_; clear hK
              refine LWP_seq ?_
              refine LWP_reg fun K hK => ?_
              apply rgnS_pre 3
              · repeat (simp -implicitDefEqProofs (maxSteps := 1000000) (disch := first | assumption | omega) [Q.e, Rb.e, eq2, same2_refl, h1, h2, h6]; try simp only [List.getElem?_cons_zero, Option.getD_some, app_val])
                rfl
              refine rgnS_guard (x := 69) (b := true) rfl (fun h7 => ?_) (fun h7 => ?_)
              · try simp only [decide_eq_true_eq, decide_eq_false_iff_not, Bool.not_eq_true', Bool.not_eq_false', Bool.not_true, Bool.not_false, beq_iff_eq, bne_iff_ne, beq_eq_false_iff_ne, bne_eq_false_iff_eq, Bool.and_eq_true, Bool.or_eq_false_iff, Int.not_lt, Int.not_le, Nat.not_lt, Nat.not_le, ne_eq, Bool.true_eq_false, Bool.false_eq_true, reduceCtorEq] at h7
                all_goals try (exfalso; omega)
                all_goals
                  apply rgnS_pre 4
                  · repeat (simp -implicitDefEqProofs (maxSteps := 1000000) (disch := first | assumption | omega) [Q.e, Rb.e, eq2, same2_refl, h1, h2, h6, h7]; try simp only [List.getElem?_cons_zero, Option.getD_some, app_val])
                    rfl
                  refine rgnS_guard (x := 73) (b := true) rfl (fun h8 => ?_) (fun h8 => ?_)
                  · try simp only [decide_eq_true_eq, decide_eq_false_iff_not, Bool.not_eq_true', Bool.not_eq_false', Bool.not_true, Bool.not_false, beq_iff_eq, bne_iff_ne, beq_eq_false_iff_ne, bne_eq_false_iff_eq, Bool.and_eq_true, Bool.or_eq_false_iff, Int.not_lt, Int.not_le, Nat.not_lt, Nat.not_le, ne_eq, Bool.true_eq_false, Bool.false_eq_true, reduceCtorEq] at h8
                    all_goals try (exfalso; omega)
                    all_goals
                      apply rgnS_pre 5
                      · repeat (simp -implicitDefEqProofs (maxSteps := 1000000) (disch := first | assumption | omega) [Q.e, Rb.e, eq2, same2_refl, h1, h2, h6, h7, h8]; try simp only [List.getElem?_cons_zero, Option.getD_some, app_val])
                        rfl
                      refine rgnS_guard (x := 78) (b := true) rfl (fun h9 => ?_) (fun h9 => ?_)
                      · try simp only [decide_eq_true_eq, decide_eq_false_iff_not, Bool.not_eq_true', Bool.not_eq_false', Bool.not_true, Bool.not_false, beq_iff_eq, bne_iff_ne, beq_eq_false_iff_ne, bne_eq_false_iff_eq, Bool.and_eq_true, Bool.or_eq_false_iff, Int.not_lt, Int.not_le, Nat.not_lt, Nat.not_le, ne_eq, Bool.true_eq_false, Bool.false_eq_true, reduceCtorEq] at h9
                        all_goals try (exfalso; omega)
                        all_goals
                          apply rgnS_pre 5
                          · repeat (simp -implicitDefEqProofs (maxSteps := 1000000) (disch := first | assumption | omega) [Q.e, Rb.e, eq2, same2_refl, h1, h2, h6, h7, h8, h9]; try simp only [List.getElem?_cons_zero, Option.getD_some, app_val])
                            rfl
                          refine rgnS_guard (x := 83) (b := true) rfl (fun h10 => ?_) (fun h10 => ?_)
                          · try simp only [decide_eq_true_eq, decide_eq_false_iff_not, Bool.not_eq_true', Bool.not_eq_false', Bool.not_true, Bool.not_false, beq_iff_eq, bne_iff_ne, beq_eq_false_iff_ne, bne_eq_false_iff_eq, Bool.and_eq_true, Bool.or_eq_false_iff, Int.not_lt, Int.not_le, Nat.not_lt, Nat.not_le, ne_eq, Bool.true_eq_false, Bool.false_eq_true, reduceCtorEq] at h10
                            all_goals try (exfalso; omega)
                            all_goals
                              apply rgnS_pre 2
                              · repeat (simp -implicitDefEqProofs (maxSteps := 1000000) (disch := first | assumption | omega) [Q.e, Rb.e, eq2, same2_refl, h1, h2, h6, h7, h8, h9, h10]; try simp only [List.getElem?_cons_zero, Option.getD_some, app_val])
                                rfl
                              refine rgnS_call (hC) rfl rfl (by simp [pureL, pureR, AV.pure, Q.e, Rb.e, eq2, same2_refl]) (by simp [pureL, pureR, AV.pure, Q.e, Rb.e, eq2, same2_refl]) (by simp [gd, get_e0, get_e1, LArg.ev, h1, h2, h6, h7, h8, h9, h10]) ?_
                              apply rgnS_pre 3
                              · repeat (simp -implicitDefEqProofs (maxSteps := 1000000) (disch := first | assumption | omega) [Q.e, Rb.e, eq2, same2_refl, h1, h2, h6, h7, h8, h9, h10]; try simp only [List.getElem?_cons_zero, Option.getD_some, app_val])
                                rfl
                              refine rgnS_guard (x := 89) (b := true) rfl (fun h11 => ?_) (fun h11 => ?_)
                              · try simp only [decide_eq_true_eq, decide_eq_false_iff_not, Bool.not_eq_true', Bool.not_eq_false', Bool.not_true, Bool.not_false, beq_iff_eq, bne_iff_ne, beq_eq_false_iff_ne, bne_eq_false_iff_eq, Bool.and_eq_true, Bool.or_eq_false_iff, Int.not_lt, Int.not_le, Nat.not_lt, Nat.not_le, ne_eq, Bool.true_eq_false, Bool.false_eq_true, reduceCtorEq] at h11
                                all_goals try (exfalso; omega)
                                all_goals
                                  refine rgnS_call (haheads) rfl rfl (by simp [pureL, pureR, AV.pure, Q.e, Rb.e, eq2, same2_refl]) (by simp [pureL, pureR, AV.pure, Q.e, Rb.e, eq2, same2_refl]) (by simp [gd, get_e0, get_e1, LArg.ev, h1, h2, h6, h7, h8, h9, h10, h11]) ?_
                                  apply rgnS_pre 2
                                  · repeat (simp -implicitDefEqProofs (maxSteps := 1000000) (disch := first | assumption | omega) [Q.e, Rb.e, eq2, same2_refl, h1, h2, h6, h7, h8, h9, h10, h11]; try simp only [List.getElem?_cons_zero, Option.getD_some, app_val])
                                    rfl
                                  refine hK _ ?_; clear hK
                                  -- leaf 6
                                  refine LWP_ret ⟨_, rfl, ?_⟩
                                  refine wkV_of_eq ?_
                                  simp only [retV]
                                  all_goals
                                    simp [Nat.add_zero]
                              · try simp only [decide_eq_true_eq, decide_eq_false_iff_not, Bool.not_eq_true', Bool.not_eq_false', Bool.not_true, Bool.not_false, beq_iff_eq, bne_iff_ne, beq_eq_false_iff_ne, bne_eq_false_iff_eq, Bool.and_eq_true, Bool.or_eq_false_iff, Int.not_lt, Int.not_le, Nat.not_lt, Nat.not_le, ne_eq, Bool.true_eq_false, Bool.false_eq_true, reduceCtorEq] at h11
                                all_goals try (exfalso; omega)
                                all_goals
                                  apply rgnS_pre 2
                                  · repeat (simp -implicitDefEqProofs (maxSteps := 1000000) (disch := first | assumption | omega) [Q.e, Rb.e, eq2, same2_refl, h1, h2, h6, h7, h8, h9, h10, h11]; try simp only [List.getElem?_cons_zero, Option.getD_some, app_val])
                                    rfl
                                  refine hK _ ?_; clear hK
                                  -- leaf 7
                                  refine LWP_ret ⟨_, rfl, ?_⟩
                                  refine wkV_of_eq ?_
                                  simp only [retV]
                                  all_goals
                                    simp [Nat.add_zero]
                          · try simp only [decide_eq_true_eq, decide_eq_false_iff_not, Bool.not_eq_true', Bool.not_eq_false', Bool.not_true, Bool.not_false, beq_iff_eq, bne_iff_ne, beq_eq_false_iff_ne, bne_eq_false_iff_eq, Bool.and_eq_true, Bool.or_eq_false_iff, Int.not_lt, Int.not_le, Nat.not_lt, Nat.not_le, ne_eq, Bool.true_eq_false, Bool.false_eq_true, reduceCtorEq] at h10
                            all_goals try (exfalso; omega)
                            all_goals
                              apply rgnS_pre 8
                              · repeat (simp -implicitDefEqProofs (maxSteps := 1000000) (disch := first | assumption | omega) [Q.e, Rb.e, eq2, same2_refl, h1, h2, h6, h7, h8, h9, h10]; try simp only [List.getElem?_cons_zero, Option.getD_some, app_val])
                                rfl
                              refine hK _ ?_; clear hK
                              -- leaf 8
                              refine LWP_ret ⟨_, rfl, ?_⟩
                              refine wkV_of_eq ?_
                              simp only [retV]
                              all_goals
                                simp [Nat.add_zero]
                      · try simp only [decide_eq_true_eq, decide_eq_false_iff_not, Bool.not_eq_true', Bool.not_eq_false', Bool.not_true, Bool.not_false, beq_iff_eq, bne_iff_ne, beq_eq_false_iff_ne, bne_eq_false_iff_eq, Bool.and_eq_true, Bool.or_eq_false_iff, Int.not_lt, Int.not_le, Nat.not_lt, Nat.not_le, ne_eq, Bool.true_eq_false, Bool.false_eq_true, reduceCtorEq] at h9
                        all_goals try (exfalso; omega)
                        all_goals
                          apply rgnS_pre 8
                          · repeat (simp -implicitDefEqProofs (maxSteps := 1000000) (disch := first | assumption | omega) [Q.e, Rb.e, eq2, same2_refl, h1, h2, h6, h7, h8, h9]; try simp only [List.getElem?_cons_zero, Option.getD_some, app_val])
                            rfl
                          apply rgnS_pre 5
                          · repeat (simp -implicitDefEqProofs (maxSteps := 1000000) (disch := first | assumption | omega) [Q.e, Rb.e, eq2, same2_refl, h1, h2, h6, h7, h8, h9]; try simp only [List.getElem?_cons_zero, Option.getD_some, app_val])
                            rfl
                          refine hK _ ?_; clear hK
                          -- leaf 9
                          refine LWP_ret ⟨_, rfl, ?_⟩
                          refine wkV_of_eq ?_
                          simp only [retV]
                          all_goals
                            simp [Nat.add_zero]
                  · try simp only [decide_eq_true_eq, decide_eq_false_iff_not, Bool.not_eq_true', Bool.not_eq_false', Bool.not_true, Bool.not_false, beq_iff_eq, bne_iff_ne, beq_eq_false_iff_ne, bne_eq_false_iff_eq, Bool.and_eq_true, Bool.or_eq_false_iff, Int.not_lt, Int.not_le, Nat.not_lt, Nat.not_le, ne_eq, Bool.true_eq_false, Bool.false_eq_true, reduceCtorEq] at h8
                    all_goals try (exfalso; omega)
                    all_goals
                      apply rgnS_pre 8
                      · repeat (simp -implicitDefEqProofs (maxSteps := 1000000) (disch := first | assumption | omega) [Q.e, Rb.e, eq2, same2_refl, h1, h2, h6, h7, h8]; try simp only [List.getElem?_cons_zero, Option.getD_some, app_val])
                        rfl
                      apply rgnS_pre 8
                      · repeat (simp -implicitDefEqProofs (maxSteps := 1000000) (disch := first | assumption | omega) [Q.e, Rb.e, eq2, same2_refl, h1, h2, h6, h7, h8]; try simp only [List.getElem?_cons_zero, Option.getD_some, app_val])
                        rfl
                      apply rgnS_pre 2
                      · repeat (simp -implicitDefEqProofs (maxSteps := 1000000) (disch := first | assumption | omega) [Q.e, Rb.e, eq2, same2_refl, h1, h2, h6, h7, h8]; try simp only [List.getElem?_cons_zero, Option.getD_some, app_val])
                        rfl
                      refine hK _ ?_; clear hK
                      -- leaf 10
                      refine LWP_ret ⟨_, rfl, ?_⟩
                      refine wkV_of_eq ?_
                      simp only [retV]
                      all_goals
                        simp [Nat.add_zero]
              · try simp only [decide_eq_true_eq, decide_eq_false_iff_not, Bool.not_eq_true', Bool.not_eq_false', Bool.not_true, Bool.not_false, beq_iff_eq, bne_iff_ne, beq_eq_false_iff_ne, bne_eq_false_iff_eq, Bool.and_eq_true, Bool.or_eq_false_iff, Int.not_lt, Int.not_le, Nat.not_lt, Nat.not_le, ne_eq, Bool.true_eq_false, Bool.false_eq_true, reduceCtorEq] at h7
                all_goals try (exfalso; omega)
                all_goals
                  apply rgnS_pre 8
                  · repeat (simp -implicitDefEqProofs (maxSteps := 1000000) (disch := first | assumption | omega) [Q.e, Rb.e, eq2, same2_refl, h1, h2, h6, h7]; try simp only [List.getElem?_cons_zero, Option.getD_some, app_val])
                    rfl
                  apply rgnS_pre 8
                  · repeat (simp -implicitDefEqProofs (maxSteps := 1000000) (disch := first | assumption | omega) [Q.e, Rb.e, eq2, same2_refl, h1, h2, h6, h7]; try simp only [List.getElem?_cons_zero, Option.getD_some, app_val])
                    rfl
                  apply rgnS_pre 6
                  · repeat (simp -implicitDefEqProofs (maxSteps := 1000000) (disch := first | assumption | omega) [Q.e, Rb.e, eq2, same2_refl, h1, h2, h6, h7]; try simp only [List.getElem?_cons_zero, Option.getD_some, app_val])
                    rfl
                  refine hK _ ?_; clear hK
                  -- leaf 11
                  refine LWP_ret ⟨_, rfl, ?_⟩
                  refine wkV_of_eq ?_
                  simp only [retV]
                  all_goals
                    simp [Nat.add_zero]
end

section
attribute [local simp ↓] List.map_nil List.map_cons
attribute [local simp] m_ o_ g_ stepsS stepS gd opEff appEff LArg.ev app_val app_new app_upd app_kill putV ins_e0 ins_e1 get_e0 get_e1 binV binI grd bnd ldCells AV.cells AV.scalar AV.known setAt fillL chunks elems mxI mnI del Nat.add_assoc nlt_self nne_self nne_self' List.take_of_length_le decT decF wrap_i64 stepsD stepD ST.as dEffF LOp.cls softOK LOp.args LOp.rds AV.ids appD_val appD_new appD_upd appD_kill AS.flush delAll
set_option maxHeartbeats 2000000 in
theorem law_no (ws : List Rb) (q : Q) (hl : ws.length ≤ 200) (hA : ACalls Go.Proofs.Tryz.prog 7 [.tsl 4 (ws.map Rb.e), .agg [.int .i64 q.n, .int .i64 q.d]] [] 0 (fun r _ _ => r = .tup [.int .i64 0, .bool false])) (hP : ACalls Go.Proofs.Tryz.prog 8 [.tsl 4 (ws.map Rb.e), .agg [.int .i64 q.n, .int .i64 q.d]] [] 0 (fun r _ _ => r = .tup [.agg [.int .i64 0, .int .i64 0], .bool false])) : ACalls Go.Proofs.Tryz.prog 3 [.tsl 4 (ws.map Rb.e), .agg q.e] [] 0 (fun r _ _ => r = .bool true) := by
  refine pure_body ok3 rfl ?_
  simp only [parV]
  refine LWP_seq ?_
  apply LWP_run
  · repeat (simp -implicitDefEqProofs (maxSteps := 1000000) (disch := first | assumption | omega) [Q.e, Rb.e, eq2, same2_refl]; try simp only [List.getElem?_cons_zero, Option.getD_some, app_val])
    rfl
  refine LWP_seq ?_
  refine LWP_seq ?_
  apply LWP_run
  · repeat (simp -implicitDefEqProofs (maxSteps := 1000000) (disch := first | assumption | omega) [Q.e, Rb.e, eq2, same2_refl]; try simp only [List.getElem?_cons_zero, Option.getD_some, app_val])
    rfl
  refine LWP_cond rfl (fun h1 => ?_) (fun h1 => ?_)
  · try simp only [decide_eq_true_eq, decide_eq_false_iff_not, Bool.not_eq_true', Bool.not_eq_false', Bool.not_true, Bool.not_false, beq_iff_eq, bne_iff_ne, beq_eq_false_iff_ne, bne_eq_false_iff_eq, Bool.and_eq_true, Bool.or_eq_false_iff, Int.not_lt, Int.not_le, Nat.not_lt, Nat.not_le, ne_eq, Bool.true_eq_false, Bool.false_eq_true, reduceCtorEq] at h1
    all_goals try (exfalso; omega)
    all_goals
      refine LWP_seq ?_
      refine LWP_reg fun K hK => ?_
      refine rgnS_call (haheads) rfl rfl (by simp [pureL, pureR, AV.pure, Q.e, Rb.e, eq2, same2_refl]) (by simp [pureL, pureR, AV.pure, Q.e, Rb.e, eq2, same2_refl]) (by simp [gd, get_e0, get_e1, LArg.ev, h1]) ?_
      apply rgnS_pre 1
      · repeat (simp -implicitDefEqProofs (maxSteps := 1000000) (disch := first | assumption | omega) [Q.e, Rb.e, eq2, same2_refl, h1]; try simp only [List.getElem?_cons_zero, Option.getD_some, app_val])
        rfl
      refine hK _ ?_; clear hK
      -- leaf 0
      refine LWP_ret ⟨_, rfl, ?_⟩
      refine wkV_of_eq ?_
      simp only [retV]
      all_goals
        simp [Nat.add_zero]
  · try simp only [decide_eq_true_eq, decide_eq_false_iff_not, Bool.not_eq_true', Bool.not_eq_false', Bool.not_true, Bool.not_false, beq_iff_eq, bne_iff_ne, beq_eq_false_iff_ne, bne_eq_false_iff_eq, Bool.and_eq_true, Bool.or_eq_false_iff, Int.not_lt, Int.not_le, Nat.not_lt, Nat.not_le, ne_eq, Bool.true_eq_false, Bool.false_eq_true, reduceCtorEq] at h1
    all_goals try (exfalso; omega)
    all_goals
      refine LWP_skip ?_
      refine LWP_seq ?_
      refine LWP_reg fun K hK => ?_
      apply rgnS_pre 2
      · repeat (simp -implicitDefEqProofs (maxSteps := 1000000) (disch := first | assumption | omega) [Q.e, Rb.e, eq2, same2_refl, h1]; try simp only [List.getElem?_cons_zero, Option.getD_some, app_val])
        rfl
      refine rgnS_call (hA) rfl rfl (by simp [pureL, pureR, AV.pure, Q.e, Rb.e, eq2, same2_refl, pureR_rb]) (by simp [pureL, pureR, AV.pure, Q.e, Rb.e, eq2, same2_refl, pureR_rb]) (by simp [gd, get_e0, get_e1, LArg.ev, h1]) ?_
      apply rgnS_pre 5
      · repeat (simp -implicitDefEqProofs (maxSteps := 1000000) (disch := first | assumption | omega) [Q.e, Rb.e, eq2, same2_refl, h1]; try simp only [List.getElem?_cons_zero, Option.getD_some, app_val])
        rfl
      refine hK _ ?_; clear hK
      refine LWP_seq ?_
      refine LWP_reg fun K hK => ?_
      apply rgnS_pre 2
      · repeat (simp -implicitDefEqProofs (maxSteps := 1000000) (disch := first | assumption | omega) [Q.e, Rb.e, eq2, same2_refl, h1]; try simp only [List.getElem?_cons_zero, Option.getD_some, app_val])
        rfl
      refine rgnS_call (hP) rfl rfl (by simp [pureL, pureR, AV.pure, Q.e, Rb.e, eq2, same2_refl, pureR_rb]) (by simp [pureL, pureR, AV.pure, Q.e, Rb.e, eq2, same2_refl, pureR_rb]) (by simp [gd, get_e0, get_e1, LArg.ev, h1]) ?_
      apply rgnS_pre 6
      · repeat (simp -implicitDefEqProofs (maxSteps := 1000000) (disch := first | assumption | omega) [Q.e, Rb.e, eq2, same2_refl, h1]; try simp only [List.getElem?_cons_zero, Option.getD_some, app_val])
        rfl
      refine hK _ ?_; clear hK
      refine LWP_seq ?_
      refine LWP_seq ?_
      apply LWP_run
      · repeat (simp -implicitDefEqProofs (maxSteps := 1000000) (disch := first | assumption | omega) [Q.e, Rb.e, eq2, same2_refl, h1]; try simp only [List.getElem?_cons_zero, Option.getD_some, app_val])
        rfl
      refine LWP_cond rfl (fun h2 => ?_) (fun h2 => ?_)
      · try simp only [decide_eq_true_eq, decide_eq_false_iff_not, Bool.not_eq_true', Bool.not_eq_false', Bool.not_true, Bool.not_false, beq_iff_eq, bne_iff_ne, beq_eq_false_iff_ne, bne_eq_false_iff_eq, Bool.and_eq_true, Bool.or_eq_false_iff, Int.not_lt, Int.not_le, Nat.not_lt, Nat.not_le, ne_eq, Bool.true_eq_false, Bool.false_eq_true, reduceCtorEq] at h2
        all_goals try (exfalso; omega)
        all_goals
          refine LWP_seq ?_
          refine LWP_reg fun K hK => ?_
          apply rgnS_pre 4
          · repeat (simp -implicitDefEqProofs (maxSteps := 1000000) (disch := first | assumption | omega) [Q.e, Rb.e, eq2, same2_refl, h1, h2]; try simp only [List.getElem?_cons_zero, Option.getD_some, app_val])
            rfl
          refine rgnS_guard (x := 34) (b := true) rfl (fun h3 => ?_) (fun h3 => ?_)
          · try simp only [decide_eq_true_eq, decide_eq_false_iff_not, Bool.not_eq_true', Bool.not_eq_false', Bool.not_true, Bool.not_false, beq_iff_eq, bne_iff_ne, beq_eq_false_iff_ne, bne_eq_false_iff_eq, Bool.and_eq_true, Bool.or_eq_false_iff, Int.not_lt, Int.not_le, Nat.not_lt, Nat.not_le, ne_eq, Bool.true_eq_false, Bool.false_eq_true, reduceCtorEq] at h3
            all_goals try (exfalso; omega)
            all_goals
              apply rgnS_pre 4
              · repeat (simp -implicitDefEqProofs (maxSteps := 1000000) (disch := first | assumption | omega) [Q.e, Rb.e, eq2, same2_refl, h1, h2, h3]; try simp only [List.getElem?_cons_zero, Option.getD_some, app_val])
                rfl
              refine rgnS_guard (x := 38) (b := true) rfl (fun h4 => ?_) (fun h4 => ?_)
              · try simp only [decide_eq_true_eq, decide_eq_false_iff_not, Bool.not_eq_true', Bool.not_eq_false', Bool.not_true, Bool.not_false, beq_iff_eq, bne_iff_ne, beq_eq_false_iff_ne, bne_eq_false_iff_eq, Bool.and_eq_true, Bool.or_eq_false_iff, Int.not_lt, Int.not_le, Nat.not_lt, Nat.not_le, ne_eq, Bool.true_eq_false, Bool.false_eq_true, reduceCtorEq] at h4
                all_goals try (exfalso; omega)
                all_goals
                  apply rgnS_pre 4
                  · repeat (simp -implicitDefEqProofs (maxSteps := 1000000) (disch := first | assumption | omega) [Q.e, Rb.e, eq2, same2_refl, h1, h2, h3, h4]; try simp only [List.getElem?_cons_zero, Option.getD_some, app_val])
                    rfl
                  refine rgnS_guard (x := 42) (b := true) rfl (fun h5 => ?_) (fun h5 => ?_)
                  · try simp only [decide_eq_true_eq, decide_eq_false_iff_not, Bool.not_eq_true', Bool.not_eq_false', Bool.not_true, Bool.not_false, beq_iff_eq, bne_iff_ne, beq_eq_false_iff_ne, bne_eq_false_iff_eq, Bool.and_eq_true, Bool.or_eq_false_iff, Int.not_lt, Int.not_le, Nat.not_lt, Nat.not_le, ne_eq, Bool.true_eq_false, Bool.false_eq_true, reduceCtorEq] at h5
                    all_goals try (exfalso; omega)
                    all_goals
                      refine rgnS_call (haheads) rfl rfl (by simp [pureL, pureR, AV.pure, Q.e, Rb.e, eq2, same2_refl]) (by simp [pureL, pureR, AV.pure, Q.e, Rb.e, eq2, same2_refl]) (by simp [gd, get_e0, get_e1, LArg.ev, h1, h2, h3, h4, h5]) ?_
                      apply rgnS_pre 2
                      · repeat (simp -implicitDefEqProofs (maxSteps := 1000000) (disch := first | assumption | omega) [Q.e, Rb.e, eq2, same2_refl, h1, h2, h3, h4, h5]; try simp only [List.getElem?_cons_zero, Option.getD_some, app_val])
                        rfl
                      refine hK _ ?_; clear hK
                      -- leaf 1
                      refine LWP_ret ⟨_, rfl, ?_⟩
                      refine wkV_of_eq ?_
                      simp only [retV]
                      all_goals
                        simp [Nat.add_zero]
                  · try simp only [decide_eq_true_eq, decide_eq_false_iff_not, Bool.not_eq_true', Bool.not_eq_false', Bool.not_true, Bool.not_false, beq_iff_eq, bne_iff_ne, beq_eq_false_iff_ne, bne_eq_false_iff_eq, Bool.and_eq_true, Bool.or_eq_false_iff, Int.not_lt, Int.not_le, Nat.not_lt, Nat.not_le, ne_eq, Bool.true_eq_false, Bool.false_eq_true, reduceCtorEq] at h5
                    all_goals try (exfalso; omega)
                    all_goals
                      apply rgnS_pre 2
                      · repeat (simp -implicitDefEqProofs (maxSteps := 1000000) (disch := first | assumption | omega) [Q.e, Rb.e, eq2, same2_refl, h1, h2, h3, h4, h5]; try simp only [List.getElem?_cons_zero, Option.getD_some, app_val])
                        rfl
                      refine hK _ ?_; clear hK
                      -- leaf 2
                      refine LWP_ret ⟨_, rfl, ?_⟩
                      refine wkV_of_eq ?_
                      simp only [retV]
                      all_goals
                        simp [Nat.add_zero]
              · try simp only [decide_eq_true_eq, decide_eq_false_iff_not, Bool.not_eq_true', Bool.not_eq_false', Bool.not_true, Bool.not_false, beq_iff_eq, bne_iff_ne, beq_eq_false_iff_ne, bne_eq_false_iff_eq, Bool.and_eq_true, Bool.or_eq_false_iff, Int.not_lt, Int.not_le, Nat.not_lt, Nat.not_le, ne_eq, Bool.true_eq_false, Bool.false_eq_true, reduceCtorEq] at h4
                all_goals try (exfalso; omega)
                all_goals
                  apply rgnS_pre 6
                  · repeat (simp -implicitDefEqProofs (maxSteps := 1000000) (disch := first | assumption | omega) [Q.e, Rb.e, eq2, same2_refl, h1, h2, h3, h4]; try simp only [List.getElem?_cons_zero, Option.getD_some, app_val])
                    rfl
                  refine hK _ ?_; clear hK
                  -- leaf 3
                  refine LWP_ret ⟨_, rfl, ?_⟩
                  refine wkV_of_eq ?_
                  simp only [retV]
                  all_goals
                    simp [Nat.add_zero]
          · try simp only [decide_eq_true_eq, decide_eq_false_iff_not, Bool.not_eq_true', Bool.not_eq_false', Bool.not_true, Bool.not_false, beq_iff_eq, bne_iff_ne, beq_eq_false_iff_ne, bne_eq_false_iff_eq, Bool.and_eq_true, Bool.or_eq_false_iff, Int.not_lt, Int.not_le, Nat.not_lt, Nat.not_le, ne_eq, Bool.true_eq_false, Bool.false_eq_true, reduceCtorEq] at h3
            all_goals try (exfalso; omega)
            all_goals
              apply rgnS_pre 8
              · repeat (simp -implicitDefEqProofs (maxSteps := 1000000) (disch := first | assumption | omega) [Q.e, Rb.e, eq2, same2_refl, h1, h2, h3]; try simp only [List.getElem?_cons_zero, Option.getD_some, app_val])
                rfl
              apply rgnS_pre 2
              · repeat (simp -implicitDefEqProofs (maxSteps := 1000000) (disch := first | assumption | omega) [Q.e, Rb.e, eq2, same2_refl, h1, h2, h3]; try simp only [List.getElem?_cons_zero, Option.getD_some, app_val])
                rfl
              refine hK _ ?_; clear hK
              -- leaf 4
              refine LWP_ret ⟨_, rfl, ?_⟩
              refine wkV_of_eq ?_
              simp only [retV]
              all_goals
                simp [Nat.add_zero]
      · try simp only [decide_eq_true_eq, decide_eq_false_iff_not, Bool.not_eq_true', Bool.not_eq_false', Bool.not_true, Bool.not_false, beq_iff_eq, bne_iff_ne, beq_eq_false_iff_ne, bne_eq_false_iff_eq, Bool.and_eq_true, Bool.or_eq_false_iff, Int.not_lt, Int.not_le, Nat.not_lt, Nat.not_le, ne_eq, Bool.true_eq_false, Bool.false_eq_true, reduceCtorEq] at h2
        all_goals try (exfalso; omega)
        all_goals
          refine LWP_skip ?_
          refine LWP_seq ?_
          refine LWP_seq ?_
          apply LWP_run
          · repeat (simp -implicitDefEqProofs (maxSteps := 1000000) (disch := first | assumption | omega) [Q.e, Rb.e, eq2, same2_refl, h1, h2]; try simp only [List.getElem?_cons_zero, Option.getD_some, app_val])
            rfl
          refine LWP_cond rfl (fun h6 => ?_) (fun h6 => ?_)
          · try simp only [decide_eq_true_eq, decide_eq_false_iff_not, Bool.not_eq_true', Bool.not_eq_false', Bool.not_true, Bool.not_false, beq_iff_eq, bne_iff_ne, beq_eq_false_iff_ne, bne_eq_false_iff_eq, Bool.and_eq_true, Bool.or_eq_false_iff, Int.not_lt, Int.not_le, Nat.not_lt, Nat.not_le, ne_eq, Bool.true_eq_false, Bool.false_eq_true, reduceCtorEq] at h6
            all_goals try (exfalso; omega)
            all_goals
              refine LWP_seq ?_
              refine LWP_reg fun K hK => ?_
              refine rgnS_call (haheads) rfl rfl (by simp [pureL, pureR, AV.pure, Q.e, Rb.e, eq2, same2_refl]) (by simp [pureL, pureR, AV.pure, Q.e, Rb.e, eq2, same2_refl]) (by simp [gd, get_e0, get_e1, LArg.ev, h1, h2, h6]) ?_
              apply rgnS_pre 1
              · repeat (simp -implicitDefEqProofs (maxSteps := 1000000) (disch := first | assumption | omega) [Q.e, Rb.e, eq2, same2_refl, h1, h2, h6]; try simp only [List.getElem?_cons_zero, Option.getD_some, app_val])
                rfl
              refine hK _ ?_; clear hK
              -- leaf 5
              refine LWP_ret ⟨_, rfl, ?_⟩
              refine wkV_of_eq ?_
              simp only [retV]
              all_goals
                simp [Nat.add_zero]
          · try simp only [decide_eq_true_eq, decide_eq_false_iff_not, Bool.not_eq_true', Bool.not_eq_false', Bool.not_true, Bool.not_false, beq_iff_eq, bne_iff_ne, beq_eq_false_iff_ne, bne_eq_false_iff_eq, Bool.and_eq_true, Bool.or_eq_false_iff, Int.not_lt, Int.not_le, Nat.not_lt, Nat.not_le, ne_eq, Bool.true_eq_false, Bool.false_eq_true, reduceCtorEq] at h6
            all_goals try (exfalso; omega)
            all_goals
              refine LWP_skip ?_
              refine LWP_seq ?_
              refine LWP_reg fun K hK => ?_
              apply rgnS_pre 5
              · repeat (simp -implicitDefEqProofs (maxSteps := 1000000) (disch := first | assumption | omega) [Q.e, Rb.e, eq2, same2_refl, h1, h2, h6]; try simp only [List.getElem?_cons_zero, Option.getD_some, app_val])
                rfl
              refine rgnS_call (hB) rfl rfl (by simp [pureL, pureR, AV.pure, Q.e, Rb.e, eq2, same2_refl]) (by simp [pureL, pureR, AV.pure, Q.e, Rb.e, eq2, same2_refl]) (by simp [gd, get_e0, get_e1, LArg.ev, h1, h2, h6]) ?_
              apply rgnS_pre 6
              · repeat (simp -implicitDefEqProofs (maxSteps := 1000000) (disch := first | assumption | omega) [Q.e, Rb.e, eq2, same2_refl, h1, h2, h6]; try simp only [List.getElem?_cons_zero, Option.getD_some, app_val])
                rfl
              refine hK _ ?_; clear hK
              refine LWP_seq ?_
              refine LWP_regD' fun K hK => ?_
              apply rgnD_pre 6
              · repeat (simp -implicitDefEqProofs (maxSteps := 1000000) (disch := first | assumption | omega) [Q.e, Rb.e, eq2, same2_refl, h1, h2, h6]; try simp only [List.getElem?_cons_zero, Option.getD_some, app_val])
                rfl
              refine rgnD_call (hS) rfl rfl (by simp [pureL, pureR, AV.pure, Q.e, Rb.e, eq2, same2_refl]) (by simp [pureL, pureR, AV.pure, Q.e, Rb.e, eq2, same2_refl]) (by simp [gd, get_e0, get_e1, LArg.ev, h1, h2, h6]) (by simp (maxSteps := 1000000) (disch := first | assumption | omega) [Q.e, Rb.e, eq2, same2_refl]) ?_
              apply rgnD_pre 6
              · repeat (simp -implicitDefEqProofs (maxSteps := 1000000) (disch := first | assumption | omega) [Q.e, Rb.e, eq2, same2_refl, h1, h2, h6]; try simp only [List.getElem?_cons_zero, Option.getD_some, app_val])
                rfl
              refine hK _ _ (by simp [AS.fin, delAll, del, Nat.add_assoc]; rfl) ?_; clear hK
              refine LWP_seq ?_
              refine LWP_reg fun K hK => ?_
              apply rgnS_pre 3
              · repeat (simp -implicitDefEqProofs (maxSteps := 1000000) (disch := first | assumption | omega) [Q.e, Rb.e, eq2, same2_refl, h1, h2, h6]; try simp only [List.getElem?_cons_zero, Option.getD_some, app_val])
                rfl
              refine rgnS_guard (x := 69) (b := true) rfl (fun h7 => ?_) (fun h7 => ?_)
              · try simp only [decide_eq_true_eq, decide_eq_false_iff_not, Bool.not_eq_true', Bool.not_eq_false', Bool.not_true, Bool.not_false, beq_iff_eq, bne_iff_ne, beq_eq_false_iff_ne, bne_eq_false_iff_eq, Bool.and_eq_true, Bool.or_eq_false_iff, Int.not_lt, Int.not_le, Nat.not_lt, Nat.not_le, ne_eq, Bool.true_eq_false, Bool.false_eq_true, reduceCtorEq] at h7
                all_goals try (exfalso; omega)
                all_goals
                  apply rgnS_pre 4
                  · repeat (simp -implicitDefEqProofs (maxSteps := 1000000) (disch := first | assumption | omega) [Q.e, Rb.e, eq2, same2_refl, h1, h2, h6, h7]; try simp only [List.getElem?_cons_zero, Option.getD_some, app_val])
                    rfl
                  refine rgnS_guard (x := 73) (b := true) rfl (fun h8 => ?_) (fun h8 => ?_)
                  · try simp only [decide_eq_true_eq, decide_eq_false_iff_not, Bool.not_eq_true', Bool.not_eq_false', Bool.not_true, Bool.not_false, beq_iff_eq, bne_iff_ne, beq_eq_false_iff_ne, bne_eq_false_iff_eq, Bool.and_eq_true, Bool.or_eq_false_iff, Int.not_lt, Int.not_le, Nat.not_lt, Nat.not_le, ne_eq, Bool.true_eq_false, Bool.false_eq_true, reduceCtorEq] at h8
                    all_goals try (exfalso; omega)
                    all_goals
                      apply rgnS_pre 5
                      · repeat (simp -implicitDefEqProofs (maxSteps := 1000000) (disch := first | assumption | omega) [Q.e, Rb.e, eq2, same2_refl, h1, h2, h6, h7, h8]; try simp only [List.getElem?_cons_zero, Option.getD_some, app_val])
                        rfl
                      refine rgnS_guard (x := 78) (b := true) rfl (fun h9 => ?_) (fun h9 => ?_)
                      · try simp only [decide_eq_true_eq, decide_eq_false_iff_not, Bool.not_eq_true', Bool.not_eq_false', Bool.not_true, Bool.not_false, beq_iff_eq, bne_iff_ne, beq_eq_false_iff_ne, bne_eq_false_iff_eq, Bool.and_eq_true, Bool.or_eq_false_iff, Int.not_lt, Int.not_le, Nat.not_lt, Nat.not_le, ne_eq, Bool.true_eq_false, Bool.false_eq_true, reduceCtorEq] at h9
                        all_goals try (exfalso; omega)
                        all_goals
                          apply rgnS_pre 5
                          · repeat (simp -implicitDefEqProofs (maxSteps := 1000000) (disch := first | assumption | omega) [Q.e, Rb.e, eq2, same2_refl, h1, h2, h6, h7, h8, h9]; try simp only [List.getElem?_cons_zero, Option.getD_some, app_val])
                            rfl
                          refine rgnS_guard (x := 83) (b := true) rfl (fun h10 => ?_) (fun h10 => ?_)
                          · try simp only [decide_eq_true_eq, decide_eq_false_iff_not, Bool.not_eq_true', Bool.not_eq_false', Bool.not_true, Bool.not_false, beq_iff_eq, bne_iff_ne, beq_eq_false_iff_ne, bne_eq_false_iff_eq, Bool.and_eq_true, Bool.or_eq_false_iff, Int.not_lt, Int.not_le, Nat.not_lt, Nat.not_le, ne_eq, Bool.true_eq_false, Bool.false_eq_true, reduceCtorEq] at h10
                            all_goals try (exfalso; omega)
                            all_goals
                              apply rgnS_pre 2
                              · repeat (simp -implicitDefEqProofs (maxSteps := 1000000) (disch := first | assumption | omega) [Q.e, Rb.e, eq2, same2_refl, h1, h2, h6, h7, h8, h9, h10]; try simp only [List.getElem?_cons_zero, Option.getD_some, app_val])
                                rfl
                              refine rgnS_call (hC) rfl rfl (by simp [pureL, pureR, AV.pure, Q.e, Rb.e, eq2, same2_refl]) (by simp [pureL, pureR, AV.pure, Q.e, Rb.e, eq2, same2_refl]) (by simp [gd, get_e0, get_e1, LArg.ev, h1, h2, h6, h7, h8, h9, h10]) ?_
                              apply rgnS_pre 3
                              · repeat (simp -implicitDefEqProofs (maxSteps := 1000000) (disch := first | assumption | omega) [Q.e, Rb.e, eq2, same2_refl, h1, h2, h6, h7, h8, h9, h10]; try simp only [List.getElem?_cons_zero, Option.getD_some, app_val])
                                rfl
                              refine rgnS_guard (x := 89) (b := true) rfl (fun h11 => ?_) (fun h11 => ?_)
                              · try simp only [decide_eq_true_eq, decide_eq_false_iff_not, Bool.not_eq_true', Bool.not_eq_false', Bool.not_true, Bool.not_false, beq_iff_eq, bne_iff_ne, beq_eq_false_iff_ne, bne_eq_false_iff_eq, Bool.and_eq_true, Bool.or_eq_false_iff, Int.not_lt, Int.not_le, Nat.not_lt, Nat.not_le, ne_eq, Bool.true_eq_false, Bool.false_eq_true, reduceCtorEq] at h11
                                all_goals try (exfalso; omega)
                                all_goals
                                  refine rgnS_call (haheads) rfl rfl (by simp [pureL, pureR, AV.pure, Q.e, Rb.e, eq2, same2_refl]) (by simp [pureL, pureR, AV.pure, Q.e, Rb.e, eq2, same2_refl]) (by simp [gd, get_e0, get_e1, LArg.ev, h1, h2, h6, h7, h8, h9, h10, h11]) ?_
                                  apply rgnS_pre 2
                                  · repeat (simp -implicitDefEqProofs (maxSteps := 1000000) (disch := first | assumption | omega) [Q.e, Rb.e, eq2, same2_refl, h1, h2, h6, h7, h8, h9, h10, h11]; try simp only [List.getElem?_cons_zero, Option.getD_some, app_val])
                                    rfl
                                  refine hK _ ?_; clear hK
                                  -- leaf 6
                                  refine LWP_ret ⟨_, rfl, ?_⟩
                                  refine wkV_of_eq ?_
                                  simp only [retV]
                                  all_goals
                                    simp [Nat.add_zero]
                              · try simp only [decide_eq_true_eq, decide_eq_false_iff_not, Bool.not_eq_true', Bool.not_eq_false', Bool.not_true, Bool.not_false, beq_iff_eq, bne_iff_ne, beq_eq_false_iff_ne, bne_eq_false_iff_eq, Bool.and_eq_true, Bool.or_eq_false_iff, Int.not_lt, Int.not_le, Nat.not_lt, Nat.not_le, ne_eq, Bool.true_eq_false, Bool.false_eq_true, reduceCtorEq] at h11
                                all_goals try (exfalso; omega)
                                all_goals
                                  apply rgnS_pre 2
                                  · repeat (simp -implicitDefEqProofs (maxSteps := 1000000) (disch := first | assumption | omega) [Q.e, Rb.e, eq2, same2_refl, h1, h2, h6, h7, h8, h9, h10, h11]; try simp only [List.getElem?_cons_zero, Option.getD_some, app_val])
                                    rfl
                                  refine hK _ ?_; clear hK
                                  -- leaf 7
                                  refine LWP_ret ⟨_, rfl, ?_⟩
                                  refine wkV_of_eq ?_
                                  simp only [retV]
                                  all_goals
                                    simp [Nat.add_zero]
                          · try simp only [decide_eq_true_eq, decide_eq_false_iff_not, Bool.not_eq_true', Bool.not_eq_false', Bool.not_true, Bool.not_false, beq_iff_eq, bne_iff_ne, beq_eq_false_iff_ne, bne_eq_false_iff_eq, Bool.and_eq_true, Bool.or_eq_false_iff, Int.not_lt, Int.not_le, Nat.not_lt, Nat.not_le, ne_eq, Bool.true_eq_false, Bool.false_eq_true, reduceCtorEq] at h10
                            all_goals try (exfalso; omega)
                            all_goals
                              apply rgnS_pre 8
                              · repeat (simp -implicitDefEqProofs (maxSteps := 1000000) (disch := first | assumption | omega) [Q.e, Rb.e, eq2, same2_refl, h1, h2, h6, h7, h8, h9, h10]; try simp only [List.getElem?_cons_zero, Option.getD_some, app_val])
                                rfl
                              refine hK _ ?_; clear hK
                              -- leaf 8
                              refine LWP_ret ⟨_, rfl, ?_⟩
                              refine wkV_of_eq ?_
                              simp only [retV]
                              all_goals
                                simp [Nat.add_zero]
                      · try simp only [decide_eq_true_eq, decide_eq_false_iff_not, Bool.not_eq_true', Bool.not_eq_false', Bool.not_true, Bool.not_false, beq_iff_eq, bne_iff_ne, beq_eq_false_iff_ne, bne_eq_false_iff_eq, Bool.and_eq_true, Bool.or_eq_false_iff, Int.not_lt, Int.not_le, Nat.not_lt, Nat.not_le, ne_eq, Bool.true_eq_false, Bool.false_eq_true, reduceCtorEq] at h9
                        all_goals try (exfalso; omega)
                        all_goals
                          apply rgnS_pre 8
                          · repeat (simp -implicitDefEqProofs (maxSteps := 1000000) (disch := first | assumption | omega) [Q.e, Rb.e, eq2, same2_refl, h1, h2, h6, h7, h8, h9]; try simp only [List.getElem?_cons_zero, Option.getD_some, app_val])
                            rfl
                          apply rgnS_pre 5
                          · repeat (simp -implicitDefEqProofs (maxSteps := 1000000) (disch := first | assumption | omega) [Q.e, Rb.e, eq2, same2_refl, h1, h2, h6, h7, h8, h9]; try simp only [List.getElem?_cons_zero, Option.getD_some, app_val])
                            rfl
                          refine hK _ ?_; clear hK
                          -- leaf 9
                          refine LWP_ret ⟨_, rfl, ?_⟩
                          refine wkV_of_eq ?_
                          simp only [retV]
                          all_goals
                            simp [Nat.add_zero]
                  · try simp only [decide_eq_true_eq, decide_eq_false_iff_not, Bool.not_eq_true', Bool.not_eq_false', Bool.not_true, Bool.not_false, beq_iff_eq, bne_iff_ne, beq_eq_false_iff_ne, bne_eq_false_iff_eq, Bool.and_eq_true, Bool.or_eq_false_iff, Int.not_lt, Int.not_le, Nat.not_lt, Nat.not_le, ne_eq, Bool.true_eq_false, Bool.false_eq_true, reduceCtorEq] at h8
                    all_goals try (exfalso; omega)
                    all_goals
                      apply rgnS_pre 8
                      · repeat (simp -implicitDefEqProofs (maxSteps := 1000000) (disch := first | assumption | omega) [Q.e, Rb.e, eq2, same2_refl, h1, h2, h6, h7, h8]; try simp only [List.getElem?_cons_zero, Option.getD_some, app_val])
                        rfl
                      apply rgnS_pre 8
                      · repeat (simp -implicitDefEqProofs (maxSteps := 1000000) (disch := first | assumption | omega) [Q.e, Rb.e, eq2, same2_refl, h1, h2, h6, h7, h8]; try simp only [List.getElem?_cons_zero, Option.getD_some, app_val])
                        rfl
                      apply rgnS_pre 2
                      · repeat (simp -implicitDefEqProofs (maxSteps := 1000000) (disch := first | assumption | omega) [Q.e, Rb.e, eq2, same2_refl, h1, h2, h6, h7, h8]; try simp only [List.getElem?_cons_zero, Option.getD_some, app_val])
                        rfl
                      refine hK _ ?_; clear hK
                      -- leaf 10
                      refine LWP_ret ⟨_, rfl, ?_⟩
                      refine wkV_of_eq ?_
                      simp only [retV]
                      all_goals
                        simp [Nat.add_zero]
              · try simp only [decide_eq_true_eq, decide_eq_false_iff_not, Bool.not_eq_true', Bool.not_eq_false', Bool.not_true, Bool.not_false, beq_iff_eq, bne_iff_ne, beq_eq_false_iff_ne, bne_eq_false_iff_eq, Bool.and_eq_true, Bool.or_eq_false_iff, Int.not_lt, Int.not_le, Nat.not_lt, Nat.not_le, ne_eq, Bool.true_eq_false, Bool.false_eq_true, reduceCtorEq] at h7
                all_goals try (exfalso; omega)
                all_goals
                  apply rgnS_pre 8
                  · repeat (simp -implicitDefEqProofs (maxSteps := 1000000) (disch := first | assumption | omega) [Q.e, Rb.e, eq2, same2_refl, h1, h2, h6, h7]; try simp only [List.getElem?_cons_zero, Option.getD_some, app_val])
                    rfl
                  apply rgnS_pre 8
                  · repeat (simp -implicitDefEqProofs (maxSteps := 1000000) (disch := first | assumption | omega) [Q.e, Rb.e, eq2, same2_refl, h1, h2, h6, h7]; try simp only [List.getElem?_cons_zero, Option.getD_some, app_val])
                    rfl
                  apply rgnS_pre 6
                  · repeat (simp -implicitDefEqProofs (maxSteps := 1000000) (disch := first | assumption | omega) [Q.e, Rb.e, eq2, same2_refl, h1, h2, h6, h7]; try simp only [List.getElem?_cons_zero, Option.getD_some, app_val])
                    rfl
                  refine hK _ ?_; clear hK
                  -- leaf 11
                  refine LWP_ret ⟨_, rfl, ?_⟩
                  refine wkV_of_eq ?_
                  simp only [retV]
                  all_goals
                    simp [Nat.add_zero]
end

section
attribute [local simp ↓] List.map_nil List.map_cons
attribute [local simp] m_ o_ g_ stepsS stepS gd opEff appEff LArg.ev app_val app_new app_upd app_kill putV ins_e0 ins_e1 get_e0 get_e1 binV binI grd bnd ldCells AV.cells AV.scalar AV.known setAt fillL chunks elems mxI mnI del Nat.add_assoc nlt_self nne_self nne_self' List.take_of_length_le decT decF wrap_i64 stepsD stepD ST.as dEffF LOp.cls softOK LOp.args LOp.rds AV.ids appD_val appD_new appD_upd appD_kill AS.flush delAll
set_option maxHeartbeats 2000000 in
theorem law_half (ws : List Rb) (q : Q) (i : Nat) (hl : ws.length ≤ 200) (hA : ACalls Go.Proofs.Tryz.prog 7 [.tsl 4 (ws.map Rb.e), .agg [.int .i64 q.n, .int .i64 q.d]] [] 0 (fun r _ _ => r = .tup [.int .i64 (i : Nat), .bool true])) (hP : ACalls Go.Proofs.Tryz.prog 8 [.tsl 4 (ws.map Rb.e), .agg [.int .i64 q.n, .int .i64 q.d]] [] 0 (fun r _ _ => r = .tup [.agg [.int .i64 0, .int .i64 0], .bool false])) : ACalls Go.Proofs.Tryz.prog 3 [.tsl 4 (ws.map Rb.e), .agg q.e] [] 0 (fun r _ _ => r = .bool true) := by
  refine pure_body ok3 rfl ?_
  simp only [parV]
  refine LWP_seq ?_
  apply LWP_run
  · repeat (simp -implicitDefEqProofs (maxSteps := 1000000) (disch := first | assumption | omega) [Q.e, Rb.e, eq2, same2_refl]; try simp only [List.getElem?_cons_zero, Option.getD_some, app_val])
    rfl
  refine LWP_seq ?_
  refine LWP_seq ?_
  apply LWP_run
  · repeat (simp -implicitDefEqProofs (maxSteps := 1000000) (disch := first | assumption | omega) [Q.e, Rb.e, eq2, same2_refl]; try simp only [List.getElem?_cons_zero, Option.getD_some, app_val])
    rfl
  refine LWP_cond rfl (fun h1 => ?_) (fun h1 => ?_)
  · try simp only [decide_eq_true_eq, decide_eq_false_iff_not, Bool.not_eq_true', Bool.not_eq_false', Bool.not_true, Bool.not_false, beq_iff_eq, bne_iff_ne, beq_eq_false_iff_ne, bne_eq_false_iff_eq, Bool.and_eq_true, Bool.or_eq_false_iff, Int.not_lt, Int.not_le, Nat.not_lt, Nat.not_le, ne_eq, Bool.true_eq_false, Bool.false_eq_true, reduceCtorEq] at h1
    all_goals try (exfalso; omega)
    all_goals
      refine LWP_seq ?_
      refine LWP_reg fun K hK => ?_
      refine rgnS_call (haheads) rfl rfl (by simp [pureL, pureR, AV.pure, Q.e, Rb.e, eq2, same2_refl]) (by simp [pureL, pureR, AV.pure, Q.e, Rb.e, eq2, same2_refl]) (by simp [gd, get_e0, get_e1, LArg.ev, h1]) ?_
      apply rgnS_pre 1
      · repeat (simp -implicitDefEqProofs (maxSteps := 1000000) (disch := first | assumption | omega) [Q.e, Rb.e, eq2, same2_refl, h1]; try simp only [List.getElem?_cons_zero, Option.getD_some, app_val])
        rfl
      refine hK _ ?_; clear hK
      -- leaf 0
      refine LWP_ret ⟨_, rfl, ?_⟩
      refine wkV_of_eq ?_
      simp only [retV]
      all_goals
        simp [Nat.add_zero]
  · try simp only [decide_eq_true_eq, decide_eq_false_iff_not, Bool.not_eq_true', Bool.not_eq_false', Bool.not_true, Bool.not_false, beq_iff_eq, bne_iff_ne, beq_eq_false_iff_ne, bne_eq_false_iff_eq, Bool.and_eq_true, Bool.or_eq_false_iff, Int.not_lt, Int.not_le, Nat.not_lt, Nat.not_le, ne_eq, Bool.true_eq_false, Bool.false_eq_true, reduceCtorEq] at h1
    all_goals try (exfalso; omega)
    all_goals
      refine LWP_skip ?_
      refine LWP_seq ?_
      refine LWP_reg fun K hK => ?_
      apply rgnS_pre 2
      · repeat (simp -implicitDefEqProofs (maxSteps := 1000000) (disch := first | assumption | omega) [Q.e, Rb.e, eq2, same2_refl, h1]; try simp only [List.getElem?_cons_zero, Option.getD_some, app_val])
        rfl
      refine rgnS_call (hA) rfl rfl (by simp [pureL, pureR, AV.pure, Q.e, Rb.e, eq2, same2_refl, pureR_rb]) (by simp [pureL, pureR, AV.pure, Q.e, Rb.e, eq2, same2_refl, pureR_rb]) (by simp [gd, get_e0, get_e1, LArg.ev, h1]) ?_
      apply rgnS_pre 5
      · repeat (simp -implicitDefEqProofs (maxSteps := 1000000) (disch := first | assumption | omega) [Q.e, Rb.e, eq2, same2_refl, h1]; try simp only [List.getElem?_cons_zero, Option.getD_some, app_val])
        rfl
      refine hK _ ?_; clear hK
      refine LWP_seq ?_
      refine LWP_reg fun K hK => ?_
      apply rgnS_pre 2
      · repeat (simp -implicitDefEqProofs (maxSteps := 1000000) (disch := first | assumption | omega) [Q.e, Rb.e, eq2, same2_refl, h1]; try simp only [List.getElem?_cons_zero, Option.getD_some, app_val])
        rfl
      refine rgnS_call (hP) rfl rfl (by simp [pureL, pureR, AV.pure, Q.e, Rb.e, eq2, same2_refl, pureR_rb]) (by simp [pureL, pureR, AV.pure, Q.e, Rb.e, eq2, same2_refl, pureR_rb]) (by simp [gd, get_e0, get_e1, LArg.ev, h1]) ?_
      apply rgnS_pre 6
      · repeat (simp -implicitDefEqProofs (maxSteps := 1000000) (disch := first | assumption | omega) [Q.e, Rb.e, eq2, same2_refl, h1]; try simp only [List.getElem?_cons_zero, Option.getD_some, app_val])
        rfl
      refine hK _ ?_; clear hK
      refine LWP_seq ?_
      refine LWP_seq ?_
      apply LWP_run
      · repeat (simp -implicitDefEqProofs (maxSteps := 1000000) (disch := first | assumption | omega) [Q.e, Rb.e, eq2, same2_refl, h1]; try simp only [List.getElem?_cons_zero, Option.getD_some, app_val])
        rfl
      refine LWP_cond rfl (fun h2 => ?_) (fun h2 => ?_)
      · try simp only [decide_eq_true_eq, decide_eq_false_iff_not, Bool.not_eq_true', Bool.not_eq_false', Bool.not_true, Bool.not_false, beq_iff_eq, bne_iff_ne, beq_eq_false_iff_ne, bne_eq_false_iff_eq, Bool.and_eq_true, Bool.or_eq_false_iff, Int.not_lt, Int.not_le, Nat.not_lt, Nat.not_le, ne_eq, Bool.true_eq_false, Bool.false_eq_true, reduceCtorEq] at h2
        all_goals try (exfalso; omega)
        all_goals
          refine LWP_seq ?_
          refine LWP_reg fun K hK => ?_
          apply rgnS_pre 4
          · repeat (simp -implicitDefEqProofs (maxSteps := 1000000) (disch := first | assumption | omega) [Q.e, Rb.e, eq2, same2_refl, h1, h2]; try simp only [List.getElem?_cons_zero, Option.getD_some, app_val])
            rfl
          refine rgnS_guard (x := 34) (b := true) rfl (fun h3 => ?_) (fun h3 => ?_)
          · try simp only [decide_eq_true_eq, decide_eq_false_iff_not, Bool.not_eq_true', Bool.not_eq_false', Bool.not_true, Bool.not_false, beq_iff_eq, bne_iff_ne, beq_eq_false_iff_ne, bne_eq_false_iff_eq, Bool.and_eq_true, Bool.or_eq_false_iff, Int.not_lt, Int.not_le, Nat.not_lt, Nat.not_le, ne_eq, Bool.true_eq_false, Bool.false_eq_true, reduceCtorEq] at h3
            all_goals try (exfalso; omega)
            all_goals
              apply rgnS_pre 4
              · repeat (simp -implicitDefEqProofs (maxSteps := 1000000) (disch := first | assumption | omega) [Q.e, Rb.e, eq2, same2_refl, h1, h2, h3]; try simp only [List.getElem?_cons_zero, Option.getD_some, app_val])
                rfl
              refine rgnS_guard (x := 38) (b := true) rfl (fun h4 => ?_) (fun h4 => ?_)
              · try simp only [decide_eq_true_eq, decide_eq_false_iff_not, Bool.not_eq_true', Bool.not_eq_false', Bool.not_true, Bool.not_false, beq_iff_eq, bne_iff_ne, beq_eq_false_iff_ne, bne_eq_false_iff_eq, Bool.and_eq_true, Bool.or_eq_false_iff, Int.not_lt, Int.not_le, Nat.not_lt, Nat.not_le, ne_eq, Bool.true_eq_false, Bool.false_eq_true, reduceCtorEq] at h4
                all_goals try (exfalso; omega)
                all_goals
                  apply rgnS_pre 4
                  · repeat (simp -implicitDefEqProofs (maxSteps := 1000000) (disch := first | assumption | omega) [Q.e, Rb.e, eq2, same2_refl, h1, h2, h3, h4]; try simp only [List.getElem?_cons_zero, Option.getD_some, app_val])
                    rfl
                  refine rgnS_guard (x := 42) (b := true) rfl (fun h5 => ?_) (fun h5 => ?_)
                  · try simp only [decide_eq_true_eq, decide_eq_false_iff_not, Bool.not_eq_true', Bool.not_eq_false', Bool.not_true, Bool.not_false, beq_iff_eq, bne_iff_ne, beq_eq_false_iff_ne, bne_eq_false_iff_eq, Bool.and_eq_true, Bool.or_eq_false_iff, Int.not_lt, Int.not_le, Nat.not_lt, Nat.not_le, ne_eq, Bool.true_eq_false, Bool.false_eq_true, reduceCtorEq] at h5
                    all_goals try (exfalso; omega)
                    all_goals
                      refine rgnS_call (haheads) rfl rfl (by simp [pureL, pureR, AV.pure, Q.e, Rb.e, eq2, same2_refl]) (by simp [pureL, pureR, AV.pure, Q.e, Rb.e, eq2, same2_refl]) (by simp [gd, get_e0, get_e1, LArg.ev, h1, h2, h3, h4, h5]) ?_
                      apply rgnS_pre 2
                      · repeat (simp -implicitDefEqProofs (maxSteps := 1000000) (disch := first | assumption | omega) [Q.e, Rb.e, eq2, same2_refl, h1, h2, h3, h4, h5]; try simp only [List.getElem?_cons_zero, Option.getD_some, app_val])
                        rfl
                      refine hK _ ?_; clear hK
                      -- leaf 1
                      refine LWP_ret ⟨_, rfl, ?_⟩
                      refine wkV_of_eq ?_
                      simp only [retV]
                      all_goals
                        simp [Nat.add_zero]
                  · try simp only [decide_eq_true_eq, decide_eq_false_iff_not, Bool.not_eq_true', Bool.not_eq_false', Bool.not_true, Bool.not_false, beq_iff_eq, bne_iff_ne, beq_eq_false_iff_ne, bne_eq_false_iff_eq, Bool.and_eq_true, Bool.or_eq_false_iff, Int.not_lt, Int.not_le, Nat.not_lt, Nat.not_le, ne_eq, Bool.true_eq_false, Bool.false_eq_true, reduceCtorEq] at h5
                    all_goals try (exfalso; omega)
                    all_goals
                      apply rgnS_pre 2
                      · repeat (simp -implicitDefEqProofs (maxSteps := 1000000) (disch := first | assumption | omega) [Q.e, Rb.e, eq2, same2_refl, h1, h2, h3, h4, h5]; try simp only [List.getElem?_cons_zero, Option.getD_some, app_val])
                        rfl
                      refine hK _ ?_; clear hK
                      -- leaf 2
                      refine LWP_ret ⟨_, rfl, ?_⟩
                      refine wkV_of_eq ?_
                      simp only [retV]
                      all_goals
                        simp [Nat.add_zero]
              · try simp only [decide_eq_true_eq, decide_eq_false_iff_not, Bool.not_eq_true', Bool.not_eq_false', Bool.not_true, Bool.not_false, beq_iff_eq, bne_iff_ne, beq_eq_false_iff_ne, bne_eq_false_iff_eq, Bool.and_eq_true, Bool.or_eq_false_iff, Int.not_lt, Int.not_le, Nat.not_lt, Nat.not_le, ne_eq, Bool.true_eq_false, Bool.false_eq_true, reduceCtorEq] at h4
                all_goals try (exfalso; omega)
                all_goals
                  apply rgnS_pre 6
                  · repeat (simp -implicitDefEqProofs (maxSteps := 1000000) (disch := first | assumption | omega) [Q.e, Rb.e, eq2, same2_refl, h1, h2, h3, h4]; try simp only [List.getElem?_cons_zero, Option.getD_some, app_val])
                    rfl
                  refine hK _ ?_; clear hK
                  -- leaf 3
                  refine LWP_ret ⟨_, rfl, ?_⟩
                  refine wkV_of_eq ?_
                  simp only [retV]
                  all_goals
                    simp [Nat.add_zero]
          · try simp only [decide_eq_true_eq, decide_eq_false_iff_not, Bool.not_eq_true', Bool.not_eq_false', Bool.not_true, Bool.not_false, beq_iff_eq, bne_iff_ne, beq_eq_false_iff_ne, bne_eq_false_iff_eq, Bool.and_eq_true, Bool.or_eq_false_iff, Int.not_lt, Int.not_le, Nat.not_lt, Nat.not_le, ne_eq, Bool.true_eq_false, Bool.false_eq_true, reduceCtorEq] at h3
            all_goals try (exfalso; omega)
            all_goals
              apply rgnS_pre 8
              · repeat (simp -implicitDefEqProofs (maxSteps := 1000000) (disch := first | assumption | omega) [Q.e, Rb.e, eq2, same2_refl, h1, h2, h3]; try simp only [List.getElem?_cons_zero, Option.getD_some, app_val])
                rfl
              apply rgnS_pre 2
              · repeat (simp -implicitDefEqProofs (maxSteps := 1000000) (disch := first | assumption | omega) [Q.e, Rb.e, eq2, same2_refl, h1, h2, h3]; try simp only [List.getElem?_cons_zero, Option.getD_some, app_val])
                rfl
              refine hK _ ?_; clear hK
              -- leaf 4
              refine LWP_ret ⟨_, rfl, ?_⟩
              refine wkV_of_eq ?_
              simp only [retV]
              all_goals
                simp [Nat.add_zero]
      · try simp only [decide_eq_true_eq, decide_eq_false_iff_not, Bool.not_eq_true', Bool.not_eq_false', Bool.not_true, Bool.not_false, beq_iff_eq, bne_iff_ne, beq_eq_false_iff_ne, bne_eq_false_iff_eq, Bool.and_eq_true, Bool.or_eq_false_iff, Int.not_lt, Int.not_le, Nat.not_lt, Nat.not_le, ne_eq, Bool.true_eq_false, Bool.false_eq_true, reduceCtorEq] at h2
        all_goals try (exfalso; omega)
        all_goals
          refine LWP_skip ?_
          refine LWP_seq ?_
          refine LWP_seq ?_
          apply LWP_run
          · repeat (simp -implicitDefEqProofs (maxSteps := 1000000) (disch := first | assumption | omega) [Q.e, Rb.e, eq2, same2_refl, h1, h2]; try simp only [List.getElem?_cons_zero, Option.getD_some, app_val])
            rfl
          refine LWP_cond rfl (fun h6 => ?_) (fun h6 => ?_)
          · try simp only [decide_eq_true_eq, decide_eq_false_iff_not, Bool.not_eq_true', Bool.not_eq_false', Bool.not_true, Bool.not_false, beq_iff_eq, bne_iff_ne, beq_eq_false_iff_ne, bne_eq_false_iff_eq, Bool.and_eq_true, Bool.or_eq_false_iff, Int.not_lt, Int.not_le, Nat.not_lt, Nat.not_le, ne_eq, Bool.true_eq_false, Bool.false_eq_true, reduceCtorEq] at h6
            all_goals try (exfalso; omega)
            all_goals
              refine LWP_seq ?_
              refine LWP_reg fun K hK => ?_
              refine rgnS_call (haheads) rfl rfl (by simp [pureL, pureR, AV.pure, Q.e, Rb.e, eq2, same2_refl]) (by simp [pureL, pureR, AV.pure, Q.e, Rb.e, eq2, same2_refl]) (by simp [gd, get_e0, get_e1, LArg.ev, h1, h2, h6]) ?_
              apply rgnS_pre 1
              · repeat (simp -implicitDefEqProofs (maxSteps := 1000000) (disch := first | assumption | omega) [Q.e, Rb.e, eq2, same2_refl, h1, h2, h6]; try simp only [List.getElem?_cons_zero, Option.getD_some, app_val])
                rfl
              refine hK _ ?_; clear hK
              -- leaf 5
              refine LWP_ret ⟨_, rfl, ?_⟩
              refine wkV_of_eq ?_
              simp only [retV]
              all_goals
                simp [Nat.add_zero]
          · try simp only [decide_eq_true_eq, decide_eq_false_iff_not, Bool.not_eq_true', Bool.not_eq_false', Bool.not_true, Bool.not_false, beq_iff_eq, bne_iff_ne, beq_eq_false_iff_ne, bne_eq_false_iff_eq, Bool.and_eq_true, Bool.or_eq_false_iff, Int.not_lt, Int.not_le, Nat.not_lt, Nat.not_le, ne_eq, Bool.true_eq_false, Bool.false_eq_true, reduceCtorEq] at h6
            all_goals try (exfalso; omega)
            all_goals
              refine LWP_skip ?_
              refine LWP_seq ?_
              refine LWP_reg fun K hK => ?_
              apply rgnS_pre 5
              · repeat (simp -implicitDefEqProofs (maxSteps := 1000000) (disch := first | assumption | omega) [Q.e, Rb.e, eq2, same2_refl, h1, h2, h6]; try simp only [List.getElem?_cons_zero, Option.getD_some, app_val])
                rfl
              refine rgnS_call (hB) rfl rfl (by simp [pureL, pureR, AV.pure, Q.e, Rb.e, eq2, same2_refl]) (by simp [pureL, pureR, AV.pure, Q.e, Rb.e, eq2, same2_refl]) (by simp [gd, get_e0, get_e1, LArg.ev, h1, h2, h6]) ?_
              apply rgnS_pre 6
              · repeat (simp -implicitDefEqProofs (maxSteps := 1000000) (disch := first | assumption | omega) [Q.e, Rb.e, eq2, same2_refl, h1, h2, h6]; try simp only [List.getElem?_cons_zero, Option.getD_some, app_val])
                rfl
              refine hK _ ?_; clear hK
              refine LWP_seq ?_
              refine LWP_regD' fun K hK => ?_
              apply rgnD_pre 6
              · repeat (simp -implicitDefEqProofs (maxSteps := 1000000) (disch := first | assumption | omega) [Q.e, Rb.e, eq2, same2_refl, h1, h2, h6]; try simp only [List.getElem?_cons_zero, Option.getD_some, app_val])
                rfl
              refine rgnD_call (hS) rfl rfl (by simp [pureL, pureR, AV.pure, Q.e, Rb.e, eq2, same2_refl]) (by simp [pureL, pureR, AV.pure, Q.e, Rb.e, eq2, same2_refl]) (by simp [gd, get_e0, get_e1, LArg.ev, h1, h2, h6]) (by simp (maxSteps := 1000000) (disch := first | assumption | omega) [Q.e, Rb.e, eq2, same2_refl]) ?_
              apply rgnD_pre 6
              · repeat (simp -implicitDefEqProofs (maxSteps := 1000000) (disch := first | assumption | omega) [Q.e, Rb.e, eq2, same2_refl, h1, h2, h6]; try simp only [List.getElem?_cons_zero, Option.getD_some, app_val])
                rfl
              refine hK _ _ (by simp [AS.fin, delAll, del, Nat.add_assoc]; rfl) ?_; clear hK
              refine LWP_seq ?_
              refine LWP_reg fun K hK => ?_
              apply rgnS_pre 3
              · repeat (simp -implicitDefEqProofs (maxSteps := 1000000) (disch := first | assumption | omega) [Q.e, Rb.e, eq2, same2_refl, h1, h2, h6]; try simp only [List.getElem?_cons_zero, Option.getD_some, app_val])
                rfl
              refine rgnS_guard (x := 69) (b := true) rfl (fun h7 => ?_) (fun h7 => ?_)
              · try simp only [decide_eq_true_eq, decide_eq_false_iff_not, Bool.not_eq_true', Bool.not_eq_false', Bool.not_true, Bool.not_false, beq_iff_eq, bne_iff_ne, beq_eq_false_iff_ne, bne_eq_false_iff_eq, Bool.and_eq_true, Bool.or_eq_false_iff, Int.not_lt, Int.not_le, Nat.not_lt, Nat.not_le, ne_eq, Bool.true_eq_false, Bool.false_eq_true, reduceCtorEq] at h7
                all_goals try (exfalso; omega)
                all_goals
                  apply rgnS_pre 4
                  · repeat (simp -implicitDefEqProofs (maxSteps := 1000000) (disch := first | assumption | omega) [Q.e, Rb.e, eq2, same2_refl, h1, h2, h6, h7]; try simp only [List.getElem?_cons_zero, Option.getD_some, app_val])
                    rfl
                  refine rgnS_guard (x := 73) (b := true) rfl (fun h8 => ?_) (fun h8 => ?_)
                  · try simp only [decide_eq_true_eq, decide_eq_false_iff_not, Bool.not_eq_true', Bool.not_eq_false', Bool.not_true, Bool.not_false, beq_iff_eq, bne_iff_ne, beq_eq_false_iff_ne, bne_eq_false_iff_eq, Bool.and_eq_true, Bool.or_eq_false_iff, Int.not_lt, Int.not_le, Nat.not_lt, Nat.not_le, ne_eq, Bool.true_eq_false, Bool.false_eq_true, reduceCtorEq] at h8
                    all_goals try (exfalso; omega)
                    all_goals
                      apply rgnS_pre 5
                      · repeat (simp -implicitDefEqProofs (maxSteps := 1000000) (disch := first | assumption | omega) [Q.e, Rb.e, eq2, same2_refl, h1, h2, h6, h7, h8]; try simp only [List.getElem?_cons_zero, Option.getD_some, app_val])
                        rfl
                      refine rgnS_guard (x := 78) (b := true) rfl (fun h9 => ?_) (fun h9 => ?_)
                      · try simp only [decide_eq_true_eq, decide_eq_false_iff_not, Bool.not_eq_true', Bool.not_eq_false', Bool.not_true, Bool.not_false, beq_iff_eq, bne_iff_ne, beq_eq_false_iff_ne, bne_eq_false_iff_eq, Bool.and_eq_true, Bool.or_eq_false_iff, Int.not_lt, Int.not_le, Nat.not_lt, Nat.not_le, ne_eq, Bool.true_eq_false, Bool.false_eq_true, reduceCtorEq] at h9
                        all_goals try (exfalso; omega)
                        all_goals
                          apply rgnS_pre 5
                          · repeat (simp -implicitDefEqProofs (maxSteps := 1000000) (disch := first | assumption | omega) [Q.e, Rb.e, eq2, same2_refl, h1, h2, h6, h7, h8, h9]; try simp only [List.getElem?_cons_zero, Option.getD_some, app_val])
                            rfl
                          refine rgnS_guard (x := 83) (b := true) rfl (fun h10 => ?_) (fun h10 => ?_)
                          · try simp only [decide_eq_true_eq, decide_eq_false_iff_not, Bool.not_eq_true', Bool.not_eq_false', Bool.not_true, Bool.not_false, beq_iff_eq, bne_iff_ne, beq_eq_false_iff_ne, bne_eq_false_iff_eq, Bool.and_eq_true, Bool.or_eq_false_iff, Int.not_lt, Int.not_le, Nat.not_lt, Nat.not_le, ne_eq, Bool.true_eq_false, Bool.false_eq_true, reduceCtorEq] at h10
                            all_goals try (exfalso; omega)
                            all_goals
                              apply rgnS_pre 2
                              · repeat (simp -implicitDefEqProofs (maxSteps := 1000000) (disch := first | assumption | omega) [Q.e, Rb.e, eq2, same2_refl, h1, h2, h6, h7, h8, h9, h10]; try simp only [List.getElem?_cons_zero, Option.getD_some, app_val])
                                rfl
                              refine rgnS_call (hC) rfl rfl (by simp [pureL, pureR, AV.pure, Q.e, Rb.e, eq2, same2_refl]) (by simp [pureL, pureR, AV.pure, Q.e, Rb.e, eq2, same2_refl]) (by simp [gd, get_e0, get_e1, LArg.ev, h1, h2, h6, h7, h8, h9, h10]) ?_
                              apply rgnS_pre 3
                              · repeat (simp -implicitDefEqProofs (maxSteps := 1000000) (disch := first | assumption | omega) [Q.e, Rb.e, eq2, same2_refl, h1, h2, h6, h7, h8, h9, h10]; try simp only [List.getElem?_cons_zero, Option.getD_some, app_val])
                                rfl
                              refine rgnS_guard (x := 89) (b := true) rfl (fun h11 => ?_) (fun h11 => ?_)
                              · try simp only [decide_eq_true_eq, decide_eq_false_iff_not, Bool.not_eq_true', Bool.not_eq_false', Bool.not_true, Bool.not_false, beq_iff_eq, bne_iff_ne, beq_eq_false_iff_ne, bne_eq_false_iff_eq, Bool.and_eq_true, Bool.or_eq_false_iff, Int.not_lt, Int.not_le, Nat.not_lt, Nat.not_le, ne_eq, Bool.true_eq_false, Bool.false_eq_true, reduceCtorEq] at h11
                                all_goals try (exfalso; omega)
                                all_goals
                                  refine rgnS_call (haheads) rfl rfl (by simp [pureL, pureR, AV.pure, Q.e, Rb.e, eq2, same2_refl]) (by simp [pureL, pureR, AV.pure, Q.e, Rb.e, eq2, same2_refl]) (by simp [gd, get_e0, get_e1, LArg.ev, h1, h2, h6, h7, h8, h9, h10, h11]) ?_
                                  apply rgnS_pre 2
                                  · repeat (simp -implicitDefEqProofs (maxSteps := 1000000) (disch := first | assumption | omega) [Q.e, Rb.e, eq2, same2_refl, h1, h2, h6, h7, h8, h9, h10, h11]; try simp only [List.getElem?_cons_zero, Option.getD_some, app_val])
                                    rfl
                                  refine hK _ ?_; clear hK
                                  -- leaf 6
                                  refine LWP_ret ⟨_, rfl, ?_⟩
                                  refine wkV_of_eq ?_
                                  simp only [retV]
                                  all_goals
                                    simp [Nat.add_zero]
                              · try simp only [decide_eq_true_eq, decide_eq_false_iff_not, Bool.not_eq_true', Bool.not_eq_false', Bool.not_true, Bool.not_false, beq_iff_eq, bne_iff_ne, beq_eq_false_iff_ne, bne_eq_false_iff_eq, Bool.and_eq_true, Bool.or_eq_false_iff, Int.not_lt, Int.not_le, Nat.not_lt, Nat.not_le, ne_eq, Bool.true_eq_false, Bool.false_eq_true, reduceCtorEq] at h11
                                all_goals try (exfalso; omega)
                                all_goals
                                  apply rgnS_pre 2
                                  · repeat (simp -implicitDefEqProofs (maxSteps := 1000000) (disch := first | assumption | omega) [Q.e, Rb.e, eq2, same2_refl, h1, h2, h6, h7, h8, h9, h10, h11]; try simp only [List.getElem?_cons_zero, Option.getD_some, app_val])
                                    rfl
                                  refine hK _ ?_; clear hK
                                  -- leaf 7
                                  refine LWP_ret ⟨_, rfl, ?_⟩
                                  refine wkV_of_eq ?_
                                  simp only [retV]
                                  all_goals
                                    simp [Nat.add_zero]
                          · try simp only [decide_eq_true_eq, decide_eq_false_iff_not, Bool.not_eq_true', Bool.not_eq_false', Bool.not_true, Bool.not_false, beq_iff_eq, bne_iff_ne, beq_eq_false_iff_ne, bne_eq_false_iff_eq, Bool.and_eq_true, Bool.or_eq_false_iff, Int.not_lt, Int.not_le, Nat.not_lt, Nat.not_le, ne_eq, Bool.true_eq_false, Bool.false_eq_true, reduceCtorEq] at h10
                            all_goals try (exfalso; omega)
                            all_goals
                              apply rgnS_pre 8
                              · repeat (simp -implicitDefEqProofs (maxSteps := 1000000) (disch := first | assumption | omega) [Q.e, Rb.e, eq2, same2_refl, h1, h2, h6, h7, h8, h9, h10]; try simp only [List.getElem?_cons_zero, Option.getD_some, app_val])
                                rfl
                              refine hK _ ?_; clear hK
                              -- leaf 8
                              refine LWP_ret ⟨_, rfl, ?_⟩
                              refine wkV_of_eq ?_
                              simp only [retV]
                              all_goals
                                simp [Nat.add_zero]
                      · try simp only [decide_eq_true_eq, decide_eq_false_iff_not, Bool.not_eq_true', Bool.not_eq_false', Bool.not_true, Bool.not_false, beq_iff_eq, bne_iff_ne, beq_eq_false_iff_ne, bne_eq_false_iff_eq, Bool.and_eq_true, Bool.or_eq_false_iff, Int.not_lt, Int.not_le, Nat.not_lt, Nat.not_le, ne_eq, Bool.true_eq_false, Bool.false_eq_true, reduceCtorEq] at h9
                        all_goals try (exfalso; omega)
                        all_goals
                          apply rgnS_pre 8
                          · repeat (simp -implicitDefEqProofs (maxSteps := 1000000) (disch := first | assumption | omega) [Q.e, Rb.e, eq2, same2_refl, h1, h2, h6, h7, h8, h9]; try simp only [List.getElem?_cons_zero, Option.getD_some, app_val])
                            rfl
                          apply rgnS_pre 5
                          · repeat (simp -implicitDefEqProofs (maxSteps := 1000000) (disch := first | assumption | omega) [Q.e, Rb.e, eq2, same2_refl, h1, h2, h6, h7, h8, h9]; try simp only [List.getElem?_cons_zero, Option.getD_some, app_val])
                            rfl
                          refine hK _ ?_; clear hK
                          -- leaf 9
                          refine LWP_ret ⟨_, rfl, ?_⟩
                          refine wkV_of_eq ?_
                          simp only [retV]
                          all_goals
                            simp [Nat.add_zero]
                  · try simp only [decide_eq_true_eq, decide_eq_false_iff_not, Bool.not_eq_true', Bool.not_eq_false', Bool.not_true, Bool.not_false, beq_iff_eq, bne_iff_ne, beq_eq_false_iff_ne, bne_eq_false_iff_eq, Bool.and_eq_true, Bool.or_eq_false_iff, Int.not_lt, Int.not_le, Nat.not_lt, Nat.not_le, ne_eq, Bool.true_eq_false, Bool.false_eq_true, reduceCtorEq] at h8
                    all_goals try (exfalso; omega)
                    all_goals
                      apply rgnS_pre 8
                      · repeat (simp -implicitDefEqProofs (maxSteps := 1000000) (disch := first | assumption | omega) [Q.e, Rb.e, eq2, same2_refl, h1, h2, h6, h7, h8]; try simp only [List.getElem?_cons_zero, Option.getD_some, app_val])
                        rfl
                      apply rgnS_pre 8
                      · repeat (simp -implicitDefEqProofs (maxSteps := 1000000) (disch := first | assumption | omega) [Q.e, Rb.e, eq2, same2_refl, h1, h2, h6, h7, h8]; try simp only [List.getElem?_cons_zero, Option.getD_some, app_val])
                        rfl
                      apply rgnS_pre 2
                      · repeat (simp -implicitDefEqProofs (maxSteps := 1000000) (disch := first | assumption | omega) [Q.e, Rb.e, eq2, same2_refl, h1, h2, h6, h7, h8]; try simp only [List.getElem?_cons_zero, Option.getD_some, app_val])
                        rfl
                      refine hK _ ?_; clear hK
                      -- leaf 10
                      refine LWP_ret ⟨_, rfl, ?_⟩
                      refine wkV_of_eq ?_
                      simp only [retV]
                      all_goals
                        simp [Nat.add_zero]
              · try simp only [decide_eq_true_eq, decide_eq_false_iff_not, Bool.not_eq_true', Bool.not_eq_false', Bool.not_true, Bool.not_false, beq_iff_eq, bne_iff_ne, beq_eq_false_iff_ne, bne_eq_false_iff_eq, Bool.and_eq_true, Bool.or_eq_false_iff, Int.not_lt, Int.not_le, Nat.not_lt, Nat.not_le, ne_eq, Bool.true_eq_false, Bool.false_eq_true, reduceCtorEq] at h7
                all_goals try (exfalso; omega)
                all_goals
                  apply rgnS_pre 8
                  · repeat (simp -implicitDefEqProofs (maxSteps := 1000000) (disch := first | assumption | omega) [Q.e, Rb.e, eq2, same2_refl, h1, h2, h6, h7]; try simp only [List.getElem?_cons_zero, Option.getD_some, app_val])
                    rfl
                  apply rgnS_pre 8
                  · repeat (simp -implicitDefEqProofs (maxSteps := 1000000) (disch := first | assumption | omega) [Q.e, Rb.e, eq2, same2_refl, h1, h2, h6, h7]; try simp only [List.getElem?_cons_zero, Option.getD_some, app_val])
                    rfl
                  apply rgnS_pre 6
                  · repeat (simp -implicitDefEqProofs (maxSteps := 1000000) (disch := first | assumption | omega) [Q.e, Rb.e, eq2, same2_refl, h1, h2, h6, h7]; try simp only [List.getElem?_cons_zero, Option.getD_some, app_val])
                    rfl
                  refine hK _ ?_; clear hK
                  -- leaf 11
                  refine LWP_ret ⟨_, rfl, ?_⟩
                  refine wkV_of_eq ?_
                  simp only [retV]
                  all_goals
                    simp [Nat.add_zero]
end

section
attribute [local simp ↓] List.map_nil List.map_cons
attribute [local simp] m_ o_ g_ stepsS stepS gd opEff appEff LArg.ev app_val app_new app_upd app_kill putV ins_e0 ins_e1 get_e0 get_e1 binV binI grd bnd ldCells AV.cells AV.scalar AV.known setAt fillL chunks elems mxI mnI del Nat.add_assoc nlt_self nne_self nne_self' List.take_of_length_le decT decF wrap_i64 stepsD stepD ST.as dEffF LOp.cls softOK LOp.args LOp.rds AV.ids appD_val appD_new appD_upd appD_kill AS.flush delAll
set_option maxHeartbeats 2000000 in
theorem law_yes (ws : List Rb) (q : Q) (i : Nat) (pn pd ln ld c : Int) (hl : ws.length ≤ 200) (hi : i < ws.length) (hA : ACalls Go.Proofs.Tryz.prog 7 [.tsl 4 (ws.map Rb.e), .agg [.int .i64 q.n, .int .i64 q.d]] [] 0 (fun r _ _ => r = .tup [.int .i64 (i : Nat), .bool true])) (hP : ACalls Go.Proofs.Tryz.prog 8 [.tsl 4 (ws.map Rb.e), .agg [.int .i64 q.n, .int .i64 q.d]] [] 0 (fun r _ _ => r = .tup [.agg [.int .i64 pn, .int .i64 pd], .bool true])) (hp : 0 ≤ pn) (hc : c < 0)
  (hB : ACalls Go.Proofs.Tryz.prog 9 [.agg [.int .i64 ws[i].n, .int .i64 ws[i].d]] [] 0 (fun r _ _ => r = .tup [.agg [.int .i64 ln, .int .i64 ld], .int .i64 0]))
  (hS : ACalls Go.Proofs.Tryz.prog 10 [.agg [.int .i64 ws[i].a, .int .i64 ws[i].c], .agg [.int .i64 pn, .int .i64 pd]] [] 0 (fun r _ _ => r = .tup [.agg [.int .i64 q.n, .int .i64 q.d], .int .i64 0]))
  (hC : ACalls Go.Proofs.Tryz.prog 11 [.agg [.int .i64 pn, .int .i64 pd], .agg [.int .i64 ln, .int .i64 ld]] [] 0 (fun r _ _ => r = .int .i64 c)) : ACalls Go.Proofs.Tryz.prog 3 [.tsl 4 (ws.map Rb.e), .agg q.e] [] 0 (fun r _ _ => r = .bool true) := by
  refine pure_body ok3 rfl ?_
  simp only [parV]
  refine LWP_seq ?_
  apply LWP_run
  · repeat (simp -implicitDefEqProofs (maxSteps := 1000000) (disch := first | assumption | omega) [Q.e, Rb.e, eq2, same2_refl]; try simp only [List.getElem?_cons_zero, Option.getD_some, app_val])
    rfl
  refine LWP_seq ?_
  refine LWP_seq ?_
  apply LWP_run
  · repeat (simp -implicitDefEqProofs (maxSteps := 1000000) (disch := first | assumption | omega) [Q.e, Rb.e, eq2, same2_refl]; try simp only [List.getElem?_cons_zero, Option.getD_some, app_val])
    rfl
  refine LWP_cond rfl (fun h1 => ?_) (fun h1 => ?_)
  · try simp only [decide_eq_true_eq, decide_eq_false_iff_not, Bool.not_eq_true', Bool.not_eq_false', Bool.not_true, Bool.not_false, beq_iff_eq, bne_iff_ne, beq_eq_false_iff_ne, bne_eq_false_iff_eq, Bool.and_eq_true, Bool.or_eq_false_iff, Int.not_lt, Int.not_le, Nat.not_lt, Nat.not_le, ne_eq, Bool.true_eq_false, Bool.false_eq_true, reduceCtorEq] at h1
    all_goals try (exfalso; omega)
    all_goals
      refine LWP_seq ?_
      refine LWP_reg fun K hK => ?_
      refine rgnS_call (haheads) rfl rfl (by simp [pureL, pureR, AV.pure, Q.e, Rb.e, eq2, same2_refl]) (by simp [pureL, pureR, AV.pure, Q.e, Rb.e, eq2, same2_refl]) (by simp [gd, get_e0, get_e1, LArg.ev, h1]) ?_
      apply rgnS_pre 1
      · repeat (simp -implicitDefEqProofs (maxSteps := 1000000) (disch := first | assumption | omega) [Q.e, Rb.e, eq2, same2_refl, h1]; try simp only [List.getElem?_cons_zero, Option.getD_some, app_val])
        rfl
      refine hK _ ?_; clear hK
      -- leaf 0
      refine LWP_ret ⟨_, rfl, ?_⟩
      refine wkV_of_eq ?_
      simp only [retV]
      all_goals
        simp [Nat.add_zero]
  · try simp only [decide_eq_true_eq, decide_eq_false_iff_not, Bool.not_eq_true', Bool.not_eq_false', Bool.not_true, Bool.not_false, beq_iff_eq, bne_iff_ne, beq_eq_false_iff_ne, bne_eq_false_iff_eq, Bool.and_eq_true, Bool.or_eq_false_iff, Int.not_lt, Int.not_le, Nat.not_lt, Nat.not_le, ne_eq, Bool.true_eq_false, Bool.false_eq_true, reduceCtorEq] at h1
    all_goals try (exfalso; omega)
    all_goals
      refine LWP_skip ?_
      refine LWP_seq ?_
      refine LWP_reg fun K hK => ?_
      apply rgnS_pre 2
      · repeat (simp -implicitDefEqProofs (maxSteps := 1000000) (disch := first | assumption | omega) [Q.e, Rb.e, eq2, same2_refl, h1]; try simp only [List.getElem?_cons_zero, Option.getD_some, app_val])
        rfl
      refine rgnS_call (hA) rfl rfl (by simp [pureL, pureR, AV.pure, Q.e, Rb.e, eq2, same2_refl, pureR_rb]) (by simp [pureL, pureR, AV.pure, Q.e, Rb.e, eq2, same2_refl, pureR_rb]) (by simp [gd, get_e0, get_e1, LArg.ev, h1]) ?_
      apply rgnS_pre 5
      · repeat (simp -implicitDefEqProofs (maxSteps := 1000000) (disch := first | assumption | omega) [Q.e, Rb.e, eq2, same2_refl, h1]; try simp only [List.getElem?_cons_zero, Option.getD_some, app_val])
        rfl
      refine hK _ ?_; clear hK
      refine LWP_seq ?_
      refine LWP_reg fun K hK => ?_
      apply rgnS_pre 2
      · repeat (simp -implicitDefEqProofs (maxSteps := 1000000) (disch := first | assumption | omega) [Q.e, Rb.e, eq2, same2_refl, h1]; try simp only [List.getElem?_cons_zero, Option.getD_some, app_val])
        rfl
      refine rgnS_call (hP) rfl rfl (by simp [pureL, pureR, AV.pure, Q.e, Rb.e, eq2, same2_refl, pureR_rb]) (by simp [pureL, pureR, AV.pure, Q.e, Rb.e, eq2, same2_refl, pureR_rb]) (by simp [gd, get_e0, get_e1, LArg.ev, h1]) ?_
      apply rgnS_pre 6
      · repeat (simp -implicitDefEqProofs (maxSteps := 1000000) (disch := first | assumption | omega) [Q.e, Rb.e, eq2, same2_refl, h1]; try simp only [List.getElem?_cons_zero, Option.getD_some, app_val])
        rfl
      refine hK _ ?_; clear hK
      refine LWP_seq ?_
      refine LWP_seq ?_
      apply LWP_run
      · repeat (simp -implicitDefEqProofs (maxSteps := 1000000) (disch := first | assumption | omega) [Q.e, Rb.e, eq2, same2_refl, h1]; try simp only [List.getElem?_cons_zero, Option.getD_some, app_val])
        rfl
      refine LWP_cond rfl (fun h2 => ?_) (fun h2 => ?_)
      · try simp only [decide_eq_true_eq, decide_eq_false_iff_not, Bool.not_eq_true', Bool.not_eq_false', Bool.not_true, Bool.not_false, beq_iff_eq, bne_iff_ne, beq_eq_false_iff_ne, bne_eq_false_iff_eq, Bool.and_eq_true, Bool.or_eq_false_iff, Int.not_lt, Int.not_le, Nat.not_lt, Nat.not_le, ne_eq, Bool.true_eq_false, Bool.false_eq_true, reduceCtorEq] at h2
        all_goals try (exfalso; omega)
        all_goals
          refine LWP_seq ?_
          refine LWP_reg fun K hK => ?_
          apply rgnS_pre 4
          · repeat (simp -implicitDefEqProofs (maxSteps := 1000000) (disch := first | assumption | omega) [Q.e, Rb.e, eq2, same2_refl, h1, h2]; try simp only [List.getElem?_cons_zero, Option.getD_some, app_val])
            rfl
          refine rgnS_guard (x := 34) (b := true) rfl (fun h3 => ?_) (fun h3 => ?_)
          · try simp only [decide_eq_true_eq, decide_eq_false_iff_not, Bool.not_eq_true', Bool.not_eq_false', Bool.not_true, Bool.not_false, beq_iff_eq, bne_iff_ne, beq_eq_false_iff_ne, bne_eq_false_iff_eq, Bool.and_eq_true, Bool.or_eq_false_iff, Int.not_lt, Int.not_le, Nat.not_lt, Nat.not_le, ne_eq, Bool.true_eq_false, Bool.false_eq_true, reduceCtorEq] at h3
            all_goals try (exfalso; omega)
            all_goals
              apply rgnS_pre 4
              · repeat (simp -implicitDefEqProofs (maxSteps := 1000000) (disch := first | assumption | omega) [Q.e, Rb.e, eq2, same2_refl, h1, h2, h3]; try simp only [List.getElem?_cons_zero, Option.getD_some, app_val])
                rfl
              refine rgnS_guard (x := 38) (b := true) rfl (fun h4 => ?_) (fun h4 => ?_)
              · try simp only [decide_eq_true_eq, decide_eq_false_iff_not, Bool.not_eq_true', Bool.not_eq_false', Bool.not_true, Bool.not_false, beq_iff_eq, bne_iff_ne, beq_eq_false_iff_ne, bne_eq_false_iff_eq, Bool.and_eq_true, Bool.or_eq_false_iff, Int.not_lt, Int.not_le, Nat.not_lt, Nat.not_le, ne_eq, Bool.true_eq_false, Bool.false_eq_true, reduceCtorEq] at h4
                all_goals try (exfalso; omega)
                all_goals
                  apply rgnS_pre 4
                  · repeat (simp -implicitDefEqProofs (maxSteps := 1000000) (disch := first | assumption | omega) [Q.e, Rb.e, eq2, same2_refl, h1, h2, h3, h4]; try simp only [List.getElem?_cons_zero, Option.getD_some, app_val])
                    rfl
                  refine rgnS_guard (x := 42) (b := true) rfl (fun h5 => ?_) (fun h5 => ?_)
                  · try simp only [decide_eq_true_eq, decide_eq_false_iff_not, Bool.not_eq_true', Bool.not_eq_false', Bool.not_true, Bool.not_false, beq_iff_eq, bne_iff_ne, beq_eq_false_iff_ne, bne_eq_false_iff_eq, Bool.and_eq_true, Bool.or_eq_false_iff, Int.not_lt, Int.not_le, Nat.not_lt, Nat.not_le, ne_eq, Bool.true_eq_false, Bool.false_eq_true, reduceCtorEq] at h5
                    all_goals try (exfalso; omega)
                    all_goals
                      refine rgnS_call (haheads) rfl rfl (by simp [pureL, pureR, AV.pure, Q.e, Rb.e, eq2, same2_refl]) (by simp [pureL, pureR, AV.pure, Q.e, Rb.e, eq2, same2_refl]) (by simp [gd, get_e0, get_e1, LArg.ev, h1, h2, h3, h4, h5]) ?_
                      apply rgnS_pre 2
                      · repeat (simp -implicitDefEqProofs (maxSteps := 1000000) (disch := first | assumption | omega) [Q.e, Rb.e, eq2, same2_refl, h1, h2, h3, h4, h5]; try simp only [List.getElem?_cons_zero, Option.getD_some, app_val])
                        rfl
                      refine hK _ ?_; clear hK
                      -- leaf 1
                      refine LWP_ret ⟨_, rfl, ?_⟩
                      refine wkV_of_eq ?_
                      simp only [retV]
                      all_goals
                        simp [Nat.add_zero]
                  · try simp only [decide_eq_true_eq, decide_eq_false_iff_not, Bool.not_eq_true', Bool.not_eq_false', Bool.not_true, Bool.not_false, beq_iff_eq, bne_iff_ne, beq_eq_false_iff_ne, bne_eq_false_iff_eq, Bool.and_eq_true, Bool.or_eq_false_iff, Int.not_lt, Int.not_le, Nat.not_lt, Nat.not_le, ne_eq, Bool.true_eq_false, Bool.false_eq_true, reduceCtorEq] at h5
                    all_goals try (exfalso; omega)
                    all_goals
                      apply rgnS_pre 2
                      · repeat (simp -implicitDefEqProofs (maxSteps := 1000000) (disch := first | assumption | omega) [Q.e, Rb.e, eq2, same2_refl, h1, h2, h3, h4, h5]; try simp only [List.getElem?_cons_zero, Option.getD_some, app_val])
                        rfl
                      refine hK _ ?_; clear hK
                      -- leaf 2
                      refine LWP_ret ⟨_, rfl, ?_⟩
                      refine wkV_of_eq ?_
                      simp only [retV]
                      all_goals
                        simp [Nat.add_zero]
              · try simp only [decide_eq_true_eq, decide_eq_false_iff_not, Bool.not_eq_true', Bool.not_eq_false', Bool.not_true, Bool.not_false, beq_iff_eq, bne_iff_ne, beq_eq_false_iff_ne, bne_eq_false_iff_eq, Bool.and_eq_true, Bool.or_eq_false_iff, Int.not_lt, Int.not_le, Nat.not_lt, Nat.not_le, ne_eq, Bool.true_eq_false, Bool.false_eq_true, reduceCtorEq] at h4
                all_goals try (exfalso; omega)
                all_goals
                  apply rgnS_pre 6
                  · repeat (simp -implicitDefEqProofs (maxSteps := 1000000) (disch := first | assumption | omega) [Q.e, Rb.e, eq2, same2_refl, h1, h2, h3, h4]; try simp only [List.getElem?_cons_zero, Option.getD_some, app_val])
                    rfl
                  refine hK _ ?_; clear hK
                  -- leaf 3
                  refine LWP_ret ⟨_, rfl, ?_⟩
                  refine wkV_of_eq ?_
                  simp only [retV]
                  all_goals
                    simp [Nat.add_zero]
          · try simp only [decide_eq_true_eq, decide_eq_false_iff_not, Bool.not_eq_true', Bool.not_eq_false', Bool.not_true, Bool.not_false, beq_iff_eq, bne_iff_ne, beq_eq_false_iff_ne, bne_eq_false_iff_eq, Bool.and_eq_true, Bool.or_eq_false_iff, Int.not_lt, Int.not_le, Nat.not_lt, Nat.not_le, ne_eq, Bool.true_eq_false, Bool.false_eq_true, reduceCtorEq] at h3
            all_goals try (exfalso; omega)
            all_goals
              apply rgnS_pre 8
              · repeat (simp -implicitDefEqProofs (maxSteps := 1000000) (disch := first | assumption | omega) [Q.e, Rb.e, eq2, same2_refl, h1, h2, h3]; try simp only [List.getElem?_cons_zero, Option.getD_some, app_val])
                rfl
              apply rgnS_pre 2
              · repeat (simp -implicitDefEqProofs (maxSteps := 1000000) (disch := first | assumption | omega) [Q.e, Rb.e, eq2, same2_refl, h1, h2, h3]; try simp only [List.getElem?_cons_zero, Option.getD_some, app_val])
                rfl
              refine hK _ ?_; clear hK
              -- leaf 4
              refine LWP_ret ⟨_, rfl, ?_⟩
              refine wkV_of_eq ?_
              simp only [retV]
              all_goals
                simp [Nat.add_zero]
      · try simp only [decide_eq_true_eq, decide_eq_false_iff_not, Bool.not_eq_true', Bool.not_eq_false', Bool.not_true, Bool.not_false, beq_iff_eq, bne_iff_ne, beq_eq_false_iff_ne, bne_eq_false_iff_eq, Bool.and_eq_true, Bool.or_eq_false_iff, Int.not_lt, Int.not_le, Nat.not_lt, Nat.not_le, ne_eq, Bool.true_eq_false, Bool.false_eq_true, reduceCtorEq] at h2
        all_goals try (exfalso; omega)
        all_goals
          refine LWP_skip ?_
          refine LWP_seq ?_
          refine LWP_seq ?_
          apply LWP_run
          · repeat (simp -implicitDefEqProofs (maxSteps := 1000000) (disch := first | assumption | omega) [Q.e, Rb.e, eq2, same2_refl, h1, h2]; try simp only [List.getElem?_cons_zero, Option.getD_some, app_val])
            rfl
          refine LWP_cond rfl (fun h6 => ?_) (fun h6 => ?_)
          · try simp only [decide_eq_true_eq, decide_eq_false_iff_not, Bool.not_eq_true', Bool.not_eq_false', Bool.not_true, Bool.not_false, beq_iff_eq, bne_iff_ne, beq_eq_false_iff_ne, bne_eq_false_iff_eq, Bool.and_eq_true, Bool.or_eq_false_iff, Int.not_lt, Int.not_le, Nat.not_lt, Nat.not_le, ne_eq, Bool.true_eq_false, Bool.false_eq_true, reduceCtorEq] at h6
            all_goals try (exfalso; omega)
            all_goals
              refine LWP_seq ?_
              refine LWP_reg fun K hK => ?_
              refine rgnS_call (haheads) rfl rfl (by simp [pureL, pureR, AV.pure, Q.e, Rb.e, eq2, same2_refl]) (by simp [pureL, pureR, AV.pure, Q.e, Rb.e, eq2, same2_refl]) (by simp [gd, get_e0, get_e1, LArg.ev, h1, h2, h6]) ?_
              apply rgnS_pre 1
              · repeat (simp -implicitDefEqProofs (maxSteps := 1000000) (disch := first | assumption | omega) [Q.e, Rb.e, eq2, same2_refl, h1, h2, h6]; try simp only [List.getElem?_cons_zero, Option.getD_some, app_val])
                rfl
              refine hK _ ?_; clear hK
              -- leaf 5
              refine LWP_ret ⟨_, rfl, ?_⟩
              refine wkV_of_eq ?_
              simp only [retV]
              all_goals
                simp [Nat.add_zero]
          · try simp only [decide_eq_true_eq, decide_eq_false_iff_not, Bool.not_eq_true', Bool.not_eq_false', Bool.not_true, Bool.not_false, beq_iff_eq, bne_iff_ne, beq_eq_false_iff_ne, bne_eq_false_iff_eq, Bool.and_eq_true, Bool.or_eq_false_iff, Int.not_lt, Int.not_le, Nat.not_lt, Nat.not_le, ne_eq, Bool.true_eq_false, Bool.false_eq_true, reduceCtorEq] at h6
            all_goals try (exfalso; omega)
            all_goals
              refine LWP_skip ?_
              refine LWP_seq ?_
              refine LWP_reg fun K hK => ?_
              apply rgnS_pre 5
              · repeat (simp -implicitDefEqProofs (maxSteps := 1000000) (disch := first | assumption | omega) [Q.e, Rb.e, eq2, same2_refl, h1, h2, h6]; try simp only [List.getElem?_cons_zero, Option.getD_some, app_val])
                rfl
              refine rgnS_call (hB) rfl rfl (by simp [pureL, pureR, AV.pure, Q.e, Rb.e, eq2, same2_refl]) (by simp [pureL, pureR, AV.pure, Q.e, Rb.e, eq2, same2_refl]) (by simp [gd, get_e0, get_e1, LArg.ev, h1, h2, h6]) ?_
              apply rgnS_pre 6
              · repeat (simp -implicitDefEqProofs (maxSteps := 1000000) (disch := first | assumption | omega) [Q.e, Rb.e, eq2, same2_refl, h1, h2, h6]; try simp only [List.getElem?_cons_zero, Option.getD_some, app_val])
                rfl
              refine hK _ ?_; clear hK
              refine LWP_seq ?_
              refine LWP_regD' fun K hK => ?_
              apply rgnD_pre 6
              · repeat (simp -implicitDefEqProofs (maxSteps := 1000000) (disch := first | assumption | omega) [Q.e, Rb.e, eq2, same2_refl, h1, h2, h6]; try simp only [List.getElem?_cons_zero, Option.getD_some, app_val])
                rfl
              refine rgnD_call (hS) rfl rfl (by simp [pureL, pureR, AV.pure, Q.e, Rb.e, eq2, same2_refl]) (by simp [pureL, pureR, AV.pure, Q.e, Rb.e, eq2, same2_refl]) (by simp [gd, get_e0, get_e1, LArg.ev, h1, h2, h6]) (by simp (maxSteps := 1000000) (disch := first | assumption | omega) [Q.e, Rb.e, eq2, same2_refl]) ?_
              apply rgnD_pre 6
              · repeat (simp -implicitDefEqProofs (maxSteps := 1000000) (disch := first | assumption | omega) [Q.e, Rb.e, eq2, same2_refl, h1, h2, h6]; try simp only [List.getElem?_cons_zero, Option.getD_some, app_val])
                rfl
              refine hK _ _ (by simp [AS.fin, delAll, del, Nat.add_assoc]; rfl) ?_; clear hK
              refine LWP_seq ?_
              refine LWP_reg fun K hK => ?_
              apply rgnS_pre 3
              · repeat (simp -implicitDefEqProofs (maxSteps := 1000000) (disch := first | assumption | omega) [Q.e, Rb.e, eq2, same2_refl, h1, h2, h6]; try simp only [List.getElem?_cons_zero, Option.getD_some, app_val])
                rfl
              refine rgnS_guard (x := 69) (b := true) rfl (fun h7 => ?_) (fun h7 => ?_)
              · try simp only [decide_eq_true_eq, decide_eq_false_iff_not, Bool.not_eq_true', Bool.not_eq_false', Bool.not_true, Bool.not_false, beq_iff_eq, bne_iff_ne, beq_eq_false_iff_ne, bne_eq_false_iff_eq, Bool.and_eq_true, Bool.or_eq_false_iff, Int.not_lt, Int.not_le, Nat.not_lt, Nat.not_le, ne_eq, Bool.true_eq_false, Bool.false_eq_true, reduceCtorEq] at h7
                all_goals try (exfalso; omega)
                all_goals
                  apply rgnS_pre 4
                  · repeat (simp -implicitDefEqProofs (maxSteps := 1000000) (disch := first | assumption | omega) [Q.e, Rb.e, eq2, same2_refl, h1, h2, h6, h7]; try simp only [List.getElem?_cons_zero, Option.getD_some, app_val])
                    rfl
                  refine rgnS_guard (x := 73) (b := true) rfl (fun h8 => ?_) (fun h8 => ?_)
                  · try simp only [decide_eq_true_eq, decide_eq_false_iff_not, Bool.not_eq_true', Bool.not_eq_false', Bool.not_true, Bool.not_false, beq_iff_eq, bne_iff_ne, beq_eq_false_iff_ne, bne_eq_false_iff_eq, Bool.and_eq_true, Bool.or_eq_false_iff, Int.not_lt, Int.not_le, Nat.not_lt, Nat.not_le, ne_eq, Bool.true_eq_false, Bool.false_eq_true, reduceCtorEq] at h8
                    all_goals try (exfalso; omega)
                    all_goals
                      apply rgnS_pre 5
                      · repeat (simp -implicitDefEqProofs (maxSteps := 1000000) (disch := first | assumption | omega) [Q.e, Rb.e, eq2, same2_refl, h1, h2, h6, h7, h8]; try simp only [List.getElem?_cons_zero, Option.getD_some, app_val])
                        rfl
                      refine rgnS_guard (x := 78) (b := true) rfl (fun h9 => ?_) (fun h9 => ?_)
                      · try simp only [decide_eq_true_eq, decide_eq_false_iff_not, Bool.not_eq_true', Bool.not_eq_false', Bool.not_true, Bool.not_false, beq_iff_eq, bne_iff_ne, beq_eq_false_iff_ne, bne_eq_false_iff_eq, Bool.and_eq_true, Bool.or_eq_false_iff, Int.not_lt, Int.not_le, Nat.not_lt, Nat.not_le, ne_eq, Bool.true_eq_false, Bool.false_eq_true, reduceCtorEq] at h9
                        all_goals try (exfalso; omega)
                        all_goals
                          apply rgnS_pre 5
                          · repeat (simp -implicitDefEqProofs (maxSteps := 1000000) (disch := first | assumption | omega) [Q.e, Rb.e, eq2, same2_refl, h1, h2, h6, h7, h8, h9]; try simp only [List.getElem?_cons_zero, Option.getD_some, app_val])
                            rfl
                          refine rgnS_guard (x := 83) (b := true) rfl (fun h10 => ?_) (fun h10 => ?_)
                          · try simp only [decide_eq_true_eq, decide_eq_false_iff_not, Bool.not_eq_true', Bool.not_eq_false', Bool.not_true, Bool.not_false, beq_iff_eq, bne_iff_ne, beq_eq_false_iff_ne, bne_eq_false_iff_eq, Bool.and_eq_true, Bool.or_eq_false_iff, Int.not_lt, Int.not_le, Nat.not_lt, Nat.not_le, ne_eq, Bool.true_eq_false, Bool.false_eq_true, reduceCtorEq] at h10
                            all_goals try (exfalso; omega)
                            all_goals
                              apply rgnS_pre 2
                              · repeat (simp -implicitDefEqProofs (maxSteps := 1000000) (disch := first | assumption | omega) [Q.e, Rb.e, eq2, same2_refl, h1, h2, h6, h7, h8, h9, h10]; try simp only [List.getElem?_cons_zero, Option.getD_some, app_val])
                                rfl
                              refine rgnS_call (hC) rfl rfl (by simp [pureL, pureR, AV.pure, Q.e, Rb.e, eq2, same2_refl]) (by simp [pureL, pureR, AV.pure, Q.e, Rb.e, eq2, same2_refl]) (by simp [gd, get_e0, get_e1, LArg.ev, h1, h2, h6, h7, h8, h9, h10]) ?_
                              apply rgnS_pre 3
                              · repeat (simp -implicitDefEqProofs (maxSteps := 1000000) (disch := first | assumption | omega) [Q.e, Rb.e, eq2, same2_refl, h1, h2, h6, h7, h8, h9, h10]; try simp only [List.getElem?_cons_zero, Option.getD_some, app_val])
                                rfl
                              refine rgnS_guard (x := 89) (b := true) rfl (fun h11 => ?_) (fun h11 => ?_)
                              · try simp only [decide_eq_true_eq, decide_eq_false_iff_not, Bool.not_eq_true', Bool.not_eq_false', Bool.not_true, Bool.not_false, beq_iff_eq, bne_iff_ne, beq_eq_false_iff_ne, bne_eq_false_iff_eq, Bool.and_eq_true, Bool.or_eq_false_iff, Int.not_lt, Int.not_le, Nat.not_lt, Nat.not_le, ne_eq, Bool.true_eq_false, Bool.false_eq_true, reduceCtorEq] at h11
                                all_goals try (exfalso; omega)
                                all_goals
                                  refine rgnS_call (haheads) rfl rfl (by simp [pureL, pureR, AV.pure, Q.e, Rb.e, eq2, same2_refl]) (by simp [pureL, pureR, AV.pure, Q.e, Rb.e, eq2, same2_refl]) (by simp [gd, get_e0, get_e1, LArg.ev, h1, h2, h6, h7, h8, h9, h10, h11]) ?_
                                  apply rgnS_pre 2
                                  · repeat (simp -implicitDefEqProofs (maxSteps := 1000000) (disch := first | assumption | omega) [Q.e, Rb.e, eq2, same2_refl, h1, h2, h6, h7, h8, h9, h10, h11]; try simp only [List.getElem?_cons_zero, Option.getD_some, app_val])
                                    rfl
                                  refine hK _ ?_; clear hK
                                  -- leaf 6
                                  refine LWP_ret ⟨_, rfl, ?_⟩
                                  refine wkV_of_eq ?_
                                  simp only [retV]
                                  all_goals
                                    simp [Nat.add_zero]
                              · try simp only [decide_eq_true_eq, decide_eq_false_iff_not, Bool.not_eq_true', Bool.not_eq_false', Bool.not_true, Bool.not_false, beq_iff_eq, bne_iff_ne, beq_eq_false_iff_ne, bne_eq_false_iff_eq, Bool.and_eq_true, Bool.or_eq_false_iff, Int.not_lt, Int.not_le, Nat.not_lt, Nat.not_le, ne_eq, Bool.true_eq_false, Bool.false_eq_true, reduceCtorEq] at h11
                                all_goals try (exfalso; omega)
                                all_goals
                                  apply rgnS_pre 2
                                  · repeat (simp -implicitDefEqProofs (maxSteps := 1000000) (disch := first | assumption | omega) [Q.e, Rb.e, eq2, same2_refl, h1, h2, h6, h7, h8, h9, h10, h11]; try simp only [List.getElem?_cons_zero, Option.getD_some, app_val])
                                    rfl
                                  refine hK _ ?_; clear hK
                                  -- leaf 7
                                  refine LWP_ret ⟨_, rfl, ?_⟩
                                  refine wkV_of_eq ?_
                                  simp only [retV]
                                  all_goals
                                    simp [Nat.add_zero]
                          · try simp only [decide_eq_true_eq, decide_eq_false_iff_not, Bool.not_eq_true', Bool.not_eq_false', Bool.not_true, Bool.not_false, beq_iff_eq, bne_iff_ne, beq_eq_false_iff_ne, bne_eq_false_iff_eq, Bool.and_eq_true, Bool.or_eq_false_iff, Int.not_lt, Int.not_le, Nat.not_lt, Nat.not_le, ne_eq, Bool.true_eq_false, Bool.false_eq_true, reduceCtorEq] at h10
                            all_goals try (exfalso; omega)
                            all_goals
                              apply rgnS_pre 8
                              · repeat (simp -implicitDefEqProofs (maxSteps := 1000000) (disch := first | assumption | omega) [Q.e, Rb.e, eq2, same2_refl, h1, h2, h6, h7, h8, h9, h10]; try simp only [List.getElem?_cons_zero, Option.getD_some, app_val])
                                rfl
                              refine hK _ ?_; clear hK
                              -- leaf 8
                              refine LWP_ret ⟨_, rfl, ?_⟩
                              refine wkV_of_eq ?_
                              simp only [retV]
                              all_goals
                                simp [Nat.add_zero]
                      · try simp only [decide_eq_true_eq, decide_eq_false_iff_not, Bool.not_eq_true', Bool.not_eq_false', Bool.not_true, Bool.not_false, beq_iff_eq, bne_iff_ne, beq_eq_false_iff_ne, bne_eq_false_iff_eq, Bool.and_eq_true, Bool.or_eq_false_iff, Int.not_lt, Int.not_le, Nat.not_lt, Nat.not_le, ne_eq, Bool.true_eq_false, Bool.false_eq_true, reduceCtorEq] at h9
                        all_goals try (exfalso; omega)
                        all_goals
                          apply rgnS_pre 8
                          · repeat (simp -implicitDefEqProofs (maxSteps := 1000000) (disch := first | assumption | omega) [Q.e, Rb.e, eq2, same2_refl, h1, h2, h6, h7, h8, h9]; try simp only [List.getElem?_cons_zero, Option.getD_some, app_val])
                            rfl
                          apply rgnS_pre 5
                          · repeat (simp -implicitDefEqProofs (maxSteps := 1000000) (disch := first | assumption | omega) [Q.e, Rb.e, eq2, same2_refl, h1, h2, h6, h7, h8, h9]; try simp only [List.getElem?_cons_zero, Option.getD_some, app_val])
                            rfl
                          refine hK _ ?_; clear hK
                          -- leaf 9
                          refine LWP_ret ⟨_, rfl, ?_⟩
                          refine wkV_of_eq ?_
                          simp only [retV]
                          all_goals
                            simp [Nat.add_zero]
                  · try simp only [decide_eq_true_eq, decide_eq_false_iff_not, Bool.not_eq_true', Bool.not_eq_false', Bool.not_true, Bool.not_false, beq_iff_eq, bne_iff_ne, beq_eq_false_iff_ne, bne_eq_false_iff_eq, Bool.and_eq_true, Bool.or_eq_false_iff, Int.not_lt, Int.not_le, Nat.not_lt, Nat.not_le, ne_eq, Bool.true_eq_false, Bool.false_eq_true, reduceCtorEq] at h8
                    all_goals try (exfalso; omega)
                    all_goals
                      apply rgnS_pre 8
                      · repeat (simp -implicitDefEqProofs (maxSteps := 1000000) (disch := first | assumption | omega) [Q.e, Rb.e, eq2, same2_refl, h1, h2, h6, h7, h8]; try simp only [List.getElem?_cons_zero, Option.getD_some, app_val])
                        rfl
                      apply rgnS_pre 8
                      · repeat (simp -implicitDefEqProofs (maxSteps := 1000000) (disch := first | assumption | omega) [Q.e, Rb.e, eq2, same2_refl, h1, h2, h6, h7, h8]; try simp only [List.getElem?_cons_zero, Option.getD_some, app_val])
                        rfl
                      apply rgnS_pre 2
                      · repeat (simp -implicitDefEqProofs (maxSteps := 1000000) (disch := first | assumption | omega) [Q.e, Rb.e, eq2, same2_refl, h1, h2, h6, h7, h8]; try simp only [List.getElem?_cons_zero, Option.getD_some, app_val])
                        rfl
                      refine hK _ ?_; clear hK
                      -- leaf 10
                      refine LWP_ret ⟨_, rfl, ?_⟩
                      refine wkV_of_eq ?_
                      simp only [retV]
                      all_goals
                        simp [Nat.add_zero]
              · try simp only [decide_eq_true_eq, decide_eq_false_iff_not, Bool.not_eq_true', Bool.not_eq_false', Bool.not_true, Bool.not_false, beq_iff_eq, bne_iff_ne, beq_eq_false_iff_ne, bne_eq_false_iff_eq, Bool.and_eq_true, Bool.or_eq_false_iff, Int.not_lt, Int.not_le, Nat.not_lt, Nat.not_le, ne_eq, Bool.true_eq_false, Bool.false_eq_true, reduceCtorEq] at h7
                all_goals try (exfalso; omega)
                all_goals
                  apply rgnS_pre 8
                  · repeat (simp -implicitDefEqProofs (maxSteps := 1000000) (disch := first | assumption | omega) [Q.e, Rb.e, eq2, same2_refl, h1, h2, h6, h7]; try simp only [List.getElem?_cons_zero, Option.getD_some, app_val])
                    rfl
                  apply rgnS_pre 8
                  · repeat (simp -implicitDefEqProofs (maxSteps := 1000000) (disch := first | assumption | omega) [Q.e, Rb.e, eq2, same2_refl, h1, h2, h6, h7]; try simp only [List.getElem?_cons_zero, Option.getD_some, app_val])
                    rfl
                  apply rgnS_pre 6
                  · repeat (simp -implicitDefEqProofs (maxSteps := 1000000) (disch := first | assumption | omega) [Q.e, Rb.e, eq2, same2_refl, h1, h2, h6, h7]; try simp only [List.getElem?_cons_zero, Option.getD_some, app_val])
                    rfl
                  refine hK _ ?_; clear hK
                  -- leaf 11
                  refine LWP_ret ⟨_, rfl, ?_⟩
                  refine wkV_of_eq ?_
                  simp only [retV]
                  all_goals
                    simp [Nat.add_zero]
end

end Go.AM.Ez
