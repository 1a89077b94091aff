/- A part of a proof about the given program: what its name says. No premise beyond the statements'. -/
import Derived.Test.YtjfmkhihhdhnnaaGreatEzRefA
set_option linter.unusedSimpArgs false
set_option linter.unusedVariables false
/- The second opinion: meters, bars. -/
namespace Go.AM.Ez
open Go.AM

section
attribute [local simp ↓] List.map_nil List.map_cons
attribute [local simp] m_ o_ g_ stepsS stepS gd opEff appEff LArg.ev app_val app_new app_upd app_kill putV ins_e0 ins_e1 get_e0 get_e1 binV binI grd bnd ldCells AV.cells AV.scalar AV.known setAt fillL chunks elems mxI mnI del Nat.add_assoc nlt_self nne_self nne_self' List.take_of_length_le decT decF wrap_i64 stepsD stepD ST.as dEffF LOp.cls softOK LOp.args LOp.rds AV.ids appD_val appD_new appD_upd appD_kill AS.flush delAll
set_option maxHeartbeats 2000000 in
theorem rmeter_ok (n d : Int)  : ACalls Go.Proofs.Tryz.prog 25 [.agg [.int .i64 n, .int .i64 d]] [] 0 (fun r _ _ => r = .bool (mR n d)) := by
  refine pure_body ok25 rfl ?_
  simp only [parV]
  refine LWP_seq ?_
  apply LWP_run
  · repeat (simp -implicitDefEqProofs (maxSteps := 1000000) (disch := first | assumption | omega) [beqF, beqT]; try simp only [List.getElem?_cons_zero, Option.getD_some, app_val])
    rfl
  refine LWP_seq ?_
  refine LWP_reg fun K hK => ?_
  apply rgnS_pre 4
  · repeat (simp -implicitDefEqProofs (maxSteps := 1000000) (disch := first | assumption | omega) [beqF, beqT]; try simp only [List.getElem?_cons_zero, Option.getD_some, app_val])
    rfl
  refine rgnS_guard (x := 6) (b := true) rfl (fun h1 => ?_) (fun h1 => ?_)
  · try simp only [decide_eq_true_eq, decide_eq_false_iff_not, Bool.not_eq_true', Bool.not_eq_false', Bool.not_true, Bool.not_false, beq_iff_eq, bne_iff_ne, beq_eq_false_iff_ne, bne_eq_false_iff_eq, Bool.and_eq_true, Bool.or_eq_false_iff, Int.not_lt, Int.not_le, Nat.not_lt, Nat.not_le, ne_eq, Bool.true_eq_false, Bool.false_eq_true, reduceCtorEq] at h1
    all_goals try (exfalso; omega)
    all_goals
      apply rgnS_pre 5
      · repeat (simp -implicitDefEqProofs (maxSteps := 1000000) (disch := first | assumption | omega) [beqF, beqT, h1]; try simp only [List.getElem?_cons_zero, Option.getD_some, app_val])
        rfl
      refine rgnS_guard (x := 11) (b := true) rfl (fun h2 => ?_) (fun h2 => ?_)
      · try simp only [decide_eq_true_eq, decide_eq_false_iff_not, Bool.not_eq_true', Bool.not_eq_false', Bool.not_true, Bool.not_false, beq_iff_eq, bne_iff_ne, beq_eq_false_iff_ne, bne_eq_false_iff_eq, Bool.and_eq_true, Bool.or_eq_false_iff, Int.not_lt, Int.not_le, Nat.not_lt, Nat.not_le, ne_eq, Bool.true_eq_false, Bool.false_eq_true, reduceCtorEq] at h2
        all_goals try (exfalso; omega)
        all_goals
          apply rgnS_pre 4
          · repeat (simp -implicitDefEqProofs (maxSteps := 1000000) (disch := first | assumption | omega) [beqF, beqT, h1, h2]; try simp only [List.getElem?_cons_zero, Option.getD_some, app_val])
            rfl
          refine rgnS_guard (x := 15) (b := false) rfl (fun h3 => ?_) (fun h3 => ?_)
          · try simp only [decide_eq_true_eq, decide_eq_false_iff_not, Bool.not_eq_true', Bool.not_eq_false', Bool.not_true, Bool.not_false, beq_iff_eq, bne_iff_ne, beq_eq_false_iff_ne, bne_eq_false_iff_eq, Bool.and_eq_true, Bool.or_eq_false_iff, Int.not_lt, Int.not_le, Nat.not_lt, Nat.not_le, ne_eq, Bool.true_eq_false, Bool.false_eq_true, reduceCtorEq] at h3
            all_goals try (exfalso; omega)
            all_goals
              apply rgnS_pre 5
              · repeat (simp -implicitDefEqProofs (maxSteps := 1000000) (disch := first | assumption | omega) [beqF, beqT, h1, h2, h3]; try simp only [List.getElem?_cons_zero, Option.getD_some, app_val])
                rfl
              refine rgnS_guard (x := 20) (b := false) rfl (fun h4 => ?_) (fun h4 => ?_)
              · try simp only [decide_eq_true_eq, decide_eq_false_iff_not, Bool.not_eq_true', Bool.not_eq_false', Bool.not_true, Bool.not_false, beq_iff_eq, bne_iff_ne, beq_eq_false_iff_ne, bne_eq_false_iff_eq, Bool.and_eq_true, Bool.or_eq_false_iff, Int.not_lt, Int.not_le, Nat.not_lt, Nat.not_le, ne_eq, Bool.true_eq_false, Bool.false_eq_true, reduceCtorEq] at h4
                all_goals try (exfalso; omega)
                all_goals
                  apply rgnS_pre 5
                  · repeat (simp -implicitDefEqProofs (maxSteps := 1000000) (disch := first | assumption | omega) [beqF, beqT, h1, h2, h3, h4]; try simp only [List.getElem?_cons_zero, Option.getD_some, app_val])
                    rfl
                  refine rgnS_guard (x := 25) (b := false) rfl (fun h5 => ?_) (fun h5 => ?_)
                  · try simp only [decide_eq_true_eq, decide_eq_false_iff_not, Bool.not_eq_true', Bool.not_eq_false', Bool.not_true, Bool.not_false, beq_iff_eq, bne_iff_ne, beq_eq_false_iff_ne, bne_eq_false_iff_eq, Bool.and_eq_true, Bool.or_eq_false_iff, Int.not_lt, Int.not_le, Nat.not_lt, Nat.not_le, ne_eq, Bool.true_eq_false, Bool.false_eq_true, reduceCtorEq] at h5
                    all_goals try (exfalso; omega)
                    all_goals
                      apply rgnS_pre 5
                      · repeat (simp -implicitDefEqProofs (maxSteps := 1000000) (disch := first | assumption | omega) [beqF, beqT, h1, h2, h3, h4, h5]; try simp only [List.getElem?_cons_zero, Option.getD_some, app_val])
                        rfl
                      refine rgnS_guard (x := 30) (b := false) rfl (fun h6 => ?_) (fun h6 => ?_)
                      · try simp only [decide_eq_true_eq, decide_eq_false_iff_not, Bool.not_eq_true', Bool.not_eq_false', Bool.not_true, Bool.not_false, beq_iff_eq, bne_iff_ne, beq_eq_false_iff_ne, bne_eq_false_iff_eq, Bool.and_eq_true, Bool.or_eq_false_iff, Int.not_lt, Int.not_le, Nat.not_lt, Nat.not_le, ne_eq, Bool.true_eq_false, Bool.false_eq_true, reduceCtorEq] at h6
                        all_goals try (exfalso; omega)
                        all_goals
                          apply rgnS_pre 5
                          · repeat (simp -implicitDefEqProofs (maxSteps := 1000000) (disch := first | assumption | omega) [beqF, beqT, h1, h2, h3, h4, h5, h6]; try simp only [List.getElem?_cons_zero, Option.getD_some, app_val])
                            rfl
                          refine rgnS_guard (x := 35) (b := false) rfl (fun h7 => ?_) (fun h7 => ?_)
                          · try simp only [decide_eq_true_eq, decide_eq_false_iff_not, Bool.not_eq_true', Bool.not_eq_false', Bool.not_true, Bool.not_false, beq_iff_eq, bne_iff_ne, beq_eq_false_iff_ne, bne_eq_false_iff_eq, Bool.and_eq_true, Bool.or_eq_false_iff, Int.not_lt, Int.not_le, Nat.not_lt, Nat.not_le, ne_eq, Bool.true_eq_false, Bool.false_eq_true, reduceCtorEq] at h7
                            all_goals try (exfalso; omega)
                            all_goals
                              apply rgnS_pre 6
                              · repeat (simp -implicitDefEqProofs (maxSteps := 1000000) (disch := first | assumption | omega) [beqF, beqT, h1, h2, h3, h4, h5, h6, h7]; try simp only [List.getElem?_cons_zero, Option.getD_some, app_val])
                                rfl
                              refine hK _ ?_; clear hK
                              -- leaf 0
                              refine LWP_ret ⟨_, rfl, ?_⟩
                              refine wkV_of_eq ?_
                              simp only [retV]
                              all_goals
                                simp only [mR]
                                congr 1
                                rw [Bool.eq_iff_iff]
                                simp only [beq_iff_eq, decide_eq_true_eq, Bool.false_eq_true, false_iff, true_iff]
                                omega
                          · try simp only [decide_eq_true_eq, decide_eq_false_iff_not, Bool.not_eq_true', Bool.not_eq_false', Bool.not_true, Bool.not_false, beq_iff_eq, bne_iff_ne, beq_eq_false_iff_ne, bne_eq_false_iff_eq, Bool.and_eq_true, Bool.or_eq_false_iff, Int.not_lt, Int.not_le, Nat.not_lt, Nat.not_le, ne_eq, Bool.true_eq_false, Bool.false_eq_true, reduceCtorEq] at h7
                            all_goals try (exfalso; omega)
                            all_goals
                              apply rgnS_pre 5
                              · repeat (simp -implicitDefEqProofs (maxSteps := 1000000) (disch := first | assumption | omega) [beqF, beqT, h1, h2, h3, h4, h5, h6, h7]; try simp only [List.getElem?_cons_zero, Option.getD_some, app_val])
                                rfl
                              refine hK _ ?_; clear hK
                              -- leaf 1
                              refine LWP_ret ⟨_, rfl, ?_⟩
                              refine wkV_of_eq ?_
                              simp only [retV]
                              all_goals
                                simp only [mR]
                                congr 1
                                rw [Bool.eq_iff_iff]
                                simp only [beq_iff_eq, decide_eq_true_eq, Bool.false_eq_true, false_iff, true_iff]
                                omega
                      · try simp only [decide_eq_true_eq, decide_eq_false_iff_not, Bool.not_eq_true', Bool.not_eq_false', Bool.not_true, Bool.not_false, beq_iff_eq, bne_iff_ne, beq_eq_false_iff_ne, bne_eq_false_iff_eq, Bool.and_eq_true, Bool.or_eq_false_iff, Int.not_lt, Int.not_le, Nat.not_lt, Nat.not_le, ne_eq, Bool.true_eq_false, Bool.false_eq_true, reduceCtorEq] at h6
                        all_goals try (exfalso; omega)
                        all_goals
                          apply rgnS_pre 8
                          · repeat (simp -implicitDefEqProofs (maxSteps := 1000000) (disch := first | assumption | omega) [beqF, beqT, h1, h2, h3, h4, h5, h6]; try simp only [List.getElem?_cons_zero, Option.getD_some, app_val])
                            rfl
                          apply rgnS_pre 2
                          · repeat (simp -implicitDefEqProofs (maxSteps := 1000000) (disch := first | assumption | omega) [beqF, beqT, h1, h2, h3, h4, h5, h6]; try simp only [List.getElem?_cons_zero, Option.getD_some, app_val])
                            rfl
                          refine hK _ ?_; clear hK
                          -- leaf 2
                          refine LWP_ret ⟨_, rfl, ?_⟩
                          refine wkV_of_eq ?_
                          simp only [retV]
                          all_goals
                            simp only [mR]
                            congr 1
                            rw [Bool.eq_iff_iff]
                            simp only [beq_iff_eq, decide_eq_true_eq, Bool.false_eq_true, false_iff, true_iff]
                            omega
                  · try simp only [decide_eq_true_eq, decide_eq_false_iff_not, Bool.not_eq_true', Bool.not_eq_false', Bool.not_true, Bool.not_false, beq_iff_eq, bne_iff_ne, beq_eq_false_iff_ne, bne_eq_false_iff_eq, Bool.and_eq_true, Bool.or_eq_false_iff, Int.not_lt, Int.not_le, Nat.not_lt, Nat.not_le, ne_eq, Bool.true_eq_false, Bool.false_eq_true, reduceCtorEq] at h5
                    all_goals try (exfalso; omega)
                    all_goals
                      apply rgnS_pre 8
                      · repeat (simp -implicitDefEqProofs (maxSteps := 1000000) (disch := first | assumption | omega) [beqF, beqT, h1, h2, h3, h4, h5]; try simp only [List.getElem?_cons_zero, Option.getD_some, app_val])
                        rfl
                      apply rgnS_pre 7
                      · repeat (simp -implicitDefEqProofs (maxSteps := 1000000) (disch := first | assumption | omega) [beqF, beqT, h1, h2, h3, h4, h5]; try simp only [List.getElem?_cons_zero, Option.getD_some, app_val])
                        rfl
                      refine hK _ ?_; clear hK
                      -- leaf 3
                      refine LWP_ret ⟨_, rfl, ?_⟩
                      refine wkV_of_eq ?_
                      simp only [retV]
                      all_goals
                        simp only [mR]
                        congr 1
                        rw [Bool.eq_iff_iff]
                        simp only [beq_iff_eq, decide_eq_true_eq, Bool.false_eq_true, false_iff, true_iff]
                        omega
              · try simp only [decide_eq_true_eq, decide_eq_false_iff_not, Bool.not_eq_true', Bool.not_eq_false', Bool.not_true, Bool.not_false, beq_iff_eq, bne_iff_ne, beq_eq_false_iff_ne, bne_eq_false_iff_eq, Bool.and_eq_true, Bool.or_eq_false_iff, Int.not_lt, Int.not_le, Nat.not_lt, Nat.not_le, ne_eq, Bool.true_eq_false, Bool.false_eq_true, reduceCtorEq] at h4
                all_goals try (exfalso; omega)
                all_goals
                  apply rgnS_pre 8
                  · repeat (simp -implicitDefEqProofs (maxSteps := 1000000) (disch := first | assumption | omega) [beqF, beqT, h1, h2, h3, h4]; try simp only [List.getElem?_cons_zero, Option.getD_some, app_val])
                    rfl
                  apply rgnS_pre 8
                  · repeat (simp -implicitDefEqProofs (maxSteps := 1000000) (disch := first | assumption | omega) [beqF, beqT, h1, h2, h3, h4]; try simp only [List.getElem?_cons_zero, Option.getD_some, app_val])
                    rfl
                  apply rgnS_pre 4
                  · repeat (simp -implicitDefEqProofs (maxSteps := 1000000) (disch := first | assumption | omega) [beqF, beqT, h1, h2, h3, h4]; try simp only [List.getElem?_cons_zero, Option.getD_some, app_val])
                    rfl
                  refine hK _ ?_; clear hK
                  -- leaf 4
                  refine LWP_ret ⟨_, rfl, ?_⟩
                  refine wkV_of_eq ?_
                  simp only [retV]
                  all_goals
                    simp only [mR]
                    congr 1
                    rw [Bool.eq_iff_iff]
                    simp only [beq_iff_eq, decide_eq_true_eq, Bool.false_eq_true, false_iff, true_iff]
                    omega
          · try simp only [decide_eq_true_eq, decide_eq_false_iff_not, Bool.not_eq_true', Bool.not_eq_false', Bool.not_true, Bool.not_false, beq_iff_eq, bne_iff_ne, beq_eq_false_iff_ne, bne_eq_false_iff_eq, Bool.and_eq_true, Bool.or_eq_false_iff, Int.not_lt, Int.not_le, Nat.not_lt, Nat.not_le, ne_eq, Bool.true_eq_false, Bool.false_eq_true, reduceCtorEq] at h3
            all_goals try (exfalso; omega)
            all_goals
              apply rgnS_pre 8
              · repeat (simp -implicitDefEqProofs (maxSteps := 1000000) (disch := first | assumption | omega) [beqF, beqT, h1, h2, h3]; try simp only [List.getElem?_cons_zero, Option.getD_some, app_val])
                rfl
              apply rgnS_pre 8
              · repeat (simp -implicitDefEqProofs (maxSteps := 1000000) (disch := first | assumption | omega) [beqF, beqT, h1, h2, h3]; try simp only [List.getElem?_cons_zero, Option.getD_some, app_val])
                rfl
              apply rgnS_pre 8
              · repeat (simp -implicitDefEqProofs (maxSteps := 1000000) (disch := first | assumption | omega) [beqF, beqT, h1, h2, h3]; try simp only [List.getElem?_cons_zero, Option.getD_some, app_val])
                rfl
              apply rgnS_pre 1
              · repeat (simp -implicitDefEqProofs (maxSteps := 1000000) (disch := first | assumption | omega) [beqF, beqT, h1, h2, h3]; try simp only [List.getElem?_cons_zero, Option.getD_some, app_val])
                rfl
              refine hK _ ?_; clear hK
              -- leaf 5
              refine LWP_ret ⟨_, rfl, ?_⟩
              refine wkV_of_eq ?_
              simp only [retV]
              all_goals
                simp only [mR]
                congr 1
                rw [Bool.eq_iff_iff]
                simp only [beq_iff_eq, decide_eq_true_eq, Bool.false_eq_true, false_iff, true_iff]
                omega
      · try simp only [decide_eq_true_eq, decide_eq_false_iff_not, Bool.not_eq_true', Bool.not_eq_false', Bool.not_true, Bool.not_false, beq_iff_eq, bne_iff_ne, beq_eq_false_iff_ne, bne_eq_false_iff_eq, Bool.and_eq_true, Bool.or_eq_false_iff, Int.not_lt, Int.not_le, Nat.not_lt, Nat.not_le, ne_eq, Bool.true_eq_false, Bool.false_eq_true, reduceCtorEq] at h2
        all_goals try (exfalso; omega)
        all_goals
          apply rgnS_pre 8
          · repeat (simp -implicitDefEqProofs (maxSteps := 1000000) (disch := first | assumption | omega) [beqF, beqT, h1, h2]; try simp only [List.getElem?_cons_zero, Option.getD_some, app_val])
            rfl
          apply rgnS_pre 8
          · repeat (simp -implicitDefEqProofs (maxSteps := 1000000) (disch := first | assumption | omega) [beqF, beqT, h1, h2]; try simp only [List.getElem?_cons_zero, Option.getD_some, app_val])
            rfl
          apply rgnS_pre 8
          · repeat (simp -implicitDefEqProofs (maxSteps := 1000000) (disch := first | assumption | omega) [beqF, beqT, h1, h2]; try simp only [List.getElem?_cons_zero, Option.getD_some, app_val])
            rfl
          apply rgnS_pre 5
          · repeat (simp -implicitDefEqProofs (maxSteps := 1000000) (disch := first | assumption | omega) [beqF, beqT, h1, h2]; try simp only [List.getElem?_cons_zero, Option.getD_some, app_val])
            rfl
          refine hK _ ?_; clear hK
          -- leaf 6
          refine LWP_ret ⟨_, rfl, ?_⟩
          refine wkV_of_eq ?_
          simp only [retV]
          all_goals
            simp only [mR]
            congr 1
            rw [Bool.eq_iff_iff]
            simp only [beq_iff_eq, decide_eq_true_eq, Bool.false_eq_true, false_iff, true_iff]
            omega
  · try simp only [decide_eq_true_eq, decide_eq_false_iff_not, Bool.not_eq_true', Bool.not_eq_false', Bool.not_true, Bool.not_false, beq_iff_eq, bne_iff_ne, beq_eq_false_iff_ne, bne_eq_false_iff_eq, Bool.and_eq_true, Bool.or_eq_false_iff, Int.not_lt, Int.not_le, Nat.not_lt, Nat.not_le, ne_eq, Bool.true_eq_false, Bool.false_eq_true, reduceCtorEq] at h1
    all_goals try (exfalso; omega)
    all_goals
      apply rgnS_pre 8
      · repeat (simp -implicitDefEqProofs (maxSteps := 1000000) (disch := first | assumption | omega) [beqF, beqT, h1]; try simp only [List.getElem?_cons_zero, Option.getD_some, app_val])
        rfl
      apply rgnS_pre 8
      · repeat (simp -implicitDefEqProofs (maxSteps := 1000000) (disch := first | assumption | omega) [beqF, beqT, h1]; try simp only [List.getElem?_cons_zero, Option.getD_some, app_val])
        rfl
      apply rgnS_pre 8
      · repeat (simp -implicitDefEqProofs (maxSteps := 1000000) (disch := first | assumption | omega) [beqF, beqT, h1]; try simp only [List.getElem?_cons_zero, Option.getD_some, app_val])
        rfl
      apply rgnS_pre 8
      · repeat (simp -implicitDefEqProofs (maxSteps := 1000000) (disch := first | assumption | omega) [beqF, beqT, h1]; try simp only [List.getElem?_cons_zero, Option.getD_some, app_val])
        rfl
      apply rgnS_pre 2
      · repeat (simp -implicitDefEqProofs (maxSteps := 1000000) (disch := first | assumption | omega) [beqF, beqT, h1]; try simp only [List.getElem?_cons_zero, Option.getD_some, app_val])
        rfl
      refine hK _ ?_; clear hK
      -- leaf 7
      refine LWP_ret ⟨_, rfl, ?_⟩
      refine wkV_of_eq ?_
      simp only [retV]
      all_goals
        simp only [mR]
        congr 1
        rw [Bool.eq_iff_iff]
        simp only [beq_iff_eq, decide_eq_true_eq, Bool.false_eq_true, false_iff, true_iff]
        omega
end

theorem mOk_R (n d : Int) : mOk n d = mR n d := by
  simp only [mOk, mR]
  congr 1
  apply propext
  constructor
  · rintro ⟨a, b, c, e, f⟩
    refine ⟨a, b, ?_⟩
    have hh : ∀ k : Fin 33, pw (k.val : Int) = 0 → 1 ≤ k.val → k.val = 1 ∨ k.val = 2 ∨ k.val = 4 ∨ k.val = 8 ∨ k.val = 16 ∨ k.val = 32 := by decide
    obtain ⟨k, rfl⟩ := Int.eq_ofNat_of_zero_le (a := d) (by omega)
    have := hh ⟨k, by omega⟩ f (by simp only; omega)
    simp only at this
    omega
  · rintro ⟨a, b, c⟩
    rcases c with rfl | rfl | rfl | rfl | rfl | rfl <;> exact ⟨a, b, by omega, by omega, by decide⟩

section
attribute [local simp ↓] List.map_nil List.map_cons
attribute [local simp] m_ o_ g_ stepsS stepS gd opEff appEff LArg.ev app_val app_new app_upd app_kill putV ins_e0 ins_e1 get_e0 get_e1 binV binI grd bnd ldCells AV.cells AV.scalar AV.known setAt fillL chunks elems mxI mnI del Nat.add_assoc nlt_self nne_self nne_self' List.take_of_length_le decT decF wrap_i64 stepsD stepD ST.as dEffF LOp.cls softOK LOp.args LOp.rds AV.ids appD_val appD_new appD_upd appD_kill AS.flush delAll
set_option maxHeartbeats 2000000 in
theorem rbar_R (n : Int) (d : Nat) (hm : mOk n d = true) : ACalls Go.Proofs.Tryz.prog 9 [.agg [.int .i64 n, .int .i64 (d : Nat)]] [] 0 (fun r _ _ => r = .tup [.agg (qR (mkRat n d)).e, .int .i64 0]) := by
  refine pure_body ok9 rfl ?_
  simp only [parV]
  have C0 := rmeter_ok n d
  rw [← mOk_R, hm] at C0
  simp only [mOk, decide_eq_true_eq] at hm
  obtain ⟨m1, m2, m3, m4, m5⟩ := hm
  have C2 := rof_R n d (by omega) (by omega) (by omega) (by omega)
  rw [tR_ok (okR_mk (by omega) (by omega) (by omega) (by omega))] at C2
  simp only [Q.e] at C2
  refine LWP_seq ?_
  apply LWP_run
  · repeat (simp -implicitDefEqProofs (maxSteps := 1000000) (disch := first | assumption | omega) [Q.e]; try simp only [List.getElem?_cons_zero, Option.getD_some, app_val])
    rfl
  refine LWP_seq ?_
  refine LWP_seq ?_
  refine LWP_reg fun K hK => ?_
  apply rgnS_pre 1
  · repeat (simp -implicitDefEqProofs (maxSteps := 1000000) (disch := first | assumption | omega) [Q.e]; try simp only [List.getElem?_cons_zero, Option.getD_some, app_val])
    rfl
  refine rgnS_call (C0) rfl rfl (by simp [pureL, pureR, AV.pure, Q.e]) (by simp [pureL, pureR, AV.pure, Q.e]) (by simp [gd, get_e0, get_e1, LArg.ev]) ?_
  apply rgnS_pre 1
  · repeat (simp -implicitDefEqProofs (maxSteps := 1000000) (disch := first | assumption | omega) [Q.e]; try simp only [List.getElem?_cons_zero, Option.getD_some, app_val])
    rfl
  refine hK _ ?_; clear hK
  refine LWP_cond rfl (fun h1 => ?_) (fun h1 => ?_)
  · try simp only [decide_eq_true_eq, decide_eq_false_iff_not, Bool.not_eq_true', Bool.not_eq_false', Bool.not_true, Bool.not_false, beq_iff_eq, bne_iff_ne, beq_eq_false_iff_ne, bne_eq_false_iff_eq, Bool.and_eq_true, Bool.or_eq_false_iff, Int.not_lt, Int.not_le, Nat.not_lt, Nat.not_le, ne_eq, Bool.true_eq_false, Bool.false_eq_true, reduceCtorEq] at h1
    all_goals try (exfalso; omega)
    all_goals
      refine LWP_seq ?_
      apply LWP_run
      · repeat (simp -implicitDefEqProofs (maxSteps := 1000000) (disch := first | assumption | omega) [Q.e, h1]; try simp only [List.getElem?_cons_zero, Option.getD_some, app_val])
        rfl
      -- leaf 0
      refine LWP_ret ⟨_, rfl, ?_⟩
      refine wkV_of_eq ?_
      simp only [retV]
      all_goals
        simp [Nat.add_zero, Q.e]
  · try simp only [decide_eq_true_eq, decide_eq_false_iff_not, Bool.not_eq_true', Bool.not_eq_false', Bool.not_true, Bool.not_false, beq_iff_eq, bne_iff_ne, beq_eq_false_iff_ne, bne_eq_false_iff_eq, Bool.and_eq_true, Bool.or_eq_false_iff, Int.not_lt, Int.not_le, Nat.not_lt, Nat.not_le, ne_eq, Bool.true_eq_false, Bool.false_eq_true, reduceCtorEq] at h1
    all_goals try (exfalso; omega)
    all_goals
      refine LWP_skip ?_
      refine LWP_seq ?_
      refine LWP_reg fun K hK => ?_
      apply rgnS_pre 4
      · repeat (simp -implicitDefEqProofs (maxSteps := 1000000) (disch := first | assumption | omega) [Q.e, h1]; try simp only [List.getElem?_cons_zero, Option.getD_some, app_val])
        rfl
      refine rgnS_call (C2) rfl rfl (by simp [pureL, pureR, AV.pure, Q.e]) (by simp [pureL, pureR, AV.pure, Q.e]) (by simp [gd, get_e0, get_e1, LArg.ev, h1]) ?_
      apply rgnS_pre 4
      · repeat (simp -implicitDefEqProofs (maxSteps := 1000000) (disch := first | assumption | omega) [Q.e, h1]; try simp only [List.getElem?_cons_zero, Option.getD_some, app_val])
        rfl
      refine hK _ ?_; clear hK
      -- leaf 1
      refine LWP_ret ⟨_, rfl, ?_⟩
      refine wkV_of_eq ?_
      simp only [retV]
      all_goals
        simp [Nat.add_zero, Q.e]
end

end Go.AM.Ez
