/- A part of a proof about the given program: what its name says. No premise beyond the statements'. -/
import Derived.Test.YtjfmkhihhdhnnaaGreatEzRatY
set_option linter.unusedSimpArgs false
set_option linter.unusedVariables false
/- Meters, bars: their contracts, by the program's layer 7 and layer 14. -/
namespace Go.AM.Ez
open Go.AM
def pw (d : Int) : Int := (BinOp.and |> fun op => match binI op .i64 d (d - 1) with | some (.int _ v) => v | _ => 1)
theorem beqF {a b : Int} (h : a ≠ b) : (a == b) = false := by simp [h]
theorem beqT {a b : Int} (h : a = b) : (a == b) = true := by simp [h]
def mOk (n d : Int) : Bool := decide (1 ≤ n ∧ n ≤ 32 ∧ 1 ≤ d ∧ d ≤ 32 ∧ pw d = 0)

section
attribute [local simp ↓] List.map_nil List.map_cons
attribute [local simp] m_ o_ g_ stepsS stepS gd opEff appEff LArg.ev app_val app_new app_upd app_kill putV ins_e0 ins_e1 get_e0 get_e1 binV binI grd bnd ldCells AV.cells AV.scalar AV.known setAt fillL chunks elems mxI mnI del Nat.add_assoc nlt_self nne_self nne_self' List.take_of_length_le decT decF wrap_i64 stepsD stepD ST.as dEffF LOp.cls softOK LOp.args LOp.rds AV.ids appD_val appD_new appD_upd appD_kill AS.flush delAll
set_option maxHeartbeats 2000000 in
theorem meter_ok (n d : Int) (b1 : -9223372036854775808 ≤ d) (b2 : d ≤ 9223372036854775807) : ACalls Go.Proofs.Tryz.prog 61 [.agg [.int .i64 n, .int .i64 d]] [] 0 (fun r _ _ => r = .bool (mOk n d)) := by
  refine pure_body ok61 rfl ?_
  simp only [parV]
  obtain ⟨w, hw⟩ : ∃ w, IntKind.i64.wrap ((((d % 2 ^ IntKind.i64.bits).toNat &&& ((d - 1) % 2 ^ IntKind.i64.bits).toNat : Nat)) : Int) = w := ⟨_, rfl⟩
  have hp : pw d = w := by
    simp [pw, binI, hw]
  refine LWP_seq ?_
  apply LWP_run
  · repeat (simp -implicitDefEqProofs (maxSteps := 1000000) (disch := first | assumption | omega) [hw, beqF, beqT]; try simp only [List.getElem?_cons_zero, Option.getD_some, app_val])
    rfl
  refine LWP_seq ?_
  refine LWP_reg fun K hK => ?_
  apply rgnS_pre 4
  · repeat (simp -implicitDefEqProofs (maxSteps := 1000000) (disch := first | assumption | omega) [hw, beqF, beqT]; try simp only [List.getElem?_cons_zero, Option.getD_some, app_val])
    rfl
  refine rgnS_guard (x := 7) (b := true) rfl (fun h1 => ?_) (fun h1 => ?_)
  · try simp only [decide_eq_true_eq, decide_eq_false_iff_not, Bool.not_eq_true', Bool.not_eq_false', Bool.not_true, Bool.not_false, beq_iff_eq, bne_iff_ne, beq_eq_false_iff_ne, bne_eq_false_iff_eq, Bool.and_eq_true, Bool.or_eq_false_iff, Int.not_lt, Int.not_le, Nat.not_lt, Nat.not_le, ne_eq, Bool.true_eq_false, Bool.false_eq_true, reduceCtorEq] at h1
    all_goals try (exfalso; omega)
    all_goals
      apply rgnS_pre 5
      · repeat (simp -implicitDefEqProofs (maxSteps := 1000000) (disch := first | assumption | omega) [hw, beqF, beqT, h1]; try simp only [List.getElem?_cons_zero, Option.getD_some, app_val])
        rfl
      refine rgnS_guard (x := 12) (b := true) rfl (fun h2 => ?_) (fun h2 => ?_)
      · try simp only [decide_eq_true_eq, decide_eq_false_iff_not, Bool.not_eq_true', Bool.not_eq_false', Bool.not_true, Bool.not_false, beq_iff_eq, bne_iff_ne, beq_eq_false_iff_ne, bne_eq_false_iff_eq, Bool.and_eq_true, Bool.or_eq_false_iff, Int.not_lt, Int.not_le, Nat.not_lt, Nat.not_le, ne_eq, Bool.true_eq_false, Bool.false_eq_true, reduceCtorEq] at h2
        all_goals try (exfalso; omega)
        all_goals
          apply rgnS_pre 8
          · repeat (simp -implicitDefEqProofs (maxSteps := 1000000) (disch := first | assumption | omega) [hw, beqF, beqT, h1, h2]; try simp only [List.getElem?_cons_zero, Option.getD_some, app_val])
            rfl
          apply rgnS_pre 1
          · repeat (simp -implicitDefEqProofs (maxSteps := 1000000) (disch := first | assumption | omega) [hw, beqF, beqT, h1, h2]; try simp only [List.getElem?_cons_zero, Option.getD_some, app_val])
            rfl
          refine hK _ ?_; clear hK
          refine LWP_seq ?_
          refine LWP_reg fun K hK => ?_
          apply rgnS_pre 2
          · repeat (simp -implicitDefEqProofs (maxSteps := 1000000) (disch := first | assumption | omega) [hw, beqF, beqT, h1, h2]; try simp only [List.getElem?_cons_zero, Option.getD_some, app_val])
            rfl
          refine rgnS_guard (x := 22) (b := true) rfl (fun h3 => ?_) (fun h3 => ?_)
          · try simp only [decide_eq_true_eq, decide_eq_false_iff_not, Bool.not_eq_true', Bool.not_eq_false', Bool.not_true, Bool.not_false, beq_iff_eq, bne_iff_ne, beq_eq_false_iff_ne, bne_eq_false_iff_eq, Bool.and_eq_true, Bool.or_eq_false_iff, Int.not_lt, Int.not_le, Nat.not_lt, Nat.not_le, ne_eq, Bool.true_eq_false, Bool.false_eq_true, reduceCtorEq] at h3
            all_goals try (exfalso; omega)
            all_goals
              apply rgnS_pre 5
              · repeat (simp -implicitDefEqProofs (maxSteps := 1000000) (disch := first | assumption | omega) [hw, beqF, beqT, h1, h2, h3]; try simp only [List.getElem?_cons_zero, Option.getD_some, app_val])
                rfl
              refine rgnS_guard (x := 27) (b := true) rfl (fun h4 => ?_) (fun h4 => ?_)
              · try simp only [decide_eq_true_eq, decide_eq_false_iff_not, Bool.not_eq_true', Bool.not_eq_false', Bool.not_true, Bool.not_false, beq_iff_eq, bne_iff_ne, beq_eq_false_iff_ne, bne_eq_false_iff_eq, Bool.and_eq_true, Bool.or_eq_false_iff, Int.not_lt, Int.not_le, Nat.not_lt, Nat.not_le, ne_eq, Bool.true_eq_false, Bool.false_eq_true, reduceCtorEq] at h4
                all_goals try (exfalso; omega)
                all_goals
                  apply rgnS_pre 5
                  · repeat (simp -implicitDefEqProofs (maxSteps := 1000000) (disch := first | assumption | omega) [hw, beqF, beqT, h1, h2, h3, h4]; try simp only [List.getElem?_cons_zero, Option.getD_some, app_val])
                    rfl
                  refine hK _ ?_; clear hK
                  -- leaf 0
                  refine LWP_ret ⟨_, rfl, ?_⟩
                  refine wkV_of_eq ?_
                  simp only [retV]
                  all_goals
                    simp only [mOk, hp]
                    congr 1
                    rw [Bool.eq_iff_iff]
                    simp only [beq_iff_eq, decide_eq_true_eq, Bool.false_eq_true, false_iff]
                    omega
              · try simp only [decide_eq_true_eq, decide_eq_false_iff_not, Bool.not_eq_true', Bool.not_eq_false', Bool.not_true, Bool.not_false, beq_iff_eq, bne_iff_ne, beq_eq_false_iff_ne, bne_eq_false_iff_eq, Bool.and_eq_true, Bool.or_eq_false_iff, Int.not_lt, Int.not_le, Nat.not_lt, Nat.not_le, ne_eq, Bool.true_eq_false, Bool.false_eq_true, reduceCtorEq] at h4
                all_goals try (exfalso; omega)
                all_goals
                  apply rgnS_pre 4
                  · repeat (simp -implicitDefEqProofs (maxSteps := 1000000) (disch := first | assumption | omega) [hw, beqF, beqT, h1, h2, h3, h4]; try simp only [List.getElem?_cons_zero, Option.getD_some, app_val])
                    rfl
                  refine hK _ ?_; clear hK
                  -- leaf 1
                  refine LWP_ret ⟨_, rfl, ?_⟩
                  refine wkV_of_eq ?_
                  simp only [retV]
                  all_goals
                    simp only [mOk, hp]
                    congr 1
                    rw [Bool.eq_iff_iff]
                    simp only [beq_iff_eq, decide_eq_true_eq, Bool.false_eq_true, false_iff]
                    omega
          · try simp only [decide_eq_true_eq, decide_eq_false_iff_not, Bool.not_eq_true', Bool.not_eq_false', Bool.not_true, Bool.not_false, beq_iff_eq, bne_iff_ne, beq_eq_false_iff_ne, bne_eq_false_iff_eq, Bool.and_eq_true, Bool.or_eq_false_iff, Int.not_lt, Int.not_le, Nat.not_lt, Nat.not_le, ne_eq, Bool.true_eq_false, Bool.false_eq_true, reduceCtorEq] at h3
            all_goals try (exfalso; omega)
            all_goals
              apply rgnS_pre 8
              · repeat (simp -implicitDefEqProofs (maxSteps := 1000000) (disch := first | assumption | omega) [hw, beqF, beqT, h1, h2, h3]; try simp only [List.getElem?_cons_zero, Option.getD_some, app_val])
                rfl
              apply rgnS_pre 1
              · repeat (simp -implicitDefEqProofs (maxSteps := 1000000) (disch := first | assumption | omega) [hw, beqF, beqT, h1, h2, h3]; try simp only [List.getElem?_cons_zero, Option.getD_some, app_val])
                rfl
              refine hK _ ?_; clear hK
              -- leaf 2
              refine LWP_ret ⟨_, rfl, ?_⟩
              refine wkV_of_eq ?_
              simp only [retV]
              all_goals
                simp only [mOk, hp]
                congr 1
                rw [Bool.eq_iff_iff]
                simp only [beq_iff_eq, decide_eq_true_eq, Bool.false_eq_true, false_iff]
                omega
      · try simp only [decide_eq_true_eq, decide_eq_false_iff_not, Bool.not_eq_true', Bool.not_eq_false', Bool.not_true, Bool.not_false, beq_iff_eq, bne_iff_ne, beq_eq_false_iff_ne, bne_eq_false_iff_eq, Bool.and_eq_true, Bool.or_eq_false_iff, Int.not_lt, Int.not_le, Nat.not_lt, Nat.not_le, ne_eq, Bool.true_eq_false, Bool.false_eq_true, reduceCtorEq] at h2
        all_goals try (exfalso; omega)
        all_goals
          apply rgnS_pre 8
          · repeat (simp -implicitDefEqProofs (maxSteps := 1000000) (disch := first | assumption | omega) [hw, beqF, beqT, h1, h2]; try simp only [List.getElem?_cons_zero, Option.getD_some, app_val])
            rfl
          refine hK _ ?_; clear hK
          refine LWP_seq ?_
          refine LWP_reg fun K hK => ?_
          apply rgnS_pre 8
          · repeat (simp -implicitDefEqProofs (maxSteps := 1000000) (disch := first | assumption | omega) [hw, beqF, beqT, h1, h2]; try simp only [List.getElem?_cons_zero, Option.getD_some, app_val])
            rfl
          apply rgnS_pre 4
          · repeat (simp -implicitDefEqProofs (maxSteps := 1000000) (disch := first | assumption | omega) [hw, beqF, beqT, h1, h2]; try simp only [List.getElem?_cons_zero, Option.getD_some, app_val])
            rfl
          refine hK _ ?_; clear hK
          -- leaf 3
          refine LWP_ret ⟨_, rfl, ?_⟩
          refine wkV_of_eq ?_
          simp only [retV]
          all_goals
            simp only [mOk, hp]
            congr 1
            rw [Bool.eq_iff_iff]
            simp only [beq_iff_eq, decide_eq_true_eq, Bool.false_eq_true, false_iff]
            omega
  · try simp only [decide_eq_true_eq, decide_eq_false_iff_not, Bool.not_eq_true', Bool.not_eq_false', Bool.not_true, Bool.not_false, beq_iff_eq, bne_iff_ne, beq_eq_false_iff_ne, bne_eq_false_iff_eq, Bool.and_eq_true, Bool.or_eq_false_iff, Int.not_lt, Int.not_le, Nat.not_lt, Nat.not_le, ne_eq, Bool.true_eq_false, Bool.false_eq_true, reduceCtorEq] at h1
    all_goals try (exfalso; omega)
    all_goals
      apply rgnS_pre 8
      · repeat (simp -implicitDefEqProofs (maxSteps := 1000000) (disch := first | assumption | omega) [hw, beqF, beqT, h1]; try simp only [List.getElem?_cons_zero, Option.getD_some, app_val])
        rfl
      apply rgnS_pre 5
      · repeat (simp -implicitDefEqProofs (maxSteps := 1000000) (disch := first | assumption | omega) [hw, beqF, beqT, h1]; try simp only [List.getElem?_cons_zero, Option.getD_some, app_val])
        rfl
      refine hK _ ?_; clear hK
      refine LWP_seq ?_
      refine LWP_reg fun K hK => ?_
      apply rgnS_pre 8
      · repeat (simp -implicitDefEqProofs (maxSteps := 1000000) (disch := first | assumption | omega) [hw, beqF, beqT, h1]; try simp only [List.getElem?_cons_zero, Option.getD_some, app_val])
        rfl
      apply rgnS_pre 4
      · repeat (simp -implicitDefEqProofs (maxSteps := 1000000) (disch := first | assumption | omega) [hw, beqF, beqT, h1]; try simp only [List.getElem?_cons_zero, Option.getD_some, app_val])
        rfl
      refine hK _ ?_; clear hK
      -- leaf 4
      refine LWP_ret ⟨_, rfl, ?_⟩
      refine wkV_of_eq ?_
      simp only [retV]
      all_goals
        simp only [mOk, hp]
        congr 1
        rw [Bool.eq_iff_iff]
        simp only [beq_iff_eq, decide_eq_true_eq, Bool.false_eq_true, false_iff]
        omega
end

section
attribute [local simp ↓] List.map_nil List.map_cons
attribute [local simp] m_ o_ g_ stepsS stepS gd opEff appEff LArg.ev app_val app_new app_upd app_kill putV ins_e0 ins_e1 get_e0 get_e1 binV binI grd bnd ldCells AV.cells AV.scalar AV.known setAt fillL chunks elems mxI mnI del Nat.add_assoc nlt_self nne_self nne_self' List.take_of_length_le decT decF wrap_i64 stepsD stepD ST.as dEffF LOp.cls softOK LOp.args LOp.rds AV.ids appD_val appD_new appD_upd appD_kill AS.flush delAll
set_option maxHeartbeats 2000000 in
theorem bzero_ok   : ACalls Go.Proofs.Tryz.prog 60 [] [] 0 (fun r _ _ => r = .agg (qR 0).e) := by
  refine pure_body ok60 rfl ?_
  simp only [parV]
  refine LWP_seq ?_
  apply LWP_run
  · repeat (simp -implicitDefEqProofs (maxSteps := 1000000) (disch := first | assumption | omega) []; try simp only [List.getElem?_cons_zero, Option.getD_some, app_val])
    rfl
  refine LWP_seq ?_
  apply LWP_run
  · repeat (simp -implicitDefEqProofs (maxSteps := 1000000) (disch := first | assumption | omega) []; try simp only [List.getElem?_cons_zero, Option.getD_some, app_val])
    rfl
  -- leaf 0
  refine LWP_ret ⟨_, rfl, ?_⟩
  refine wkV_of_eq ?_
  simp only [retV]
  all_goals
    rfl
end

section
attribute [local simp ↓] List.map_nil List.map_cons
attribute [local simp] m_ o_ g_ stepsS stepS gd opEff appEff LArg.ev app_val app_new app_upd app_kill putV ins_e0 ins_e1 get_e0 get_e1 binV binI grd bnd ldCells AV.cells AV.scalar AV.known setAt fillL chunks elems mxI mnI del Nat.add_assoc nlt_self nne_self nne_self' List.take_of_length_le decT decF wrap_i64 stepsD stepD ST.as dEffF LOp.cls softOK LOp.args LOp.rds AV.ids appD_val appD_new appD_upd appD_kill AS.flush delAll
set_option maxHeartbeats 2000000 in
theorem may_yes   : ACalls Go.Proofs.Tryz.prog 160 [.bool true] [] 0 (fun r _ _ => r = .nili) := by
  refine pure_body ok160 rfl ?_
  simp only [parV]
  refine LWP_seq ?_
  apply LWP_run
  · repeat (simp -implicitDefEqProofs (maxSteps := 1000000) (disch := first | assumption | omega) []; try simp only [List.getElem?_cons_zero, Option.getD_some, app_val])
    rfl
  refine LWP_seq ?_
  refine LWP_seq ?_
  apply LWP_run
  · repeat (simp -implicitDefEqProofs (maxSteps := 1000000) (disch := first | assumption | omega) []; try simp only [List.getElem?_cons_zero, Option.getD_some, app_val])
    rfl
  refine LWP_cond rfl (fun h1 => ?_) (fun h1 => ?_)
  · try simp only [decide_eq_true_eq, decide_eq_false_iff_not, Bool.not_eq_true', Bool.not_eq_false', Bool.not_true, Bool.not_false, beq_iff_eq, bne_iff_ne, beq_eq_false_iff_ne, bne_eq_false_iff_eq, Bool.and_eq_true, Bool.or_eq_false_iff, Int.not_lt, Int.not_le, Nat.not_lt, Nat.not_le, ne_eq, Bool.true_eq_false, Bool.false_eq_true, reduceCtorEq] at h1
    all_goals try (exfalso; omega)
    all_goals
      refine LWP_seq ?_
      apply LWP_run
      · repeat (simp -implicitDefEqProofs (maxSteps := 1000000) (disch := first | assumption | omega) [h1]; try simp only [List.getElem?_cons_zero, Option.getD_some, app_val])
        rfl
      -- leaf 0
      refine LWP_ret ⟨_, rfl, ?_⟩
      refine wkV_of_eq ?_
      simp only [retV]
      all_goals
        rfl
  · try simp only [decide_eq_true_eq, decide_eq_false_iff_not, Bool.not_eq_true', Bool.not_eq_false', Bool.not_true, Bool.not_false, beq_iff_eq, bne_iff_ne, beq_eq_false_iff_ne, bne_eq_false_iff_eq, Bool.and_eq_true, Bool.or_eq_false_iff, Int.not_lt, Int.not_le, Nat.not_lt, Nat.not_le, ne_eq, Bool.true_eq_false, Bool.false_eq_true, reduceCtorEq] at h1
    all_goals try (exfalso; omega)
    all_goals
      refine LWP_skip ?_
      refine LWP_seq ?_
      apply LWP_run
      · repeat (simp -implicitDefEqProofs (maxSteps := 1000000) (disch := first | assumption | omega) [h1]; try simp only [List.getElem?_cons_zero, Option.getD_some, app_val])
        rfl
      -- leaf 1
      refine LWP_ret ⟨_, rfl, ?_⟩
      refine wkV_of_eq ?_
      simp only [retV]
      all_goals
        rfl
end

end Go.AM.Ez
