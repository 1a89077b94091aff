/- A part of a proof about the given program: what its name says. No premise beyond the statements'. -/
import Derived.Test.YtjfmkhihhdhnnaaGreatEzBarsW
set_option linter.unusedSimpArgs false
set_option linter.unusedVariables false
/- How long a bar is, and where it ends. -/
namespace Go.AM.Ez
open Go.AM
theorem okR_mk {n : Int} {d : Nat} (h1 : 1 ≤ n) (h2 : n ≤ 32) (h3 : 1 ≤ d) (h4 : d ≤ 32) : okR (mkRat n d) := by
  have hg : 0 < Nat.gcd n.natAbs d := Nat.gcd_pos_of_pos_right _ h3
  have e1 := mk_num (n := n) (d := d) h3
  have e2 := mk_den (n := n) (d := d) h3
  have b1 := div_bnd (n := n) (B := 32) hg (by omega) (by omega) (by omega)
  have b2 := div_bnd (n := (d : Int)) (B := 32) hg (by omega) (by omega) (by omega)
  constructor <;> omega
theorem tR_ok {x : Rat} (h : okR x) : tR x = .tup [.agg (qR x).e, .int .i64 0] := by
  obtain ⟨h1, h2⟩ := h
  rw [tR, sT_yes h1 (by omega)]; rfl

section
attribute [local simp ↓] List.map_nil List.map_cons
attribute [local simp] m_ o_ g_ stepsS stepS gd opEff appEff LArg.ev app_val app_new app_upd app_kill putV ins_e0 ins_e1 get_e0 get_e1 binV binI grd bnd ldCells AV.cells AV.scalar AV.known setAt fillL chunks elems mxI mnI del Nat.add_assoc nlt_self nne_self nne_self' List.take_of_length_le decT decF wrap_i64 stepsD stepD ST.as dEffF LOp.cls softOK LOp.args LOp.rds AV.ids appD_val appD_new appD_upd appD_kill AS.flush delAll
set_option maxHeartbeats 2000000 in
theorem of_R (n : Int) (d : Nat) (h0 : 0 < d) (hd : d ≤ 1152921504606846976) (hn1 : -1152921504606846976 ≤ n) (hn2 : n ≤ 1152921504606846976) : ACalls Go.Proofs.Tryz.prog 162 [.int .i64 n, .int .i64 (d : Nat)] [] 0 (fun r _ _ => r = tR (mkRat n d)) := by
  refine pure_body ok162 rfl ?_
  simp only [parV]
  have C2 := lowest_R n d h0 (by omega) (by omega) (by omega)
  simp only [tR, sT] at C2
  refine LWP_seq ?_
  apply LWP_run
  · repeat (simp -implicitDefEqProofs (maxSteps := 1000000) (disch := first | assumption | omega) [beqF, beqT]; try simp only [List.getElem?_cons_zero, Option.getD_some, app_val])
    rfl
  refine LWP_seq ?_
  refine LWP_seq ?_
  refine LWP_reg fun K hK => ?_
  apply rgnS_pre 3
  · repeat (simp -implicitDefEqProofs (maxSteps := 1000000) (disch := first | assumption | omega) [beqF, beqT]; try simp only [List.getElem?_cons_zero, Option.getD_some, app_val])
    rfl
  refine rgnS_guard (x := 8) (b := false) rfl (fun h1 => ?_) (fun h1 => ?_)
  · try simp only [decide_eq_true_eq, decide_eq_false_iff_not, Bool.not_eq_true', Bool.not_eq_false', Bool.not_true, Bool.not_false, beq_iff_eq, bne_iff_ne, beq_eq_false_iff_ne, bne_eq_false_iff_eq, Bool.and_eq_true, Bool.or_eq_false_iff, Int.not_lt, Int.not_le, Nat.not_lt, Nat.not_le, ne_eq, Bool.true_eq_false, Bool.false_eq_true, reduceCtorEq] at h1
    all_goals try (exfalso; omega)
    all_goals
      apply rgnS_pre 4
      · repeat (simp -implicitDefEqProofs (maxSteps := 1000000) (disch := first | assumption | omega) [beqF, beqT, h1]; try simp only [List.getElem?_cons_zero, Option.getD_some, app_val])
        rfl
      refine rgnS_guard (x := 12) (b := false) rfl (fun h2 => ?_) (fun h2 => ?_)
      · try simp only [decide_eq_true_eq, decide_eq_false_iff_not, Bool.not_eq_true', Bool.not_eq_false', Bool.not_true, Bool.not_false, beq_iff_eq, bne_iff_ne, beq_eq_false_iff_ne, bne_eq_false_iff_eq, Bool.and_eq_true, Bool.or_eq_false_iff, Int.not_lt, Int.not_le, Nat.not_lt, Nat.not_le, ne_eq, Bool.true_eq_false, Bool.false_eq_true, reduceCtorEq] at h2
        all_goals try (exfalso; omega)
        all_goals
          apply rgnS_pre 4
          · repeat (simp -implicitDefEqProofs (maxSteps := 1000000) (disch := first | assumption | omega) [beqF, beqT, h1, h2]; try simp only [List.getElem?_cons_zero, Option.getD_some, app_val])
            rfl
          refine rgnS_guard (x := 16) (b := false) rfl (fun h3 => ?_) (fun h3 => ?_)
          · try simp only [decide_eq_true_eq, decide_eq_false_iff_not, Bool.not_eq_true', Bool.not_eq_false', Bool.not_true, Bool.not_false, beq_iff_eq, bne_iff_ne, beq_eq_false_iff_ne, bne_eq_false_iff_eq, Bool.and_eq_true, Bool.or_eq_false_iff, Int.not_lt, Int.not_le, Nat.not_lt, Nat.not_le, ne_eq, Bool.true_eq_false, Bool.false_eq_true, reduceCtorEq] at h3
            all_goals try (exfalso; omega)
            all_goals
              apply rgnS_pre 4
              · repeat (simp -implicitDefEqProofs (maxSteps := 1000000) (disch := first | assumption | omega) [beqF, beqT, h1, h2, h3]; try simp only [List.getElem?_cons_zero, Option.getD_some, app_val])
                rfl
              refine rgnS_guard (x := 20) (b := false) rfl (fun h4 => ?_) (fun h4 => ?_)
              · try simp only [decide_eq_true_eq, decide_eq_false_iff_not, Bool.not_eq_true', Bool.not_eq_false', Bool.not_true, Bool.not_false, beq_iff_eq, bne_iff_ne, beq_eq_false_iff_ne, bne_eq_false_iff_eq, Bool.and_eq_true, Bool.or_eq_false_iff, Int.not_lt, Int.not_le, Nat.not_lt, Nat.not_le, ne_eq, Bool.true_eq_false, Bool.false_eq_true, reduceCtorEq] at h4
                all_goals try (exfalso; omega)
                all_goals
                  apply rgnS_pre 3
                  · repeat (simp -implicitDefEqProofs (maxSteps := 1000000) (disch := first | assumption | omega) [beqF, beqT, h1, h2, h3, h4]; try simp only [List.getElem?_cons_zero, Option.getD_some, app_val])
                    rfl
                  refine hK _ ?_; clear hK
                  refine LWP_cond rfl (fun h5 => ?_) (fun h5 => ?_)
                  · try simp only [decide_eq_true_eq, decide_eq_false_iff_not, Bool.not_eq_true', Bool.not_eq_false', Bool.not_true, Bool.not_false, beq_iff_eq, bne_iff_ne, beq_eq_false_iff_ne, bne_eq_false_iff_eq, Bool.and_eq_true, Bool.or_eq_false_iff, Int.not_lt, Int.not_le, Nat.not_lt, Nat.not_le, ne_eq, Bool.true_eq_false, Bool.false_eq_true, reduceCtorEq] at h5
                    all_goals try (exfalso; omega)
                    all_goals
                      refine LWP_seq ?_
                      refine LWP_reg fun K hK => ?_
                      refine rgnS_call (zero_ok) rfl rfl (by simp [pureL, pureR, AV.pure]) (by simp [pureL, pureR, AV.pure]) (by simp [gd, get_e0, get_e1, LArg.ev, h1, h2, h3, h4, h5]) ?_
                      apply rgnS_pre 2
                      · repeat (simp -implicitDefEqProofs (maxSteps := 1000000) (disch := first | assumption | omega) [beqF, beqT, h1, h2, h3, h4, h5]; try simp only [List.getElem?_cons_zero, Option.getD_some, app_val])
                        rfl
                      refine hK _ ?_; clear hK
                      -- leaf 0
                      refine LWP_ret ⟨_, rfl, ?_⟩
                      refine wkV_of_eq ?_
                      simp only [retV]
                      all_goals
                        simp [Nat.add_zero, tR, sT]
                  · try simp only [decide_eq_true_eq, decide_eq_false_iff_not, Bool.not_eq_true', Bool.not_eq_false', Bool.not_true, Bool.not_false, beq_iff_eq, bne_iff_ne, beq_eq_false_iff_ne, bne_eq_false_iff_eq, Bool.and_eq_true, Bool.or_eq_false_iff, Int.not_lt, Int.not_le, Nat.not_lt, Nat.not_le, ne_eq, Bool.true_eq_false, Bool.false_eq_true, reduceCtorEq] at h5
                    all_goals try (exfalso; omega)
                    all_goals
                      refine LWP_skip ?_
                      refine LWP_seq ?_
                      refine LWP_reg fun K hK => ?_
                      apply rgnS_pre 2
                      · repeat (simp -implicitDefEqProofs (maxSteps := 1000000) (disch := first | assumption | omega) [beqF, beqT, h1, h2, h3, h4, h5]; try simp only [List.getElem?_cons_zero, Option.getD_some, app_val])
                        rfl
                      refine rgnS_call (C2) rfl rfl (by simp [pureL, pureR, AV.pure]) (by simp [pureL, pureR, AV.pure]) (by simp [gd, get_e0, get_e1, LArg.ev, h1, h2, h3, h4, h5]) ?_
                      apply rgnS_pre 4
                      · repeat (simp -implicitDefEqProofs (maxSteps := 1000000) (disch := first | assumption | omega) [beqF, beqT, h1, h2, h3, h4, h5]; try simp only [List.getElem?_cons_zero, Option.getD_some, app_val])
                        rfl
                      refine hK _ ?_; clear hK
                      -- leaf 1
                      refine LWP_ret ⟨_, rfl, ?_⟩
                      refine wkV_of_eq ?_
                      simp only [retV]
                      all_goals
                        simp [Nat.add_zero, tR, sT]
              · try simp only [decide_eq_true_eq, decide_eq_false_iff_not, Bool.not_eq_true', Bool.not_eq_false', Bool.not_true, Bool.not_false, beq_iff_eq, bne_iff_ne, beq_eq_false_iff_ne, bne_eq_false_iff_eq, Bool.and_eq_true, Bool.or_eq_false_iff, Int.not_lt, Int.not_le, Nat.not_lt, Nat.not_le, ne_eq, Bool.true_eq_false, Bool.false_eq_true, reduceCtorEq] at h4
                all_goals try (exfalso; omega)
                all_goals
                  apply rgnS_pre 2
                  · repeat (simp -implicitDefEqProofs (maxSteps := 1000000) (disch := first | assumption | omega) [beqF, beqT, h1, h2, h3, h4]; try simp only [List.getElem?_cons_zero, Option.getD_some, app_val])
                    rfl
                  refine hK _ ?_; clear hK
                  refine LWP_cond (t := true) (by simp [LArg.ev, get_e0, get_e1, h1, h2, h3, h4]) (fun _ => ?_) (fun h => by cases h)
                  refine LWP_seq ?_
                  refine LWP_reg fun K hK => ?_
                  refine rgnS_call (zero_ok) rfl rfl (by simp [pureL, pureR, AV.pure]) (by simp [pureL, pureR, AV.pure]) (by simp [gd, get_e0, get_e1, LArg.ev, h1, h2, h3, h4]) ?_
                  apply rgnS_pre 2
                  · repeat (simp -implicitDefEqProofs (maxSteps := 1000000) (disch := first | assumption | omega) [beqF, beqT, h1, h2, h3, h4]; try simp only [List.getElem?_cons_zero, Option.getD_some, app_val])
                    rfl
                  refine hK _ ?_; clear hK
                  -- leaf 2
                  refine LWP_ret ⟨_, rfl, ?_⟩
                  refine wkV_of_eq ?_
                  simp only [retV]
                  all_goals
                    simp [Nat.add_zero, tR, sT]
          · try simp only [decide_eq_true_eq, decide_eq_false_iff_not, Bool.not_eq_true', Bool.not_eq_false', Bool.not_true, Bool.not_false, beq_iff_eq, bne_iff_ne, beq_eq_false_iff_ne, bne_eq_false_iff_eq, Bool.and_eq_true, Bool.or_eq_false_iff, Int.not_lt, Int.not_le, Nat.not_lt, Nat.not_le, ne_eq, Bool.true_eq_false, Bool.false_eq_true, reduceCtorEq] at h3
            all_goals try (exfalso; omega)
            all_goals
              apply rgnS_pre 6
              · repeat (simp -implicitDefEqProofs (maxSteps := 1000000) (disch := first | assumption | omega) [beqF, beqT, h1, h2, h3]; try simp only [List.getElem?_cons_zero, Option.getD_some, app_val])
                rfl
              refine hK _ ?_; clear hK
              refine LWP_cond (t := true) (by simp [LArg.ev, get_e0, get_e1, h1, h2, h3]) (fun _ => ?_) (fun h => by cases h)
              refine LWP_seq ?_
              refine LWP_reg fun K hK => ?_
              refine rgnS_call (zero_ok) rfl rfl (by simp [pureL, pureR, AV.pure]) (by simp [pureL, pureR, AV.pure]) (by simp [gd, get_e0, get_e1, LArg.ev, h1, h2, h3]) ?_
              apply rgnS_pre 2
              · repeat (simp -implicitDefEqProofs (maxSteps := 1000000) (disch := first | assumption | omega) [beqF, beqT, h1, h2, h3]; try simp only [List.getElem?_cons_zero, Option.getD_some, app_val])
                rfl
              refine hK _ ?_; clear hK
              -- leaf 3
              refine LWP_ret ⟨_, rfl, ?_⟩
              refine wkV_of_eq ?_
              simp only [retV]
              all_goals
                simp [Nat.add_zero, tR, sT]
      · try simp only [decide_eq_true_eq, decide_eq_false_iff_not, Bool.not_eq_true', Bool.not_eq_false', Bool.not_true, Bool.not_false, beq_iff_eq, bne_iff_ne, beq_eq_false_iff_ne, bne_eq_false_iff_eq, Bool.and_eq_true, Bool.or_eq_false_iff, Int.not_lt, Int.not_le, Nat.not_lt, Nat.not_le, ne_eq, Bool.true_eq_false, Bool.false_eq_true, reduceCtorEq] at h2
        all_goals try (exfalso; omega)
        all_goals
          apply rgnS_pre 8
          · repeat (simp -implicitDefEqProofs (maxSteps := 1000000) (disch := first | assumption | omega) [beqF, beqT, h1, h2]; try simp only [List.getElem?_cons_zero, Option.getD_some, app_val])
            rfl
          apply rgnS_pre 2
          · repeat (simp -implicitDefEqProofs (maxSteps := 1000000) (disch := first | assumption | omega) [beqF, beqT, h1, h2]; try simp only [List.getElem?_cons_zero, Option.getD_some, app_val])
            rfl
          refine hK _ ?_; clear hK
          refine LWP_cond (t := true) (by simp [LArg.ev, get_e0, get_e1, h1, h2]) (fun _ => ?_) (fun h => by cases h)
          refine LWP_seq ?_
          refine LWP_reg fun K hK => ?_
          refine rgnS_call (zero_ok) rfl rfl (by simp [pureL, pureR, AV.pure]) (by simp [pureL, pureR, AV.pure]) (by simp [gd, get_e0, get_e1, LArg.ev, h1, h2]) ?_
          apply rgnS_pre 2
          · repeat (simp -implicitDefEqProofs (maxSteps := 1000000) (disch := first | assumption | omega) [beqF, beqT, h1, h2]; try simp only [List.getElem?_cons_zero, Option.getD_some, app_val])
            rfl
          refine hK _ ?_; clear hK
          -- leaf 4
          refine LWP_ret ⟨_, rfl, ?_⟩
          refine wkV_of_eq ?_
          simp only [retV]
          all_goals
            simp [Nat.add_zero, tR, sT]
  · try simp only [decide_eq_true_eq, decide_eq_false_iff_not, Bool.not_eq_true', Bool.not_eq_false', Bool.not_true, Bool.not_false, beq_iff_eq, bne_iff_ne, beq_eq_false_iff_ne, bne_eq_false_iff_eq, Bool.and_eq_true, Bool.or_eq_false_iff, Int.not_lt, Int.not_le, Nat.not_lt, Nat.not_le, ne_eq, Bool.true_eq_false, Bool.false_eq_true, reduceCtorEq] at h1
    all_goals try (exfalso; omega)
    all_goals
      apply rgnS_pre 8
      · repeat (simp -implicitDefEqProofs (maxSteps := 1000000) (disch := first | assumption | omega) [beqF, beqT, h1]; try simp only [List.getElem?_cons_zero, Option.getD_some, app_val])
        rfl
      apply rgnS_pre 6
      · repeat (simp -implicitDefEqProofs (maxSteps := 1000000) (disch := first | assumption | omega) [beqF, beqT, h1]; try simp only [List.getElem?_cons_zero, Option.getD_some, app_val])
        rfl
      refine hK _ ?_; clear hK
      refine LWP_cond (t := true) (by simp [LArg.ev, get_e0, get_e1, h1]) (fun _ => ?_) (fun h => by cases h)
      refine LWP_seq ?_
      refine LWP_reg fun K hK => ?_
      refine rgnS_call (zero_ok) rfl rfl (by simp [pureL, pureR, AV.pure]) (by simp [pureL, pureR, AV.pure]) (by simp [gd, get_e0, get_e1, LArg.ev, h1]) ?_
      apply rgnS_pre 2
      · repeat (simp -implicitDefEqProofs (maxSteps := 1000000) (disch := first | assumption | omega) [beqF, beqT, h1]; try simp only [List.getElem?_cons_zero, Option.getD_some, app_val])
        rfl
      refine hK _ ?_; clear hK
      -- leaf 5
      refine LWP_ret ⟨_, rfl, ?_⟩
      refine wkV_of_eq ?_
      simp only [retV]
      all_goals
        simp [Nat.add_zero, tR, sT]
end

section
attribute [local simp ↓] List.map_nil List.map_cons
attribute [local simp] m_ o_ g_ stepsS stepS gd opEff appEff LArg.ev app_val app_new app_upd app_kill putV ins_e0 ins_e1 get_e0 get_e1 binV binI grd bnd ldCells AV.cells AV.scalar AV.known setAt fillL chunks elems mxI mnI del Nat.add_assoc nlt_self nne_self nne_self' List.take_of_length_le decT decF wrap_i64 stepsD stepD ST.as dEffF LOp.cls softOK LOp.args LOp.rds AV.ids appD_val appD_new appD_upd appD_kill AS.flush delAll
set_option maxHeartbeats 2000000 in
theorem bar_R (n : Int) (d : Nat) (hm : mOk n d = true) : ACalls Go.Proofs.Tryz.prog 107 [.agg [.int .i64 n, .int .i64 (d : Nat)]] [] 0 (fun r _ _ => r = .tup [.agg (qR (mkRat n d)).e, .int .i64 0]) := by
  refine pure_body ok107 rfl ?_
  simp only [parV]
  have C0 := meter_ok n d (by simp only [mOk, decide_eq_true_eq] at hm; omega) (by simp only [mOk, decide_eq_true_eq] at hm; omega)
  rw [hm] at C0
  simp only [mOk, decide_eq_true_eq] at hm
  obtain ⟨m1, m2, m3, m4, m5⟩ := hm
  have C2 := of_R n d (by omega) (by omega) (by omega) (by omega)
  rw [tR_ok (okR_mk (by omega) (by omega) (by omega) (by omega))] at C2
  simp only [Q.e] at C2
  refine LWP_seq ?_
  apply LWP_run
  · repeat (simp -implicitDefEqProofs (maxSteps := 1000000) (disch := first | assumption | omega) [Q.e]; try simp only [List.getElem?_cons_zero, Option.getD_some, app_val])
    rfl
  refine LWP_seq ?_
  refine LWP_seq ?_
  refine LWP_reg fun K hK => ?_
  apply rgnS_pre 1
  · repeat (simp -implicitDefEqProofs (maxSteps := 1000000) (disch := first | assumption | omega) [Q.e]; try simp only [List.getElem?_cons_zero, Option.getD_some, app_val])
    rfl
  refine rgnS_call (C0) rfl rfl (by simp [pureL, pureR, AV.pure, Q.e]) (by simp [pureL, pureR, AV.pure, Q.e]) (by simp [gd, get_e0, get_e1, LArg.ev]) ?_
  refine rgnS_call (may_yes) rfl rfl (by simp [pureL, pureR, AV.pure, Q.e]) (by simp [pureL, pureR, AV.pure, Q.e]) (by simp [gd, get_e0, get_e1, LArg.ev]) ?_
  apply rgnS_pre 1
  · repeat (simp -implicitDefEqProofs (maxSteps := 1000000) (disch := first | assumption | omega) [Q.e]; try simp only [List.getElem?_cons_zero, Option.getD_some, app_val])
    rfl
  refine hK _ ?_; clear hK
  refine LWP_seq ?_
  apply LWP_run
  · repeat (simp -implicitDefEqProofs (maxSteps := 1000000) (disch := first | assumption | omega) [Q.e]; try simp only [List.getElem?_cons_zero, Option.getD_some, app_val])
    rfl
  refine LWP_cond rfl (fun h1 => ?_) (fun h1 => ?_)
  · try simp only [decide_eq_true_eq, decide_eq_false_iff_not, Bool.not_eq_true', Bool.not_eq_false', Bool.not_true, Bool.not_false, beq_iff_eq, bne_iff_ne, beq_eq_false_iff_ne, bne_eq_false_iff_eq, Bool.and_eq_true, Bool.or_eq_false_iff, Int.not_lt, Int.not_le, Nat.not_lt, Nat.not_le, ne_eq, Bool.true_eq_false, Bool.false_eq_true, reduceCtorEq] at h1
    all_goals try (exfalso; omega)
    all_goals
      refine LWP_seq ?_
      refine LWP_reg fun K hK => ?_
      apply rgnS_pre 2
      · repeat (simp -implicitDefEqProofs (maxSteps := 1000000) (disch := first | assumption | omega) [Q.e, h1]; try simp only [List.getElem?_cons_zero, Option.getD_some, app_val])
        rfl
      refine rgnS_call (may_yes) rfl rfl (by simp [pureL, pureR, AV.pure, Q.e]) (by simp [pureL, pureR, AV.pure, Q.e]) (by simp [gd, get_e0, get_e1, LArg.ev, h1]) ?_
      apply rgnS_pre 2
      · repeat (simp -implicitDefEqProofs (maxSteps := 1000000) (disch := first | assumption | omega) [Q.e, h1]; try simp only [List.getElem?_cons_zero, Option.getD_some, app_val])
        rfl
      refine hK _ ?_; clear hK
      -- leaf 0
      refine LWP_ret ⟨_, rfl, ?_⟩
      refine wkV_of_eq ?_
      simp only [retV]
      all_goals
        simp [Nat.add_zero, Q.e]
  · try simp only [decide_eq_true_eq, decide_eq_false_iff_not, Bool.not_eq_true', Bool.not_eq_false', Bool.not_true, Bool.not_false, beq_iff_eq, bne_iff_ne, beq_eq_false_iff_ne, bne_eq_false_iff_eq, Bool.and_eq_true, Bool.or_eq_false_iff, Int.not_lt, Int.not_le, Nat.not_lt, Nat.not_le, ne_eq, Bool.true_eq_false, Bool.false_eq_true, reduceCtorEq] at h1
    all_goals try (exfalso; omega)
    all_goals
      refine LWP_skip ?_
      refine LWP_seq ?_
      refine LWP_reg fun K hK => ?_
      apply rgnS_pre 4
      · repeat (simp -implicitDefEqProofs (maxSteps := 1000000) (disch := first | assumption | omega) [Q.e, h1]; try simp only [List.getElem?_cons_zero, Option.getD_some, app_val])
        rfl
      refine rgnS_call (C2) rfl rfl (by simp [pureL, pureR, AV.pure, Q.e]) (by simp [pureL, pureR, AV.pure, Q.e]) (by simp [gd, get_e0, get_e1, LArg.ev, h1]) ?_
      apply rgnS_pre 4
      · repeat (simp -implicitDefEqProofs (maxSteps := 1000000) (disch := first | assumption | omega) [Q.e, h1]; try simp only [List.getElem?_cons_zero, Option.getD_some, app_val])
        rfl
      refine hK _ ?_; clear hK
      -- leaf 1
      refine LWP_ret ⟨_, rfl, ?_⟩
      refine wkV_of_eq ?_
      simp only [retV]
      all_goals
        simp [Nat.add_zero, Q.e]
end

end Go.AM.Ez
