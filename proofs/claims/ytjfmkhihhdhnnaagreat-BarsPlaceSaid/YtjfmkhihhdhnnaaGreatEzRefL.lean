/- A part of a proof about the given program: what its name says. No premise beyond the statements'. -/
import Derived.Test.YtjfmkhihhdhnnaaGreatEzRefX
set_option linter.unusedSimpArgs false
set_option linter.unusedVariables false
/- Lowest terms, by the second opinion. -/
namespace Go.AM.Ez
open Go.AM

section
attribute [local simp ↓] List.map_nil List.map_cons
attribute [local simp] m_ o_ g_ stepsS stepS gd opEff appEff LArg.ev app_val app_new app_upd app_kill putV ins_e0 ins_e1 get_e0 get_e1 binV binI grd bnd ldCells AV.cells AV.scalar AV.known setAt fillL chunks elems mxI mnI del Nat.add_assoc nlt_self nne_self nne_self' List.take_of_length_le decT decF wrap_i64 stepsD stepD ST.as dEffF LOp.cls softOK LOp.args LOp.rds AV.ids appD_val appD_new appD_upd appD_kill AS.flush delAll
set_option maxHeartbeats 2000000 in
theorem rlowest_ok (n : Int) (d : Nat) (h0 : 0 < d) (hd : d ≤ 4611686018427387904) (hn1 : -4611686018427387904 ≤ n) (hn2 : n ≤ 4611686018427387904) : ACalls Go.Proofs.Tryz.prog 29 [.int .i64 n, .int .i64 (d : Nat)] [] 0 (fun r _ _ => r = sT (n / (Nat.gcd n.natAbs d : Nat)) ((d : Int) / (Nat.gcd n.natAbs d : Nat))) := by
  refine pure_body ok29 rfl ?_
  simp only [parV]
  have hg : 0 < Nat.gcd n.natAbs d := Nat.gcd_pos_of_pos_right _ h0
  have hb := div_bnd hg hn1 hn2 (by omega)
  have e1 : Int.tdiv n ((Nat.gcd n.natAbs d : Nat) : Int) = n / ((Nat.gcd n.natAbs d : Nat) : Int) := Int.tdiv_eq_ediv_of_dvd (Int.ofNat_dvd_left.2 (Nat.gcd_dvd_left _ _))
  have e2 : Int.tdiv (d : Int) ((Nat.gcd n.natAbs d : Nat) : Int) = (d : Int) / ((Nat.gcd n.natAbs d : Nat) : Int) := Int.tdiv_eq_ediv_of_dvd (Int.ofNat_dvd.2 (Nat.gcd_dvd_right _ _))
  have hd2 := div_bnd (n := (d : Int)) (B := 4611686018427387904) hg (by omega) (by omega) (by omega)
  have C2 := rgcd_ok n.natAbs d (by omega) (by omega)
  obtain ⟨g, hge⟩ : ∃ g, Nat.gcd n.natAbs d = g := ⟨_, rfl⟩
  obtain ⟨q1, hq1⟩ : ∃ q, n / ((Nat.gcd n.natAbs d : Nat) : Int) = q := ⟨_, rfl⟩
  obtain ⟨q2, hq2⟩ : ∃ q, (d : Int) / ((Nat.gcd n.natAbs d : Nat) : Int) = q := ⟨_, rfl⟩
  rw [hq1] at e1 hb
  rw [hq2] at e2 hd2
  simp only [hq1, hq2]
  clear hq1 hq2
  rw [hge] at e1 e2 hg C2
  clear hge
  have zz := hg
  refine LWP_seq ?_
  apply LWP_run
  · repeat (simp -implicitDefEqProofs (maxSteps := 1000000) (disch := first | assumption | omega) [e1, e2]; try simp only [List.getElem?_cons_zero, Option.getD_some, app_val])
    rfl
  refine LWP_seq ?_
  refine LWP_seq ?_
  apply LWP_run
  · repeat (simp -implicitDefEqProofs (maxSteps := 1000000) (disch := first | assumption | omega) [e1, e2]; try simp only [List.getElem?_cons_zero, Option.getD_some, app_val])
    rfl
  refine LWP_cond rfl (fun h1 => ?_) (fun h1 => ?_)
  · try simp only [decide_eq_true_eq, decide_eq_false_iff_not, Bool.not_eq_true', Bool.not_eq_false', Bool.not_true, Bool.not_false, beq_iff_eq, bne_iff_ne, beq_eq_false_iff_ne, bne_eq_false_iff_eq, Bool.and_eq_true, Bool.or_eq_false_iff, Int.not_lt, Int.not_le, Nat.not_lt, Nat.not_le, ne_eq, Bool.true_eq_false, Bool.false_eq_true, reduceCtorEq] at h1
    all_goals try (exfalso; omega)
    all_goals
      apply LWP_run
      · repeat (simp -implicitDefEqProofs (maxSteps := 1000000) (disch := first | assumption | omega) [e1, e2, h1]; try simp only [List.getElem?_cons_zero, Option.getD_some, app_val])
        rfl
      refine LWP_seq ?_
      refine LWP_reg fun K hK => ?_
      apply rgnS_pre 1
      · repeat (simp -implicitDefEqProofs (maxSteps := 1000000) (disch := first | assumption | omega) [e1, e2, h1]; try simp only [List.getElem?_cons_zero, Option.getD_some, app_val])
        rfl
      refine rgnS_call (rabs_ok n (by omega) (by omega)) rfl rfl (by simp [pureL, pureR, AV.pure]) (by simp [pureL, pureR, AV.pure]) (by simp [gd, get_e0, get_e1, LArg.ev, h1]) ?_
      apply rgnS_pre 1
      · repeat (simp -implicitDefEqProofs (maxSteps := 1000000) (disch := first | assumption | omega) [e1, e2, h1]; try simp only [List.getElem?_cons_zero, Option.getD_some, app_val])
        rfl
      refine rgnS_call (C2) rfl rfl (by simp [pureL, pureR, AV.pure]) (by simp [pureL, pureR, AV.pure]) (by simp [gd, get_e0, get_e1, LArg.ev, h1]) ?_
      apply rgnS_pre 1
      · repeat (simp -implicitDefEqProofs (maxSteps := 1000000) (disch := first | assumption | omega) [e1, e2, h1]; try simp only [List.getElem?_cons_zero, Option.getD_some, app_val])
        rfl
      refine hK _ ?_; clear hK
      refine LWP_seq ?_
      apply LWP_runD
      · repeat (simp -implicitDefEqProofs (maxSteps := 1000000) (disch := first | assumption | omega) [e1, e2, h1]; try simp only [List.getElem?_cons_zero, Option.getD_some, app_val])
        rfl
      · simp [AS.fin, delAll, del, Nat.add_assoc]; rfl
      refine LWP_seq ?_
      refine LWP_seq ?_
      refine LWP_reg fun K hK => ?_
      apply rgnS_pre 2
      · repeat (simp -implicitDefEqProofs (maxSteps := 1000000) (disch := first | assumption | omega) [e1, e2, h1]; try simp only [List.getElem?_cons_zero, Option.getD_some, app_val])
        rfl
      refine rgnS_call (rabs_ok q1 (by omega) (by omega)) rfl rfl (by simp [pureL, pureR, AV.pure]) (by simp [pureL, pureR, AV.pure]) (by simp [gd, get_e0, get_e1, LArg.ev, h1]) ?_
      apply rgnS_pre 2
      · repeat (simp -implicitDefEqProofs (maxSteps := 1000000) (disch := first | assumption | omega) [e1, e2, h1]; try simp only [List.getElem?_cons_zero, Option.getD_some, app_val])
        rfl
      refine rgnS_guard (x := 29) (b := false) rfl (fun h2 => ?_) (fun h2 => ?_)
      · try simp only [decide_eq_true_eq, decide_eq_false_iff_not, Bool.not_eq_true', Bool.not_eq_false', Bool.not_true, Bool.not_false, beq_iff_eq, bne_iff_ne, beq_eq_false_iff_ne, bne_eq_false_iff_eq, Bool.and_eq_true, Bool.or_eq_false_iff, Int.not_lt, Int.not_le, Nat.not_lt, Nat.not_le, ne_eq, Bool.true_eq_false, Bool.false_eq_true, reduceCtorEq] at h2
        all_goals try (exfalso; omega)
        all_goals
          apply rgnS_pre 4
          · repeat (simp -implicitDefEqProofs (maxSteps := 1000000) (disch := first | assumption | omega) [e1, e2, h1, h2]; try simp only [List.getElem?_cons_zero, Option.getD_some, app_val])
            rfl
          refine hK _ ?_; clear hK
          refine LWP_cond rfl (fun h3 => ?_) (fun h3 => ?_)
          · try simp only [decide_eq_true_eq, decide_eq_false_iff_not, Bool.not_eq_true', Bool.not_eq_false', Bool.not_true, Bool.not_false, beq_iff_eq, bne_iff_ne, beq_eq_false_iff_ne, bne_eq_false_iff_eq, Bool.and_eq_true, Bool.or_eq_false_iff, Int.not_lt, Int.not_le, Nat.not_lt, Nat.not_le, ne_eq, Bool.true_eq_false, Bool.false_eq_true, reduceCtorEq] at h3
            all_goals try (exfalso; omega)
            all_goals
              refine LWP_seq ?_
              apply LWP_run
              · repeat (simp -implicitDefEqProofs (maxSteps := 1000000) (disch := first | assumption | omega) [e1, e2, h1, h2, h3]; try simp only [List.getElem?_cons_zero, Option.getD_some, app_val])
                rfl
              -- leaf 0
              refine LWP_ret ⟨_, rfl, ?_⟩
              refine wkV_of_eq ?_
              simp only [retV]
              all_goals
                first | (rw [sT_no (by omega)]; simp; done) | (rw [sT_yes (by omega) (by omega)]; simp; done)
          · try simp only [decide_eq_true_eq, decide_eq_false_iff_not, Bool.not_eq_true', Bool.not_eq_false', Bool.not_true, Bool.not_false, beq_iff_eq, bne_iff_ne, beq_eq_false_iff_ne, bne_eq_false_iff_eq, Bool.and_eq_true, Bool.or_eq_false_iff, Int.not_lt, Int.not_le, Nat.not_lt, Nat.not_le, ne_eq, Bool.true_eq_false, Bool.false_eq_true, reduceCtorEq] at h3
            all_goals try (exfalso; omega)
            all_goals
              refine LWP_skip ?_
              refine LWP_seq ?_
              apply LWP_run
              · repeat (simp -implicitDefEqProofs (maxSteps := 1000000) (disch := first | assumption | omega) [e1, e2, h1, h2, h3]; try simp only [List.getElem?_cons_zero, Option.getD_some, app_val])
                rfl
              -- leaf 1
              refine LWP_ret ⟨_, rfl, ?_⟩
              refine wkV_of_eq ?_
              simp only [retV]
              all_goals
                first | (rw [sT_no (by omega)]; simp; done) | (rw [sT_yes (by omega) (by omega)]; simp; done)
      · try simp only [decide_eq_true_eq, decide_eq_false_iff_not, Bool.not_eq_true', Bool.not_eq_false', Bool.not_true, Bool.not_false, beq_iff_eq, bne_iff_ne, beq_eq_false_iff_ne, bne_eq_false_iff_eq, Bool.and_eq_true, Bool.or_eq_false_iff, Int.not_lt, Int.not_le, Nat.not_lt, Nat.not_le, ne_eq, Bool.true_eq_false, Bool.false_eq_true, reduceCtorEq] at h2
        all_goals try (exfalso; omega)
        all_goals
          apply rgnS_pre 3
          · repeat (simp -implicitDefEqProofs (maxSteps := 1000000) (disch := first | assumption | omega) [e1, e2, h1, h2]; try simp only [List.getElem?_cons_zero, Option.getD_some, app_val])
            rfl
          refine hK _ ?_; clear hK
          refine LWP_cond (t := true) (by simp [LArg.ev, get_e0, get_e1, h1, h2]) (fun _ => ?_) (fun h => by cases h)
          refine LWP_seq ?_
          apply LWP_run
          · repeat (simp -implicitDefEqProofs (maxSteps := 1000000) (disch := first | assumption | omega) [e1, e2, h1, h2]; try simp only [List.getElem?_cons_zero, Option.getD_some, app_val])
            rfl
          -- leaf 2
          refine LWP_ret ⟨_, rfl, ?_⟩
          refine wkV_of_eq ?_
          simp only [retV]
          all_goals
            first | (rw [sT_no (by omega)]; simp; done) | (rw [sT_yes (by omega) (by omega)]; simp; done)
  · try simp only [decide_eq_true_eq, decide_eq_false_iff_not, Bool.not_eq_true', Bool.not_eq_false', Bool.not_true, Bool.not_false, beq_iff_eq, bne_iff_ne, beq_eq_false_iff_ne, bne_eq_false_iff_eq, Bool.and_eq_true, Bool.or_eq_false_iff, Int.not_lt, Int.not_le, Nat.not_lt, Nat.not_le, ne_eq, Bool.true_eq_false, Bool.false_eq_true, reduceCtorEq] at h1
    all_goals try (exfalso; omega)
    all_goals
      refine LWP_skip ?_
      refine LWP_seq ?_
      refine LWP_reg fun K hK => ?_
      apply rgnS_pre 1
      · repeat (simp -implicitDefEqProofs (maxSteps := 1000000) (disch := first | assumption | omega) [e1, e2, h1]; try simp only [List.getElem?_cons_zero, Option.getD_some, app_val])
        rfl
      refine rgnS_call (rabs_ok n (by omega) (by omega)) rfl rfl (by simp [pureL, pureR, AV.pure]) (by simp [pureL, pureR, AV.pure]) (by simp [gd, get_e0, get_e1, LArg.ev, h1]) ?_
      apply rgnS_pre 1
      · repeat (simp -implicitDefEqProofs (maxSteps := 1000000) (disch := first | assumption | omega) [e1, e2, h1]; try simp only [List.getElem?_cons_zero, Option.getD_some, app_val])
        rfl
      refine rgnS_call (C2) rfl rfl (by simp [pureL, pureR, AV.pure]) (by simp [pureL, pureR, AV.pure]) (by simp [gd, get_e0, get_e1, LArg.ev, h1]) ?_
      apply rgnS_pre 1
      · repeat (simp -implicitDefEqProofs (maxSteps := 1000000) (disch := first | assumption | omega) [e1, e2, h1]; try simp only [List.getElem?_cons_zero, Option.getD_some, app_val])
        rfl
      refine hK _ ?_; clear hK
      refine LWP_seq ?_
      apply LWP_runD
      · repeat (simp -implicitDefEqProofs (maxSteps := 1000000) (disch := first | assumption | omega) [e1, e2, h1]; try simp only [List.getElem?_cons_zero, Option.getD_some, app_val])
        rfl
      · simp [AS.fin, delAll, del, Nat.add_assoc]; rfl
      refine LWP_seq ?_
      refine LWP_seq ?_
      refine LWP_reg fun K hK => ?_
      apply rgnS_pre 2
      · repeat (simp -implicitDefEqProofs (maxSteps := 1000000) (disch := first | assumption | omega) [e1, e2, h1]; try simp only [List.getElem?_cons_zero, Option.getD_some, app_val])
        rfl
      refine rgnS_call (rabs_ok q1 (by omega) (by omega)) rfl rfl (by simp [pureL, pureR, AV.pure]) (by simp [pureL, pureR, AV.pure]) (by simp [gd, get_e0, get_e1, LArg.ev, h1]) ?_
      apply rgnS_pre 2
      · repeat (simp -implicitDefEqProofs (maxSteps := 1000000) (disch := first | assumption | omega) [e1, e2, h1]; try simp only [List.getElem?_cons_zero, Option.getD_some, app_val])
        rfl
      refine rgnS_guard (x := 29) (b := false) rfl (fun h4 => ?_) (fun h4 => ?_)
      · try simp only [decide_eq_true_eq, decide_eq_false_iff_not, Bool.not_eq_true', Bool.not_eq_false', Bool.not_true, Bool.not_false, beq_iff_eq, bne_iff_ne, beq_eq_false_iff_ne, bne_eq_false_iff_eq, Bool.and_eq_true, Bool.or_eq_false_iff, Int.not_lt, Int.not_le, Nat.not_lt, Nat.not_le, ne_eq, Bool.true_eq_false, Bool.false_eq_true, reduceCtorEq] at h4
        all_goals try (exfalso; omega)
        all_goals
          apply rgnS_pre 4
          · repeat (simp -implicitDefEqProofs (maxSteps := 1000000) (disch := first | assumption | omega) [e1, e2, h1, h4]; try simp only [List.getElem?_cons_zero, Option.getD_some, app_val])
            rfl
          refine hK _ ?_; clear hK
          refine LWP_cond rfl (fun h5 => ?_) (fun h5 => ?_)
          · try simp only [decide_eq_true_eq, decide_eq_false_iff_not, Bool.not_eq_true', Bool.not_eq_false', Bool.not_true, Bool.not_false, beq_iff_eq, bne_iff_ne, beq_eq_false_iff_ne, bne_eq_false_iff_eq, Bool.and_eq_true, Bool.or_eq_false_iff, Int.not_lt, Int.not_le, Nat.not_lt, Nat.not_le, ne_eq, Bool.true_eq_false, Bool.false_eq_true, reduceCtorEq] at h5
            all_goals try (exfalso; omega)
            all_goals
              refine LWP_seq ?_
              apply LWP_run
              · repeat (simp -implicitDefEqProofs (maxSteps := 1000000) (disch := first | assumption | omega) [e1, e2, h1, h4, h5]; try simp only [List.getElem?_cons_zero, Option.getD_some, app_val])
                rfl
              -- leaf 3
              refine LWP_ret ⟨_, rfl, ?_⟩
              refine wkV_of_eq ?_
              simp only [retV]
              all_goals
                first | (rw [sT_no (by omega)]; simp; done) | (rw [sT_yes (by omega) (by omega)]; simp; done)
          · try simp only [decide_eq_true_eq, decide_eq_false_iff_not, Bool.not_eq_true', Bool.not_eq_false', Bool.not_true, Bool.not_false, beq_iff_eq, bne_iff_ne, beq_eq_false_iff_ne, bne_eq_false_iff_eq, Bool.and_eq_true, Bool.or_eq_false_iff, Int.not_lt, Int.not_le, Nat.not_lt, Nat.not_le, ne_eq, Bool.true_eq_false, Bool.false_eq_true, reduceCtorEq] at h5
            all_goals try (exfalso; omega)
            all_goals
              refine LWP_skip ?_
              refine LWP_seq ?_
              apply LWP_run
              · repeat (simp -implicitDefEqProofs (maxSteps := 1000000) (disch := first | assumption | omega) [e1, e2, h1, h4, h5]; try simp only [List.getElem?_cons_zero, Option.getD_some, app_val])
                rfl
              -- leaf 4
              refine LWP_ret ⟨_, rfl, ?_⟩
              refine wkV_of_eq ?_
              simp only [retV]
              all_goals
                first | (rw [sT_no (by omega)]; simp; done) | (rw [sT_yes (by omega) (by omega)]; simp; done)
      · try simp only [decide_eq_true_eq, decide_eq_false_iff_not, Bool.not_eq_true', Bool.not_eq_false', Bool.not_true, Bool.not_false, beq_iff_eq, bne_iff_ne, beq_eq_false_iff_ne, bne_eq_false_iff_eq, Bool.and_eq_true, Bool.or_eq_false_iff, Int.not_lt, Int.not_le, Nat.not_lt, Nat.not_le, ne_eq, Bool.true_eq_false, Bool.false_eq_true, reduceCtorEq] at h4
        all_goals try (exfalso; omega)
        all_goals
          apply rgnS_pre 3
          · repeat (simp -implicitDefEqProofs (maxSteps := 1000000) (disch := first | assumption | omega) [e1, e2, h1, h4]; try simp only [List.getElem?_cons_zero, Option.getD_some, app_val])
            rfl
          refine hK _ ?_; clear hK
          refine LWP_cond (t := true) (by simp [LArg.ev, get_e0, get_e1, h1, h4]) (fun _ => ?_) (fun h => by cases h)
          refine LWP_seq ?_
          apply LWP_run
          · repeat (simp -implicitDefEqProofs (maxSteps := 1000000) (disch := first | assumption | omega) [e1, e2, h1, h4]; try simp only [List.getElem?_cons_zero, Option.getD_some, app_val])
            rfl
          -- leaf 5
          refine LWP_ret ⟨_, rfl, ?_⟩
          refine wkV_of_eq ?_
          simp only [retV]
          all_goals
            first | (rw [sT_no (by omega)]; simp; done) | (rw [sT_yes (by omega) (by omega)]; simp; done)
end

theorem rlowest_R (n : Int) (d : Nat) (h0 : 0 < d) (hd : d ≤ 4611686018427387904) (hn1 : -4611686018427387904 ≤ n) (hn2 : n ≤ 4611686018427387904) :
    ACalls Go.Proofs.Tryz.prog 29 [.int .i64 n, .int .i64 (d : Nat)] [] 0 (fun r _ _ => r = tR (mkRat n d)) := by
  have h := rlowest_ok n d h0 hd hn1 hn2
  rwa [tR, mk_num h0, mk_den h0]

end Go.AM.Ez
