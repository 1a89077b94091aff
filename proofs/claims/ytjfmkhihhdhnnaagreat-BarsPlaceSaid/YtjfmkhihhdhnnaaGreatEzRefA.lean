/- A part of a proof about the given program: what its name says. No premise beyond the statements'. -/
import Derived.Test.YtjfmkhihhdhnnaaGreatEzRefL
import Derived.Test.YtjfmkhihhdhnnaaGreatEzRefY
set_option linter.unusedSimpArgs false
set_option linter.unusedVariables false
/- The second opinion: sums, meters, bars. -/
namespace Go.AM.Ez
open Go.AM

section
attribute [local simp ↓] List.map_nil List.map_cons
attribute [local simp] m_ o_ g_ stepsS stepS gd opEff appEff LArg.ev app_val app_new app_upd app_kill putV ins_e0 ins_e1 get_e0 get_e1 binV binI grd bnd ldCells AV.cells AV.scalar AV.known setAt fillL chunks elems mxI mnI del Nat.add_assoc nlt_self nne_self nne_self' List.take_of_length_le decT decF wrap_i64 stepsD stepD ST.as dEffF LOp.cls softOK LOp.args LOp.rds AV.ids appD_val appD_new appD_upd appD_kill AS.flush delAll
set_option maxHeartbeats 2000000 in
theorem radd_R (x y : Rat) (hx : okR x) (hy : okR y) : ACalls Go.Proofs.Tryz.prog 10 [.agg (qR x).e, .agg (qR y).e] [] 0 (fun r _ _ => r = tR (x + y)) := by
  refine pure_body ok10 rfl ?_
  simp only [parV]
  have CX := rchk_R hx
  have CY := rchk_R hy
  simp only [Q.e, qR] at CX CY
  obtain ⟨x1, x2⟩ := hx
  obtain ⟨y1, y2⟩ := hy
  have xp := den_pos' x
  have yp := den_pos' y
  have C1 := rgcd_ok x.den y.den (by omega) (by omega)
  have hg : 0 < Nat.gcd x.den y.den := Nat.gcd_pos_of_pos_left _ xp
  have e1 : Int.tdiv (y.den : Int) ((Nat.gcd x.den y.den : Nat) : Int) = (y.den : Int) / ((Nat.gcd x.den y.den : Nat) : Int) := Int.tdiv_eq_ediv_of_dvd (Int.ofNat_dvd.2 (Nat.gcd_dvd_right _ _))
  have e2 : Int.tdiv (x.den : Int) ((Nat.gcd x.den y.den : Nat) : Int) = (x.den : Int) / ((Nat.gcd x.den y.den : Nat) : Int) := Int.tdiv_eq_ediv_of_dvd (Int.ofNat_dvd.2 (Nat.gcd_dvd_left _ _))
  have yb := div_bnd (n := (y.den : Int)) (B := 1048576) hg (by omega) (by omega) (by omega)
  have xb := div_bnd (n := (x.den : Int)) (B := 1048576) hg (by omega) (by omega) (by omega)
  have yb0 : 0 ≤ (y.den : Int) / ((Nat.gcd x.den y.den : Nat) : Int) := Int.ediv_nonneg (by omega) (by omega)
  have xb0 : 0 ≤ (x.den : Int) / ((Nat.gcd x.den y.den : Nat) : Int) := Int.ediv_nonneg (by omega) (by omega)
  have p1 := mul_bnd (a := x.num) (A := 1099511627776) (by omega) (by omega) yb0 yb.2 (by omega)
  have p2 := mul_bnd (a := y.num) (A := 1099511627776) (by omega) (by omega) xb0 xb.2 (by omega)
  have p3 := mul_bnd (a := (x.den : Int) / ((Nat.gcd x.den y.den : Nat) : Int)) (b := (y.den : Int)) (A := 1048576) (B := 1048576) (by omega) (by omega) (by omega) (by omega) (by omega)
  have dp : 0 < x.den / Nat.gcd x.den y.den * y.den := Nat.mul_pos (Nat.div_pos (Nat.le_of_dvd xp (Nat.gcd_dvd_left _ _)) hg) yp
  have hdd : ((x.den / Nat.gcd x.den y.den * y.den : Nat) : Int) ≤ 4611686018427387904 := by
    rw [Int.natCast_mul, Int.natCast_ediv]
    omega
  have C2 := rlowest_R (x.num * ((y.den / Nat.gcd x.den y.den : Nat) : Int) + y.num * ((x.den / Nat.gcd x.den y.den : Nat) : Int)) (x.den / Nat.gcd x.den y.den * y.den) dp (by omega) (by rw [Int.natCast_ediv, Int.natCast_ediv]; omega) (by rw [Int.natCast_ediv, Int.natCast_ediv]; omega)
  rw [add_mk] at C2
  simp only [Int.natCast_mul, Int.natCast_ediv, tR, sT] at C2
  refine LWP_seq ?_
  apply LWP_run
  · repeat (simp -implicitDefEqProofs (maxSteps := 1000000) (disch := first | assumption | omega) [Q.e, qR, e1, e2]; try simp only [List.getElem?_cons_zero, Option.getD_some, app_val])
    rfl
  refine LWP_seq ?_
  refine LWP_seq ?_
  refine LWP_reg fun K hK => ?_
  apply rgnS_pre 1
  · repeat (simp -implicitDefEqProofs (maxSteps := 1000000) (disch := first | assumption | omega) [Q.e, qR, e1, e2]; try simp only [List.getElem?_cons_zero, Option.getD_some, app_val])
    rfl
  refine rgnS_call (CX) rfl rfl (by simp [pureL, pureR, AV.pure, Q.e, qR]) (by simp [pureL, pureR, AV.pure, Q.e, qR]) (by simp [gd, get_e0, get_e1, LArg.ev]) ?_
  apply rgnS_pre 2
  · repeat (simp -implicitDefEqProofs (maxSteps := 1000000) (disch := first | assumption | omega) [Q.e, qR, e1, e2]; try simp only [List.getElem?_cons_zero, Option.getD_some, app_val])
    rfl
  refine rgnS_guard (x := 11) (b := false) rfl (fun h1 => ?_) (fun h1 => ?_)
  · try simp only [decide_eq_true_eq, decide_eq_false_iff_not, Bool.not_eq_true', Bool.not_eq_false', Bool.not_true, Bool.not_false, beq_iff_eq, bne_iff_ne, beq_eq_false_iff_ne, bne_eq_false_iff_eq, Bool.and_eq_true, Bool.or_eq_false_iff, Int.not_lt, Int.not_le, Nat.not_lt, Nat.not_le, ne_eq, Bool.true_eq_false, Bool.false_eq_true, reduceCtorEq] at h1
    all_goals try (exfalso; omega)
    all_goals
      apply rgnS_pre 1
      · repeat (simp -implicitDefEqProofs (maxSteps := 1000000) (disch := first | assumption | omega) [Q.e, qR, e1, e2, h1]; try simp only [List.getElem?_cons_zero, Option.getD_some, app_val])
        rfl
      refine rgnS_call (CY) rfl rfl (by simp [pureL, pureR, AV.pure, Q.e, qR]) (by simp [pureL, pureR, AV.pure, Q.e, qR]) (by simp [gd, get_e0, get_e1, LArg.ev, h1]) ?_
      apply rgnS_pre 2
      · repeat (simp -implicitDefEqProofs (maxSteps := 1000000) (disch := first | assumption | omega) [Q.e, qR, e1, e2, h1]; try simp only [List.getElem?_cons_zero, Option.getD_some, app_val])
        rfl
      refine hK _ ?_; clear hK
      refine LWP_cond rfl (fun h2 => ?_) (fun h2 => ?_)
      · try simp only [decide_eq_true_eq, decide_eq_false_iff_not, Bool.not_eq_true', Bool.not_eq_false', Bool.not_true, Bool.not_false, beq_iff_eq, bne_iff_ne, beq_eq_false_iff_ne, bne_eq_false_iff_eq, Bool.and_eq_true, Bool.or_eq_false_iff, Int.not_lt, Int.not_le, Nat.not_lt, Nat.not_le, ne_eq, Bool.true_eq_false, Bool.false_eq_true, reduceCtorEq] at h2
        all_goals try (exfalso; omega)
        all_goals
          refine LWP_seq ?_
          apply LWP_run
          · repeat (simp -implicitDefEqProofs (maxSteps := 1000000) (disch := first | assumption | omega) [Q.e, qR, e1, e2, h1, h2]; try simp only [List.getElem?_cons_zero, Option.getD_some, app_val])
            rfl
          -- leaf 0
          refine LWP_ret ⟨_, rfl, ?_⟩
          refine wkV_of_eq ?_
          simp only [retV]
          all_goals
            simp [Nat.add_zero, tR, sT]
      · try simp only [decide_eq_true_eq, decide_eq_false_iff_not, Bool.not_eq_true', Bool.not_eq_false', Bool.not_true, Bool.not_false, beq_iff_eq, bne_iff_ne, beq_eq_false_iff_ne, bne_eq_false_iff_eq, Bool.and_eq_true, Bool.or_eq_false_iff, Int.not_lt, Int.not_le, Nat.not_lt, Nat.not_le, ne_eq, Bool.true_eq_false, Bool.false_eq_true, reduceCtorEq] at h2
        all_goals try (exfalso; omega)
        all_goals
          refine LWP_skip ?_
          refine LWP_seq ?_
          refine LWP_reg fun K hK => ?_
          apply rgnS_pre 4
          · repeat (simp -implicitDefEqProofs (maxSteps := 1000000) (disch := first | assumption | omega) [Q.e, qR, e1, e2, h1, h2]; try simp only [List.getElem?_cons_zero, Option.getD_some, app_val])
            rfl
          refine rgnS_call (C1) rfl rfl (by simp [pureL, pureR, AV.pure, Q.e, qR]) (by simp [pureL, pureR, AV.pure, Q.e, qR]) (by simp [gd, get_e0, get_e1, LArg.ev, h1, h2]) ?_
          apply rgnS_pre 1
          · repeat (simp -implicitDefEqProofs (maxSteps := 1000000) (disch := first | assumption | omega) [Q.e, qR, e1, e2, h1, h2]; try simp only [List.getElem?_cons_zero, Option.getD_some, app_val])
            rfl
          refine hK _ ?_; clear hK
          refine LWP_seq ?_
          refine LWP_regD' fun K hK => ?_
          apply rgnD_pre 8
          · repeat (simp -implicitDefEqProofs (maxSteps := 1000000) (disch := first | assumption | omega) [Q.e, qR, e1, e2, h1, h2]; try simp only [List.getElem?_cons_zero, Option.getD_some, app_val])
            rfl
          apply rgnD_pre 8
          · repeat (simp -implicitDefEqProofs (maxSteps := 1000000) (disch := first | assumption | omega) [Q.e, qR, e1, e2, h1, h2]; try simp only [List.getElem?_cons_zero, Option.getD_some, app_val])
            rfl
          refine hK _ _ (by simp [AS.fin, delAll, del, Nat.add_assoc]; rfl) ?_; clear hK
          refine LWP_seq ?_
          refine LWP_regD' fun K hK => ?_
          apply rgnD_pre 8
          · repeat (simp -implicitDefEqProofs (maxSteps := 1000000) (disch := first | assumption | omega) [Q.e, qR, e1, e2, h1, h2]; try simp only [List.getElem?_cons_zero, Option.getD_some, app_val])
            rfl
          refine rgnD_call (C2) rfl rfl (by simp [pureL, pureR, AV.pure, Q.e, qR]) (by simp [pureL, pureR, AV.pure, Q.e, qR]) (by simp [gd, get_e0, get_e1, LArg.ev, h1, h2]) (by simp (maxSteps := 1000000) (disch := first | assumption | omega) [Q.e, qR, e1, e2]) ?_
          apply rgnD_pre 4
          · repeat (simp -implicitDefEqProofs (maxSteps := 1000000) (disch := first | assumption | omega) [Q.e, qR, e1, e2, h1, h2]; try simp only [List.getElem?_cons_zero, Option.getD_some, app_val])
            rfl
          refine hK _ _ (by simp [AS.fin, delAll, del, Nat.add_assoc]; rfl) ?_; clear hK
          -- leaf 1
          refine LWP_ret ⟨_, rfl, ?_⟩
          refine wkV_of_eq ?_
          simp only [retV]
          all_goals
            simp [Nat.add_zero, tR, sT]
  · try simp only [decide_eq_true_eq, decide_eq_false_iff_not, Bool.not_eq_true', Bool.not_eq_false', Bool.not_true, Bool.not_false, beq_iff_eq, bne_iff_ne, beq_eq_false_iff_ne, bne_eq_false_iff_eq, Bool.and_eq_true, Bool.or_eq_false_iff, Int.not_lt, Int.not_le, Nat.not_lt, Nat.not_le, ne_eq, Bool.true_eq_false, Bool.false_eq_true, reduceCtorEq] at h1
    all_goals try (exfalso; omega)
    all_goals
      apply rgnS_pre 3
      · repeat (simp -implicitDefEqProofs (maxSteps := 1000000) (disch := first | assumption | omega) [Q.e, qR, e1, e2, h1]; try simp only [List.getElem?_cons_zero, Option.getD_some, app_val])
        rfl
      refine hK _ ?_; clear hK
      refine LWP_cond (t := true) (by simp [LArg.ev, get_e0, get_e1, h1]) (fun _ => ?_) (fun h => by cases h)
      refine LWP_seq ?_
      apply LWP_run
      · repeat (simp -implicitDefEqProofs (maxSteps := 1000000) (disch := first | assumption | omega) [Q.e, qR, e1, e2, h1]; try simp only [List.getElem?_cons_zero, Option.getD_some, app_val])
        rfl
      -- leaf 2
      refine LWP_ret ⟨_, rfl, ?_⟩
      refine wkV_of_eq ?_
      simp only [retV]
      all_goals
        simp [Nat.add_zero, tR, sT]
end

section
attribute [local simp ↓] List.map_nil List.map_cons
attribute [local simp] m_ o_ g_ stepsS stepS gd opEff appEff LArg.ev app_val app_new app_upd app_kill putV ins_e0 ins_e1 get_e0 get_e1 binV binI grd bnd ldCells AV.cells AV.scalar AV.known setAt fillL chunks elems mxI mnI del Nat.add_assoc nlt_self nne_self nne_self' List.take_of_length_le decT decF wrap_i64 stepsD stepD ST.as dEffF LOp.cls softOK LOp.args LOp.rds AV.ids appD_val appD_new appD_upd appD_kill AS.flush delAll
set_option maxHeartbeats 2000000 in
theorem rof_R (n : Int) (d : Nat) (h0 : 0 < d) (hd : d ≤ 1152921504606846976) (hn1 : -1152921504606846976 ≤ n) (hn2 : n ≤ 1152921504606846976) : ACalls Go.Proofs.Tryz.prog 26 [.int .i64 n, .int .i64 (d : Nat)] [] 0 (fun r _ _ => r = tR (mkRat n d)) := by
  refine pure_body ok26 rfl ?_
  simp only [parV]
  have C2 := rlowest_R n d h0 (by omega) (by omega) (by omega)
  simp only [tR, sT] at C2
  refine LWP_seq ?_
  apply LWP_run
  · repeat (simp -implicitDefEqProofs (maxSteps := 1000000) (disch := first | assumption | omega) [beqF, beqT]; try simp only [List.getElem?_cons_zero, Option.getD_some, app_val])
    rfl
  refine LWP_seq ?_
  refine LWP_seq ?_
  refine LWP_reg fun K hK => ?_
  apply rgnS_pre 3
  · repeat (simp -implicitDefEqProofs (maxSteps := 1000000) (disch := first | assumption | omega) [beqF, beqT]; try simp only [List.getElem?_cons_zero, Option.getD_some, app_val])
    rfl
  refine rgnS_guard (x := 8) (b := false) rfl (fun h1 => ?_) (fun h1 => ?_)
  · try simp only [decide_eq_true_eq, decide_eq_false_iff_not, Bool.not_eq_true', Bool.not_eq_false', Bool.not_true, Bool.not_false, beq_iff_eq, bne_iff_ne, beq_eq_false_iff_ne, bne_eq_false_iff_eq, Bool.and_eq_true, Bool.or_eq_false_iff, Int.not_lt, Int.not_le, Nat.not_lt, Nat.not_le, ne_eq, Bool.true_eq_false, Bool.false_eq_true, reduceCtorEq] at h1
    all_goals try (exfalso; omega)
    all_goals
      apply rgnS_pre 4
      · repeat (simp -implicitDefEqProofs (maxSteps := 1000000) (disch := first | assumption | omega) [beqF, beqT, h1]; try simp only [List.getElem?_cons_zero, Option.getD_some, app_val])
        rfl
      refine rgnS_guard (x := 12) (b := false) rfl (fun h2 => ?_) (fun h2 => ?_)
      · try simp only [decide_eq_true_eq, decide_eq_false_iff_not, Bool.not_eq_true', Bool.not_eq_false', Bool.not_true, Bool.not_false, beq_iff_eq, bne_iff_ne, beq_eq_false_iff_ne, bne_eq_false_iff_eq, Bool.and_eq_true, Bool.or_eq_false_iff, Int.not_lt, Int.not_le, Nat.not_lt, Nat.not_le, ne_eq, Bool.true_eq_false, Bool.false_eq_true, reduceCtorEq] at h2
        all_goals try (exfalso; omega)
        all_goals
          apply rgnS_pre 4
          · repeat (simp -implicitDefEqProofs (maxSteps := 1000000) (disch := first | assumption | omega) [beqF, beqT, h1, h2]; try simp only [List.getElem?_cons_zero, Option.getD_some, app_val])
            rfl
          refine rgnS_guard (x := 16) (b := false) rfl (fun h3 => ?_) (fun h3 => ?_)
          · try simp only [decide_eq_true_eq, decide_eq_false_iff_not, Bool.not_eq_true', Bool.not_eq_false', Bool.not_true, Bool.not_false, beq_iff_eq, bne_iff_ne, beq_eq_false_iff_ne, bne_eq_false_iff_eq, Bool.and_eq_true, Bool.or_eq_false_iff, Int.not_lt, Int.not_le, Nat.not_lt, Nat.not_le, ne_eq, Bool.true_eq_false, Bool.false_eq_true, reduceCtorEq] at h3
            all_goals try (exfalso; omega)
            all_goals
              apply rgnS_pre 4
              · repeat (simp -implicitDefEqProofs (maxSteps := 1000000) (disch := first | assumption | omega) [beqF, beqT, h1, h2, h3]; try simp only [List.getElem?_cons_zero, Option.getD_some, app_val])
                rfl
              refine rgnS_guard (x := 20) (b := false) rfl (fun h4 => ?_) (fun h4 => ?_)
              · try simp only [decide_eq_true_eq, decide_eq_false_iff_not, Bool.not_eq_true', Bool.not_eq_false', Bool.not_true, Bool.not_false, beq_iff_eq, bne_iff_ne, beq_eq_false_iff_ne, bne_eq_false_iff_eq, Bool.and_eq_true, Bool.or_eq_false_iff, Int.not_lt, Int.not_le, Nat.not_lt, Nat.not_le, ne_eq, Bool.true_eq_false, Bool.false_eq_true, reduceCtorEq] at h4
                all_goals try (exfalso; omega)
                all_goals
                  apply rgnS_pre 3
                  · repeat (simp -implicitDefEqProofs (maxSteps := 1000000) (disch := first | assumption | omega) [beqF, beqT, h1, h2, h3, h4]; try simp only [List.getElem?_cons_zero, Option.getD_some, app_val])
                    rfl
                  refine hK _ ?_; clear hK
                  refine LWP_cond rfl (fun h5 => ?_) (fun h5 => ?_)
                  · try simp only [decide_eq_true_eq, decide_eq_false_iff_not, Bool.not_eq_true', Bool.not_eq_false', Bool.not_true, Bool.not_false, beq_iff_eq, bne_iff_ne, beq_eq_false_iff_ne, bne_eq_false_iff_eq, Bool.and_eq_true, Bool.or_eq_false_iff, Int.not_lt, Int.not_le, Nat.not_lt, Nat.not_le, ne_eq, Bool.true_eq_false, Bool.false_eq_true, reduceCtorEq] at h5
                    all_goals try (exfalso; omega)
                    all_goals
                      refine LWP_seq ?_
                      apply LWP_run
                      · repeat (simp -implicitDefEqProofs (maxSteps := 1000000) (disch := first | assumption | omega) [beqF, beqT, h1, h2, h3, h4, h5]; try simp only [List.getElem?_cons_zero, Option.getD_some, app_val])
                        rfl
                      -- leaf 0
                      refine LWP_ret ⟨_, rfl, ?_⟩
                      refine wkV_of_eq ?_
                      simp only [retV]
                      all_goals
                        simp [Nat.add_zero, tR, sT]
                  · try simp only [decide_eq_true_eq, decide_eq_false_iff_not, Bool.not_eq_true', Bool.not_eq_false', Bool.not_true, Bool.not_false, beq_iff_eq, bne_iff_ne, beq_eq_false_iff_ne, bne_eq_false_iff_eq, Bool.and_eq_true, Bool.or_eq_false_iff, Int.not_lt, Int.not_le, Nat.not_lt, Nat.not_le, ne_eq, Bool.true_eq_false, Bool.false_eq_true, reduceCtorEq] at h5
                    all_goals try (exfalso; omega)
                    all_goals
                      refine LWP_skip ?_
                      refine LWP_seq ?_
                      refine LWP_reg fun K hK => ?_
                      apply rgnS_pre 2
                      · repeat (simp -implicitDefEqProofs (maxSteps := 1000000) (disch := first | assumption | omega) [beqF, beqT, h1, h2, h3, h4, h5]; try simp only [List.getElem?_cons_zero, Option.getD_some, app_val])
                        rfl
                      refine rgnS_call (C2) rfl rfl (by simp [pureL, pureR, AV.pure]) (by simp [pureL, pureR, AV.pure]) (by simp [gd, get_e0, get_e1, LArg.ev, h1, h2, h3, h4, h5]) ?_
                      apply rgnS_pre 4
                      · repeat (simp -implicitDefEqProofs (maxSteps := 1000000) (disch := first | assumption | omega) [beqF, beqT, h1, h2, h3, h4, h5]; try simp only [List.getElem?_cons_zero, Option.getD_some, app_val])
                        rfl
                      refine hK _ ?_; clear hK
                      -- leaf 1
                      refine LWP_ret ⟨_, rfl, ?_⟩
                      refine wkV_of_eq ?_
                      simp only [retV]
                      all_goals
                        simp [Nat.add_zero, tR, sT]
              · try simp only [decide_eq_true_eq, decide_eq_false_iff_not, Bool.not_eq_true', Bool.not_eq_false', Bool.not_true, Bool.not_false, beq_iff_eq, bne_iff_ne, beq_eq_false_iff_ne, bne_eq_false_iff_eq, Bool.and_eq_true, Bool.or_eq_false_iff, Int.not_lt, Int.not_le, Nat.not_lt, Nat.not_le, ne_eq, Bool.true_eq_false, Bool.false_eq_true, reduceCtorEq] at h4
                all_goals try (exfalso; omega)
                all_goals
                  apply rgnS_pre 2
                  · repeat (simp -implicitDefEqProofs (maxSteps := 1000000) (disch := first | assumption | omega) [beqF, beqT, h1, h2, h3, h4]; try simp only [List.getElem?_cons_zero, Option.getD_some, app_val])
                    rfl
                  refine hK _ ?_; clear hK
                  refine LWP_cond (t := true) (by simp [LArg.ev, get_e0, get_e1, h1, h2, h3, h4]) (fun _ => ?_) (fun h => by cases h)
                  refine LWP_seq ?_
                  apply LWP_run
                  · repeat (simp -implicitDefEqProofs (maxSteps := 1000000) (disch := first | assumption | omega) [beqF, beqT, h1, h2, h3, h4]; try simp only [List.getElem?_cons_zero, Option.getD_some, app_val])
                    rfl
                  -- leaf 2
                  refine LWP_ret ⟨_, rfl, ?_⟩
                  refine wkV_of_eq ?_
                  simp only [retV]
                  all_goals
                    simp [Nat.add_zero, tR, sT]
          · try simp only [decide_eq_true_eq, decide_eq_false_iff_not, Bool.not_eq_true', Bool.not_eq_false', Bool.not_true, Bool.not_false, beq_iff_eq, bne_iff_ne, beq_eq_false_iff_ne, bne_eq_false_iff_eq, Bool.and_eq_true, Bool.or_eq_false_iff, Int.not_lt, Int.not_le, Nat.not_lt, Nat.not_le, ne_eq, Bool.true_eq_false, Bool.false_eq_true, reduceCtorEq] at h3
            all_goals try (exfalso; omega)
            all_goals
              apply rgnS_pre 6
              · repeat (simp -implicitDefEqProofs (maxSteps := 1000000) (disch := first | assumption | omega) [beqF, beqT, h1, h2, h3]; try simp only [List.getElem?_cons_zero, Option.getD_some, app_val])
                rfl
              refine hK _ ?_; clear hK
              refine LWP_cond (t := true) (by simp [LArg.ev, get_e0, get_e1, h1, h2, h3]) (fun _ => ?_) (fun h => by cases h)
              refine LWP_seq ?_
              apply LWP_run
              · repeat (simp -implicitDefEqProofs (maxSteps := 1000000) (disch := first | assumption | omega) [beqF, beqT, h1, h2, h3]; try simp only [List.getElem?_cons_zero, Option.getD_some, app_val])
                rfl
              -- leaf 3
              refine LWP_ret ⟨_, rfl, ?_⟩
              refine wkV_of_eq ?_
              simp only [retV]
              all_goals
                simp [Nat.add_zero, tR, sT]
      · try simp only [decide_eq_true_eq, decide_eq_false_iff_not, Bool.not_eq_true', Bool.not_eq_false', Bool.not_true, Bool.not_false, beq_iff_eq, bne_iff_ne, beq_eq_false_iff_ne, bne_eq_false_iff_eq, Bool.and_eq_true, Bool.or_eq_false_iff, Int.not_lt, Int.not_le, Nat.not_lt, Nat.not_le, ne_eq, Bool.true_eq_false, Bool.false_eq_true, reduceCtorEq] at h2
        all_goals try (exfalso; omega)
        all_goals
          apply rgnS_pre 8
          · repeat (simp -implicitDefEqProofs (maxSteps := 1000000) (disch := first | assumption | omega) [beqF, beqT, h1, h2]; try simp only [List.getElem?_cons_zero, Option.getD_some, app_val])
            rfl
          apply rgnS_pre 2
          · repeat (simp -implicitDefEqProofs (maxSteps := 1000000) (disch := first | assumption | omega) [beqF, beqT, h1, h2]; try simp only [List.getElem?_cons_zero, Option.getD_some, app_val])
            rfl
          refine hK _ ?_; clear hK
          refine LWP_cond (t := true) (by simp [LArg.ev, get_e0, get_e1, h1, h2]) (fun _ => ?_) (fun h => by cases h)
          refine LWP_seq ?_
          apply LWP_run
          · repeat (simp -implicitDefEqProofs (maxSteps := 1000000) (disch := first | assumption | omega) [beqF, beqT, h1, h2]; try simp only [List.getElem?_cons_zero, Option.getD_some, app_val])
            rfl
          -- leaf 4
          refine LWP_ret ⟨_, rfl, ?_⟩
          refine wkV_of_eq ?_
          simp only [retV]
          all_goals
            simp [Nat.add_zero, tR, sT]
  · try simp only [decide_eq_true_eq, decide_eq_false_iff_not, Bool.not_eq_true', Bool.not_eq_false', Bool.not_true, Bool.not_false, beq_iff_eq, bne_iff_ne, beq_eq_false_iff_ne, bne_eq_false_iff_eq, Bool.and_eq_true, Bool.or_eq_false_iff, Int.not_lt, Int.not_le, Nat.not_lt, Nat.not_le, ne_eq, Bool.true_eq_false, Bool.false_eq_true, reduceCtorEq] at h1
    all_goals try (exfalso; omega)
    all_goals
      apply rgnS_pre 8
      · repeat (simp -implicitDefEqProofs (maxSteps := 1000000) (disch := first | assumption | omega) [beqF, beqT, h1]; try simp only [List.getElem?_cons_zero, Option.getD_some, app_val])
        rfl
      apply rgnS_pre 6
      · repeat (simp -implicitDefEqProofs (maxSteps := 1000000) (disch := first | assumption | omega) [beqF, beqT, h1]; try simp only [List.getElem?_cons_zero, Option.getD_some, app_val])
        rfl
      refine hK _ ?_; clear hK
      refine LWP_cond (t := true) (by simp [LArg.ev, get_e0, get_e1, h1]) (fun _ => ?_) (fun h => by cases h)
      refine LWP_seq ?_
      apply LWP_run
      · repeat (simp -implicitDefEqProofs (maxSteps := 1000000) (disch := first | assumption | omega) [beqF, beqT, h1]; try simp only [List.getElem?_cons_zero, Option.getD_some, app_val])
        rfl
      -- leaf 5
      refine LWP_ret ⟨_, rfl, ?_⟩
      refine wkV_of_eq ?_
      simp only [retV]
      all_goals
        simp [Nat.add_zero, tR, sT]
end

end Go.AM.Ez
