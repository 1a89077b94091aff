/- A part of a proof about the given program: what its name says. No premise beyond the statements'. -/
import Derived.Test.YtjfmkhihhdhnnaaGreatEzRatX
set_option linter.unusedSimpArgs false
set_option linter.unusedVariables false
/- Fractions as rational numbers: sums, differences, comparisons, by the program's layer 2. -/
namespace Go.AM.Ez
open Go.AM
theorem both_R {x y : Rat} (hx : okR x) (hy : okR y) : ACalls Go.Proofs.Tryz.prog 67 [.agg (qR x).e, .agg (qR y).e] [] 0 (fun r _ _ => r = .bool true) := by
  have h := both_ok (qR x) (qR y) (by have := hx.1; simp only [qR]; omega) (by have := hx.1; simp only [qR]; omega) (by have := hy.1; simp only [qR]; omega) (by have := hy.1; simp only [qR]; omega)
  rwa [okQ_qR hx, okQ_qR hy] at h
theorem okR_neg {x : Rat} (h : okR x) : okR (-x) := ⟨by have := h.1; simp only [Rat.neg_num]; omega, h.2⟩
def cmpR (x y : Rat) : Int := if x.num * y.den = y.num * x.den then 0 else if x.num * y.den < y.num * x.den then -1 else 1
theorem cmpR_eq {x y : Rat} : cmpR x y = 0 ↔ x = y := by
  unfold cmpR
  constructor
  · intro h
    split at h
    · rename_i e
      exact Rat.le_antisymm (Rat.le_iff x y |>.2 (by omega)) (Rat.le_iff y x |>.2 (by omega))
    · split at h <;> omega
  · intro h; subst h; simp
theorem cmpR_lt {x y : Rat} : cmpR x y < 0 ↔ x < y := by
  rw [Rat.lt_iff]
  unfold cmpR
  (repeat' split) <;> omega
theorem cmpR_le {x y : Rat} : cmpR x y ≤ 0 ↔ x ≤ y := by
  rw [Rat.le_iff]
  unfold cmpR
  (repeat' split) <;> omega

section
attribute [local simp ↓] List.map_nil List.map_cons
attribute [local simp] m_ o_ g_ stepsS stepS gd opEff appEff LArg.ev app_val app_new app_upd app_kill putV ins_e0 ins_e1 get_e0 get_e1 binV binI grd bnd ldCells AV.cells AV.scalar AV.known setAt fillL chunks elems mxI mnI del Nat.add_assoc nlt_self nne_self nne_self' List.take_of_length_le decT decF wrap_i64 stepsD stepD ST.as dEffF LOp.cls softOK LOp.args LOp.rds AV.ids appD_val appD_new appD_upd appD_kill AS.flush delAll
set_option maxHeartbeats 2000000 in
theorem add_R (x y : Rat) (hx : okR x) (hy : okR y) : ACalls Go.Proofs.Tryz.prog 69 [.agg (qR x).e, .agg (qR y).e] [] 0 (fun r _ _ => r = tR (x + y)) := by
  refine pure_body ok69 rfl ?_
  simp only [parV]
  have CB := both_R hx hy
  simp only [Q.e, qR] at CB
  obtain ⟨x1, x2⟩ := hx
  obtain ⟨y1, y2⟩ := hy
  have xp := den_pos' x
  have yp := den_pos' y
  have C1 := common_ok y.den x.den (by omega) (by omega)
  have hg : 0 < Nat.gcd x.den y.den := Nat.gcd_pos_of_pos_left _ xp
  have e1 : Int.tdiv (y.den : Int) ((Nat.gcd x.den y.den : Nat) : Int) = (y.den : Int) / ((Nat.gcd x.den y.den : Nat) : Int) := Int.tdiv_eq_ediv_of_dvd (Int.ofNat_dvd.2 (Nat.gcd_dvd_right _ _))
  have e2 : Int.tdiv (x.den : Int) ((Nat.gcd x.den y.den : Nat) : Int) = (x.den : Int) / ((Nat.gcd x.den y.den : Nat) : Int) := Int.tdiv_eq_ediv_of_dvd (Int.ofNat_dvd.2 (Nat.gcd_dvd_left _ _))
  have yb := div_bnd (n := (y.den : Int)) (B := 1048576) hg (by omega) (by omega) (by omega)
  have xb := div_bnd (n := (x.den : Int)) (B := 1048576) hg (by omega) (by omega) (by omega)
  have yb0 : 0 ≤ (y.den : Int) / ((Nat.gcd x.den y.den : Nat) : Int) := Int.ediv_nonneg (by omega) (by omega)
  have xb0 : 0 ≤ (x.den : Int) / ((Nat.gcd x.den y.den : Nat) : Int) := Int.ediv_nonneg (by omega) (by omega)
  have p1 := mul_bnd (a := x.num) (A := 1099511627776) (by omega) (by omega) yb0 yb.2 (by omega)
  have p2 := mul_bnd (a := y.num) (A := 1099511627776) (by omega) (by omega) xb0 xb.2 (by omega)
  have p3 := mul_bnd (a := (x.den : Int) / ((Nat.gcd x.den y.den : Nat) : Int)) (b := (y.den : Int)) (A := 1048576) (B := 1048576) (by omega) (by omega) (by omega) (by omega) (by omega)
  have dp : 0 < x.den / Nat.gcd x.den y.den * y.den := Nat.mul_pos (Nat.div_pos (Nat.le_of_dvd xp (Nat.gcd_dvd_left _ _)) hg) yp
  have hdd : ((x.den / Nat.gcd x.den y.den * y.den : Nat) : Int) ≤ 4611686018427387904 := by
    rw [Int.natCast_mul, Int.natCast_ediv]
    omega
  have C2 := lowest_R (x.num * ((y.den / Nat.gcd x.den y.den : Nat) : Int) + y.num * ((x.den / Nat.gcd x.den y.den : Nat) : Int)) (x.den / Nat.gcd x.den y.den * y.den) dp (by omega) (by rw [Int.natCast_ediv, Int.natCast_ediv]; omega) (by rw [Int.natCast_ediv, Int.natCast_ediv]; omega)
  rw [add_mk] at C2
  simp only [Int.natCast_mul, Int.natCast_ediv, tR, sT] at C2
  refine LWP_seq ?_
  apply LWP_run
  · repeat (simp -implicitDefEqProofs (maxSteps := 1000000) (disch := first | assumption | omega) [Q.e, qR, e1, e2]; try simp only [List.getElem?_cons_zero, Option.getD_some, app_val])
    rfl
  refine LWP_seq ?_
  refine LWP_seq ?_
  refine LWP_reg fun K hK => ?_
  apply rgnS_pre 2
  · repeat (simp -implicitDefEqProofs (maxSteps := 1000000) (disch := first | assumption | omega) [Q.e, qR, e1, e2]; try simp only [List.getElem?_cons_zero, Option.getD_some, app_val])
    rfl
  refine rgnS_call (CB) rfl rfl (by simp [pureL, pureR, AV.pure, Q.e, qR]) (by simp [pureL, pureR, AV.pure, Q.e, qR]) (by simp [gd, get_e0, get_e1, LArg.ev]) ?_
  apply rgnS_pre 1
  · repeat (simp -implicitDefEqProofs (maxSteps := 1000000) (disch := first | assumption | omega) [Q.e, qR, e1, e2]; try simp only [List.getElem?_cons_zero, Option.getD_some, app_val])
    rfl
  refine hK _ ?_; clear hK
  refine LWP_cond rfl (fun h1 => ?_) (fun h1 => ?_)
  · try simp only [decide_eq_true_eq, decide_eq_false_iff_not, Bool.not_eq_true', Bool.not_eq_false', Bool.not_true, Bool.not_false, beq_iff_eq, bne_iff_ne, beq_eq_false_iff_ne, bne_eq_false_iff_eq, Bool.and_eq_true, Bool.or_eq_false_iff, Int.not_lt, Int.not_le, Nat.not_lt, Nat.not_le, ne_eq, Bool.true_eq_false, Bool.false_eq_true, reduceCtorEq] at h1
    all_goals try (exfalso; omega)
    all_goals
      refine LWP_seq ?_
      refine LWP_reg fun K hK => ?_
      refine rgnS_call (zero_ok) rfl rfl (by simp [pureL, pureR, AV.pure, Q.e, qR]) (by simp [pureL, pureR, AV.pure, Q.e, qR]) (by simp [gd, get_e0, get_e1, LArg.ev, h1]) ?_
      apply rgnS_pre 2
      · repeat (simp -implicitDefEqProofs (maxSteps := 1000000) (disch := first | assumption | omega) [Q.e, qR, e1, e2, h1]; try simp only [List.getElem?_cons_zero, Option.getD_some, app_val])
        rfl
      refine hK _ ?_; clear hK
      -- leaf 0
      refine LWP_ret ⟨_, rfl, ?_⟩
      refine wkV_of_eq ?_
      simp only [retV]
      all_goals
        simp [Nat.add_zero, tR, sT]
  · try simp only [decide_eq_true_eq, decide_eq_false_iff_not, Bool.not_eq_true', Bool.not_eq_false', Bool.not_true, Bool.not_false, beq_iff_eq, bne_iff_ne, beq_eq_false_iff_ne, bne_eq_false_iff_eq, Bool.and_eq_true, Bool.or_eq_false_iff, Int.not_lt, Int.not_le, Nat.not_lt, Nat.not_le, ne_eq, Bool.true_eq_false, Bool.false_eq_true, reduceCtorEq] at h1
    all_goals try (exfalso; omega)
    all_goals
      refine LWP_skip ?_
      refine LWP_seq ?_
      refine LWP_reg fun K hK => ?_
      apply rgnS_pre 4
      · repeat (simp -implicitDefEqProofs (maxSteps := 1000000) (disch := first | assumption | omega) [Q.e, qR, e1, e2, h1]; try simp only [List.getElem?_cons_zero, Option.getD_some, app_val])
        rfl
      refine rgnS_call (C1) rfl rfl (by simp [pureL, pureR, AV.pure, Q.e, qR]) (by simp [pureL, pureR, AV.pure, Q.e, qR]) (by simp [gd, get_e0, get_e1, LArg.ev, h1]) ?_
      apply rgnS_pre 1
      · repeat (simp -implicitDefEqProofs (maxSteps := 1000000) (disch := first | assumption | omega) [Q.e, qR, e1, e2, h1]; try simp only [List.getElem?_cons_zero, Option.getD_some, app_val])
        rfl
      refine hK _ ?_; clear hK
      refine LWP_seq ?_
      refine LWP_regD' fun K hK => ?_
      apply rgnD_pre 8
      · repeat (simp -implicitDefEqProofs (maxSteps := 1000000) (disch := first | assumption | omega) [Q.e, qR, e1, e2, h1]; try simp only [List.getElem?_cons_zero, Option.getD_some, app_val])
        rfl
      apply rgnD_pre 8
      · repeat (simp -implicitDefEqProofs (maxSteps := 1000000) (disch := first | assumption | omega) [Q.e, qR, e1, e2, h1]; try simp only [List.getElem?_cons_zero, Option.getD_some, app_val])
        rfl
      apply rgnD_pre 6
      · repeat (simp -implicitDefEqProofs (maxSteps := 1000000) (disch := first | assumption | omega) [Q.e, qR, e1, e2, h1]; try simp only [List.getElem?_cons_zero, Option.getD_some, app_val])
        rfl
      refine rgnD_call (C2) rfl rfl (by simp [pureL, pureR, AV.pure, Q.e, qR]) (by simp [pureL, pureR, AV.pure, Q.e, qR]) (by simp [gd, get_e0, get_e1, LArg.ev, h1]) (by simp (maxSteps := 1000000) (disch := first | assumption | omega) [Q.e, qR, e1, e2]) ?_
      apply rgnD_pre 4
      · repeat (simp -implicitDefEqProofs (maxSteps := 1000000) (disch := first | assumption | omega) [Q.e, qR, e1, e2, h1]; try simp only [List.getElem?_cons_zero, Option.getD_some, app_val])
        rfl
      refine hK _ _ (by simp [AS.fin, delAll, del, Nat.add_assoc]; rfl) ?_; clear hK
      -- leaf 1
      refine LWP_ret ⟨_, rfl, ?_⟩
      refine wkV_of_eq ?_
      simp only [retV]
      all_goals
        simp [Nat.add_zero, tR, sT]
end

section
attribute [local simp ↓] List.map_nil List.map_cons
attribute [local simp] m_ o_ g_ stepsS stepS gd opEff appEff LArg.ev app_val app_new app_upd app_kill putV ins_e0 ins_e1 get_e0 get_e1 binV binI grd bnd ldCells AV.cells AV.scalar AV.known setAt fillL chunks elems mxI mnI del Nat.add_assoc nlt_self nne_self nne_self' List.take_of_length_le decT decF wrap_i64 stepsD stepD ST.as dEffF LOp.cls softOK LOp.args LOp.rds AV.ids appD_val appD_new appD_upd appD_kill AS.flush delAll
set_option maxHeartbeats 2000000 in
theorem neg_R (y : Rat) (hy : okR y) : ACalls Go.Proofs.Tryz.prog 70 [.agg (qR y).e] [] 0 (fun r _ _ => r = .agg (qR (-y)).e) := by
  refine pure_body ok70 rfl ?_
  simp only [parV]
  obtain ⟨y1, y2⟩ := hy
  refine LWP_seq ?_
  apply LWP_run
  · repeat (simp -implicitDefEqProofs (maxSteps := 1000000) (disch := first | assumption | omega) [Q.e, qR]; try simp only [List.getElem?_cons_zero, Option.getD_some, app_val])
    rfl
  refine LWP_seq ?_
  apply LWP_run
  · repeat (simp -implicitDefEqProofs (maxSteps := 1000000) (disch := first | assumption | omega) [Q.e, qR]; try simp only [List.getElem?_cons_zero, Option.getD_some, app_val])
    rfl
  -- leaf 0
  refine LWP_ret ⟨_, rfl, ?_⟩
  refine wkV_of_eq ?_
  simp only [retV]
  all_goals
    simp [Nat.add_zero, Q.e, qR]
    try omega
end

section
attribute [local simp ↓] List.map_nil List.map_cons
attribute [local simp] m_ o_ g_ stepsS stepS gd opEff appEff LArg.ev app_val app_new app_upd app_kill putV ins_e0 ins_e1 get_e0 get_e1 binV binI grd bnd ldCells AV.cells AV.scalar AV.known setAt fillL chunks elems mxI mnI del Nat.add_assoc nlt_self nne_self nne_self' List.take_of_length_le decT decF wrap_i64 stepsD stepD ST.as dEffF LOp.cls softOK LOp.args LOp.rds AV.ids appD_val appD_new appD_upd appD_kill AS.flush delAll
set_option maxHeartbeats 2000000 in
theorem sub_R (x y : Rat) (hx : okR x) (hy : okR y) : ACalls Go.Proofs.Tryz.prog 24 [.agg (qR x).e, .agg (qR y).e] [] 0 (fun r _ _ => r = tR (x - y)) := by
  refine pure_body ok24 rfl ?_
  simp only [parV]
  have CB := both_R hx hy
  have C1 := neg_R y hy
  have C2 := add_R x (-y) hx (okR_neg hy)
  rw [← Rat.sub_eq_add_neg] at C2
  simp only [Q.e, qR, tR, sT] at CB C1 C2
  refine LWP_seq ?_
  apply LWP_run
  · repeat (simp -implicitDefEqProofs (maxSteps := 1000000) (disch := first | assumption | omega) [Q.e, qR]; try simp only [List.getElem?_cons_zero, Option.getD_some, app_val])
    rfl
  refine LWP_seq ?_
  refine LWP_seq ?_
  refine LWP_reg fun K hK => ?_
  apply rgnS_pre 2
  · repeat (simp -implicitDefEqProofs (maxSteps := 1000000) (disch := first | assumption | omega) [Q.e, qR]; try simp only [List.getElem?_cons_zero, Option.getD_some, app_val])
    rfl
  refine rgnS_call (CB) rfl rfl (by simp [pureL, pureR, AV.pure, Q.e, qR]) (by simp [pureL, pureR, AV.pure, Q.e, qR]) (by simp [gd, get_e0, get_e1, LArg.ev]) ?_
  apply rgnS_pre 1
  · repeat (simp -implicitDefEqProofs (maxSteps := 1000000) (disch := first | assumption | omega) [Q.e, qR]; try simp only [List.getElem?_cons_zero, Option.getD_some, app_val])
    rfl
  refine hK _ ?_; clear hK
  refine LWP_cond rfl (fun h1 => ?_) (fun h1 => ?_)
  · try simp only [decide_eq_true_eq, decide_eq_false_iff_not, Bool.not_eq_true', Bool.not_eq_false', Bool.not_true, Bool.not_false, beq_iff_eq, bne_iff_ne, beq_eq_false_iff_ne, bne_eq_false_iff_eq, Bool.and_eq_true, Bool.or_eq_false_iff, Int.not_lt, Int.not_le, Nat.not_lt, Nat.not_le, ne_eq, Bool.true_eq_false, Bool.false_eq_true, reduceCtorEq] at h1
    all_goals try (exfalso; omega)
    all_goals
      refine LWP_seq ?_
      refine LWP_reg fun K hK => ?_
      refine rgnS_call (zero_ok) rfl rfl (by simp [pureL, pureR, AV.pure, Q.e, qR]) (by simp [pureL, pureR, AV.pure, Q.e, qR]) (by simp [gd, get_e0, get_e1, LArg.ev, h1]) ?_
      apply rgnS_pre 2
      · repeat (simp -implicitDefEqProofs (maxSteps := 1000000) (disch := first | assumption | omega) [Q.e, qR, h1]; try simp only [List.getElem?_cons_zero, Option.getD_some, app_val])
        rfl
      refine hK _ ?_; clear hK
      -- leaf 0
      refine LWP_ret ⟨_, rfl, ?_⟩
      refine wkV_of_eq ?_
      simp only [retV]
      all_goals
        simp [Nat.add_zero, tR, sT]
  · try simp only [decide_eq_true_eq, decide_eq_false_iff_not, Bool.not_eq_true', Bool.not_eq_false', Bool.not_true, Bool.not_false, beq_iff_eq, bne_iff_ne, beq_eq_false_iff_ne, bne_eq_false_iff_eq, Bool.and_eq_true, Bool.or_eq_false_iff, Int.not_lt, Int.not_le, Nat.not_lt, Nat.not_le, ne_eq, Bool.true_eq_false, Bool.false_eq_true, reduceCtorEq] at h1
    all_goals try (exfalso; omega)
    all_goals
      refine LWP_skip ?_
      refine LWP_seq ?_
      refine LWP_regD' fun K hK => ?_
      apply rgnD_pre 2
      · repeat (simp -implicitDefEqProofs (maxSteps := 1000000) (disch := first | assumption | omega) [Q.e, qR, h1]; try simp only [List.getElem?_cons_zero, Option.getD_some, app_val])
        rfl
      refine rgnD_call (C1) rfl rfl (by simp [pureL, pureR, AV.pure, Q.e, qR]) (by simp [pureL, pureR, AV.pure, Q.e, qR]) (by simp [gd, get_e0, get_e1, LArg.ev, h1]) (by simp (maxSteps := 1000000) (disch := first | assumption | omega) [Q.e, qR]) ?_
      refine rgnD_call (C2) rfl rfl (by simp [pureL, pureR, AV.pure, Q.e, qR]) (by simp [pureL, pureR, AV.pure, Q.e, qR]) (by simp [gd, get_e0, get_e1, LArg.ev, h1]) (by simp (maxSteps := 1000000) (disch := first | assumption | omega) [Q.e, qR]) ?_
      apply rgnD_pre 4
      · repeat (simp -implicitDefEqProofs (maxSteps := 1000000) (disch := first | assumption | omega) [Q.e, qR, h1]; try simp only [List.getElem?_cons_zero, Option.getD_some, app_val])
        rfl
      refine hK _ _ (by simp [AS.fin, delAll, del, Nat.add_assoc]; rfl) ?_; clear hK
      -- leaf 1
      refine LWP_ret ⟨_, rfl, ?_⟩
      refine wkV_of_eq ?_
      simp only [retV]
      all_goals
        simp [Nat.add_zero, tR, sT]
end

section
attribute [local simp ↓] List.map_nil List.map_cons
attribute [local simp] m_ o_ g_ stepsS stepS gd opEff appEff LArg.ev app_val app_new app_upd app_kill putV ins_e0 ins_e1 get_e0 get_e1 binV binI grd bnd ldCells AV.cells AV.scalar AV.known setAt fillL chunks elems mxI mnI del Nat.add_assoc nlt_self nne_self nne_self' List.take_of_length_le decT decF wrap_i64 stepsD stepD ST.as dEffF LOp.cls softOK LOp.args LOp.rds AV.ids appD_val appD_new appD_upd appD_kill AS.flush delAll
set_option maxHeartbeats 2000000 in
theorem cmp_R (x y : Rat) (hx : okR x) (hy : okR y) : ACalls Go.Proofs.Tryz.prog 55 [.agg (qR x).e, .agg (qR y).e] [] 0 (fun r _ _ => r = .int .i64 (cmpR x y)) := by
  refine pure_body ok55 rfl ?_
  simp only [parV]
  have CB := both_R hx hy
  simp only [Q.e, qR] at CB
  obtain ⟨x1, x2⟩ := hx
  obtain ⟨y1, y2⟩ := hy
  have p1 := mul_bnd (a := x.num) (b := (y.den : Int)) (A := 1099511627776) (B := 1048576) (by omega) (by omega) (by omega) (by omega) (by omega)
  have p2 := mul_bnd (a := y.num) (b := (x.den : Int)) (A := 1099511627776) (B := 1048576) (by omega) (by omega) (by omega) (by omega) (by omega)
  refine LWP_seq ?_
  apply LWP_run
  · repeat (simp -implicitDefEqProofs (maxSteps := 1000000) (disch := first | assumption | omega) [Q.e, qR]; try simp only [List.getElem?_cons_zero, Option.getD_some, app_val])
    rfl
  refine LWP_seq ?_
  refine LWP_seq ?_
  refine LWP_reg fun K hK => ?_
  apply rgnS_pre 2
  · repeat (simp -implicitDefEqProofs (maxSteps := 1000000) (disch := first | assumption | omega) [Q.e, qR]; try simp only [List.getElem?_cons_zero, Option.getD_some, app_val])
    rfl
  refine rgnS_call (CB) rfl rfl (by simp [pureL, pureR, AV.pure, Q.e, qR]) (by simp [pureL, pureR, AV.pure, Q.e, qR]) (by simp [gd, get_e0, get_e1, LArg.ev]) ?_
  apply rgnS_pre 1
  · repeat (simp -implicitDefEqProofs (maxSteps := 1000000) (disch := first | assumption | omega) [Q.e, qR]; try simp only [List.getElem?_cons_zero, Option.getD_some, app_val])
    rfl
  refine hK _ ?_; clear hK
  refine LWP_cond rfl (fun h1 => ?_) (fun h1 => ?_)
  · try simp only [decide_eq_true_eq, decide_eq_false_iff_not, Bool.not_eq_true', Bool.not_eq_false', Bool.not_true, Bool.not_false, beq_iff_eq, bne_iff_ne, beq_eq_false_iff_ne, bne_eq_false_iff_eq, Bool.and_eq_true, Bool.or_eq_false_iff, Int.not_lt, Int.not_le, Nat.not_lt, Nat.not_le, ne_eq, Bool.true_eq_false, Bool.false_eq_true, reduceCtorEq] at h1
    all_goals try (exfalso; omega)
    all_goals
      refine LWP_seq ?_
      apply LWP_run
      · repeat (simp -implicitDefEqProofs (maxSteps := 1000000) (disch := first | assumption | omega) [Q.e, qR, h1]; try simp only [List.getElem?_cons_zero, Option.getD_some, app_val])
        rfl
      -- leaf 0
      refine LWP_ret ⟨_, rfl, ?_⟩
      refine wkV_of_eq ?_
      simp only [retV]
      all_goals
        unfold cmpR
        simp_all
        try omega
  · try simp only [decide_eq_true_eq, decide_eq_false_iff_not, Bool.not_eq_true', Bool.not_eq_false', Bool.not_true, Bool.not_false, beq_iff_eq, bne_iff_ne, beq_eq_false_iff_ne, bne_eq_false_iff_eq, Bool.and_eq_true, Bool.or_eq_false_iff, Int.not_lt, Int.not_le, Nat.not_lt, Nat.not_le, ne_eq, Bool.true_eq_false, Bool.false_eq_true, reduceCtorEq] at h1
    all_goals try (exfalso; omega)
    all_goals
      refine LWP_skip ?_
      refine LWP_seq ?_
      refine LWP_regD' fun K hK => ?_
      apply rgnD_pre 8
      · repeat (simp -implicitDefEqProofs (maxSteps := 1000000) (disch := first | assumption | omega) [Q.e, qR, h1]; try simp only [List.getElem?_cons_zero, Option.getD_some, app_val])
        rfl
      apply rgnD_pre 4
      · repeat (simp -implicitDefEqProofs (maxSteps := 1000000) (disch := first | assumption | omega) [Q.e, qR, h1]; try simp only [List.getElem?_cons_zero, Option.getD_some, app_val])
        rfl
      refine hK _ _ (by simp [AS.fin, delAll, del, Nat.add_assoc]; rfl) ?_; clear hK
      refine LWP_seq ?_
      refine LWP_seq ?_
      apply LWP_run
      · repeat (simp -implicitDefEqProofs (maxSteps := 1000000) (disch := first | assumption | omega) [Q.e, qR, h1]; try simp only [List.getElem?_cons_zero, Option.getD_some, app_val])
        rfl
      refine LWP_cond rfl (fun h2 => ?_) (fun h2 => ?_)
      · try simp only [decide_eq_true_eq, decide_eq_false_iff_not, Bool.not_eq_true', Bool.not_eq_false', Bool.not_true, Bool.not_false, beq_iff_eq, bne_iff_ne, beq_eq_false_iff_ne, bne_eq_false_iff_eq, Bool.and_eq_true, Bool.or_eq_false_iff, Int.not_lt, Int.not_le, Nat.not_lt, Nat.not_le, ne_eq, Bool.true_eq_false, Bool.false_eq_true, reduceCtorEq] at h2
        all_goals try (exfalso; omega)
        all_goals
          refine LWP_seq ?_
          apply LWP_run
          · repeat (simp -implicitDefEqProofs (maxSteps := 1000000) (disch := first | assumption | omega) [Q.e, qR, h1, h2]; try simp only [List.getElem?_cons_zero, Option.getD_some, app_val])
            rfl
          -- leaf 1
          refine LWP_ret ⟨_, rfl, ?_⟩
          refine wkV_of_eq ?_
          simp only [retV]
          all_goals
            unfold cmpR
            simp_all
            try omega
      · try simp only [decide_eq_true_eq, decide_eq_false_iff_not, Bool.not_eq_true', Bool.not_eq_false', Bool.not_true, Bool.not_false, beq_iff_eq, bne_iff_ne, beq_eq_false_iff_ne, bne_eq_false_iff_eq, Bool.and_eq_true, Bool.or_eq_false_iff, Int.not_lt, Int.not_le, Nat.not_lt, Nat.not_le, ne_eq, Bool.true_eq_false, Bool.false_eq_true, reduceCtorEq] at h2
        all_goals try (exfalso; omega)
        all_goals
          refine LWP_skip ?_
          refine LWP_seq ?_
          refine LWP_seq ?_
          apply LWP_run
          · repeat (simp -implicitDefEqProofs (maxSteps := 1000000) (disch := first | assumption | omega) [Q.e, qR, h1, h2]; try simp only [List.getElem?_cons_zero, Option.getD_some, app_val])
            rfl
          refine LWP_cond rfl (fun h3 => ?_) (fun h3 => ?_)
          · try simp only [decide_eq_true_eq, decide_eq_false_iff_not, Bool.not_eq_true', Bool.not_eq_false', Bool.not_true, Bool.not_false, beq_iff_eq, bne_iff_ne, beq_eq_false_iff_ne, bne_eq_false_iff_eq, Bool.and_eq_true, Bool.or_eq_false_iff, Int.not_lt, Int.not_le, Nat.not_lt, Nat.not_le, ne_eq, Bool.true_eq_false, Bool.false_eq_true, reduceCtorEq] at h3
            all_goals try (exfalso; omega)
            all_goals
              refine LWP_seq ?_
              apply LWP_run
              · repeat (simp -implicitDefEqProofs (maxSteps := 1000000) (disch := first | assumption | omega) [Q.e, qR, h1, h2, h3]; try simp only [List.getElem?_cons_zero, Option.getD_some, app_val])
                rfl
              -- leaf 2
              refine LWP_ret ⟨_, rfl, ?_⟩
              refine wkV_of_eq ?_
              simp only [retV]
              all_goals
                unfold cmpR
                simp_all
                try omega
          · try simp only [decide_eq_true_eq, decide_eq_false_iff_not, Bool.not_eq_true', Bool.not_eq_false', Bool.not_true, Bool.not_false, beq_iff_eq, bne_iff_ne, beq_eq_false_iff_ne, bne_eq_false_iff_eq, Bool.and_eq_true, Bool.or_eq_false_iff, Int.not_lt, Int.not_le, Nat.not_lt, Nat.not_le, ne_eq, Bool.true_eq_false, Bool.false_eq_true, reduceCtorEq] at h3
            all_goals try (exfalso; omega)
            all_goals
              refine LWP_skip ?_
              refine LWP_seq ?_
              apply LWP_run
              · repeat (simp -implicitDefEqProofs (maxSteps := 1000000) (disch := first | assumption | omega) [Q.e, qR, h1, h2, h3]; try simp only [List.getElem?_cons_zero, Option.getD_some, app_val])
                rfl
              -- leaf 3
              refine LWP_ret ⟨_, rfl, ?_⟩
              refine wkV_of_eq ?_
              simp only [retV]
              all_goals
                unfold cmpR
                simp_all
                try omega
end

end Go.AM.Ez
