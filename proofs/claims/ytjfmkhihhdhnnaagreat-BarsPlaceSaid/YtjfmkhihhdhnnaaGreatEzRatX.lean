/- A part of a proof about the given program: what its name says. No premise beyond the statements'. -/
import Derived.Test.YtjfmkhihhdhnnaaGreatEzRatW
set_option linter.unusedSimpArgs false
set_option linter.unusedVariables false
/- Fractions as rational numbers: sums, differences, comparisons. -/
namespace Go.AM.Ez
open Go.AM

/-- A rational number that is not too great. -/
def okR (r : Rat) : Prop := r.num.natAbs ≤ 1099511627776 ∧ r.den ≤ 1048576
def qR (r : Rat) : Q := ⟨r.num, r.den⟩
theorem okQ_qR {r : Rat} (h : okR r) : okQ (qR r) = true := by
  have h1 := r.den_nz
  have h2 := r.reduced
  obtain ⟨h3, h4⟩ := h
  unfold okQ qR
  rw [decide_eq_true_eq]
  exact ⟨by simp only; omega, by simp only; omega, by simp only; omega, by simp only; omega, h2⟩
theorem qR_of {x : Q} (h : okQ x = true) : ∃ r : Rat, x = qR r ∧ okR r := by
  simp only [okQ, decide_eq_true_eq] at h
  obtain ⟨h1, h2, h3, h4, h5⟩ := h
  refine ⟨⟨x.n, x.d.natAbs, by omega, h5⟩, ?_, ?_⟩
  · obtain ⟨n, d⟩ := x
    simp only [qR] at h1 ⊢
    congr 1
    omega
  · simp only [okR]
    constructor <;> omega
theorem den_pos' (r : Rat) : 0 < r.den := Nat.pos_of_ne_zero r.den_nz

section
attribute [local simp ↓] List.map_nil List.map_cons
attribute [local simp] m_ o_ g_ stepsS stepS gd opEff appEff LArg.ev app_val app_new app_upd app_kill putV ins_e0 ins_e1 get_e0 get_e1 binV binI grd bnd ldCells AV.cells AV.scalar AV.known setAt fillL chunks elems mxI mnI del Nat.add_assoc nlt_self nne_self nne_self' List.take_of_length_le decT decF wrap_i64 stepsD stepD ST.as dEffF LOp.cls softOK LOp.args LOp.rds AV.ids appD_val appD_new appD_upd appD_kill AS.flush delAll
set_option maxHeartbeats 2000000 in
theorem both_ok (x y : Q) (b1 : -9223372036854775808 ≤ x.n) (b2 : x.n ≤ 9223372036854775807) (c1 : -9223372036854775808 ≤ y.n) (c2 : y.n ≤ 9223372036854775807) : ACalls Go.Proofs.Tryz.prog 67 [.agg x.e, .agg y.e] [] 0 (fun r _ _ => r = .bool (okQ x && okQ y)) := by
  refine pure_body ok67 rfl ?_
  simp only [parV]
  refine LWP_seq ?_
  apply LWP_run
  · repeat (simp -implicitDefEqProofs (maxSteps := 1000000) (disch := first | assumption | omega) [Q.e]; try simp only [List.getElem?_cons_zero, Option.getD_some, app_val])
    rfl
  refine LWP_seq ?_
  refine LWP_reg fun K hK => ?_
  apply rgnS_pre 1
  · repeat (simp -implicitDefEqProofs (maxSteps := 1000000) (disch := first | assumption | omega) [Q.e]; try simp only [List.getElem?_cons_zero, Option.getD_some, app_val])
    rfl
  refine rgnS_call (check_ok x b1 b2) rfl rfl (by simp [pureL, pureR, AV.pure, Q.e, Q.e]) (by simp [pureL, pureR, AV.pure, Q.e, Q.e]) (by simp [gd, get_e0, get_e1, LArg.ev]) ?_
  apply rgnS_pre 1
  · repeat (simp -implicitDefEqProofs (maxSteps := 1000000) (disch := first | assumption | omega) [Q.e]; try simp only [List.getElem?_cons_zero, Option.getD_some, app_val])
    rfl
  refine rgnS_guard (x := 7) (b := true) rfl (fun h1 => ?_) (fun h1 => ?_)
  · try simp only [decide_eq_true_eq, decide_eq_false_iff_not, Bool.not_eq_true', Bool.not_eq_false', Bool.not_true, Bool.not_false, beq_iff_eq, bne_iff_ne, beq_eq_false_iff_ne, bne_eq_false_iff_eq, Bool.and_eq_true, Bool.or_eq_false_iff, Int.not_lt, Int.not_le, Nat.not_lt, Nat.not_le, ne_eq, Bool.true_eq_false, Bool.false_eq_true, reduceCtorEq] at h1
    all_goals try (exfalso; omega)
    all_goals
      apply rgnS_pre 1
      · repeat (simp -implicitDefEqProofs (maxSteps := 1000000) (disch := first | assumption | omega) [Q.e, h1]; try simp only [List.getElem?_cons_zero, Option.getD_some, app_val])
        rfl
      refine rgnS_call (check_ok y c1 c2) rfl rfl (by simp [pureL, pureR, AV.pure, Q.e, Q.e]) (by simp [pureL, pureR, AV.pure, Q.e, Q.e]) (by simp [gd, get_e0, get_e1, LArg.ev, h1]) ?_
      apply rgnS_pre 2
      · repeat (simp -implicitDefEqProofs (maxSteps := 1000000) (disch := first | assumption | omega) [Q.e, h1]; try simp only [List.getElem?_cons_zero, Option.getD_some, app_val])
        rfl
      refine hK _ ?_; clear hK
      -- leaf 0
      refine LWP_ret ⟨_, rfl, ?_⟩
      refine wkV_of_eq ?_
      simp only [retV]
      all_goals
        simp_all
  · try simp only [decide_eq_true_eq, decide_eq_false_iff_not, Bool.not_eq_true', Bool.not_eq_false', Bool.not_true, Bool.not_false, beq_iff_eq, bne_iff_ne, beq_eq_false_iff_ne, bne_eq_false_iff_eq, Bool.and_eq_true, Bool.or_eq_false_iff, Int.not_lt, Int.not_le, Nat.not_lt, Nat.not_le, ne_eq, Bool.true_eq_false, Bool.false_eq_true, reduceCtorEq] at h1
    all_goals try (exfalso; omega)
    all_goals
      apply rgnS_pre 3
      · repeat (simp -implicitDefEqProofs (maxSteps := 1000000) (disch := first | assumption | omega) [Q.e, h1]; try simp only [List.getElem?_cons_zero, Option.getD_some, app_val])
        rfl
      refine hK _ ?_; clear hK
      -- leaf 1
      refine LWP_ret ⟨_, rfl, ?_⟩
      refine wkV_of_eq ?_
      simp only [retV]
      all_goals
        simp_all
end

section
attribute [local simp ↓] List.map_nil List.map_cons
attribute [local simp] m_ o_ g_ stepsS stepS gd opEff appEff LArg.ev app_val app_new app_upd app_kill putV ins_e0 ins_e1 get_e0 get_e1 binV binI grd bnd ldCells AV.cells AV.scalar AV.known setAt fillL chunks elems mxI mnI del Nat.add_assoc nlt_self nne_self nne_self' List.take_of_length_le decT decF wrap_i64 stepsD stepD ST.as dEffF LOp.cls softOK LOp.args LOp.rds AV.ids appD_val appD_new appD_upd appD_kill AS.flush delAll
set_option maxHeartbeats 2000000 in
theorem lowest_ok (n : Int) (d : Nat) (h0 : 0 < d) (hd : d ≤ 4611686018427387904) (hn1 : -4611686018427387904 ≤ n) (hn2 : n ≤ 4611686018427387904) : ACalls Go.Proofs.Tryz.prog 108 [.int .i64 n, .int .i64 (d : Nat)] [] 0 (fun r _ _ => r = sT (n / (Nat.gcd n.natAbs d : Nat)) ((d : Int) / (Nat.gcd n.natAbs d : Nat))) := by
  refine pure_body ok108 rfl ?_
  simp only [parV]
  have hg : 0 < Nat.gcd n.natAbs d := Nat.gcd_pos_of_pos_right _ h0
  have hb := div_bnd hg hn1 hn2 (by omega)
  have e1 : Int.tdiv n ((Nat.gcd n.natAbs d : Nat) : Int) = n / ((Nat.gcd n.natAbs d : Nat) : Int) := Int.tdiv_eq_ediv_of_dvd (Int.ofNat_dvd_left.2 (Nat.gcd_dvd_left _ _))
  have e2 : Int.tdiv (d : Int) ((Nat.gcd n.natAbs d : Nat) : Int) = (d : Int) / ((Nat.gcd n.natAbs d : Nat) : Int) := Int.tdiv_eq_ediv_of_dvd (Int.ofNat_dvd.2 (Nat.gcd_dvd_right _ _))
  have hd2 := div_bnd (n := (d : Int)) (B := 4611686018427387904) hg (by omega) (by omega) (by omega)
  have ed : ((d : Nat) : Int).natAbs = d := rfl
  have C1 := abs_ok (d : Int) (by omega) (by omega)
  rw [ed] at C1
  have C2 := common_ok d n.natAbs (by omega) (by omega)
  have C3 := sized_ok (n / ((Nat.gcd n.natAbs d : Nat) : Int)) ((d : Int) / ((Nat.gcd n.natAbs d : Nat) : Int)) (by omega) (by omega)
  simp only [sT] at C3
  have zz := hg
  refine LWP_seq ?_
  apply LWP_run
  · repeat (simp -implicitDefEqProofs (maxSteps := 1000000) (disch := first | assumption | omega) [e1, e2]; try simp only [List.getElem?_cons_zero, Option.getD_some, app_val])
    rfl
  refine LWP_seq ?_
  refine LWP_reg fun K hK => ?_
  apply rgnS_pre 1
  · repeat (simp -implicitDefEqProofs (maxSteps := 1000000) (disch := first | assumption | omega) [e1, e2]; try simp only [List.getElem?_cons_zero, Option.getD_some, app_val])
    rfl
  refine rgnS_call (abs_ok n (by omega) (by omega)) rfl rfl (by simp [pureL, pureR, AV.pure]) (by simp [pureL, pureR, AV.pure]) (by simp [gd, get_e0, get_e1, LArg.ev]) ?_
  apply rgnS_pre 1
  · repeat (simp -implicitDefEqProofs (maxSteps := 1000000) (disch := first | assumption | omega) [e1, e2]; try simp only [List.getElem?_cons_zero, Option.getD_some, app_val])
    rfl
  refine rgnS_call (C1) rfl rfl (by simp [pureL, pureR, AV.pure]) (by simp [pureL, pureR, AV.pure]) (by simp [gd, get_e0, get_e1, LArg.ev]) ?_
  refine rgnS_call (C2) rfl rfl (by simp [pureL, pureR, AV.pure]) (by simp [pureL, pureR, AV.pure]) (by simp [gd, get_e0, get_e1, LArg.ev]) ?_
  apply rgnS_pre 1
  · repeat (simp -implicitDefEqProofs (maxSteps := 1000000) (disch := first | assumption | omega) [e1, e2]; try simp only [List.getElem?_cons_zero, Option.getD_some, app_val])
    rfl
  refine hK _ ?_; clear hK
  refine LWP_seq ?_
  refine LWP_seq ?_
  apply LWP_run
  · repeat (simp -implicitDefEqProofs (maxSteps := 1000000) (disch := first | assumption | omega) [e1, e2]; try simp only [List.getElem?_cons_zero, Option.getD_some, app_val])
    rfl
  refine LWP_cond rfl (fun h1 => ?_) (fun h1 => ?_)
  · try simp only [decide_eq_true_eq, decide_eq_false_iff_not, Bool.not_eq_true', Bool.not_eq_false', Bool.not_true, Bool.not_false, beq_iff_eq, bne_iff_ne, beq_eq_false_iff_ne, bne_eq_false_iff_eq, Bool.and_eq_true, Bool.or_eq_false_iff, Int.not_lt, Int.not_le, Nat.not_lt, Nat.not_le, ne_eq, Bool.true_eq_false, Bool.false_eq_true, reduceCtorEq] at h1
    all_goals try (exfalso; omega)
    all_goals
      apply LWP_run
      · repeat (simp -implicitDefEqProofs (maxSteps := 1000000) (disch := first | assumption | omega) [e1, e2, h1]; try simp only [List.getElem?_cons_zero, Option.getD_some, app_val])
        rfl
      refine LWP_seq ?_
      refine LWP_regD' fun K hK => ?_
      apply rgnD_pre 6
      · repeat (simp -implicitDefEqProofs (maxSteps := 1000000) (disch := first | assumption | omega) [e1, e2, h1]; try simp only [List.getElem?_cons_zero, Option.getD_some, app_val])
        rfl
      refine rgnD_call (C3) rfl rfl (by simp [pureL, pureR, AV.pure]) (by simp [pureL, pureR, AV.pure]) (by simp [gd, get_e0, get_e1, LArg.ev, h1]) (by simp (maxSteps := 1000000) (disch := first | assumption | omega) [e1, e2]) ?_
      apply rgnD_pre 4
      · repeat (simp -implicitDefEqProofs (maxSteps := 1000000) (disch := first | assumption | omega) [e1, e2, h1]; try simp only [List.getElem?_cons_zero, Option.getD_some, app_val])
        rfl
      refine hK _ _ (by simp [AS.fin, delAll, del, Nat.add_assoc]; rfl) ?_; clear hK
      -- leaf 0
      refine LWP_ret ⟨_, rfl, ?_⟩
      refine wkV_of_eq ?_
      simp only [retV]
      all_goals
        simp [Nat.add_zero, sT]
  · try simp only [decide_eq_true_eq, decide_eq_false_iff_not, Bool.not_eq_true', Bool.not_eq_false', Bool.not_true, Bool.not_false, beq_iff_eq, bne_iff_ne, beq_eq_false_iff_ne, bne_eq_false_iff_eq, Bool.and_eq_true, Bool.or_eq_false_iff, Int.not_lt, Int.not_le, Nat.not_lt, Nat.not_le, ne_eq, Bool.true_eq_false, Bool.false_eq_true, reduceCtorEq] at h1
    all_goals try (exfalso; omega)
    all_goals
      refine LWP_skip ?_
      refine LWP_seq ?_
      refine LWP_regD' fun K hK => ?_
      apply rgnD_pre 6
      · repeat (simp -implicitDefEqProofs (maxSteps := 1000000) (disch := first | assumption | omega) [e1, e2, h1]; try simp only [List.getElem?_cons_zero, Option.getD_some, app_val])
        rfl
      refine rgnD_call (C3) rfl rfl (by simp [pureL, pureR, AV.pure]) (by simp [pureL, pureR, AV.pure]) (by simp [gd, get_e0, get_e1, LArg.ev, h1]) (by simp (maxSteps := 1000000) (disch := first | assumption | omega) [e1, e2]) ?_
      apply rgnD_pre 4
      · repeat (simp -implicitDefEqProofs (maxSteps := 1000000) (disch := first | assumption | omega) [e1, e2, h1]; try simp only [List.getElem?_cons_zero, Option.getD_some, app_val])
        rfl
      refine hK _ _ (by simp [AS.fin, delAll, del, Nat.add_assoc]; rfl) ?_; clear hK
      -- leaf 1
      refine LWP_ret ⟨_, rfl, ?_⟩
      refine wkV_of_eq ?_
      simp only [retV]
      all_goals
        simp [Nat.add_zero, sT]
end

/-- What a rational number becomes, if it is not too great; else nothing, and a fault. -/
def tR (r : Rat) : AV := sT r.num r.den
theorem mk_num {n : Int} {d : Nat} (h : 0 < d) : (mkRat n d).num = n / ((Nat.gcd n.natAbs d : Nat) : Int) := by
  rw [Rat.num_mkRat, if_neg (by omega), Nat.gcd_comm]
theorem mk_den {n : Int} {d : Nat} (h : 0 < d) : ((mkRat n d).den : Int) = (d : Int) / ((Nat.gcd n.natAbs d : Nat) : Int) := by
  rw [Rat.den_mkRat, if_neg (by omega), Nat.gcd_comm]; rfl
theorem lowest_R (n : Int) (d : Nat) (h0 : 0 < d) (hd : d ≤ 4611686018427387904) (hn1 : -4611686018427387904 ≤ n) (hn2 : n ≤ 4611686018427387904) :
    ACalls Go.Proofs.Tryz.prog 108 [.int .i64 n, .int .i64 (d : Nat)] [] 0 (fun r _ _ => r = tR (mkRat n d)) := by
  have h := lowest_ok n d h0 hd hn1 hn2
  rwa [tR, mk_num h0, mk_den h0]
theorem mul_bnd {a b A B : Int} (h1 : -A ≤ a) (h2 : a ≤ A) (h3 : 0 ≤ b) (h4 : b ≤ B) (hA : 0 ≤ A) : -(A * B) ≤ a * b ∧ a * b ≤ A * B := by
  have k1 : a * b ≤ A * b := Int.mul_le_mul_of_nonneg_right h2 h3
  have k2 : A * b ≤ A * B := Int.mul_le_mul_of_nonneg_left h4 hA
  have k3 : -A * b ≤ a * b := Int.mul_le_mul_of_nonneg_right h1 h3
  have k4 : -A * b = -(A * b) := Int.neg_mul A b
  omega
/-- The sum, as the code reckons it. -/
theorem add_mk (x y : Rat) : mkRat (x.num * ((y.den / Nat.gcd x.den y.den : Nat) : Int) + y.num * ((x.den / Nat.gcd x.den y.den : Nat) : Int)) (x.den / Nat.gcd x.den y.den * y.den) = x + y := by
  have hg : Nat.gcd x.den y.den ≠ 0 := Nat.pos_iff_ne_zero.1 (Nat.gcd_pos_of_pos_left _ (den_pos' x))
  rw [Rat.add_def', ← Rat.mkRat_mul_left (a := Nat.gcd x.den y.den) hg]
  congr 1
  · rw [Int.mul_add]
    have e1 : ((Nat.gcd x.den y.den : Nat) : Int) * ((y.den / Nat.gcd x.den y.den : Nat) : Int) = (y.den : Int) := by
      rw [← Int.natCast_mul, Nat.mul_div_cancel' (Nat.gcd_dvd_right _ _)]
    have e2 : ((Nat.gcd x.den y.den : Nat) : Int) * ((x.den / Nat.gcd x.den y.den : Nat) : Int) = (x.den : Int) := by
      rw [← Int.natCast_mul, Nat.mul_div_cancel' (Nat.gcd_dvd_left _ _)]
    rw [Int.mul_left_comm, e1, Int.mul_left_comm, e2]
  · rw [← Nat.mul_assoc, Nat.mul_div_cancel' (Nat.gcd_dvd_left _ _)]

end Go.AM.Ez
