/- A part of a proof about the given program: what its name says. No premise beyond the statements'. -/
import Derived.Test.YtjfmkhihhdhnnaaGreatEzBarsY
set_option linter.unusedSimpArgs false
set_option linter.unusedVariables false
/- The second opinion on fractions, by the same rational numbers. -/
namespace Go.AM.Ez
open Go.AM

section
attribute [local simp ↓] List.map_nil List.map_cons
attribute [local simp] m_ o_ g_ stepsS stepS gd opEff appEff LArg.ev app_val app_new app_upd app_kill putV ins_e0 ins_e1 get_e0 get_e1 binV binI grd bnd ldCells AV.cells AV.scalar AV.known setAt fillL chunks elems mxI mnI del Nat.add_assoc nlt_self nne_self nne_self' List.take_of_length_le decT decF wrap_i64 stepsD stepD ST.as dEffF LOp.cls softOK LOp.args LOp.rds AV.ids appD_val appD_new appD_upd appD_kill AS.flush delAll
set_option maxHeartbeats 2000000 in
theorem rabs_ok (x : Int) (h1 : -9223372036854775807 ≤ x) (h2 : x ≤ 9223372036854775807) : ACalls Go.Proofs.Tryz.prog 71 [.int .i64 x] [] 0 (fun r _ _ => r = .int .i64 (x.natAbs : Nat)) := by
  refine pure_body ok71 rfl ?_
  simp only [parV]
  refine LWP_seq ?_
  apply LWP_run
  · repeat (simp -implicitDefEqProofs (maxSteps := 1000000) (disch := first | assumption | omega) []; try simp only [List.getElem?_cons_zero, Option.getD_some, app_val])
    rfl
  refine LWP_seq ?_
  apply LWP_run
  · repeat (simp -implicitDefEqProofs (maxSteps := 1000000) (disch := first | assumption | omega) []; try simp only [List.getElem?_cons_zero, Option.getD_some, app_val])
    rfl
  -- leaf 0
  refine LWP_ret ⟨_, rfl, ?_⟩
  refine wkV_of_eq ?_
  simp only [retV]
  all_goals
    congr 1; omega
end

section
attribute [local simp ↓] List.map_nil List.map_cons
attribute [local simp] m_ o_ g_ stepsS stepS gd opEff appEff LArg.ev app_val app_new app_upd app_kill putV ins_e0 ins_e1 get_e0 get_e1 binV binI grd bnd ldCells AV.cells AV.scalar AV.known setAt fillL chunks elems mxI mnI del Nat.add_assoc nlt_self nne_self nne_self' List.take_of_length_le decT decF wrap_i64 stepsD stepD ST.as dEffF LOp.cls softOK LOp.args LOp.rds AV.ids appD_val appD_new appD_upd appD_kill AS.flush delAll
set_option maxHeartbeats 2000000 in
theorem rgcd_ok (a b : Nat) (ha : a ≤ 9223372036854775807) (hb : b ≤ 9223372036854775807) : ACalls Go.Proofs.Tryz.prog 28 [.int .i64 (a : Nat), .int .i64 (b : Nat)] [] 0 (fun r _ _ => r = .int .i64 (Nat.gcd a b : Nat)) := by
  refine pure_body ok28 rfl ?_
  simp only [parV]
  refine LWP_seq ?_
  apply LWP_run
  · repeat (simp -implicitDefEqProofs (maxSteps := 1000000) (disch := first | assumption | omega) [tmod_nat, beqF, beqT]; try simp only [List.getElem?_cons_zero, Option.getD_some, app_val])
    rfl
  refine LWP_seq ?_
  refine LWP_block ?_
  refine LWP_for (fun (p : Nat × Nat) => [(0, .int .i64 (p.1 : Nat)), (1, .int .i64 (p.2 : Nat))]) (fun (p : Nat × Nat) => []) (fun (p : Nat × Nat) n => Nat.gcd p.1 p.2 = Nat.gcd a b ∧ p.1 ≤ 9223372036854775807 ∧ p.2 ≤ 9223372036854775807) (fun (p : Nat × Nat) => p.2) (a, b) ?_ ?_ ?_ ?_
  · simp (maxSteps := 1000000) (disch := first | assumption | omega) [leV, get_e0, get_e1, wkV.refl, wkV_int, decT, decF, tmod_nat, beqF, beqT]
  · simp [leH, get_e0, get_e1]
  · exact ⟨rfl, ha, hb⟩
  rintro ⟨u, w⟩ n ⟨c1, c2, c3⟩
  simp only at c1 c2 c3
  refine LWP_seq ?_
  refine LWP_seq ?_
  apply LWP_run
  · repeat (simp -implicitDefEqProofs (maxSteps := 1000000) (disch := first | assumption | omega) [tmod_nat, beqF, beqT]; try simp only [List.getElem?_cons_zero, Option.getD_some, app_val])
    rfl
  refine LWP_cond rfl (fun h2 => ?_) (fun h2 => ?_)
  · try simp only [decide_eq_true_eq, decide_eq_false_iff_not, Bool.not_eq_true', Bool.not_eq_false', Bool.not_true, Bool.not_false, beq_iff_eq, bne_iff_ne, beq_eq_false_iff_ne, bne_eq_false_iff_eq, Bool.and_eq_true, Bool.or_eq_false_iff, Int.not_lt, Int.not_le, Nat.not_lt, Nat.not_le, ne_eq, Bool.true_eq_false, Bool.false_eq_true, reduceCtorEq] at h2
    all_goals try (exfalso; omega)
    all_goals
      refine LWP_skip ?_
      refine LWP_block ?_
      apply LWP_runD
      · repeat (simp -implicitDefEqProofs (maxSteps := 1000000) (disch := first | assumption | omega) [tmod_nat, beqF, beqT, h2]; try simp only [List.getElem?_cons_zero, Option.getD_some, app_val])
        rfl
      · simp [AS.fin, delAll, del, Nat.add_assoc]; rfl
      -- loop 0, round 0
      refine ⟨(w, u % w), ?_, ?_, ?_, ?_⟩
      · exact ⟨by rw [← c1]; show Nat.gcd w (u % w) = _; rw [Nat.gcd_comm u w, Nat.gcd_rec w u, Nat.gcd_comm], c3, Nat.le_trans (Nat.mod_le _ _) c2⟩
      · exact Nat.mod_lt _ (by omega)
      · simp (maxSteps := 1000000) (disch := first | assumption | omega) [leV, get_e0, get_e1, wkV.refl, wkV_int, wrap_i64, decT, decF, tmod_nat, beqF, beqT, h2]
      · simp [leH, get_e0, get_e1, h2]
  · try simp only [decide_eq_true_eq, decide_eq_false_iff_not, Bool.not_eq_true', Bool.not_eq_false', Bool.not_true, Bool.not_false, beq_iff_eq, bne_iff_ne, beq_eq_false_iff_ne, bne_eq_false_iff_eq, Bool.and_eq_true, Bool.or_eq_false_iff, Int.not_lt, Int.not_le, Nat.not_lt, Nat.not_le, ne_eq, Bool.true_eq_false, Bool.false_eq_true, reduceCtorEq] at h2
    all_goals try (exfalso; omega)
    all_goals
      refine LWP_exit ?_
      refine LWP_seq ?_
      apply LWP_run
      · repeat (simp -implicitDefEqProofs (maxSteps := 1000000) (disch := first | assumption | omega) [tmod_nat, beqF, beqT, h2]; try simp only [List.getElem?_cons_zero, Option.getD_some, app_val])
        rfl
      -- leaf 0
      refine LWP_ret ⟨_, rfl, ?_⟩
      refine wkV_of_eq ?_
      simp only [retV]
      all_goals
        have hw : w = 0 := by omega
        subst hw
        rw [← c1]
        simp
end

end Go.AM.Ez
