/- A part of a proof about the given program: what its name says. No premise beyond the statements'. -/
import Derived.Test.YtkhioehebaghjaaSkSkyB
import Derived.Test.YtkhioehebaghjaaSkHs
set_option linter.unusedSimpArgs false
set_option linter.unusedVariables false
/- The law on how far two skylines must be apart: the walk. -/
namespace Go.AM.Sk
open Go.AM
open Go.AM.SkyP
/-- Do two touch, among those that were looked at? -/
def tch (a b : List St) (D : Int) (i k : Nat) : Prop := D = 0 ∨ ∃ (i' k' : Nat) (hi : i' < a.length) (hk : k' < b.length), (i' < i ∨ (i' = i ∧ k' < k)) ∧ ov (a[i']'hi) (b[k']'hk) ∧ (a[i']'hi).h + (b[k']'hk).h = D
theorem tch_no {a b : List St} {D : Int} {i k : Nat} (hi : i < a.length) (hk : k < b.length) (h : ¬ (ov (a[i]'hi) (b[k]'hk) ∧ (a[i]'hi).h + (b[k]'hk).h = D)) : tch a b D i (k + 1) ↔ tch a b D i k := by
  constructor
  · rintro (h1 | ⟨i', k', hi', hk', h1, h2, h3⟩)
    · exact .inl h1
    · rcases h1 with h1 | ⟨h1, h4⟩
      · exact .inr ⟨i', k', hi', hk', .inl h1, h2, h3⟩
      · subst h1
        by_cases e : k' = k
        · subst e; exact absurd ⟨h2, h3⟩ h
        · exact .inr ⟨i', k', hi', hk', .inr ⟨rfl, by omega⟩, h2, h3⟩
  · rintro (h1 | ⟨i', k', hi', hk', h1, h2, h3⟩)
    · exact .inl h1
    · exact .inr ⟨i', k', hi', hk', by omega, h2, h3⟩
theorem tch_mono {a b : List St} {D : Int} {i k : Nat} (h : tch a b D i k) : tch a b D i (k + 1) := by
  rcases h with h1 | ⟨i', k', hi', hk', h1, h2, h3⟩
  · exact .inl h1
  · exact .inr ⟨i', k', hi', hk', by omega, h2, h3⟩
theorem tch_yes {a b : List St} {D : Int} {i k : Nat} (hi : i < a.length) (hk : k < b.length) (h : ov (a[i]'hi) (b[k]'hk)) (h2 : (a[i]'hi).h + (b[k]'hk).h = D) : tch a b D i (k + 1) :=
  .inr ⟨i, k, hi, hk, .inr ⟨rfl, by omega⟩, h, h2⟩
theorem tch_row {a b : List St} {D : Int} {i k : Nat} (h : b.length ≤ k) : tch a b D i k ↔ tch a b D (i + 1) 0 := by
  constructor
  · rintro (h1 | ⟨i', k', hi', hk', h1, h2, h3⟩)
    · exact .inl h1
    · exact .inr ⟨i', k', hi', hk', by omega, h2, h3⟩
  · rintro (h1 | ⟨i', k', hi', hk', h1, h2, h3⟩)
    · exact .inl h1
    · exact .inr ⟨i', k', hi', hk', by omega, h2, h3⟩
theorem tch_0 {a b : List St} {D : Int} : tch a b D 0 0 ↔ D = 0 := by
  constructor
  · rintro (h1 | ⟨i', k', hi', hk', h1, h2, h3⟩)
    · exact h1
    · omega
  · exact .inl
theorem tch_end {a b : List St} {D : Int} {i : Nat} (h : a.length ≤ i) (he : D = 0 ∨ ∃ (i' k' : Nat) (hi : i' < a.length) (hk : k' < b.length), ov (a[i']'hi) (b[k']'hk) ∧ (a[i']'hi).h + (b[k']'hk).h = D) : tch a b D i 0 := by
  rcases he with h1 | ⟨i', k', hi', hk', h2, h3⟩
  · exact .inl h1
  · exact .inr ⟨i', k', hi', hk', by omega, h2, h3⟩

section
attribute [local simp ↓] List.map_nil List.map_cons
attribute [local simp] m_ o_ g_ stepsS stepS gd opEff appEff LArg.ev app_val app_new app_upd app_kill putV ins_e0 ins_e1 get_e0 get_e1 binV binI grd bnd ldCells AV.cells AV.scalar AV.known setAt fillL chunks elems mxI mnI del Nat.add_assoc nlt_self nne_self nne_self' List.take_of_length_le decT decF wrap_i64 stepsD stepD ST.as dEffF LOp.cls softOK LOp.args LOp.rds AV.ids appD_val appD_new appD_upd appD_kill AS.flush delAll
set_option maxHeartbeats 2000000 in
theorem apart_big (a b : List St) (D : Int) (h : 60 < a.length ∨ 60 < b.length) : ACalls Go.Proofs.Try.prog 7 [.tsl 3 (a.map St.e), .tsl 3 (b.map St.e)] [] 0 (fun r _ _ => r = .bool true) := by
  refine pure_body ok7 rfl ?_
  simp only [parV]
  refine LWP_seq ?_
  apply LWP_run
  · repeat (simp -implicitDefEqProofs (maxSteps := 1000000) (disch := first | assumption | omega) [St.e, mx_ite, mn_ite]; try simp only [List.getElem?_cons_zero, Option.getD_some, app_val])
    rfl
  refine LWP_seq ?_
  refine LWP_seq ?_
  refine LWP_reg fun K hK => ?_
  apply rgnS_pre 4
  · repeat (simp -implicitDefEqProofs (maxSteps := 1000000) (disch := first | assumption | omega) [St.e, mx_ite, mn_ite]; try simp only [List.getElem?_cons_zero, Option.getD_some, app_val])
    rfl
  refine rgnS_guard (x := 12) (b := false) rfl (fun h1 => ?_) (fun h1 => ?_)
  · try simp only [decide_eq_true_eq, decide_eq_false_iff_not, Bool.not_eq_true', Bool.not_eq_false', Bool.not_true, Bool.not_false, beq_iff_eq, bne_iff_ne, beq_eq_false_iff_ne, bne_eq_false_iff_eq, Bool.and_eq_true, Bool.or_eq_false_iff, Int.not_lt, Int.not_le, Nat.not_lt, Nat.not_le, ne_eq, Bool.true_eq_false, Bool.false_eq_true, reduceCtorEq] at h1
    all_goals try (exfalso; omega)
    all_goals
      apply rgnS_pre 5
      · repeat (simp -implicitDefEqProofs (maxSteps := 1000000) (disch := first | assumption | omega) [St.e, mx_ite, mn_ite, h1]; try simp only [List.getElem?_cons_zero, Option.getD_some, app_val])
        rfl
      refine rgnS_guard (x := 17) (b := false) rfl (fun h2 => ?_) (fun h2 => ?_)
      · try simp only [decide_eq_true_eq, decide_eq_false_iff_not, Bool.not_eq_true', Bool.not_eq_false', Bool.not_true, Bool.not_false, beq_iff_eq, bne_iff_ne, beq_eq_false_iff_ne, bne_eq_false_iff_eq, Bool.and_eq_true, Bool.or_eq_false_iff, Int.not_lt, Int.not_le, Nat.not_lt, Nat.not_le, ne_eq, Bool.true_eq_false, Bool.false_eq_true, reduceCtorEq] at h2
        all_goals try (exfalso; omega)
        all_goals
          apply rgnS_pre 1
          · repeat (simp -implicitDefEqProofs (maxSteps := 1000000) (disch := first | assumption | omega) [St.e, mx_ite, mn_ite, h1, h2]; try simp only [List.getElem?_cons_zero, Option.getD_some, app_val])
            rfl
          refine rgnS_call (CA) rfl rfl (by simp [pureL, pureR, AV.pure, St.e, mx_ite, mn_ite, pureR_st]) (by simp [pureL, pureR, AV.pure, St.e, mx_ite, mn_ite, pureR_st]) (by simp [gd, get_e0, get_e1, LArg.ev, h1, h2]) ?_
          apply rgnS_pre 3
          · repeat (simp -implicitDefEqProofs (maxSteps := 1000000) (disch := first | assumption | omega) [St.e, mx_ite, mn_ite, h1, h2]; try simp only [List.getElem?_cons_zero, Option.getD_some, app_val])
            rfl
          refine rgnS_guard (x := 22) (b := false) rfl (fun h3 => ?_) (fun h3 => ?_)
          · try simp only [decide_eq_true_eq, decide_eq_false_iff_not, Bool.not_eq_true', Bool.not_eq_false', Bool.not_true, Bool.not_false, beq_iff_eq, bne_iff_ne, beq_eq_false_iff_ne, bne_eq_false_iff_eq, Bool.and_eq_true, Bool.or_eq_false_iff, Int.not_lt, Int.not_le, Nat.not_lt, Nat.not_le, ne_eq, Bool.true_eq_false, Bool.false_eq_true, reduceCtorEq] at h3
            all_goals try (exfalso; omega)
            all_goals
              apply rgnS_pre 1
              · repeat (simp -implicitDefEqProofs (maxSteps := 1000000) (disch := first | assumption | omega) [St.e, mx_ite, mn_ite, h1, h2, h3]; try simp only [List.getElem?_cons_zero, Option.getD_some, app_val])
                rfl
              refine rgnS_call (CB) rfl rfl (by simp [pureL, pureR, AV.pure, St.e, mx_ite, mn_ite, pureR_st]) (by simp [pureL, pureR, AV.pure, St.e, mx_ite, mn_ite, pureR_st]) (by simp [gd, get_e0, get_e1, LArg.ev, h1, h2, h3]) ?_
              apply rgnS_pre 2
              · repeat (simp -implicitDefEqProofs (maxSteps := 1000000) (disch := first | assumption | omega) [St.e, mx_ite, mn_ite, h1, h2, h3]; try simp only [List.getElem?_cons_zero, Option.getD_some, app_val])
                rfl
              refine hK _ ?_; clear hK
              refine LWP_cond rfl (fun h4 => ?_) (fun h4 => ?_)
              · try simp only [decide_eq_true_eq, decide_eq_false_iff_not, Bool.not_eq_true', Bool.not_eq_false', Bool.not_true, Bool.not_false, beq_iff_eq, bne_iff_ne, beq_eq_false_iff_ne, bne_eq_false_iff_eq, Bool.and_eq_true, Bool.or_eq_false_iff, Int.not_lt, Int.not_le, Nat.not_lt, Nat.not_le, ne_eq, Bool.true_eq_false, Bool.false_eq_true, reduceCtorEq] at h4
                all_goals try (exfalso; omega)
                all_goals
                  refine LWP_seq ?_
                  refine LWP_reg fun K hK => ?_
                  refine rgnS_call (hsheads) rfl rfl (by simp [pureL, pureR, AV.pure, St.e, mx_ite, mn_ite]) (by simp [pureL, pureR, AV.pure, St.e, mx_ite, mn_ite]) (by simp [gd, get_e0, get_e1, LArg.ev, h1, h2, h3, h4]) ?_
                  apply rgnS_pre 1
                  · repeat (simp -implicitDefEqProofs (maxSteps := 1000000) (disch := first | assumption | omega) [St.e, mx_ite, mn_ite, h1, h2, h3, h4]; try simp only [List.getElem?_cons_zero, Option.getD_some, app_val])
                    rfl
                  refine hK _ ?_; clear hK
                  -- leaf 0
                  refine LWP_ret ⟨_, rfl, ?_⟩
                  refine wkV_of_eq ?_
                  simp only [retV]
                  all_goals
                    simp
              · try simp only [decide_eq_true_eq, decide_eq_false_iff_not, Bool.not_eq_true', Bool.not_eq_false', Bool.not_true, Bool.not_false, beq_iff_eq, bne_iff_ne, beq_eq_false_iff_ne, bne_eq_false_iff_eq, Bool.and_eq_true, Bool.or_eq_false_iff, Int.not_lt, Int.not_le, Nat.not_lt, Nat.not_le, ne_eq, Bool.true_eq_false, Bool.false_eq_true, reduceCtorEq] at h4
                all_goals try (exfalso; omega)
                all_goals
                  refine LWP_skip ?_
                  refine LWP_seq ?_
                  refine LWP_reg fun K hK => ?_
                  apply rgnS_pre 2
                  · repeat (simp -implicitDefEqProofs (maxSteps := 1000000) (disch := first | assumption | omega) [St.e, mx_ite, mn_ite, h1, h2, h3, h4]; try simp only [List.getElem?_cons_zero, Option.getD_some, app_val])
                    rfl
                  refine rgnS_call (hD) rfl rfl (by simp [pureL, pureR, AV.pure, St.e, mx_ite, mn_ite, pureR_st]) (by simp [pureL, pureR, AV.pure, St.e, mx_ite, mn_ite, pureR_st]) (by simp [gd, get_e0, get_e1, LArg.ev, h1, h2, h3, h4]) ?_
                  apply rgnS_pre 1
                  · repeat (simp -implicitDefEqProofs (maxSteps := 1000000) (disch := first | assumption | omega) [St.e, mx_ite, mn_ite, h1, h2, h3, h4]; try simp only [List.getElem?_cons_zero, Option.getD_some, app_val])
                    rfl
                  refine hK _ ?_; clear hK
                  refine LWP_seq ?_
                  apply LWP_run
                  · repeat (simp -implicitDefEqProofs (maxSteps := 1000000) (disch := first | assumption | omega) [St.e, mx_ite, mn_ite, h1, h2, h3, h4]; try simp only [List.getElem?_cons_zero, Option.getD_some, app_val])
                    rfl
                  refine LWP_seq ?_
                  refine LWP_seq ?_
                  apply LWP_run
                  · repeat (simp -implicitDefEqProofs (maxSteps := 1000000) (disch := first | assumption | omega) [St.e, mx_ite, mn_ite, h1, h2, h3, h4]; try simp only [List.getElem?_cons_zero, Option.getD_some, app_val])
                    rfl
                  refine LWP_block ?_
                  refine LWP_for (fun (p : Nat × Bool) => [(0, .tsl 3 (a.map St.e)), (1, .tsl 3 (b.map St.e)), (5, .int .i64 D), (6, .bool p.2), (7, .int .i64 (p.1 : Nat))]) (fun (p : Nat × Bool) => []) (fun (p : Nat × Bool) n => p.1 ≤ a.length ∧ (p.2 = true ↔ tch a b D p.1 0)) (fun (p : Nat × Bool) => a.length - p.1) (0, D == 0) ?_ ?_ ?_ ?_
                  · simp (maxSteps := 1000000) (disch := first | assumption | omega) [leV, get_e0, get_e1, wkV.refl, wkV_int, decT, decF, St.e, mx_ite, mn_ite, h1, h2, h3, h4]
                  · simp [leH, get_e0, get_e1, h1, h2, h3, h4]
                  · exact ⟨Nat.zero_le _, by rw [tch_0]; simp⟩
                  rintro ⟨i, t⟩ n ⟨c1, c2⟩
                  simp only at c1 c2
                  refine LWP_seq ?_
                  refine LWP_seq ?_
                  apply LWP_run
                  · repeat (simp -implicitDefEqProofs (maxSteps := 1000000) (disch := first | assumption | omega) [St.e, mx_ite, mn_ite, h1, h2, h3, h4]; try simp only [List.getElem?_cons_zero, Option.getD_some, app_val])
                    rfl
                  refine LWP_cond rfl (fun h6 => ?_) (fun h6 => ?_)
                  · try simp only [decide_eq_true_eq, decide_eq_false_iff_not, Bool.not_eq_true', Bool.not_eq_false', Bool.not_true, Bool.not_false, beq_iff_eq, bne_iff_ne, beq_eq_false_iff_ne, bne_eq_false_iff_eq, Bool.and_eq_true, Bool.or_eq_false_iff, Int.not_lt, Int.not_le, Nat.not_lt, Nat.not_le, ne_eq, Bool.true_eq_false, Bool.false_eq_true, reduceCtorEq] at h6
                    all_goals try (exfalso; omega)
                    all_goals
                      refine LWP_skip ?_
                      refine LWP_seq ?_
                      refine LWP_block ?_
                      refine LWP_seq ?_
                      apply LWP_run
                      · repeat (simp -implicitDefEqProofs (maxSteps := 1000000) (disch := first | assumption | omega) [St.e, mx_ite, mn_ite, h1, h2, h3, h4, h6]; try simp only [List.getElem?_cons_zero, Option.getD_some, app_val])
                        rfl
                      refine LWP_block ?_
                      refine LWP_for (fun (q : Nat × Bool) => [(0, .tsl 3 (a.map St.e)), (1, .tsl 3 (b.map St.e)), (5, .int .i64 D), (6, .bool q.2), (7, .int .i64 (i : Nat)), (8, .int .i64 (q.1 : Nat))]) (fun (q : Nat × Bool) => []) (fun (q : Nat × Bool) n2 => q.1 ≤ b.length ∧ (q.2 = true ↔ tch a b D i q.1)) (fun (q : Nat × Bool) => b.length - q.1) (0, t) ?_ ?_ ?_ ?_
                      · simp (maxSteps := 1000000) (disch := first | assumption | omega) [leV, get_e0, get_e1, wkV.refl, wkV_int, decT, decF, St.e, mx_ite, mn_ite, h1, h2, h3, h4, h6]
                      · simp [leH, get_e0, get_e1, h1, h2, h3, h4, h6]
                      · exact ⟨Nat.zero_le _, c2⟩
                      rintro ⟨k, t2⟩ n2 ⟨e1, e2⟩
                      simp only at e1 e2
                      refine LWP_seq ?_
                      refine LWP_seq ?_
                      apply LWP_run
                      · repeat (simp -implicitDefEqProofs (maxSteps := 1000000) (disch := first | assumption | omega) [St.e, mx_ite, mn_ite, h1, h2, h3, h4, h6]; try simp only [List.getElem?_cons_zero, Option.getD_some, app_val])
                        rfl
                      refine LWP_cond rfl (fun h8 => ?_) (fun h8 => ?_)
                      · try simp only [decide_eq_true_eq, decide_eq_false_iff_not, Bool.not_eq_true', Bool.not_eq_false', Bool.not_true, Bool.not_false, beq_iff_eq, bne_iff_ne, beq_eq_false_iff_ne, bne_eq_false_iff_eq, Bool.and_eq_true, Bool.or_eq_false_iff, Int.not_lt, Int.not_le, Nat.not_lt, Nat.not_le, ne_eq, Bool.true_eq_false, Bool.false_eq_true, reduceCtorEq] at h8
                        all_goals try (exfalso; omega)
                        all_goals
                          refine LWP_skip ?_
                          refine LWP_seq ?_
                          refine LWP_block ?_
                          refine LWP_seq ?_
                          refine LWP_regD' fun K hK => ?_
                          apply rgnD_pre 8
                          · repeat (simp -implicitDefEqProofs (maxSteps := 1000000) (disch := first | assumption | omega) [St.e, mx_ite, mn_ite, h1, h2, h3, h4, h6, h8]; try simp only [List.getElem?_cons_zero, Option.getD_some, app_val])
                            rfl
                          apply rgnD_pre 8
                          · repeat (simp -implicitDefEqProofs (maxSteps := 1000000) (disch := first | assumption | omega) [St.e, mx_ite, mn_ite, h1, h2, h3, h4, h6, h8]; try simp only [List.getElem?_cons_zero, Option.getD_some, app_val])
                            rfl
                          apply rgnD_pre 7
                          · repeat (simp -implicitDefEqProofs (maxSteps := 1000000) (disch := first | assumption | omega) [St.e, mx_ite, mn_ite, h1, h2, h3, h4, h6, h8]; try simp only [List.getElem?_cons_zero, Option.getD_some, app_val])
                            rfl
                          refine hK _ _ (by simp [AS.fin, delAll, del, Nat.add_assoc]; rfl) ?_; clear hK
                          refine LWP_cond rfl (fun h9 => ?_) (fun h9 => ?_)
                          · try simp only [decide_eq_true_eq, decide_eq_false_iff_not, Bool.not_eq_true', Bool.not_eq_false', Bool.not_true, Bool.not_false, beq_iff_eq, bne_iff_ne, beq_eq_false_iff_ne, bne_eq_false_iff_eq, Bool.and_eq_true, Bool.or_eq_false_iff, Int.not_lt, Int.not_le, Nat.not_lt, Nat.not_le, ne_eq, Bool.true_eq_false, Bool.false_eq_true, reduceCtorEq] at h9
                            all_goals try (exfalso; omega)
                            all_goals
                              refine LWP_seq ?_
                              refine LWP_seq ?_
                              refine LWP_regD' fun K hK => ?_
                              apply rgnD_pre 8
                              · repeat (simp -implicitDefEqProofs (maxSteps := 1000000) (disch := first | assumption | omega) [St.e, mx_ite, mn_ite, h1, h2, h3, h4, h6, h8, h9]; try simp only [List.getElem?_cons_zero, Option.getD_some, app_val])
                                rfl
                              apply rgnD_pre 5
                              · repeat (simp -implicitDefEqProofs (maxSteps := 1000000) (disch := first | assumption | omega) [St.e, mx_ite, mn_ite, h1, h2, h3, h4, h6, h8, h9]; try simp only [List.getElem?_cons_zero, Option.getD_some, app_val])
                                rfl
                              refine hK _ _ (by simp [AS.fin, delAll, del, Nat.add_assoc]; rfl) ?_; clear hK
                              refine LWP_cond rfl (fun h10 => ?_) (fun h10 => ?_)
                              · try simp only [decide_eq_true_eq, decide_eq_false_iff_not, Bool.not_eq_true', Bool.not_eq_false', Bool.not_true, Bool.not_false, beq_iff_eq, bne_iff_ne, beq_eq_false_iff_ne, bne_eq_false_iff_eq, Bool.and_eq_true, Bool.or_eq_false_iff, Int.not_lt, Int.not_le, Nat.not_lt, Nat.not_le, ne_eq, Bool.true_eq_false, Bool.false_eq_true, reduceCtorEq] at h10
                                all_goals try (exfalso; omega)
                                all_goals
                                  refine LWP_seq ?_
                                  apply LWP_run
                                  · repeat (simp -implicitDefEqProofs (maxSteps := 1000000) (disch := first | assumption | omega) [St.e, mx_ite, mn_ite, h1, h2, h3, h4, h6, h8, h9, h10]; try simp only [List.getElem?_cons_zero, Option.getD_some, app_val])
                                    rfl
                                  -- leaf 1
                                  refine LWP_ret ⟨_, rfl, ?_⟩
                                  refine wkV_of_eq ?_
                                  simp only [retV]
                                  all_goals
                                    simp
                              · try simp only [decide_eq_true_eq, decide_eq_false_iff_not, Bool.not_eq_true', Bool.not_eq_false', Bool.not_true, Bool.not_false, beq_iff_eq, bne_iff_ne, beq_eq_false_iff_ne, bne_eq_false_iff_eq, Bool.and_eq_true, Bool.or_eq_false_iff, Int.not_lt, Int.not_le, Nat.not_lt, Nat.not_le, ne_eq, Bool.true_eq_false, Bool.false_eq_true, reduceCtorEq] at h10
                                all_goals try (exfalso; omega)
                                all_goals
                                  refine LWP_skip ?_
                                  refine LWP_regD' fun K hK => ?_
                                  apply rgnD_pre 2
                                  · repeat (simp -implicitDefEqProofs (maxSteps := 1000000) (disch := first | assumption | omega) [St.e, mx_ite, mn_ite, h1, h2, h3, h4, h6, h8, h9, h10]; try simp only [List.getElem?_cons_zero, Option.getD_some, app_val])
                                    rfl
                                  refine rgnD_guard (x := 82) (b := false) rfl (fun h11 => ?_) (fun h11 => ?_)
                                  · try simp only [decide_eq_true_eq, decide_eq_false_iff_not, Bool.not_eq_true', Bool.not_eq_false', Bool.not_true, Bool.not_false, beq_iff_eq, bne_iff_ne, beq_eq_false_iff_ne, bne_eq_false_iff_eq, Bool.and_eq_true, Bool.or_eq_false_iff, Int.not_lt, Int.not_le, Nat.not_lt, Nat.not_le, ne_eq, Bool.true_eq_false, Bool.false_eq_true, reduceCtorEq] at h11
                                    all_goals try (exfalso; omega)
                                    all_goals
                                      apply rgnD_pre 8
                                      · repeat (simp -implicitDefEqProofs (maxSteps := 1000000) (disch := first | assumption | omega) [St.e, mx_ite, mn_ite, h1, h2, h3, h4, h6, h8, h9, h10, h11]; try simp only [List.getElem?_cons_zero, Option.getD_some, app_val])
                                        rfl
                                      apply rgnD_pre 7
                                      · repeat (simp -implicitDefEqProofs (maxSteps := 1000000) (disch := first | assumption | omega) [St.e, mx_ite, mn_ite, h1, h2, h3, h4, h6, h8, h9, h10, h11]; try simp only [List.getElem?_cons_zero, Option.getD_some, app_val])
                                        rfl
                                      refine hK _ _ (by simp [AS.fin, delAll, del, Nat.add_assoc]; rfl) ?_; clear hK
                                      apply LWP_run
                                      · repeat (simp -implicitDefEqProofs (maxSteps := 1000000) (disch := first | assumption | omega) [St.e, mx_ite, mn_ite, h1, h2, h3, h4, h6, h8, h9, h10, h11]; try simp only [List.getElem?_cons_zero, Option.getD_some, app_val])
                                        rfl
                                      -- loop 1, round 0
                                      refine ⟨(k + 1, ((a[i]'(by omega)).h + (b[k]'(by omega)).h == D)), ?_, ?_, ?_, ?_⟩
                                      · refine ⟨by simp only; omega, ?_⟩
                                        simp only
                                        constructor
                                        · intro q
                                          exact tch_yes (by omega) (by omega) (by unfold ov; omega) (by simpa using q)
                                        · intro q
                                          by_cases hs : (a[i]'(by omega)).h + (b[k]'(by omega)).h = D
                                          · simp [hs]
                                          · rw [tch_no (by omega) (by omega) (fun h => hs h.2)] at q
                                            have := e2.2 q
                                            simp_all
                                      · simp only; omega
                                      · simp (maxSteps := 1000000) (disch := first | assumption | omega) [leV, get_e0, get_e1, wkV.refl, wkV_int, wrap_i64, decT, decF, St.e, mx_ite, mn_ite, h1, h2, h3, h4, h6, h8, h9, h10, h11]
                                      · simp [leH, get_e0, get_e1, h1, h2, h3, h4, h6, h8, h9, h10, h11]
                                  · try simp only [decide_eq_true_eq, decide_eq_false_iff_not, Bool.not_eq_true', Bool.not_eq_false', Bool.not_true, Bool.not_false, beq_iff_eq, bne_iff_ne, beq_eq_false_iff_ne, bne_eq_false_iff_eq, Bool.and_eq_true, Bool.or_eq_false_iff, Int.not_lt, Int.not_le, Nat.not_lt, Nat.not_le, ne_eq, Bool.true_eq_false, Bool.false_eq_true, reduceCtorEq] at h11
                                    all_goals try (exfalso; omega)
                                    all_goals
                                      apply rgnD_pre 8
                                      · repeat (simp -implicitDefEqProofs (maxSteps := 1000000) (disch := first | assumption | omega) [St.e, mx_ite, mn_ite, h1, h2, h3, h4, h6, h8, h9, h10, h11]; try simp only [List.getElem?_cons_zero, Option.getD_some, app_val])
                                        rfl
                                      apply rgnD_pre 6
                                      · repeat (simp -implicitDefEqProofs (maxSteps := 1000000) (disch := first | assumption | omega) [St.e, mx_ite, mn_ite, h1, h2, h3, h4, h6, h8, h9, h10, h11]; try simp only [List.getElem?_cons_zero, Option.getD_some, app_val])
                                        rfl
                                      refine hK _ _ (by simp [AS.fin, delAll, del, Nat.add_assoc]; rfl) ?_; clear hK
                                      apply LWP_run
                                      · repeat (simp -implicitDefEqProofs (maxSteps := 1000000) (disch := first | assumption | omega) [St.e, mx_ite, mn_ite, h1, h2, h3, h4, h6, h8, h9, h10, h11]; try simp only [List.getElem?_cons_zero, Option.getD_some, app_val])
                                        rfl
                                      -- loop 1, round 1
                                      refine ⟨(k + 1, true), ?_, ?_, ?_, ?_⟩
                                      · refine ⟨by simp only; omega, ?_⟩
                                        simp only
                                        constructor
                                        · intro _
                                          exact tch_mono (e2.1 (by assumption))
                                        · intro _
                                          first | rfl | trivial
                                      · simp only; omega
                                      · simp (maxSteps := 1000000) (disch := first | assumption | omega) [leV, get_e0, get_e1, wkV.refl, wkV_int, wrap_i64, decT, decF, St.e, mx_ite, mn_ite, h1, h2, h3, h4, h6, h8, h9, h10, h11]
                                      · simp [leH, get_e0, get_e1, h1, h2, h3, h4, h6, h8, h9, h10, h11]
                          · try simp only [decide_eq_true_eq, decide_eq_false_iff_not, Bool.not_eq_true', Bool.not_eq_false', Bool.not_true, Bool.not_false, beq_iff_eq, bne_iff_ne, beq_eq_false_iff_ne, bne_eq_false_iff_eq, Bool.and_eq_true, Bool.or_eq_false_iff, Int.not_lt, Int.not_le, Nat.not_lt, Nat.not_le, ne_eq, Bool.true_eq_false, Bool.false_eq_true, reduceCtorEq] at h9
                            all_goals try (exfalso; omega)
                            all_goals
                              refine LWP_skip ?_
                              apply LWP_run
                              · repeat (simp -implicitDefEqProofs (maxSteps := 1000000) (disch := first | assumption | omega) [St.e, mx_ite, mn_ite, h1, h2, h3, h4, h6, h8, h9]; try simp only [List.getElem?_cons_zero, Option.getD_some, app_val])
                                rfl
                              -- loop 1, round 2
                              refine ⟨(k + 1, t2), ?_, ?_, ?_, ?_⟩
                              · refine ⟨by simp only; omega, ?_⟩
                                simp only
                                rw [tch_no (by omega) (by omega) (fun h => absurd h.1 (by unfold ov; omega))]
                                exact e2
                              · simp only; omega
                              · simp (maxSteps := 1000000) (disch := first | assumption | omega) [leV, get_e0, get_e1, wkV.refl, wkV_int, wrap_i64, decT, decF, St.e, mx_ite, mn_ite, h1, h2, h3, h4, h6, h8, h9]
                              · simp [leH, get_e0, get_e1, h1, h2, h3, h4, h6, h8, h9]
                      · try simp only [decide_eq_true_eq, decide_eq_false_iff_not, Bool.not_eq_true', Bool.not_eq_false', Bool.not_true, Bool.not_false, beq_iff_eq, bne_iff_ne, beq_eq_false_iff_ne, bne_eq_false_iff_eq, Bool.and_eq_true, Bool.or_eq_false_iff, Int.not_lt, Int.not_le, Nat.not_lt, Nat.not_le, ne_eq, Bool.true_eq_false, Bool.false_eq_true, reduceCtorEq] at h8
                        all_goals try (exfalso; omega)
                        all_goals
                          refine LWP_exit ?_
                          apply LWP_run
                          · repeat (simp -implicitDefEqProofs (maxSteps := 1000000) (disch := first | assumption | omega) [St.e, mx_ite, mn_ite, h1, h2, h3, h4, h6, h8]; try simp only [List.getElem?_cons_zero, Option.getD_some, app_val])
                            rfl
                          -- loop 0, round 0
                          refine ⟨(i + 1, t2), ?_, ?_, ?_, ?_⟩
                          · exact ⟨by simp only; omega, by simp only; rw [← tch_row (k := k) (by omega)]; exact e2⟩
                          · simp only; omega
                          · simp (maxSteps := 1000000) (disch := first | assumption | omega) [leV, get_e0, get_e1, wkV.refl, wkV_int, wrap_i64, decT, decF, St.e, mx_ite, mn_ite, h1, h2, h3, h4, h6, h8]
                          · simp [leH, get_e0, get_e1, h1, h2, h3, h4, h6, h8]
                  · try simp only [decide_eq_true_eq, decide_eq_false_iff_not, Bool.not_eq_true', Bool.not_eq_false', Bool.not_true, Bool.not_false, beq_iff_eq, bne_iff_ne, beq_eq_false_iff_ne, bne_eq_false_iff_eq, Bool.and_eq_true, Bool.or_eq_false_iff, Int.not_lt, Int.not_le, Nat.not_lt, Nat.not_le, ne_eq, Bool.true_eq_false, Bool.false_eq_true, reduceCtorEq] at h6
                    all_goals try (exfalso; omega)
                    all_goals
                      refine LWP_exit ?_
                      refine LWP_seq ?_
                      refine LWP_reg fun K hK => ?_
                      apply rgnS_pre 3
                      · repeat (simp -implicitDefEqProofs (maxSteps := 1000000) (disch := first | assumption | omega) [St.e, mx_ite, mn_ite, h1, h2, h3, h4, h6]; try simp only [List.getElem?_cons_zero, Option.getD_some, app_val])
                        rfl
                      refine rgnS_guard (x := 99) (b := true) rfl (fun h12 => ?_) (fun h12 => ?_)
                      · try simp only [decide_eq_true_eq, decide_eq_false_iff_not, Bool.not_eq_true', Bool.not_eq_false', Bool.not_true, Bool.not_false, beq_iff_eq, bne_iff_ne, beq_eq_false_iff_ne, bne_eq_false_iff_eq, Bool.and_eq_true, Bool.or_eq_false_iff, Int.not_lt, Int.not_le, Nat.not_lt, Nat.not_le, ne_eq, Bool.true_eq_false, Bool.false_eq_true, reduceCtorEq] at h12
                        all_goals try (exfalso; omega)
                        all_goals
                          apply rgnS_pre 3
                          · repeat (simp -implicitDefEqProofs (maxSteps := 1000000) (disch := first | assumption | omega) [St.e, mx_ite, mn_ite, h1, h2, h3, h4, h6, h12]; try simp only [List.getElem?_cons_zero, Option.getD_some, app_val])
                            rfl
                          refine rgnS_guard (x := 102) (b := true) rfl (fun h13 => ?_) (fun h13 => ?_)
                          · try simp only [decide_eq_true_eq, decide_eq_false_iff_not, Bool.not_eq_true', Bool.not_eq_false', Bool.not_true, Bool.not_false, beq_iff_eq, bne_iff_ne, beq_eq_false_iff_ne, bne_eq_false_iff_eq, Bool.and_eq_true, Bool.or_eq_false_iff, Int.not_lt, Int.not_le, Nat.not_lt, Nat.not_le, ne_eq, Bool.true_eq_false, Bool.false_eq_true, reduceCtorEq] at h13
                            all_goals try (exfalso; omega)
                            all_goals
                              refine rgnS_call (hsheads) rfl rfl (by simp [pureL, pureR, AV.pure, St.e, mx_ite, mn_ite]) (by simp [pureL, pureR, AV.pure, St.e, mx_ite, mn_ite]) (by simp [gd, get_e0, get_e1, LArg.ev, h1, h2, h3, h4, h6, h12, h13]) ?_
                              apply rgnS_pre 2
                              · repeat (simp -implicitDefEqProofs (maxSteps := 1000000) (disch := first | assumption | omega) [St.e, mx_ite, mn_ite, h1, h2, h3, h4, h6, h12, h13]; try simp only [List.getElem?_cons_zero, Option.getD_some, app_val])
                                rfl
                              refine hK _ ?_; clear hK
                              -- leaf 2
                              refine LWP_ret ⟨_, rfl, ?_⟩
                              refine wkV_of_eq ?_
                              simp only [retV]
                              all_goals
                                simp
                          · try simp only [decide_eq_true_eq, decide_eq_false_iff_not, Bool.not_eq_true', Bool.not_eq_false', Bool.not_true, Bool.not_false, beq_iff_eq, bne_iff_ne, beq_eq_false_iff_ne, bne_eq_false_iff_eq, Bool.and_eq_true, Bool.or_eq_false_iff, Int.not_lt, Int.not_le, Nat.not_lt, Nat.not_le, ne_eq, Bool.true_eq_false, Bool.false_eq_true, reduceCtorEq] at h13
                            all_goals try (exfalso; omega)
                            all_goals
                              apply rgnS_pre 2
                              · repeat (simp -implicitDefEqProofs (maxSteps := 1000000) (disch := first | assumption | omega) [St.e, mx_ite, mn_ite, h1, h2, h3, h4, h6, h12, h13]; try simp only [List.getElem?_cons_zero, Option.getD_some, app_val])
                                rfl
                              refine hK _ ?_; clear hK
                              -- leaf 3
                              refine LWP_ret ⟨_, rfl, ?_⟩
                              refine wkV_of_eq ?_
                              simp only [retV]
                              all_goals
                                simp
                      · try simp only [decide_eq_true_eq, decide_eq_false_iff_not, Bool.not_eq_true', Bool.not_eq_false', Bool.not_true, Bool.not_false, beq_iff_eq, bne_iff_ne, beq_eq_false_iff_ne, bne_eq_false_iff_eq, Bool.and_eq_true, Bool.or_eq_false_iff, Int.not_lt, Int.not_le, Nat.not_lt, Nat.not_le, ne_eq, Bool.true_eq_false, Bool.false_eq_true, reduceCtorEq] at h12
                        all_goals try (exfalso; omega)
                        all_goals
                          apply rgnS_pre 5
                          · repeat (simp -implicitDefEqProofs (maxSteps := 1000000) (disch := first | assumption | omega) [St.e, mx_ite, mn_ite, h1, h2, h3, h4, h6, h12]; try simp only [List.getElem?_cons_zero, Option.getD_some, app_val])
                            rfl
                          refine hK _ ?_; clear hK
                          -- leaf 4
                          refine LWP_ret ⟨_, rfl, ?_⟩
                          refine wkV_of_eq ?_
                          simp only [retV]
                          all_goals
                            simp
          · try simp only [decide_eq_true_eq, decide_eq_false_iff_not, Bool.not_eq_true', Bool.not_eq_false', Bool.not_true, Bool.not_false, beq_iff_eq, bne_iff_ne, beq_eq_false_iff_ne, bne_eq_false_iff_eq, Bool.and_eq_true, Bool.or_eq_false_iff, Int.not_lt, Int.not_le, Nat.not_lt, Nat.not_le, ne_eq, Bool.true_eq_false, Bool.false_eq_true, reduceCtorEq] at h3
            all_goals try (exfalso; omega)
            all_goals
              apply rgnS_pre 3
              · repeat (simp -implicitDefEqProofs (maxSteps := 1000000) (disch := first | assumption | omega) [St.e, mx_ite, mn_ite, h1, h2, h3]; try simp only [List.getElem?_cons_zero, Option.getD_some, app_val])
                rfl
              refine hK _ ?_; clear hK
              refine LWP_cond (t := true) (by simp [LArg.ev, get_e0, get_e1, h1, h2, h3]) (fun _ => ?_) (fun h => by cases h)
              refine LWP_seq ?_
              refine LWP_reg fun K hK => ?_
              refine rgnS_call (hsheads) rfl rfl (by simp [pureL, pureR, AV.pure, St.e, mx_ite, mn_ite]) (by simp [pureL, pureR, AV.pure, St.e, mx_ite, mn_ite]) (by simp [gd, get_e0, get_e1, LArg.ev, h1, h2, h3]) ?_
              apply rgnS_pre 1
              · repeat (simp -implicitDefEqProofs (maxSteps := 1000000) (disch := first | assumption | omega) [St.e, mx_ite, mn_ite, h1, h2, h3]; try simp only [List.getElem?_cons_zero, Option.getD_some, app_val])
                rfl
              refine hK _ ?_; clear hK
              -- leaf 5
              refine LWP_ret ⟨_, rfl, ?_⟩
              refine wkV_of_eq ?_
              simp only [retV]
              all_goals
                simp
      · try simp only [decide_eq_true_eq, decide_eq_false_iff_not, Bool.not_eq_true', Bool.not_eq_false', Bool.not_true, Bool.not_false, beq_iff_eq, bne_iff_ne, beq_eq_false_iff_ne, bne_eq_false_iff_eq, Bool.and_eq_true, Bool.or_eq_false_iff, Int.not_lt, Int.not_le, Nat.not_lt, Nat.not_le, ne_eq, Bool.true_eq_false, Bool.false_eq_true, reduceCtorEq] at h2
        all_goals try (exfalso; omega)
        all_goals
          apply rgnS_pre 8
          · repeat (simp -implicitDefEqProofs (maxSteps := 1000000) (disch := first | assumption | omega) [St.e, mx_ite, mn_ite, h1, h2]; try simp only [List.getElem?_cons_zero, Option.getD_some, app_val])
            rfl
          refine hK _ ?_; clear hK
          refine LWP_cond (t := true) (by simp [LArg.ev, get_e0, get_e1, h1, h2]) (fun _ => ?_) (fun h => by cases h)
          refine LWP_seq ?_
          refine LWP_reg fun K hK => ?_
          refine rgnS_call (hsheads) rfl rfl (by simp [pureL, pureR, AV.pure, St.e, mx_ite, mn_ite]) (by simp [pureL, pureR, AV.pure, St.e, mx_ite, mn_ite]) (by simp [gd, get_e0, get_e1, LArg.ev, h1, h2]) ?_
          apply rgnS_pre 1
          · repeat (simp -implicitDefEqProofs (maxSteps := 1000000) (disch := first | assumption | omega) [St.e, mx_ite, mn_ite, h1, h2]; try simp only [List.getElem?_cons_zero, Option.getD_some, app_val])
            rfl
          refine hK _ ?_; clear hK
          -- leaf 6
          refine LWP_ret ⟨_, rfl, ?_⟩
          refine wkV_of_eq ?_
          simp only [retV]
          all_goals
            simp
  · try simp only [decide_eq_true_eq, decide_eq_false_iff_not, Bool.not_eq_true', Bool.not_eq_false', Bool.not_true, Bool.not_false, beq_iff_eq, bne_iff_ne, beq_eq_false_iff_ne, bne_eq_false_iff_eq, Bool.and_eq_true, Bool.or_eq_false_iff, Int.not_lt, Int.not_le, Nat.not_lt, Nat.not_le, ne_eq, Bool.true_eq_false, Bool.false_eq_true, reduceCtorEq] at h1
    all_goals try (exfalso; omega)
    all_goals
      apply rgnS_pre 8
      · repeat (simp -implicitDefEqProofs (maxSteps := 1000000) (disch := first | assumption | omega) [St.e, mx_ite, mn_ite, h1]; try simp only [List.getElem?_cons_zero, Option.getD_some, app_val])
        rfl
      apply rgnS_pre 5
      · repeat (simp -implicitDefEqProofs (maxSteps := 1000000) (disch := first | assumption | omega) [St.e, mx_ite, mn_ite, h1]; try simp only [List.getElem?_cons_zero, Option.getD_some, app_val])
        rfl
      refine hK _ ?_; clear hK
      refine LWP_cond (t := true) (by simp [LArg.ev, get_e0, get_e1, h1]) (fun _ => ?_) (fun h => by cases h)
      refine LWP_seq ?_
      refine LWP_reg fun K hK => ?_
      refine rgnS_call (hsheads) rfl rfl (by simp [pureL, pureR, AV.pure, St.e, mx_ite, mn_ite]) (by simp [pureL, pureR, AV.pure, St.e, mx_ite, mn_ite]) (by simp [gd, get_e0, get_e1, LArg.ev, h1]) ?_
      apply rgnS_pre 1
      · repeat (simp -implicitDefEqProofs (maxSteps := 1000000) (disch := first | assumption | omega) [St.e, mx_ite, mn_ite, h1]; try simp only [List.getElem?_cons_zero, Option.getD_some, app_val])
        rfl
      refine hK _ ?_; clear hK
      -- leaf 7
      refine LWP_ret ⟨_, rfl, ?_⟩
      refine wkV_of_eq ?_
      simp only [retV]
      all_goals
        simp
end

section
attribute [local simp ↓] List.map_nil List.map_cons
attribute [local simp] m_ o_ g_ stepsS stepS gd opEff appEff LArg.ev app_val app_new app_upd app_kill putV ins_e0 ins_e1 get_e0 get_e1 binV binI grd bnd ldCells AV.cells AV.scalar AV.known setAt fillL chunks elems mxI mnI del Nat.add_assoc nlt_self nne_self nne_self' List.take_of_length_le decT decF wrap_i64 stepsD stepD ST.as dEffF LOp.cls softOK LOp.args LOp.rds AV.ids appD_val appD_new appD_upd appD_kill AS.flush delAll
set_option maxHeartbeats 2000000 in
theorem apart_ca (a b : List St) (D : Int) (la : a.length ≤ 60) (lb : b.length ≤ 60) (ca : chkB a = false) : ACalls Go.Proofs.Try.prog 7 [.tsl 3 (a.map St.e), .tsl 3 (b.map St.e)] [] 0 (fun r _ _ => r = .bool true) := by
  refine pure_body ok7 rfl ?_
  simp only [parV]
  have CA := check_ok a (by omega)
  rw [ca] at CA
  refine LWP_seq ?_
  apply LWP_run
  · repeat (simp -implicitDefEqProofs (maxSteps := 1000000) (disch := first | assumption | omega) [St.e, mx_ite, mn_ite]; try simp only [List.getElem?_cons_zero, Option.getD_some, app_val])
    rfl
  refine LWP_seq ?_
  refine LWP_seq ?_
  refine LWP_reg fun K hK => ?_
  apply rgnS_pre 4
  · repeat (simp -implicitDefEqProofs (maxSteps := 1000000) (disch := first | assumption | omega) [St.e, mx_ite, mn_ite]; try simp only [List.getElem?_cons_zero, Option.getD_some, app_val])
    rfl
  refine rgnS_guard (x := 12) (b := false) rfl (fun h1 => ?_) (fun h1 => ?_)
  · try simp only [decide_eq_true_eq, decide_eq_false_iff_not, Bool.not_eq_true', Bool.not_eq_false', Bool.not_true, Bool.not_false, beq_iff_eq, bne_iff_ne, beq_eq_false_iff_ne, bne_eq_false_iff_eq, Bool.and_eq_true, Bool.or_eq_false_iff, Int.not_lt, Int.not_le, Nat.not_lt, Nat.not_le, ne_eq, Bool.true_eq_false, Bool.false_eq_true, reduceCtorEq] at h1
    all_goals try (exfalso; omega)
    all_goals
      apply rgnS_pre 5
      · repeat (simp -implicitDefEqProofs (maxSteps := 1000000) (disch := first | assumption | omega) [St.e, mx_ite, mn_ite, h1]; try simp only [List.getElem?_cons_zero, Option.getD_some, app_val])
        rfl
      refine rgnS_guard (x := 17) (b := false) rfl (fun h2 => ?_) (fun h2 => ?_)
      · try simp only [decide_eq_true_eq, decide_eq_false_iff_not, Bool.not_eq_true', Bool.not_eq_false', Bool.not_true, Bool.not_false, beq_iff_eq, bne_iff_ne, beq_eq_false_iff_ne, bne_eq_false_iff_eq, Bool.and_eq_true, Bool.or_eq_false_iff, Int.not_lt, Int.not_le, Nat.not_lt, Nat.not_le, ne_eq, Bool.true_eq_false, Bool.false_eq_true, reduceCtorEq] at h2
        all_goals try (exfalso; omega)
        all_goals
          apply rgnS_pre 1
          · repeat (simp -implicitDefEqProofs (maxSteps := 1000000) (disch := first | assumption | omega) [St.e, mx_ite, mn_ite, h1, h2]; try simp only [List.getElem?_cons_zero, Option.getD_some, app_val])
            rfl
          refine rgnS_call (CA) rfl rfl (by simp [pureL, pureR, AV.pure, St.e, mx_ite, mn_ite, pureR_st]) (by simp [pureL, pureR, AV.pure, St.e, mx_ite, mn_ite, pureR_st]) (by simp [gd, get_e0, get_e1, LArg.ev, h1, h2]) ?_
          apply rgnS_pre 3
          · repeat (simp -implicitDefEqProofs (maxSteps := 1000000) (disch := first | assumption | omega) [St.e, mx_ite, mn_ite, h1, h2]; try simp only [List.getElem?_cons_zero, Option.getD_some, app_val])
            rfl
          refine rgnS_guard (x := 22) (b := false) rfl (fun h3 => ?_) (fun h3 => ?_)
          · try simp only [decide_eq_true_eq, decide_eq_false_iff_not, Bool.not_eq_true', Bool.not_eq_false', Bool.not_true, Bool.not_false, beq_iff_eq, bne_iff_ne, beq_eq_false_iff_ne, bne_eq_false_iff_eq, Bool.and_eq_true, Bool.or_eq_false_iff, Int.not_lt, Int.not_le, Nat.not_lt, Nat.not_le, ne_eq, Bool.true_eq_false, Bool.false_eq_true, reduceCtorEq] at h3
            all_goals try (exfalso; omega)
            all_goals
              apply rgnS_pre 1
              · repeat (simp -implicitDefEqProofs (maxSteps := 1000000) (disch := first | assumption | omega) [St.e, mx_ite, mn_ite, h1, h2, h3]; try simp only [List.getElem?_cons_zero, Option.getD_some, app_val])
                rfl
              refine rgnS_call (CB) rfl rfl (by simp [pureL, pureR, AV.pure, St.e, mx_ite, mn_ite, pureR_st]) (by simp [pureL, pureR, AV.pure, St.e, mx_ite, mn_ite, pureR_st]) (by simp [gd, get_e0, get_e1, LArg.ev, h1, h2, h3]) ?_
              apply rgnS_pre 2
              · repeat (simp -implicitDefEqProofs (maxSteps := 1000000) (disch := first | assumption | omega) [St.e, mx_ite, mn_ite, h1, h2, h3]; try simp only [List.getElem?_cons_zero, Option.getD_some, app_val])
                rfl
              refine hK _ ?_; clear hK
              refine LWP_cond rfl (fun h4 => ?_) (fun h4 => ?_)
              · try simp only [decide_eq_true_eq, decide_eq_false_iff_not, Bool.not_eq_true', Bool.not_eq_false', Bool.not_true, Bool.not_false, beq_iff_eq, bne_iff_ne, beq_eq_false_iff_ne, bne_eq_false_iff_eq, Bool.and_eq_true, Bool.or_eq_false_iff, Int.not_lt, Int.not_le, Nat.not_lt, Nat.not_le, ne_eq, Bool.true_eq_false, Bool.false_eq_true, reduceCtorEq] at h4
                all_goals try (exfalso; omega)
                all_goals
                  refine LWP_seq ?_
                  refine LWP_reg fun K hK => ?_
                  refine rgnS_call (hsheads) rfl rfl (by simp [pureL, pureR, AV.pure, St.e, mx_ite, mn_ite]) (by simp [pureL, pureR, AV.pure, St.e, mx_ite, mn_ite]) (by simp [gd, get_e0, get_e1, LArg.ev, h1, h2, h3, h4]) ?_
                  apply rgnS_pre 1
                  · repeat (simp -implicitDefEqProofs (maxSteps := 1000000) (disch := first | assumption | omega) [St.e, mx_ite, mn_ite, h1, h2, h3, h4]; try simp only [List.getElem?_cons_zero, Option.getD_some, app_val])
                    rfl
                  refine hK _ ?_; clear hK
                  -- leaf 0
                  refine LWP_ret ⟨_, rfl, ?_⟩
                  refine wkV_of_eq ?_
                  simp only [retV]
                  all_goals
                    simp
              · try simp only [decide_eq_true_eq, decide_eq_false_iff_not, Bool.not_eq_true', Bool.not_eq_false', Bool.not_true, Bool.not_false, beq_iff_eq, bne_iff_ne, beq_eq_false_iff_ne, bne_eq_false_iff_eq, Bool.and_eq_true, Bool.or_eq_false_iff, Int.not_lt, Int.not_le, Nat.not_lt, Nat.not_le, ne_eq, Bool.true_eq_false, Bool.false_eq_true, reduceCtorEq] at h4
                all_goals try (exfalso; omega)
                all_goals
                  refine LWP_skip ?_
                  refine LWP_seq ?_
                  refine LWP_reg fun K hK => ?_
                  apply rgnS_pre 2
                  · repeat (simp -implicitDefEqProofs (maxSteps := 1000000) (disch := first | assumption | omega) [St.e, mx_ite, mn_ite, h1, h2, h3, h4]; try simp only [List.getElem?_cons_zero, Option.getD_some, app_val])
                    rfl
                  refine rgnS_call (hD) rfl rfl (by simp [pureL, pureR, AV.pure, St.e, mx_ite, mn_ite, pureR_st]) (by simp [pureL, pureR, AV.pure, St.e, mx_ite, mn_ite, pureR_st]) (by simp [gd, get_e0, get_e1, LArg.ev, h1, h2, h3, h4]) ?_
                  apply rgnS_pre 1
                  · repeat (simp -implicitDefEqProofs (maxSteps := 1000000) (disch := first | assumption | omega) [St.e, mx_ite, mn_ite, h1, h2, h3, h4]; try simp only [List.getElem?_cons_zero, Option.getD_some, app_val])
                    rfl
                  refine hK _ ?_; clear hK
                  refine LWP_seq ?_
                  apply LWP_run
                  · repeat (simp -implicitDefEqProofs (maxSteps := 1000000) (disch := first | assumption | omega) [St.e, mx_ite, mn_ite, h1, h2, h3, h4]; try simp only [List.getElem?_cons_zero, Option.getD_some, app_val])
                    rfl
                  refine LWP_seq ?_
                  refine LWP_seq ?_
                  apply LWP_run
                  · repeat (simp -implicitDefEqProofs (maxSteps := 1000000) (disch := first | assumption | omega) [St.e, mx_ite, mn_ite, h1, h2, h3, h4]; try simp only [List.getElem?_cons_zero, Option.getD_some, app_val])
                    rfl
                  refine LWP_block ?_
                  refine LWP_for (fun (p : Nat × Bool) => [(0, .tsl 3 (a.map St.e)), (1, .tsl 3 (b.map St.e)), (5, .int .i64 D), (6, .bool p.2), (7, .int .i64 (p.1 : Nat))]) (fun (p : Nat × Bool) => []) (fun (p : Nat × Bool) n => p.1 ≤ a.length ∧ (p.2 = true ↔ tch a b D p.1 0)) (fun (p : Nat × Bool) => a.length - p.1) (0, D == 0) ?_ ?_ ?_ ?_
                  · simp (maxSteps := 1000000) (disch := first | assumption | omega) [leV, get_e0, get_e1, wkV.refl, wkV_int, decT, decF, St.e, mx_ite, mn_ite, h1, h2, h3, h4]
                  · simp [leH, get_e0, get_e1, h1, h2, h3, h4]
                  · exact ⟨Nat.zero_le _, by rw [tch_0]; simp⟩
                  rintro ⟨i, t⟩ n ⟨c1, c2⟩
                  simp only at c1 c2
                  refine LWP_seq ?_
                  refine LWP_seq ?_
                  apply LWP_run
                  · repeat (simp -implicitDefEqProofs (maxSteps := 1000000) (disch := first | assumption | omega) [St.e, mx_ite, mn_ite, h1, h2, h3, h4]; try simp only [List.getElem?_cons_zero, Option.getD_some, app_val])
                    rfl
                  refine LWP_cond rfl (fun h6 => ?_) (fun h6 => ?_)
                  · try simp only [decide_eq_true_eq, decide_eq_false_iff_not, Bool.not_eq_true', Bool.not_eq_false', Bool.not_true, Bool.not_false, beq_iff_eq, bne_iff_ne, beq_eq_false_iff_ne, bne_eq_false_iff_eq, Bool.and_eq_true, Bool.or_eq_false_iff, Int.not_lt, Int.not_le, Nat.not_lt, Nat.not_le, ne_eq, Bool.true_eq_false, Bool.false_eq_true, reduceCtorEq] at h6
                    all_goals try (exfalso; omega)
                    all_goals
                      refine LWP_skip ?_
                      refine LWP_seq ?_
                      refine LWP_block ?_
                      refine LWP_seq ?_
                      apply LWP_run
                      · repeat (simp -implicitDefEqProofs (maxSteps := 1000000) (disch := first | assumption | omega) [St.e, mx_ite, mn_ite, h1, h2, h3, h4, h6]; try simp only [List.getElem?_cons_zero, Option.getD_some, app_val])
                        rfl
                      refine LWP_block ?_
                      refine LWP_for (fun (q : Nat × Bool) => [(0, .tsl 3 (a.map St.e)), (1, .tsl 3 (b.map St.e)), (5, .int .i64 D), (6, .bool q.2), (7, .int .i64 (i : Nat)), (8, .int .i64 (q.1 : Nat))]) (fun (q : Nat × Bool) => []) (fun (q : Nat × Bool) n2 => q.1 ≤ b.length ∧ (q.2 = true ↔ tch a b D i q.1)) (fun (q : Nat × Bool) => b.length - q.1) (0, t) ?_ ?_ ?_ ?_
                      · simp (maxSteps := 1000000) (disch := first | assumption | omega) [leV, get_e0, get_e1, wkV.refl, wkV_int, decT, decF, St.e, mx_ite, mn_ite, h1, h2, h3, h4, h6]
                      · simp [leH, get_e0, get_e1, h1, h2, h3, h4, h6]
                      · exact ⟨Nat.zero_le _, c2⟩
                      rintro ⟨k, t2⟩ n2 ⟨e1, e2⟩
                      simp only at e1 e2
                      refine LWP_seq ?_
                      refine LWP_seq ?_
                      apply LWP_run
                      · repeat (simp -implicitDefEqProofs (maxSteps := 1000000) (disch := first | assumption | omega) [St.e, mx_ite, mn_ite, h1, h2, h3, h4, h6]; try simp only [List.getElem?_cons_zero, Option.getD_some, app_val])
                        rfl
                      refine LWP_cond rfl (fun h8 => ?_) (fun h8 => ?_)
                      · try simp only [decide_eq_true_eq, decide_eq_false_iff_not, Bool.not_eq_true', Bool.not_eq_false', Bool.not_true, Bool.not_false, beq_iff_eq, bne_iff_ne, beq_eq_false_iff_ne, bne_eq_false_iff_eq, Bool.and_eq_true, Bool.or_eq_false_iff, Int.not_lt, Int.not_le, Nat.not_lt, Nat.not_le, ne_eq, Bool.true_eq_false, Bool.false_eq_true, reduceCtorEq] at h8
                        all_goals try (exfalso; omega)
                        all_goals
                          refine LWP_skip ?_
                          refine LWP_seq ?_
                          refine LWP_block ?_
                          refine LWP_seq ?_
                          refine LWP_regD' fun K hK => ?_
                          apply rgnD_pre 8
                          · repeat (simp -implicitDefEqProofs (maxSteps := 1000000) (disch := first | assumption | omega) [St.e, mx_ite, mn_ite, h1, h2, h3, h4, h6, h8]; try simp only [List.getElem?_cons_zero, Option.getD_some, app_val])
                            rfl
                          apply rgnD_pre 8
                          · repeat (simp -implicitDefEqProofs (maxSteps := 1000000) (disch := first | assumption | omega) [St.e, mx_ite, mn_ite, h1, h2, h3, h4, h6, h8]; try simp only [List.getElem?_cons_zero, Option.getD_some, app_val])
                            rfl
                          apply rgnD_pre 7
                          · repeat (simp -implicitDefEqProofs (maxSteps := 1000000) (disch := first | assumption | omega) [St.e, mx_ite, mn_ite, h1, h2, h3, h4, h6, h8]; try simp only [List.getElem?_cons_zero, Option.getD_some, app_val])
                            rfl
                          refine hK _ _ (by simp [AS.fin, delAll, del, Nat.add_assoc]; rfl) ?_; clear hK
                          refine LWP_cond rfl (fun h9 => ?_) (fun h9 => ?_)
                          · try simp only [decide_eq_true_eq, decide_eq_false_iff_not, Bool.not_eq_true', Bool.not_eq_false', Bool.not_true, Bool.not_false, beq_iff_eq, bne_iff_ne, beq_eq_false_iff_ne, bne_eq_false_iff_eq, Bool.and_eq_true, Bool.or_eq_false_iff, Int.not_lt, Int.not_le, Nat.not_lt, Nat.not_le, ne_eq, Bool.true_eq_false, Bool.false_eq_true, reduceCtorEq] at h9
                            all_goals try (exfalso; omega)
                            all_goals
                              refine LWP_seq ?_
                              refine LWP_seq ?_
                              refine LWP_regD' fun K hK => ?_
                              apply rgnD_pre 8
                              · repeat (simp -implicitDefEqProofs (maxSteps := 1000000) (disch := first | assumption | omega) [St.e, mx_ite, mn_ite, h1, h2, h3, h4, h6, h8, h9]; try simp only [List.getElem?_cons_zero, Option.getD_some, app_val])
                                rfl
                              apply rgnD_pre 5
                              · repeat (simp -implicitDefEqProofs (maxSteps := 1000000) (disch := first | assumption | omega) [St.e, mx_ite, mn_ite, h1, h2, h3, h4, h6, h8, h9]; try simp only [List.getElem?_cons_zero, Option.getD_some, app_val])
                                rfl
                              refine hK _ _ (by simp [AS.fin, delAll, del, Nat.add_assoc]; rfl) ?_; clear hK
                              refine LWP_cond rfl (fun h10 => ?_) (fun h10 => ?_)
                              · try simp only [decide_eq_true_eq, decide_eq_false_iff_not, Bool.not_eq_true', Bool.not_eq_false', Bool.not_true, Bool.not_false, beq_iff_eq, bne_iff_ne, beq_eq_false_iff_ne, bne_eq_false_iff_eq, Bool.and_eq_true, Bool.or_eq_false_iff, Int.not_lt, Int.not_le, Nat.not_lt, Nat.not_le, ne_eq, Bool.true_eq_false, Bool.false_eq_true, reduceCtorEq] at h10
                                all_goals try (exfalso; omega)
                                all_goals
                                  refine LWP_seq ?_
                                  apply LWP_run
                                  · repeat (simp -implicitDefEqProofs (maxSteps := 1000000) (disch := first | assumption | omega) [St.e, mx_ite, mn_ite, h1, h2, h3, h4, h6, h8, h9, h10]; try simp only [List.getElem?_cons_zero, Option.getD_some, app_val])
                                    rfl
                                  -- leaf 1
                                  refine LWP_ret ⟨_, rfl, ?_⟩
                                  refine wkV_of_eq ?_
                                  simp only [retV]
                                  all_goals
                                    simp
                              · try simp only [decide_eq_true_eq, decide_eq_false_iff_not, Bool.not_eq_true', Bool.not_eq_false', Bool.not_true, Bool.not_false, beq_iff_eq, bne_iff_ne, beq_eq_false_iff_ne, bne_eq_false_iff_eq, Bool.and_eq_true, Bool.or_eq_false_iff, Int.not_lt, Int.not_le, Nat.not_lt, Nat.not_le, ne_eq, Bool.true_eq_false, Bool.false_eq_true, reduceCtorEq] at h10
                                all_goals try (exfalso; omega)
                                all_goals
                                  refine LWP_skip ?_
                                  refine LWP_regD' fun K hK => ?_
                                  apply rgnD_pre 2
                                  · repeat (simp -implicitDefEqProofs (maxSteps := 1000000) (disch := first | assumption | omega) [St.e, mx_ite, mn_ite, h1, h2, h3, h4, h6, h8, h9, h10]; try simp only [List.getElem?_cons_zero, Option.getD_some, app_val])
                                    rfl
                                  refine rgnD_guard (x := 82) (b := false) rfl (fun h11 => ?_) (fun h11 => ?_)
                                  · try simp only [decide_eq_true_eq, decide_eq_false_iff_not, Bool.not_eq_true', Bool.not_eq_false', Bool.not_true, Bool.not_false, beq_iff_eq, bne_iff_ne, beq_eq_false_iff_ne, bne_eq_false_iff_eq, Bool.and_eq_true, Bool.or_eq_false_iff, Int.not_lt, Int.not_le, Nat.not_lt, Nat.not_le, ne_eq, Bool.true_eq_false, Bool.false_eq_true, reduceCtorEq] at h11
                                    all_goals try (exfalso; omega)
                                    all_goals
                                      apply rgnD_pre 8
                                      · repeat (simp -implicitDefEqProofs (maxSteps := 1000000) (disch := first | assumption | omega) [St.e, mx_ite, mn_ite, h1, h2, h3, h4, h6, h8, h9, h10, h11]; try simp only [List.getElem?_cons_zero, Option.getD_some, app_val])
                                        rfl
                                      apply rgnD_pre 7
                                      · repeat (simp -implicitDefEqProofs (maxSteps := 1000000) (disch := first | assumption | omega) [St.e, mx_ite, mn_ite, h1, h2, h3, h4, h6, h8, h9, h10, h11]; try simp only [List.getElem?_cons_zero, Option.getD_some, app_val])
                                        rfl
                                      refine hK _ _ (by simp [AS.fin, delAll, del, Nat.add_assoc]; rfl) ?_; clear hK
                                      apply LWP_run
                                      · repeat (simp -implicitDefEqProofs (maxSteps := 1000000) (disch := first | assumption | omega) [St.e, mx_ite, mn_ite, h1, h2, h3, h4, h6, h8, h9, h10, h11]; try simp only [List.getElem?_cons_zero, Option.getD_some, app_val])
                                        rfl
                                      -- loop 1, round 0
                                      refine ⟨(k + 1, ((a[i]'(by omega)).h + (b[k]'(by omega)).h == D)), ?_, ?_, ?_, ?_⟩
                                      · refine ⟨by simp only; omega, ?_⟩
                                        simp only
                                        constructor
                                        · intro q
                                          exact tch_yes (by omega) (by omega) (by unfold ov; omega) (by simpa using q)
                                        · intro q
                                          by_cases hs : (a[i]'(by omega)).h + (b[k]'(by omega)).h = D
                                          · simp [hs]
                                          · rw [tch_no (by omega) (by omega) (fun h => hs h.2)] at q
                                            have := e2.2 q
                                            simp_all
                                      · simp only; omega
                                      · simp (maxSteps := 1000000) (disch := first | assumption | omega) [leV, get_e0, get_e1, wkV.refl, wkV_int, wrap_i64, decT, decF, St.e, mx_ite, mn_ite, h1, h2, h3, h4, h6, h8, h9, h10, h11]
                                      · simp [leH, get_e0, get_e1, h1, h2, h3, h4, h6, h8, h9, h10, h11]
                                  · try simp only [decide_eq_true_eq, decide_eq_false_iff_not, Bool.not_eq_true', Bool.not_eq_false', Bool.not_true, Bool.not_false, beq_iff_eq, bne_iff_ne, beq_eq_false_iff_ne, bne_eq_false_iff_eq, Bool.and_eq_true, Bool.or_eq_false_iff, Int.not_lt, Int.not_le, Nat.not_lt, Nat.not_le, ne_eq, Bool.true_eq_false, Bool.false_eq_true, reduceCtorEq] at h11
                                    all_goals try (exfalso; omega)
                                    all_goals
                                      apply rgnD_pre 8
                                      · repeat (simp -implicitDefEqProofs (maxSteps := 1000000) (disch := first | assumption | omega) [St.e, mx_ite, mn_ite, h1, h2, h3, h4, h6, h8, h9, h10, h11]; try simp only [List.getElem?_cons_zero, Option.getD_some, app_val])
                                        rfl
                                      apply rgnD_pre 6
                                      · repeat (simp -implicitDefEqProofs (maxSteps := 1000000) (disch := first | assumption | omega) [St.e, mx_ite, mn_ite, h1, h2, h3, h4, h6, h8, h9, h10, h11]; try simp only [List.getElem?_cons_zero, Option.getD_some, app_val])
                                        rfl
                                      refine hK _ _ (by simp [AS.fin, delAll, del, Nat.add_assoc]; rfl) ?_; clear hK
                                      apply LWP_run
                                      · repeat (simp -implicitDefEqProofs (maxSteps := 1000000) (disch := first | assumption | omega) [St.e, mx_ite, mn_ite, h1, h2, h3, h4, h6, h8, h9, h10, h11]; try simp only [List.getElem?_cons_zero, Option.getD_some, app_val])
                                        rfl
                                      -- loop 1, round 1
                                      refine ⟨(k + 1, true), ?_, ?_, ?_, ?_⟩
                                      · refine ⟨by simp only; omega, ?_⟩
                                        simp only
                                        constructor
                                        · intro _
                                          exact tch_mono (e2.1 (by assumption))
                                        · intro _
                                          first | rfl | trivial
                                      · simp only; omega
                                      · simp (maxSteps := 1000000) (disch := first | assumption | omega) [leV, get_e0, get_e1, wkV.refl, wkV_int, wrap_i64, decT, decF, St.e, mx_ite, mn_ite, h1, h2, h3, h4, h6, h8, h9, h10, h11]
                                      · simp [leH, get_e0, get_e1, h1, h2, h3, h4, h6, h8, h9, h10, h11]
                          · try simp only [decide_eq_true_eq, decide_eq_false_iff_not, Bool.not_eq_true', Bool.not_eq_false', Bool.not_true, Bool.not_false, beq_iff_eq, bne_iff_ne, beq_eq_false_iff_ne, bne_eq_false_iff_eq, Bool.and_eq_true, Bool.or_eq_false_iff, Int.not_lt, Int.not_le, Nat.not_lt, Nat.not_le, ne_eq, Bool.true_eq_false, Bool.false_eq_true, reduceCtorEq] at h9
                            all_goals try (exfalso; omega)
                            all_goals
                              refine LWP_skip ?_
                              apply LWP_run
                              · repeat (simp -implicitDefEqProofs (maxSteps := 1000000) (disch := first | assumption | omega) [St.e, mx_ite, mn_ite, h1, h2, h3, h4, h6, h8, h9]; try simp only [List.getElem?_cons_zero, Option.getD_some, app_val])
                                rfl
                              -- loop 1, round 2
                              refine ⟨(k + 1, t2), ?_, ?_, ?_, ?_⟩
                              · refine ⟨by simp only; omega, ?_⟩
                                simp only
                                rw [tch_no (by omega) (by omega) (fun h => absurd h.1 (by unfold ov; omega))]
                                exact e2
                              · simp only; omega
                              · simp (maxSteps := 1000000) (disch := first | assumption | omega) [leV, get_e0, get_e1, wkV.refl, wkV_int, wrap_i64, decT, decF, St.e, mx_ite, mn_ite, h1, h2, h3, h4, h6, h8, h9]
                              · simp [leH, get_e0, get_e1, h1, h2, h3, h4, h6, h8, h9]
                      · try simp only [decide_eq_true_eq, decide_eq_false_iff_not, Bool.not_eq_true', Bool.not_eq_false', Bool.not_true, Bool.not_false, beq_iff_eq, bne_iff_ne, beq_eq_false_iff_ne, bne_eq_false_iff_eq, Bool.and_eq_true, Bool.or_eq_false_iff, Int.not_lt, Int.not_le, Nat.not_lt, Nat.not_le, ne_eq, Bool.true_eq_false, Bool.false_eq_true, reduceCtorEq] at h8
                        all_goals try (exfalso; omega)
                        all_goals
                          refine LWP_exit ?_
                          apply LWP_run
                          · repeat (simp -implicitDefEqProofs (maxSteps := 1000000) (disch := first | assumption | omega) [St.e, mx_ite, mn_ite, h1, h2, h3, h4, h6, h8]; try simp only [List.getElem?_cons_zero, Option.getD_some, app_val])
                            rfl
                          -- loop 0, round 0
                          refine ⟨(i + 1, t2), ?_, ?_, ?_, ?_⟩
                          · exact ⟨by simp only; omega, by simp only; rw [← tch_row (k := k) (by omega)]; exact e2⟩
                          · simp only; omega
                          · simp (maxSteps := 1000000) (disch := first | assumption | omega) [leV, get_e0, get_e1, wkV.refl, wkV_int, wrap_i64, decT, decF, St.e, mx_ite, mn_ite, h1, h2, h3, h4, h6, h8]
                          · simp [leH, get_e0, get_e1, h1, h2, h3, h4, h6, h8]
                  · try simp only [decide_eq_true_eq, decide_eq_false_iff_not, Bool.not_eq_true', Bool.not_eq_false', Bool.not_true, Bool.not_false, beq_iff_eq, bne_iff_ne, beq_eq_false_iff_ne, bne_eq_false_iff_eq, Bool.and_eq_true, Bool.or_eq_false_iff, Int.not_lt, Int.not_le, Nat.not_lt, Nat.not_le, ne_eq, Bool.true_eq_false, Bool.false_eq_true, reduceCtorEq] at h6
                    all_goals try (exfalso; omega)
                    all_goals
                      refine LWP_exit ?_
                      refine LWP_seq ?_
                      refine LWP_reg fun K hK => ?_
                      apply rgnS_pre 3
                      · repeat (simp -implicitDefEqProofs (maxSteps := 1000000) (disch := first | assumption | omega) [St.e, mx_ite, mn_ite, h1, h2, h3, h4, h6]; try simp only [List.getElem?_cons_zero, Option.getD_some, app_val])
                        rfl
                      refine rgnS_guard (x := 99) (b := true) rfl (fun h12 => ?_) (fun h12 => ?_)
                      · try simp only [decide_eq_true_eq, decide_eq_false_iff_not, Bool.not_eq_true', Bool.not_eq_false', Bool.not_true, Bool.not_false, beq_iff_eq, bne_iff_ne, beq_eq_false_iff_ne, bne_eq_false_iff_eq, Bool.and_eq_true, Bool.or_eq_false_iff, Int.not_lt, Int.not_le, Nat.not_lt, Nat.not_le, ne_eq, Bool.true_eq_false, Bool.false_eq_true, reduceCtorEq] at h12
                        all_goals try (exfalso; omega)
                        all_goals
                          apply rgnS_pre 3
                          · repeat (simp -implicitDefEqProofs (maxSteps := 1000000) (disch := first | assumption | omega) [St.e, mx_ite, mn_ite, h1, h2, h3, h4, h6, h12]; try simp only [List.getElem?_cons_zero, Option.getD_some, app_val])
                            rfl
                          refine rgnS_guard (x := 102) (b := true) rfl (fun h13 => ?_) (fun h13 => ?_)
                          · try simp only [decide_eq_true_eq, decide_eq_false_iff_not, Bool.not_eq_true', Bool.not_eq_false', Bool.not_true, Bool.not_false, beq_iff_eq, bne_iff_ne, beq_eq_false_iff_ne, bne_eq_false_iff_eq, Bool.and_eq_true, Bool.or_eq_false_iff, Int.not_lt, Int.not_le, Nat.not_lt, Nat.not_le, ne_eq, Bool.true_eq_false, Bool.false_eq_true, reduceCtorEq] at h13
                            all_goals try (exfalso; omega)
                            all_goals
                              refine rgnS_call (hsheads) rfl rfl (by simp [pureL, pureR, AV.pure, St.e, mx_ite, mn_ite]) (by simp [pureL, pureR, AV.pure, St.e, mx_ite, mn_ite]) (by simp [gd, get_e0, get_e1, LArg.ev, h1, h2, h3, h4, h6, h12, h13]) ?_
                              apply rgnS_pre 2
                              · repeat (simp -implicitDefEqProofs (maxSteps := 1000000) (disch := first | assumption | omega) [St.e, mx_ite, mn_ite, h1, h2, h3, h4, h6, h12, h13]; try simp only [List.getElem?_cons_zero, Option.getD_some, app_val])
                                rfl
                              refine hK _ ?_; clear hK
                              -- leaf 2
                              refine LWP_ret ⟨_, rfl, ?_⟩
                              refine wkV_of_eq ?_
                              simp only [retV]
                              all_goals
                                simp
                          · try simp only [decide_eq_true_eq, decide_eq_false_iff_not, Bool.not_eq_true', Bool.not_eq_false', Bool.not_true, Bool.not_false, beq_iff_eq, bne_iff_ne, beq_eq_false_iff_ne, bne_eq_false_iff_eq, Bool.and_eq_true, Bool.or_eq_false_iff, Int.not_lt, Int.not_le, Nat.not_lt, Nat.not_le, ne_eq, Bool.true_eq_false, Bool.false_eq_true, reduceCtorEq] at h13
                            all_goals try (exfalso; omega)
                            all_goals
                              apply rgnS_pre 2
                              · repeat (simp -implicitDefEqProofs (maxSteps := 1000000) (disch := first | assumption | omega) [St.e, mx_ite, mn_ite, h1, h2, h3, h4, h6, h12, h13]; try simp only [List.getElem?_cons_zero, Option.getD_some, app_val])
                                rfl
                              refine hK _ ?_; clear hK
                              -- leaf 3
                              refine LWP_ret ⟨_, rfl, ?_⟩
                              refine wkV_of_eq ?_
                              simp only [retV]
                              all_goals
                                simp
                      · try simp only [decide_eq_true_eq, decide_eq_false_iff_not, Bool.not_eq_true', Bool.not_eq_false', Bool.not_true, Bool.not_false, beq_iff_eq, bne_iff_ne, beq_eq_false_iff_ne, bne_eq_false_iff_eq, Bool.and_eq_true, Bool.or_eq_false_iff, Int.not_lt, Int.not_le, Nat.not_lt, Nat.not_le, ne_eq, Bool.true_eq_false, Bool.false_eq_true, reduceCtorEq] at h12
                        all_goals try (exfalso; omega)
                        all_goals
                          apply rgnS_pre 5
                          · repeat (simp -implicitDefEqProofs (maxSteps := 1000000) (disch := first | assumption | omega) [St.e, mx_ite, mn_ite, h1, h2, h3, h4, h6, h12]; try simp only [List.getElem?_cons_zero, Option.getD_some, app_val])
                            rfl
                          refine hK _ ?_; clear hK
                          -- leaf 4
                          refine LWP_ret ⟨_, rfl, ?_⟩
                          refine wkV_of_eq ?_
                          simp only [retV]
                          all_goals
                            simp
          · try simp only [decide_eq_true_eq, decide_eq_false_iff_not, Bool.not_eq_true', Bool.not_eq_false', Bool.not_true, Bool.not_false, beq_iff_eq, bne_iff_ne, beq_eq_false_iff_ne, bne_eq_false_iff_eq, Bool.and_eq_true, Bool.or_eq_false_iff, Int.not_lt, Int.not_le, Nat.not_lt, Nat.not_le, ne_eq, Bool.true_eq_false, Bool.false_eq_true, reduceCtorEq] at h3
            all_goals try (exfalso; omega)
            all_goals
              apply rgnS_pre 3
              · repeat (simp -implicitDefEqProofs (maxSteps := 1000000) (disch := first | assumption | omega) [St.e, mx_ite, mn_ite, h1, h2, h3]; try simp only [List.getElem?_cons_zero, Option.getD_some, app_val])
                rfl
              refine hK _ ?_; clear hK
              refine LWP_cond (t := true) (by simp [LArg.ev, get_e0, get_e1, h1, h2, h3]) (fun _ => ?_) (fun h => by cases h)
              refine LWP_seq ?_
              refine LWP_reg fun K hK => ?_
              refine rgnS_call (hsheads) rfl rfl (by simp [pureL, pureR, AV.pure, St.e, mx_ite, mn_ite]) (by simp [pureL, pureR, AV.pure, St.e, mx_ite, mn_ite]) (by simp [gd, get_e0, get_e1, LArg.ev, h1, h2, h3]) ?_
              apply rgnS_pre 1
              · repeat (simp -implicitDefEqProofs (maxSteps := 1000000) (disch := first | assumption | omega) [St.e, mx_ite, mn_ite, h1, h2, h3]; try simp only [List.getElem?_cons_zero, Option.getD_some, app_val])
                rfl
              refine hK _ ?_; clear hK
              -- leaf 5
              refine LWP_ret ⟨_, rfl, ?_⟩
              refine wkV_of_eq ?_
              simp only [retV]
              all_goals
                simp
      · try simp only [decide_eq_true_eq, decide_eq_false_iff_not, Bool.not_eq_true', Bool.not_eq_false', Bool.not_true, Bool.not_false, beq_iff_eq, bne_iff_ne, beq_eq_false_iff_ne, bne_eq_false_iff_eq, Bool.and_eq_true, Bool.or_eq_false_iff, Int.not_lt, Int.not_le, Nat.not_lt, Nat.not_le, ne_eq, Bool.true_eq_false, Bool.false_eq_true, reduceCtorEq] at h2
        all_goals try (exfalso; omega)
        all_goals
          apply rgnS_pre 8
          · repeat (simp -implicitDefEqProofs (maxSteps := 1000000) (disch := first | assumption | omega) [St.e, mx_ite, mn_ite, h1, h2]; try simp only [List.getElem?_cons_zero, Option.getD_some, app_val])
            rfl
          refine hK _ ?_; clear hK
          refine LWP_cond (t := true) (by simp [LArg.ev, get_e0, get_e1, h1, h2]) (fun _ => ?_) (fun h => by cases h)
          refine LWP_seq ?_
          refine LWP_reg fun K hK => ?_
          refine rgnS_call (hsheads) rfl rfl (by simp [pureL, pureR, AV.pure, St.e, mx_ite, mn_ite]) (by simp [pureL, pureR, AV.pure, St.e, mx_ite, mn_ite]) (by simp [gd, get_e0, get_e1, LArg.ev, h1, h2]) ?_
          apply rgnS_pre 1
          · repeat (simp -implicitDefEqProofs (maxSteps := 1000000) (disch := first | assumption | omega) [St.e, mx_ite, mn_ite, h1, h2]; try simp only [List.getElem?_cons_zero, Option.getD_some, app_val])
            rfl
          refine hK _ ?_; clear hK
          -- leaf 6
          refine LWP_ret ⟨_, rfl, ?_⟩
          refine wkV_of_eq ?_
          simp only [retV]
          all_goals
            simp
  · try simp only [decide_eq_true_eq, decide_eq_false_iff_not, Bool.not_eq_true', Bool.not_eq_false', Bool.not_true, Bool.not_false, beq_iff_eq, bne_iff_ne, beq_eq_false_iff_ne, bne_eq_false_iff_eq, Bool.and_eq_true, Bool.or_eq_false_iff, Int.not_lt, Int.not_le, Nat.not_lt, Nat.not_le, ne_eq, Bool.true_eq_false, Bool.false_eq_true, reduceCtorEq] at h1
    all_goals try (exfalso; omega)
    all_goals
      apply rgnS_pre 8
      · repeat (simp -implicitDefEqProofs (maxSteps := 1000000) (disch := first | assumption | omega) [St.e, mx_ite, mn_ite, h1]; try simp only [List.getElem?_cons_zero, Option.getD_some, app_val])
        rfl
      apply rgnS_pre 5
      · repeat (simp -implicitDefEqProofs (maxSteps := 1000000) (disch := first | assumption | omega) [St.e, mx_ite, mn_ite, h1]; try simp only [List.getElem?_cons_zero, Option.getD_some, app_val])
        rfl
      refine hK _ ?_; clear hK
      refine LWP_cond (t := true) (by simp [LArg.ev, get_e0, get_e1, h1]) (fun _ => ?_) (fun h => by cases h)
      refine LWP_seq ?_
      refine LWP_reg fun K hK => ?_
      refine rgnS_call (hsheads) rfl rfl (by simp [pureL, pureR, AV.pure, St.e, mx_ite, mn_ite]) (by simp [pureL, pureR, AV.pure, St.e, mx_ite, mn_ite]) (by simp [gd, get_e0, get_e1, LArg.ev, h1]) ?_
      apply rgnS_pre 1
      · repeat (simp -implicitDefEqProofs (maxSteps := 1000000) (disch := first | assumption | omega) [St.e, mx_ite, mn_ite, h1]; try simp only [List.getElem?_cons_zero, Option.getD_some, app_val])
        rfl
      refine hK _ ?_; clear hK
      -- leaf 7
      refine LWP_ret ⟨_, rfl, ?_⟩
      refine wkV_of_eq ?_
      simp only [retV]
      all_goals
        simp
end

section
attribute [local simp ↓] List.map_nil List.map_cons
attribute [local simp] m_ o_ g_ stepsS stepS gd opEff appEff LArg.ev app_val app_new app_upd app_kill putV ins_e0 ins_e1 get_e0 get_e1 binV binI grd bnd ldCells AV.cells AV.scalar AV.known setAt fillL chunks elems mxI mnI del Nat.add_assoc nlt_self nne_self nne_self' List.take_of_length_le decT decF wrap_i64 stepsD stepD ST.as dEffF LOp.cls softOK LOp.args LOp.rds AV.ids appD_val appD_new appD_upd appD_kill AS.flush delAll
set_option maxHeartbeats 2000000 in
theorem apart_cb (a b : List St) (D : Int) (la : a.length ≤ 60) (lb : b.length ≤ 60) (ca : chkB a = true) (cb : chkB b = false) : ACalls Go.Proofs.Try.prog 7 [.tsl 3 (a.map St.e), .tsl 3 (b.map St.e)] [] 0 (fun r _ _ => r = .bool true) := by
  refine pure_body ok7 rfl ?_
  simp only [parV]
  have CA := check_ok a (by omega)
  rw [ca] at CA
  have CB := check_ok b (by omega)
  rw [cb] at CB
  refine LWP_seq ?_
  apply LWP_run
  · repeat (simp -implicitDefEqProofs (maxSteps := 1000000) (disch := first | assumption | omega) [St.e, mx_ite, mn_ite]; try simp only [List.getElem?_cons_zero, Option.getD_some, app_val])
    rfl
  refine LWP_seq ?_
  refine LWP_seq ?_
  refine LWP_reg fun K hK => ?_
  apply rgnS_pre 4
  · repeat (simp -implicitDefEqProofs (maxSteps := 1000000) (disch := first | assumption | omega) [St.e, mx_ite, mn_ite]; try simp only [List.getElem?_cons_zero, Option.getD_some, app_val])
    rfl
  refine rgnS_guard (x := 12) (b := false) rfl (fun h1 => ?_) (fun h1 => ?_)
  · try simp only [decide_eq_true_eq, decide_eq_false_iff_not, Bool.not_eq_true', Bool.not_eq_false', Bool.not_true, Bool.not_false, beq_iff_eq, bne_iff_ne, beq_eq_false_iff_ne, bne_eq_false_iff_eq, Bool.and_eq_true, Bool.or_eq_false_iff, Int.not_lt, Int.not_le, Nat.not_lt, Nat.not_le, ne_eq, Bool.true_eq_false, Bool.false_eq_true, reduceCtorEq] at h1
    all_goals try (exfalso; omega)
    all_goals
      apply rgnS_pre 5
      · repeat (simp -implicitDefEqProofs (maxSteps := 1000000) (disch := first | assumption | omega) [St.e, mx_ite, mn_ite, h1]; try simp only [List.getElem?_cons_zero, Option.getD_some, app_val])
        rfl
      refine rgnS_guard (x := 17) (b := false) rfl (fun h2 => ?_) (fun h2 => ?_)
      · try simp only [decide_eq_true_eq, decide_eq_false_iff_not, Bool.not_eq_true', Bool.not_eq_false', Bool.not_true, Bool.not_false, beq_iff_eq, bne_iff_ne, beq_eq_false_iff_ne, bne_eq_false_iff_eq, Bool.and_eq_true, Bool.or_eq_false_iff, Int.not_lt, Int.not_le, Nat.not_lt, Nat.not_le, ne_eq, Bool.true_eq_false, Bool.false_eq_true, reduceCtorEq] at h2
        all_goals try (exfalso; omega)
        all_goals
          apply rgnS_pre 1
          · repeat (simp -implicitDefEqProofs (maxSteps := 1000000) (disch := first | assumption | omega) [St.e, mx_ite, mn_ite, h1, h2]; try simp only [List.getElem?_cons_zero, Option.getD_some, app_val])
            rfl
          refine rgnS_call (CA) rfl rfl (by simp [pureL, pureR, AV.pure, St.e, mx_ite, mn_ite, pureR_st]) (by simp [pureL, pureR, AV.pure, St.e, mx_ite, mn_ite, pureR_st]) (by simp [gd, get_e0, get_e1, LArg.ev, h1, h2]) ?_
          apply rgnS_pre 3
          · repeat (simp -implicitDefEqProofs (maxSteps := 1000000) (disch := first | assumption | omega) [St.e, mx_ite, mn_ite, h1, h2]; try simp only [List.getElem?_cons_zero, Option.getD_some, app_val])
            rfl
          refine rgnS_guard (x := 22) (b := false) rfl (fun h3 => ?_) (fun h3 => ?_)
          · try simp only [decide_eq_true_eq, decide_eq_false_iff_not, Bool.not_eq_true', Bool.not_eq_false', Bool.not_true, Bool.not_false, beq_iff_eq, bne_iff_ne, beq_eq_false_iff_ne, bne_eq_false_iff_eq, Bool.and_eq_true, Bool.or_eq_false_iff, Int.not_lt, Int.not_le, Nat.not_lt, Nat.not_le, ne_eq, Bool.true_eq_false, Bool.false_eq_true, reduceCtorEq] at h3
            all_goals try (exfalso; omega)
            all_goals
              apply rgnS_pre 1
              · repeat (simp -implicitDefEqProofs (maxSteps := 1000000) (disch := first | assumption | omega) [St.e, mx_ite, mn_ite, h1, h2, h3]; try simp only [List.getElem?_cons_zero, Option.getD_some, app_val])
                rfl
              refine rgnS_call (CB) rfl rfl (by simp [pureL, pureR, AV.pure, St.e, mx_ite, mn_ite, pureR_st]) (by simp [pureL, pureR, AV.pure, St.e, mx_ite, mn_ite, pureR_st]) (by simp [gd, get_e0, get_e1, LArg.ev, h1, h2, h3]) ?_
              apply rgnS_pre 2
              · repeat (simp -implicitDefEqProofs (maxSteps := 1000000) (disch := first | assumption | omega) [St.e, mx_ite, mn_ite, h1, h2, h3]; try simp only [List.getElem?_cons_zero, Option.getD_some, app_val])
                rfl
              refine hK _ ?_; clear hK
              refine LWP_cond rfl (fun h4 => ?_) (fun h4 => ?_)
              · try simp only [decide_eq_true_eq, decide_eq_false_iff_not, Bool.not_eq_true', Bool.not_eq_false', Bool.not_true, Bool.not_false, beq_iff_eq, bne_iff_ne, beq_eq_false_iff_ne, bne_eq_false_iff_eq, Bool.and_eq_true, Bool.or_eq_false_iff, Int.not_lt, Int.not_le, Nat.not_lt, Nat.not_le, ne_eq, Bool.true_eq_false, Bool.false_eq_true, reduceCtorEq] at h4
                all_goals try (exfalso; omega)
                all_goals
                  refine LWP_seq ?_
                  refine LWP_reg fun K hK => ?_
                  refine rgnS_call (hsheads) rfl rfl (by simp [pureL, pureR, AV.pure, St.e, mx_ite, mn_ite]) (by simp [pureL, pureR, AV.pure, St.e, mx_ite, mn_ite]) (by simp [gd, get_e0, get_e1, LArg.ev, h1, h2, h3, h4]) ?_
                  apply rgnS_pre 1
                  · repeat (simp -implicitDefEqProofs (maxSteps := 1000000) (disch := first | assumption | omega) [St.e, mx_ite, mn_ite, h1, h2, h3, h4]; try simp only [List.getElem?_cons_zero, Option.getD_some, app_val])
                    rfl
                  refine hK _ ?_; clear hK
                  -- leaf 0
                  refine LWP_ret ⟨_, rfl, ?_⟩
                  refine wkV_of_eq ?_
                  simp only [retV]
                  all_goals
                    simp
              · try simp only [decide_eq_true_eq, decide_eq_false_iff_not, Bool.not_eq_true', Bool.not_eq_false', Bool.not_true, Bool.not_false, beq_iff_eq, bne_iff_ne, beq_eq_false_iff_ne, bne_eq_false_iff_eq, Bool.and_eq_true, Bool.or_eq_false_iff, Int.not_lt, Int.not_le, Nat.not_lt, Nat.not_le, ne_eq, Bool.true_eq_false, Bool.false_eq_true, reduceCtorEq] at h4
                all_goals try (exfalso; omega)
                all_goals
                  refine LWP_skip ?_
                  refine LWP_seq ?_
                  refine LWP_reg fun K hK => ?_
                  apply rgnS_pre 2
                  · repeat (simp -implicitDefEqProofs (maxSteps := 1000000) (disch := first | assumption | omega) [St.e, mx_ite, mn_ite, h1, h2, h3, h4]; try simp only [List.getElem?_cons_zero, Option.getD_some, app_val])
                    rfl
                  refine rgnS_call (hD) rfl rfl (by simp [pureL, pureR, AV.pure, St.e, mx_ite, mn_ite, pureR_st]) (by simp [pureL, pureR, AV.pure, St.e, mx_ite, mn_ite, pureR_st]) (by simp [gd, get_e0, get_e1, LArg.ev, h1, h2, h3, h4]) ?_
                  apply rgnS_pre 1
                  · repeat (simp -implicitDefEqProofs (maxSteps := 1000000) (disch := first | assumption | omega) [St.e, mx_ite, mn_ite, h1, h2, h3, h4]; try simp only [List.getElem?_cons_zero, Option.getD_some, app_val])
                    rfl
                  refine hK _ ?_; clear hK
                  refine LWP_seq ?_
                  apply LWP_run
                  · repeat (simp -implicitDefEqProofs (maxSteps := 1000000) (disch := first | assumption | omega) [St.e, mx_ite, mn_ite, h1, h2, h3, h4]; try simp only [List.getElem?_cons_zero, Option.getD_some, app_val])
                    rfl
                  refine LWP_seq ?_
                  refine LWP_seq ?_
                  apply LWP_run
                  · repeat (simp -implicitDefEqProofs (maxSteps := 1000000) (disch := first | assumption | omega) [St.e, mx_ite, mn_ite, h1, h2, h3, h4]; try simp only [List.getElem?_cons_zero, Option.getD_some, app_val])
                    rfl
                  refine LWP_block ?_
                  refine LWP_for (fun (p : Nat × Bool) => [(0, .tsl 3 (a.map St.e)), (1, .tsl 3 (b.map St.e)), (5, .int .i64 D), (6, .bool p.2), (7, .int .i64 (p.1 : Nat))]) (fun (p : Nat × Bool) => []) (fun (p : Nat × Bool) n => p.1 ≤ a.length ∧ (p.2 = true ↔ tch a b D p.1 0)) (fun (p : Nat × Bool) => a.length - p.1) (0, D == 0) ?_ ?_ ?_ ?_
                  · simp (maxSteps := 1000000) (disch := first | assumption | omega) [leV, get_e0, get_e1, wkV.refl, wkV_int, decT, decF, St.e, mx_ite, mn_ite, h1, h2, h3, h4]
                  · simp [leH, get_e0, get_e1, h1, h2, h3, h4]
                  · exact ⟨Nat.zero_le _, by rw [tch_0]; simp⟩
                  rintro ⟨i, t⟩ n ⟨c1, c2⟩
                  simp only at c1 c2
                  refine LWP_seq ?_
                  refine LWP_seq ?_
                  apply LWP_run
                  · repeat (simp -implicitDefEqProofs (maxSteps := 1000000) (disch := first | assumption | omega) [St.e, mx_ite, mn_ite, h1, h2, h3, h4]; try simp only [List.getElem?_cons_zero, Option.getD_some, app_val])
                    rfl
                  refine LWP_cond rfl (fun h6 => ?_) (fun h6 => ?_)
                  · try simp only [decide_eq_true_eq, decide_eq_false_iff_not, Bool.not_eq_true', Bool.not_eq_false', Bool.not_true, Bool.not_false, beq_iff_eq, bne_iff_ne, beq_eq_false_iff_ne, bne_eq_false_iff_eq, Bool.and_eq_true, Bool.or_eq_false_iff, Int.not_lt, Int.not_le, Nat.not_lt, Nat.not_le, ne_eq, Bool.true_eq_false, Bool.false_eq_true, reduceCtorEq] at h6
                    all_goals try (exfalso; omega)
                    all_goals
                      refine LWP_skip ?_
                      refine LWP_seq ?_
                      refine LWP_block ?_
                      refine LWP_seq ?_
                      apply LWP_run
                      · repeat (simp -implicitDefEqProofs (maxSteps := 1000000) (disch := first | assumption | omega) [St.e, mx_ite, mn_ite, h1, h2, h3, h4, h6]; try simp only [List.getElem?_cons_zero, Option.getD_some, app_val])
                        rfl
                      refine LWP_block ?_
                      refine LWP_for (fun (q : Nat × Bool) => [(0, .tsl 3 (a.map St.e)), (1, .tsl 3 (b.map St.e)), (5, .int .i64 D), (6, .bool q.2), (7, .int .i64 (i : Nat)), (8, .int .i64 (q.1 : Nat))]) (fun (q : Nat × Bool) => []) (fun (q : Nat × Bool) n2 => q.1 ≤ b.length ∧ (q.2 = true ↔ tch a b D i q.1)) (fun (q : Nat × Bool) => b.length - q.1) (0, t) ?_ ?_ ?_ ?_
                      · simp (maxSteps := 1000000) (disch := first | assumption | omega) [leV, get_e0, get_e1, wkV.refl, wkV_int, decT, decF, St.e, mx_ite, mn_ite, h1, h2, h3, h4, h6]
                      · simp [leH, get_e0, get_e1, h1, h2, h3, h4, h6]
                      · exact ⟨Nat.zero_le _, c2⟩
                      rintro ⟨k, t2⟩ n2 ⟨e1, e2⟩
                      simp only at e1 e2
                      refine LWP_seq ?_
                      refine LWP_seq ?_
                      apply LWP_run
                      · repeat (simp -implicitDefEqProofs (maxSteps := 1000000) (disch := first | assumption | omega) [St.e, mx_ite, mn_ite, h1, h2, h3, h4, h6]; try simp only [List.getElem?_cons_zero, Option.getD_some, app_val])
                        rfl
                      refine LWP_cond rfl (fun h8 => ?_) (fun h8 => ?_)
                      · try simp only [decide_eq_true_eq, decide_eq_false_iff_not, Bool.not_eq_true', Bool.not_eq_false', Bool.not_true, Bool.not_false, beq_iff_eq, bne_iff_ne, beq_eq_false_iff_ne, bne_eq_false_iff_eq, Bool.and_eq_true, Bool.or_eq_false_iff, Int.not_lt, Int.not_le, Nat.not_lt, Nat.not_le, ne_eq, Bool.true_eq_false, Bool.false_eq_true, reduceCtorEq] at h8
                        all_goals try (exfalso; omega)
                        all_goals
                          refine LWP_skip ?_
                          refine LWP_seq ?_
                          refine LWP_block ?_
                          refine LWP_seq ?_
                          refine LWP_regD' fun K hK => ?_
                          apply rgnD_pre 8
                          · repeat (simp -implicitDefEqProofs (maxSteps := 1000000) (disch := first | assumption | omega) [St.e, mx_ite, mn_ite, h1, h2, h3, h4, h6, h8]; try simp only [List.getElem?_cons_zero, Option.getD_some, app_val])
                            rfl
                          apply rgnD_pre 8
                          · repeat (simp -implicitDefEqProofs (maxSteps := 1000000) (disch := first | assumption | omega) [St.e, mx_ite, mn_ite, h1, h2, h3, h4, h6, h8]; try simp only [List.getElem?_cons_zero, Option.getD_some, app_val])
                            rfl
                          apply rgnD_pre 7
                          · repeat (simp -implicitDefEqProofs (maxSteps := 1000000) (disch := first | assumption | omega) [St.e, mx_ite, mn_ite, h1, h2, h3, h4, h6, h8]; try simp only [List.getElem?_cons_zero, Option.getD_some, app_val])
                            rfl
                          refine hK _ _ (by simp [AS.fin, delAll, del, Nat.add_assoc]; rfl) ?_; clear hK
                          refine LWP_cond rfl (fun h9 => ?_) (fun h9 => ?_)
                          · try simp only [decide_eq_true_eq, decide_eq_false_iff_not, Bool.not_eq_true', Bool.not_eq_false', Bool.not_true, Bool.not_false, beq_iff_eq, bne_iff_ne, beq_eq_false_iff_ne, bne_eq_false_iff_eq, Bool.and_eq_true, Bool.or_eq_false_iff, Int.not_lt, Int.not_le, Nat.not_lt, Nat.not_le, ne_eq, Bool.true_eq_false, Bool.false_eq_true, reduceCtorEq] at h9
                            all_goals try (exfalso; omega)
                            all_goals
                              refine LWP_seq ?_
                              refine LWP_seq ?_
                              refine LWP_regD' fun K hK => ?_
                              apply rgnD_pre 8
                              · repeat (simp -implicitDefEqProofs (maxSteps := 1000000) (disch := first | assumption | omega) [St.e, mx_ite, mn_ite, h1, h2, h3, h4, h6, h8, h9]; try simp only [List.getElem?_cons_zero, Option.getD_some, app_val])
                                rfl
                              apply rgnD_pre 5
                              · repeat (simp -implicitDefEqProofs (maxSteps := 1000000) (disch := first | assumption | omega) [St.e, mx_ite, mn_ite, h1, h2, h3, h4, h6, h8, h9]; try simp only [List.getElem?_cons_zero, Option.getD_some, app_val])
                                rfl
                              refine hK _ _ (by simp [AS.fin, delAll, del, Nat.add_assoc]; rfl) ?_; clear hK
                              refine LWP_cond rfl (fun h10 => ?_) (fun h10 => ?_)
                              · try simp only [decide_eq_true_eq, decide_eq_false_iff_not, Bool.not_eq_true', Bool.not_eq_false', Bool.not_true, Bool.not_false, beq_iff_eq, bne_iff_ne, beq_eq_false_iff_ne, bne_eq_false_iff_eq, Bool.and_eq_true, Bool.or_eq_false_iff, Int.not_lt, Int.not_le, Nat.not_lt, Nat.not_le, ne_eq, Bool.true_eq_false, Bool.false_eq_true, reduceCtorEq] at h10
                                all_goals try (exfalso; omega)
                                all_goals
                                  refine LWP_seq ?_
                                  apply LWP_run
                                  · repeat (simp -implicitDefEqProofs (maxSteps := 1000000) (disch := first | assumption | omega) [St.e, mx_ite, mn_ite, h1, h2, h3, h4, h6, h8, h9, h10]; try simp only [List.getElem?_cons_zero, Option.getD_some, app_val])
                                    rfl
                                  -- leaf 1
                                  refine LWP_ret ⟨_, rfl, ?_⟩
                                  refine wkV_of_eq ?_
                                  simp only [retV]
                                  all_goals
                                    simp
                              · try simp only [decide_eq_true_eq, decide_eq_false_iff_not, Bool.not_eq_true', Bool.not_eq_false', Bool.not_true, Bool.not_false, beq_iff_eq, bne_iff_ne, beq_eq_false_iff_ne, bne_eq_false_iff_eq, Bool.and_eq_true, Bool.or_eq_false_iff, Int.not_lt, Int.not_le, Nat.not_lt, Nat.not_le, ne_eq, Bool.true_eq_false, Bool.false_eq_true, reduceCtorEq] at h10
                                all_goals try (exfalso; omega)
                                all_goals
                                  refine LWP_skip ?_
                                  refine LWP_regD' fun K hK => ?_
                                  apply rgnD_pre 2
                                  · repeat (simp -implicitDefEqProofs (maxSteps := 1000000) (disch := first | assumption | omega) [St.e, mx_ite, mn_ite, h1, h2, h3, h4, h6, h8, h9, h10]; try simp only [List.getElem?_cons_zero, Option.getD_some, app_val])
                                    rfl
                                  refine rgnD_guard (x := 82) (b := false) rfl (fun h11 => ?_) (fun h11 => ?_)
                                  · try simp only [decide_eq_true_eq, decide_eq_false_iff_not, Bool.not_eq_true', Bool.not_eq_false', Bool.not_true, Bool.not_false, beq_iff_eq, bne_iff_ne, beq_eq_false_iff_ne, bne_eq_false_iff_eq, Bool.and_eq_true, Bool.or_eq_false_iff, Int.not_lt, Int.not_le, Nat.not_lt, Nat.not_le, ne_eq, Bool.true_eq_false, Bool.false_eq_true, reduceCtorEq] at h11
                                    all_goals try (exfalso; omega)
                                    all_goals
                                      apply rgnD_pre 8
                                      · repeat (simp -implicitDefEqProofs (maxSteps := 1000000) (disch := first | assumption | omega) [St.e, mx_ite, mn_ite, h1, h2, h3, h4, h6, h8, h9, h10, h11]; try simp only [List.getElem?_cons_zero, Option.getD_some, app_val])
                                        rfl
                                      apply rgnD_pre 7
                                      · repeat (simp -implicitDefEqProofs (maxSteps := 1000000) (disch := first | assumption | omega) [St.e, mx_ite, mn_ite, h1, h2, h3, h4, h6, h8, h9, h10, h11]; try simp only [List.getElem?_cons_zero, Option.getD_some, app_val])
                                        rfl
                                      refine hK _ _ (by simp [AS.fin, delAll, del, Nat.add_assoc]; rfl) ?_; clear hK
                                      apply LWP_run
                                      · repeat (simp -implicitDefEqProofs (maxSteps := 1000000) (disch := first | assumption | omega) [St.e, mx_ite, mn_ite, h1, h2, h3, h4, h6, h8, h9, h10, h11]; try simp only [List.getElem?_cons_zero, Option.getD_some, app_val])
                                        rfl
                                      -- loop 1, round 0
                                      refine ⟨(k + 1, ((a[i]'(by omega)).h + (b[k]'(by omega)).h == D)), ?_, ?_, ?_, ?_⟩
                                      · refine ⟨by simp only; omega, ?_⟩
                                        simp only
                                        constructor
                                        · intro q
                                          exact tch_yes (by omega) (by omega) (by unfold ov; omega) (by simpa using q)
                                        · intro q
                                          by_cases hs : (a[i]'(by omega)).h + (b[k]'(by omega)).h = D
                                          · simp [hs]
                                          · rw [tch_no (by omega) (by omega) (fun h => hs h.2)] at q
                                            have := e2.2 q
                                            simp_all
                                      · simp only; omega
                                      · simp (maxSteps := 1000000) (disch := first | assumption | omega) [leV, get_e0, get_e1, wkV.refl, wkV_int, wrap_i64, decT, decF, St.e, mx_ite, mn_ite, h1, h2, h3, h4, h6, h8, h9, h10, h11]
                                      · simp [leH, get_e0, get_e1, h1, h2, h3, h4, h6, h8, h9, h10, h11]
                                  · try simp only [decide_eq_true_eq, decide_eq_false_iff_not, Bool.not_eq_true', Bool.not_eq_false', Bool.not_true, Bool.not_false, beq_iff_eq, bne_iff_ne, beq_eq_false_iff_ne, bne_eq_false_iff_eq, Bool.and_eq_true, Bool.or_eq_false_iff, Int.not_lt, Int.not_le, Nat.not_lt, Nat.not_le, ne_eq, Bool.true_eq_false, Bool.false_eq_true, reduceCtorEq] at h11
                                    all_goals try (exfalso; omega)
                                    all_goals
                                      apply rgnD_pre 8
                                      · repeat (simp -implicitDefEqProofs (maxSteps := 1000000) (disch := first | assumption | omega) [St.e, mx_ite, mn_ite, h1, h2, h3, h4, h6, h8, h9, h10, h11]; try simp only [List.getElem?_cons_zero, Option.getD_some, app_val])
                                        rfl
                                      apply rgnD_pre 6
                                      · repeat (simp -implicitDefEqProofs (maxSteps := 1000000) (disch := first | assumption | omega) [St.e, mx_ite, mn_ite, h1, h2, h3, h4, h6, h8, h9, h10, h11]; try simp only [List.getElem?_cons_zero, Option.getD_some, app_val])
                                        rfl
                                      refine hK _ _ (by simp [AS.fin, delAll, del, Nat.add_assoc]; rfl) ?_; clear hK
                                      apply LWP_run
                                      · repeat (simp -implicitDefEqProofs (maxSteps := 1000000) (disch := first | assumption | omega) [St.e, mx_ite, mn_ite, h1, h2, h3, h4, h6, h8, h9, h10, h11]; try simp only [List.getElem?_cons_zero, Option.getD_some, app_val])
                                        rfl
                                      -- loop 1, round 1
                                      refine ⟨(k + 1, true), ?_, ?_, ?_, ?_⟩
                                      · refine ⟨by simp only; omega, ?_⟩
                                        simp only
                                        constructor
                                        · intro _
                                          exact tch_mono (e2.1 (by assumption))
                                        · intro _
                                          first | rfl | trivial
                                      · simp only; omega
                                      · simp (maxSteps := 1000000) (disch := first | assumption | omega) [leV, get_e0, get_e1, wkV.refl, wkV_int, wrap_i64, decT, decF, St.e, mx_ite, mn_ite, h1, h2, h3, h4, h6, h8, h9, h10, h11]
                                      · simp [leH, get_e0, get_e1, h1, h2, h3, h4, h6, h8, h9, h10, h11]
                          · try simp only [decide_eq_true_eq, decide_eq_false_iff_not, Bool.not_eq_true', Bool.not_eq_false', Bool.not_true, Bool.not_false, beq_iff_eq, bne_iff_ne, beq_eq_false_iff_ne, bne_eq_false_iff_eq, Bool.and_eq_true, Bool.or_eq_false_iff, Int.not_lt, Int.not_le, Nat.not_lt, Nat.not_le, ne_eq, Bool.true_eq_false, Bool.false_eq_true, reduceCtorEq] at h9
                            all_goals try (exfalso; omega)
                            all_goals
                              refine LWP_skip ?_
                              apply LWP_run
                              · repeat (simp -implicitDefEqProofs (maxSteps := 1000000) (disch := first | assumption | omega) [St.e, mx_ite, mn_ite, h1, h2, h3, h4, h6, h8, h9]; try simp only [List.getElem?_cons_zero, Option.getD_some, app_val])
                                rfl
                              -- loop 1, round 2
                              refine ⟨(k + 1, t2), ?_, ?_, ?_, ?_⟩
                              · refine ⟨by simp only; omega, ?_⟩
                                simp only
                                rw [tch_no (by omega) (by omega) (fun h => absurd h.1 (by unfold ov; omega))]
                                exact e2
                              · simp only; omega
                              · simp (maxSteps := 1000000) (disch := first | assumption | omega) [leV, get_e0, get_e1, wkV.refl, wkV_int, wrap_i64, decT, decF, St.e, mx_ite, mn_ite, h1, h2, h3, h4, h6, h8, h9]
                              · simp [leH, get_e0, get_e1, h1, h2, h3, h4, h6, h8, h9]
                      · try simp only [decide_eq_true_eq, decide_eq_false_iff_not, Bool.not_eq_true', Bool.not_eq_false', Bool.not_true, Bool.not_false, beq_iff_eq, bne_iff_ne, beq_eq_false_iff_ne, bne_eq_false_iff_eq, Bool.and_eq_true, Bool.or_eq_false_iff, Int.not_lt, Int.not_le, Nat.not_lt, Nat.not_le, ne_eq, Bool.true_eq_false, Bool.false_eq_true, reduceCtorEq] at h8
                        all_goals try (exfalso; omega)
                        all_goals
                          refine LWP_exit ?_
                          apply LWP_run
                          · repeat (simp -implicitDefEqProofs (maxSteps := 1000000) (disch := first | assumption | omega) [St.e, mx_ite, mn_ite, h1, h2, h3, h4, h6, h8]; try simp only [List.getElem?_cons_zero, Option.getD_some, app_val])
                            rfl
                          -- loop 0, round 0
                          refine ⟨(i + 1, t2), ?_, ?_, ?_, ?_⟩
                          · exact ⟨by simp only; omega, by simp only; rw [← tch_row (k := k) (by omega)]; exact e2⟩
                          · simp only; omega
                          · simp (maxSteps := 1000000) (disch := first | assumption | omega) [leV, get_e0, get_e1, wkV.refl, wkV_int, wrap_i64, decT, decF, St.e, mx_ite, mn_ite, h1, h2, h3, h4, h6, h8]
                          · simp [leH, get_e0, get_e1, h1, h2, h3, h4, h6, h8]
                  · try simp only [decide_eq_true_eq, decide_eq_false_iff_not, Bool.not_eq_true', Bool.not_eq_false', Bool.not_true, Bool.not_false, beq_iff_eq, bne_iff_ne, beq_eq_false_iff_ne, bne_eq_false_iff_eq, Bool.and_eq_true, Bool.or_eq_false_iff, Int.not_lt, Int.not_le, Nat.not_lt, Nat.not_le, ne_eq, Bool.true_eq_false, Bool.false_eq_true, reduceCtorEq] at h6
                    all_goals try (exfalso; omega)
                    all_goals
                      refine LWP_exit ?_
                      refine LWP_seq ?_
                      refine LWP_reg fun K hK => ?_
                      apply rgnS_pre 3
                      · repeat (simp -implicitDefEqProofs (maxSteps := 1000000) (disch := first | assumption | omega) [St.e, mx_ite, mn_ite, h1, h2, h3, h4, h6]; try simp only [List.getElem?_cons_zero, Option.getD_some, app_val])
                        rfl
                      refine rgnS_guard (x := 99) (b := true) rfl (fun h12 => ?_) (fun h12 => ?_)
                      · try simp only [decide_eq_true_eq, decide_eq_false_iff_not, Bool.not_eq_true', Bool.not_eq_false', Bool.not_true, Bool.not_false, beq_iff_eq, bne_iff_ne, beq_eq_false_iff_ne, bne_eq_false_iff_eq, Bool.and_eq_true, Bool.or_eq_false_iff, Int.not_lt, Int.not_le, Nat.not_lt, Nat.not_le, ne_eq, Bool.true_eq_false, Bool.false_eq_true, reduceCtorEq] at h12
                        all_goals try (exfalso; omega)
                        all_goals
                          apply rgnS_pre 3
                          · repeat (simp -implicitDefEqProofs (maxSteps := 1000000) (disch := first | assumption | omega) [St.e, mx_ite, mn_ite, h1, h2, h3, h4, h6, h12]; try simp only [List.getElem?_cons_zero, Option.getD_some, app_val])
                            rfl
                          refine rgnS_guard (x := 102) (b := true) rfl (fun h13 => ?_) (fun h13 => ?_)
                          · try simp only [decide_eq_true_eq, decide_eq_false_iff_not, Bool.not_eq_true', Bool.not_eq_false', Bool.not_true, Bool.not_false, beq_iff_eq, bne_iff_ne, beq_eq_false_iff_ne, bne_eq_false_iff_eq, Bool.and_eq_true, Bool.or_eq_false_iff, Int.not_lt, Int.not_le, Nat.not_lt, Nat.not_le, ne_eq, Bool.true_eq_false, Bool.false_eq_true, reduceCtorEq] at h13
                            all_goals try (exfalso; omega)
                            all_goals
                              refine rgnS_call (hsheads) rfl rfl (by simp [pureL, pureR, AV.pure, St.e, mx_ite, mn_ite]) (by simp [pureL, pureR, AV.pure, St.e, mx_ite, mn_ite]) (by simp [gd, get_e0, get_e1, LArg.ev, h1, h2, h3, h4, h6, h12, h13]) ?_
                              apply rgnS_pre 2
                              · repeat (simp -implicitDefEqProofs (maxSteps := 1000000) (disch := first | assumption | omega) [St.e, mx_ite, mn_ite, h1, h2, h3, h4, h6, h12, h13]; try simp only [List.getElem?_cons_zero, Option.getD_some, app_val])
                                rfl
                              refine hK _ ?_; clear hK
                              -- leaf 2
                              refine LWP_ret ⟨_, rfl, ?_⟩
                              refine wkV_of_eq ?_
                              simp only [retV]
                              all_goals
                                simp
                          · try simp only [decide_eq_true_eq, decide_eq_false_iff_not, Bool.not_eq_true', Bool.not_eq_false', Bool.not_true, Bool.not_false, beq_iff_eq, bne_iff_ne, beq_eq_false_iff_ne, bne_eq_false_iff_eq, Bool.and_eq_true, Bool.or_eq_false_iff, Int.not_lt, Int.not_le, Nat.not_lt, Nat.not_le, ne_eq, Bool.true_eq_false, Bool.false_eq_true, reduceCtorEq] at h13
                            all_goals try (exfalso; omega)
                            all_goals
                              apply rgnS_pre 2
                              · repeat (simp -implicitDefEqProofs (maxSteps := 1000000) (disch := first | assumption | omega) [St.e, mx_ite, mn_ite, h1, h2, h3, h4, h6, h12, h13]; try simp only [List.getElem?_cons_zero, Option.getD_some, app_val])
                                rfl
                              refine hK _ ?_; clear hK
                              -- leaf 3
                              refine LWP_ret ⟨_, rfl, ?_⟩
                              refine wkV_of_eq ?_
                              simp only [retV]
                              all_goals
                                simp
                      · try simp only [decide_eq_true_eq, decide_eq_false_iff_not, Bool.not_eq_true', Bool.not_eq_false', Bool.not_true, Bool.not_false, beq_iff_eq, bne_iff_ne, beq_eq_false_iff_ne, bne_eq_false_iff_eq, Bool.and_eq_true, Bool.or_eq_false_iff, Int.not_lt, Int.not_le, Nat.not_lt, Nat.not_le, ne_eq, Bool.true_eq_false, Bool.false_eq_true, reduceCtorEq] at h12
                        all_goals try (exfalso; omega)
                        all_goals
                          apply rgnS_pre 5
                          · repeat (simp -implicitDefEqProofs (maxSteps := 1000000) (disch := first | assumption | omega) [St.e, mx_ite, mn_ite, h1, h2, h3, h4, h6, h12]; try simp only [List.getElem?_cons_zero, Option.getD_some, app_val])
                            rfl
                          refine hK _ ?_; clear hK
                          -- leaf 4
                          refine LWP_ret ⟨_, rfl, ?_⟩
                          refine wkV_of_eq ?_
                          simp only [retV]
                          all_goals
                            simp
          · try simp only [decide_eq_true_eq, decide_eq_false_iff_not, Bool.not_eq_true', Bool.not_eq_false', Bool.not_true, Bool.not_false, beq_iff_eq, bne_iff_ne, beq_eq_false_iff_ne, bne_eq_false_iff_eq, Bool.and_eq_true, Bool.or_eq_false_iff, Int.not_lt, Int.not_le, Nat.not_lt, Nat.not_le, ne_eq, Bool.true_eq_false, Bool.false_eq_true, reduceCtorEq] at h3
            all_goals try (exfalso; omega)
            all_goals
              apply rgnS_pre 3
              · repeat (simp -implicitDefEqProofs (maxSteps := 1000000) (disch := first | assumption | omega) [St.e, mx_ite, mn_ite, h1, h2, h3]; try simp only [List.getElem?_cons_zero, Option.getD_some, app_val])
                rfl
              refine hK _ ?_; clear hK
              refine LWP_cond (t := true) (by simp [LArg.ev, get_e0, get_e1, h1, h2, h3]) (fun _ => ?_) (fun h => by cases h)
              refine LWP_seq ?_
              refine LWP_reg fun K hK => ?_
              refine rgnS_call (hsheads) rfl rfl (by simp [pureL, pureR, AV.pure, St.e, mx_ite, mn_ite]) (by simp [pureL, pureR, AV.pure, St.e, mx_ite, mn_ite]) (by simp [gd, get_e0, get_e1, LArg.ev, h1, h2, h3]) ?_
              apply rgnS_pre 1
              · repeat (simp -implicitDefEqProofs (maxSteps := 1000000) (disch := first | assumption | omega) [St.e, mx_ite, mn_ite, h1, h2, h3]; try simp only [List.getElem?_cons_zero, Option.getD_some, app_val])
                rfl
              refine hK _ ?_; clear hK
              -- leaf 5
              refine LWP_ret ⟨_, rfl, ?_⟩
              refine wkV_of_eq ?_
              simp only [retV]
              all_goals
                simp
      · try simp only [decide_eq_true_eq, decide_eq_false_iff_not, Bool.not_eq_true', Bool.not_eq_false', Bool.not_true, Bool.not_false, beq_iff_eq, bne_iff_ne, beq_eq_false_iff_ne, bne_eq_false_iff_eq, Bool.and_eq_true, Bool.or_eq_false_iff, Int.not_lt, Int.not_le, Nat.not_lt, Nat.not_le, ne_eq, Bool.true_eq_false, Bool.false_eq_true, reduceCtorEq] at h2
        all_goals try (exfalso; omega)
        all_goals
          apply rgnS_pre 8
          · repeat (simp -implicitDefEqProofs (maxSteps := 1000000) (disch := first | assumption | omega) [St.e, mx_ite, mn_ite, h1, h2]; try simp only [List.getElem?_cons_zero, Option.getD_some, app_val])
            rfl
          refine hK _ ?_; clear hK
          refine LWP_cond (t := true) (by simp [LArg.ev, get_e0, get_e1, h1, h2]) (fun _ => ?_) (fun h => by cases h)
          refine LWP_seq ?_
          refine LWP_reg fun K hK => ?_
          refine rgnS_call (hsheads) rfl rfl (by simp [pureL, pureR, AV.pure, St.e, mx_ite, mn_ite]) (by simp [pureL, pureR, AV.pure, St.e, mx_ite, mn_ite]) (by simp [gd, get_e0, get_e1, LArg.ev, h1, h2]) ?_
          apply rgnS_pre 1
          · repeat (simp -implicitDefEqProofs (maxSteps := 1000000) (disch := first | assumption | omega) [St.e, mx_ite, mn_ite, h1, h2]; try simp only [List.getElem?_cons_zero, Option.getD_some, app_val])
            rfl
          refine hK _ ?_; clear hK
          -- leaf 6
          refine LWP_ret ⟨_, rfl, ?_⟩
          refine wkV_of_eq ?_
          simp only [retV]
          all_goals
            simp
  · try simp only [decide_eq_true_eq, decide_eq_false_iff_not, Bool.not_eq_true', Bool.not_eq_false', Bool.not_true, Bool.not_false, beq_iff_eq, bne_iff_ne, beq_eq_false_iff_ne, bne_eq_false_iff_eq, Bool.and_eq_true, Bool.or_eq_false_iff, Int.not_lt, Int.not_le, Nat.not_lt, Nat.not_le, ne_eq, Bool.true_eq_false, Bool.false_eq_true, reduceCtorEq] at h1
    all_goals try (exfalso; omega)
    all_goals
      apply rgnS_pre 8
      · repeat (simp -implicitDefEqProofs (maxSteps := 1000000) (disch := first | assumption | omega) [St.e, mx_ite, mn_ite, h1]; try simp only [List.getElem?_cons_zero, Option.getD_some, app_val])
        rfl
      apply rgnS_pre 5
      · repeat (simp -implicitDefEqProofs (maxSteps := 1000000) (disch := first | assumption | omega) [St.e, mx_ite, mn_ite, h1]; try simp only [List.getElem?_cons_zero, Option.getD_some, app_val])
        rfl
      refine hK _ ?_; clear hK
      refine LWP_cond (t := true) (by simp [LArg.ev, get_e0, get_e1, h1]) (fun _ => ?_) (fun h => by cases h)
      refine LWP_seq ?_
      refine LWP_reg fun K hK => ?_
      refine rgnS_call (hsheads) rfl rfl (by simp [pureL, pureR, AV.pure, St.e, mx_ite, mn_ite]) (by simp [pureL, pureR, AV.pure, St.e, mx_ite, mn_ite]) (by simp [gd, get_e0, get_e1, LArg.ev, h1]) ?_
      apply rgnS_pre 1
      · repeat (simp -implicitDefEqProofs (maxSteps := 1000000) (disch := first | assumption | omega) [St.e, mx_ite, mn_ite, h1]; try simp only [List.getElem?_cons_zero, Option.getD_some, app_val])
        rfl
      refine hK _ ?_; clear hK
      -- leaf 7
      refine LWP_ret ⟨_, rfl, ?_⟩
      refine wkV_of_eq ?_
      simp only [retV]
      all_goals
        simp
end

section
attribute [local simp ↓] List.map_nil List.map_cons
attribute [local simp] m_ o_ g_ stepsS stepS gd opEff appEff LArg.ev app_val app_new app_upd app_kill putV ins_e0 ins_e1 get_e0 get_e1 binV binI grd bnd ldCells AV.cells AV.scalar AV.known setAt fillL chunks elems mxI mnI del Nat.add_assoc nlt_self nne_self nne_self' List.take_of_length_le decT decF wrap_i64 stepsD stepD ST.as dEffF LOp.cls softOK LOp.args LOp.rds AV.ids appD_val appD_new appD_upd appD_kill AS.flush delAll
set_option maxHeartbeats 2000000 in
theorem apart_in (a b : List St) (D : Int) (la : a.length ≤ 60) (lb : b.length ≤ 60) (ca : chkB a = true) (cb : chkB b = true)
  (hD : ACalls Go.Proofs.Try.prog 22 [.tsl 3 (a.map St.e), .tsl 3 (b.map St.e)] [] 0 (fun r _ _ => r = .int .i64 D)) (hd0 : 0 ≤ D)
  (hall : ∀ (i k : Nat) (hi : i < a.length) (hk : k < b.length), ov (a[i]'hi) (b[k]'hk) → (a[i]'hi).h + (b[k]'hk).h ≤ D)
  (hex : D = 0 ∨ ∃ (i' k' : Nat) (hi : i' < a.length) (hk : k' < b.length), ov (a[i']'hi) (b[k']'hk) ∧ (a[i']'hi).h + (b[k']'hk).h = D) : ACalls Go.Proofs.Try.prog 7 [.tsl 3 (a.map St.e), .tsl 3 (b.map St.e)] [] 0 (fun r _ _ => r = .bool true) := by
  refine pure_body ok7 rfl ?_
  simp only [parV]
  have CA := check_ok a (by omega)
  rw [ca] at CA
  have CB := check_ok b (by omega)
  rw [cb] at CB
  have hadd := hadd_ok ca cb
  refine LWP_seq ?_
  apply LWP_run
  · repeat (simp -implicitDefEqProofs (maxSteps := 1000000) (disch := first | assumption | omega) [St.e, mx_ite, mn_ite, hadd]; try simp only [List.getElem?_cons_zero, Option.getD_some, app_val])
    rfl
  refine LWP_seq ?_
  refine LWP_seq ?_
  refine LWP_reg fun K hK => ?_
  apply rgnS_pre 4
  · repeat (simp -implicitDefEqProofs (maxSteps := 1000000) (disch := first | assumption | omega) [St.e, mx_ite, mn_ite, hadd]; try simp only [List.getElem?_cons_zero, Option.getD_some, app_val])
    rfl
  refine rgnS_guard (x := 12) (b := false) rfl (fun h1 => ?_) (fun h1 => ?_)
  · try simp only [decide_eq_true_eq, decide_eq_false_iff_not, Bool.not_eq_true', Bool.not_eq_false', Bool.not_true, Bool.not_false, beq_iff_eq, bne_iff_ne, beq_eq_false_iff_ne, bne_eq_false_iff_eq, Bool.and_eq_true, Bool.or_eq_false_iff, Int.not_lt, Int.not_le, Nat.not_lt, Nat.not_le, ne_eq, Bool.true_eq_false, Bool.false_eq_true, reduceCtorEq] at h1
    all_goals try (exfalso; omega)
    all_goals
      apply rgnS_pre 5
      · repeat (simp -implicitDefEqProofs (maxSteps := 1000000) (disch := first | assumption | omega) [St.e, mx_ite, mn_ite, hadd, h1]; try simp only [List.getElem?_cons_zero, Option.getD_some, app_val])
        rfl
      refine rgnS_guard (x := 17) (b := false) rfl (fun h2 => ?_) (fun h2 => ?_)
      · try simp only [decide_eq_true_eq, decide_eq_false_iff_not, Bool.not_eq_true', Bool.not_eq_false', Bool.not_true, Bool.not_false, beq_iff_eq, bne_iff_ne, beq_eq_false_iff_ne, bne_eq_false_iff_eq, Bool.and_eq_true, Bool.or_eq_false_iff, Int.not_lt, Int.not_le, Nat.not_lt, Nat.not_le, ne_eq, Bool.true_eq_false, Bool.false_eq_true, reduceCtorEq] at h2
        all_goals try (exfalso; omega)
        all_goals
          apply rgnS_pre 1
          · repeat (simp -implicitDefEqProofs (maxSteps := 1000000) (disch := first | assumption | omega) [St.e, mx_ite, mn_ite, hadd, h1, h2]; try simp only [List.getElem?_cons_zero, Option.getD_some, app_val])
            rfl
          refine rgnS_call (CA) rfl rfl (by simp [pureL, pureR, AV.pure, St.e, mx_ite, mn_ite, pureR_st]) (by simp [pureL, pureR, AV.pure, St.e, mx_ite, mn_ite, pureR_st]) (by simp [gd, get_e0, get_e1, LArg.ev, h1, h2]) ?_
          apply rgnS_pre 3
          · repeat (simp -implicitDefEqProofs (maxSteps := 1000000) (disch := first | assumption | omega) [St.e, mx_ite, mn_ite, hadd, h1, h2]; try simp only [List.getElem?_cons_zero, Option.getD_some, app_val])
            rfl
          refine rgnS_guard (x := 22) (b := false) rfl (fun h3 => ?_) (fun h3 => ?_)
          · try simp only [decide_eq_true_eq, decide_eq_false_iff_not, Bool.not_eq_true', Bool.not_eq_false', Bool.not_true, Bool.not_false, beq_iff_eq, bne_iff_ne, beq_eq_false_iff_ne, bne_eq_false_iff_eq, Bool.and_eq_true, Bool.or_eq_false_iff, Int.not_lt, Int.not_le, Nat.not_lt, Nat.not_le, ne_eq, Bool.true_eq_false, Bool.false_eq_true, reduceCtorEq] at h3
            all_goals try (exfalso; omega)
            all_goals
              apply rgnS_pre 1
              · repeat (simp -implicitDefEqProofs (maxSteps := 1000000) (disch := first | assumption | omega) [St.e, mx_ite, mn_ite, hadd, h1, h2, h3]; try simp only [List.getElem?_cons_zero, Option.getD_some, app_val])
                rfl
              refine rgnS_call (CB) rfl rfl (by simp [pureL, pureR, AV.pure, St.e, mx_ite, mn_ite, pureR_st]) (by simp [pureL, pureR, AV.pure, St.e, mx_ite, mn_ite, pureR_st]) (by simp [gd, get_e0, get_e1, LArg.ev, h1, h2, h3]) ?_
              apply rgnS_pre 2
              · repeat (simp -implicitDefEqProofs (maxSteps := 1000000) (disch := first | assumption | omega) [St.e, mx_ite, mn_ite, hadd, h1, h2, h3]; try simp only [List.getElem?_cons_zero, Option.getD_some, app_val])
                rfl
              refine hK _ ?_; clear hK
              refine LWP_cond rfl (fun h4 => ?_) (fun h4 => ?_)
              · try simp only [decide_eq_true_eq, decide_eq_false_iff_not, Bool.not_eq_true', Bool.not_eq_false', Bool.not_true, Bool.not_false, beq_iff_eq, bne_iff_ne, beq_eq_false_iff_ne, bne_eq_false_iff_eq, Bool.and_eq_true, Bool.or_eq_false_iff, Int.not_lt, Int.not_le, Nat.not_lt, Nat.not_le, ne_eq, Bool.true_eq_false, Bool.false_eq_true, reduceCtorEq] at h4
                all_goals try (exfalso; omega)
                all_goals
                  refine LWP_seq ?_
                  refine LWP_reg fun K hK => ?_
                  refine rgnS_call (hsheads) rfl rfl (by simp [pureL, pureR, AV.pure, St.e, mx_ite, mn_ite]) (by simp [pureL, pureR, AV.pure, St.e, mx_ite, mn_ite]) (by simp [gd, get_e0, get_e1, LArg.ev, h1, h2, h3, h4]) ?_
                  apply rgnS_pre 1
                  · repeat (simp -implicitDefEqProofs (maxSteps := 1000000) (disch := first | assumption | omega) [St.e, mx_ite, mn_ite, hadd, h1, h2, h3, h4]; try simp only [List.getElem?_cons_zero, Option.getD_some, app_val])
                    rfl
                  refine hK _ ?_; clear hK
                  -- leaf 0
                  refine LWP_ret ⟨_, rfl, ?_⟩
                  refine wkV_of_eq ?_
                  simp only [retV]
                  all_goals
                    first
                      | (exfalso
                         have := hall i k (by omega) (by omega) (by unfold ov; omega)
                         omega)
                      | (exfalso
                         have := c2.2 (tch_end (by omega) hex)
                         simp_all; done)
                      | (simp; done)
              · try simp only [decide_eq_true_eq, decide_eq_false_iff_not, Bool.not_eq_true', Bool.not_eq_false', Bool.not_true, Bool.not_false, beq_iff_eq, bne_iff_ne, beq_eq_false_iff_ne, bne_eq_false_iff_eq, Bool.and_eq_true, Bool.or_eq_false_iff, Int.not_lt, Int.not_le, Nat.not_lt, Nat.not_le, ne_eq, Bool.true_eq_false, Bool.false_eq_true, reduceCtorEq] at h4
                all_goals try (exfalso; omega)
                all_goals
                  refine LWP_skip ?_
                  refine LWP_seq ?_
                  refine LWP_reg fun K hK => ?_
                  apply rgnS_pre 2
                  · repeat (simp -implicitDefEqProofs (maxSteps := 1000000) (disch := first | assumption | omega) [St.e, mx_ite, mn_ite, hadd, h1, h2, h3, h4]; try simp only [List.getElem?_cons_zero, Option.getD_some, app_val])
                    rfl
                  refine rgnS_call (hD) rfl rfl (by simp [pureL, pureR, AV.pure, St.e, mx_ite, mn_ite, pureR_st]) (by simp [pureL, pureR, AV.pure, St.e, mx_ite, mn_ite, pureR_st]) (by simp [gd, get_e0, get_e1, LArg.ev, h1, h2, h3, h4]) ?_
                  apply rgnS_pre 1
                  · repeat (simp -implicitDefEqProofs (maxSteps := 1000000) (disch := first | assumption | omega) [St.e, mx_ite, mn_ite, hadd, h1, h2, h3, h4]; try simp only [List.getElem?_cons_zero, Option.getD_some, app_val])
                    rfl
                  refine hK _ ?_; clear hK
                  refine LWP_seq ?_
                  apply LWP_run
                  · repeat (simp -implicitDefEqProofs (maxSteps := 1000000) (disch := first | assumption | omega) [St.e, mx_ite, mn_ite, hadd, h1, h2, h3, h4]; try simp only [List.getElem?_cons_zero, Option.getD_some, app_val])
                    rfl
                  refine LWP_seq ?_
                  refine LWP_seq ?_
                  apply LWP_run
                  · repeat (simp -implicitDefEqProofs (maxSteps := 1000000) (disch := first | assumption | omega) [St.e, mx_ite, mn_ite, hadd, h1, h2, h3, h4]; try simp only [List.getElem?_cons_zero, Option.getD_some, app_val])
                    rfl
                  refine LWP_block ?_
                  refine LWP_for (fun (p : Nat × Bool) => [(0, .tsl 3 (a.map St.e)), (1, .tsl 3 (b.map St.e)), (5, .int .i64 D), (6, .bool p.2), (7, .int .i64 (p.1 : Nat))]) (fun (p : Nat × Bool) => []) (fun (p : Nat × Bool) n => p.1 ≤ a.length ∧ (p.2 = true ↔ tch a b D p.1 0)) (fun (p : Nat × Bool) => a.length - p.1) (0, D == 0) ?_ ?_ ?_ ?_
                  · simp (maxSteps := 1000000) (disch := first | assumption | omega) [leV, get_e0, get_e1, wkV.refl, wkV_int, decT, decF, St.e, mx_ite, mn_ite, hadd, h1, h2, h3, h4]
                  · simp [leH, get_e0, get_e1, h1, h2, h3, h4]
                  · exact ⟨Nat.zero_le _, by rw [tch_0]; simp⟩
                  rintro ⟨i, t⟩ n ⟨c1, c2⟩
                  simp only at c1 c2
                  refine LWP_seq ?_
                  refine LWP_seq ?_
                  apply LWP_run
                  · repeat (simp -implicitDefEqProofs (maxSteps := 1000000) (disch := first | assumption | omega) [St.e, mx_ite, mn_ite, hadd, h1, h2, h3, h4]; try simp only [List.getElem?_cons_zero, Option.getD_some, app_val])
                    rfl
                  refine LWP_cond rfl (fun h6 => ?_) (fun h6 => ?_)
                  · try simp only [decide_eq_true_eq, decide_eq_false_iff_not, Bool.not_eq_true', Bool.not_eq_false', Bool.not_true, Bool.not_false, beq_iff_eq, bne_iff_ne, beq_eq_false_iff_ne, bne_eq_false_iff_eq, Bool.and_eq_true, Bool.or_eq_false_iff, Int.not_lt, Int.not_le, Nat.not_lt, Nat.not_le, ne_eq, Bool.true_eq_false, Bool.false_eq_true, reduceCtorEq] at h6
                    all_goals try (exfalso; omega)
                    all_goals
                      refine LWP_skip ?_
                      refine LWP_seq ?_
                      refine LWP_block ?_
                      refine LWP_seq ?_
                      apply LWP_run
                      · repeat (simp -implicitDefEqProofs (maxSteps := 1000000) (disch := first | assumption | omega) [St.e, mx_ite, mn_ite, hadd, h1, h2, h3, h4, h6]; try simp only [List.getElem?_cons_zero, Option.getD_some, app_val])
                        rfl
                      refine LWP_block ?_
                      refine LWP_for (fun (q : Nat × Bool) => [(0, .tsl 3 (a.map St.e)), (1, .tsl 3 (b.map St.e)), (5, .int .i64 D), (6, .bool q.2), (7, .int .i64 (i : Nat)), (8, .int .i64 (q.1 : Nat))]) (fun (q : Nat × Bool) => []) (fun (q : Nat × Bool) n2 => q.1 ≤ b.length ∧ (q.2 = true ↔ tch a b D i q.1)) (fun (q : Nat × Bool) => b.length - q.1) (0, t) ?_ ?_ ?_ ?_
                      · simp (maxSteps := 1000000) (disch := first | assumption | omega) [leV, get_e0, get_e1, wkV.refl, wkV_int, decT, decF, St.e, mx_ite, mn_ite, hadd, h1, h2, h3, h4, h6]
                      · simp [leH, get_e0, get_e1, h1, h2, h3, h4, h6]
                      · exact ⟨Nat.zero_le _, c2⟩
                      rintro ⟨k, t2⟩ n2 ⟨e1, e2⟩
                      simp only at e1 e2
                      refine LWP_seq ?_
                      refine LWP_seq ?_
                      apply LWP_run
                      · repeat (simp -implicitDefEqProofs (maxSteps := 1000000) (disch := first | assumption | omega) [St.e, mx_ite, mn_ite, hadd, h1, h2, h3, h4, h6]; try simp only [List.getElem?_cons_zero, Option.getD_some, app_val])
                        rfl
                      refine LWP_cond rfl (fun h8 => ?_) (fun h8 => ?_)
                      · try simp only [decide_eq_true_eq, decide_eq_false_iff_not, Bool.not_eq_true', Bool.not_eq_false', Bool.not_true, Bool.not_false, beq_iff_eq, bne_iff_ne, beq_eq_false_iff_ne, bne_eq_false_iff_eq, Bool.and_eq_true, Bool.or_eq_false_iff, Int.not_lt, Int.not_le, Nat.not_lt, Nat.not_le, ne_eq, Bool.true_eq_false, Bool.false_eq_true, reduceCtorEq] at h8
                        all_goals try (exfalso; omega)
                        all_goals
                          refine LWP_skip ?_
                          refine LWP_seq ?_
                          refine LWP_block ?_
                          refine LWP_seq ?_
                          refine LWP_regD' fun K hK => ?_
                          apply rgnD_pre 8
                          · repeat (simp -implicitDefEqProofs (maxSteps := 1000000) (disch := first | assumption | omega) [St.e, mx_ite, mn_ite, hadd, h1, h2, h3, h4, h6, h8]; try simp only [List.getElem?_cons_zero, Option.getD_some, app_val])
                            rfl
                          apply rgnD_pre 8
                          · repeat (simp -implicitDefEqProofs (maxSteps := 1000000) (disch := first | assumption | omega) [St.e, mx_ite, mn_ite, hadd, h1, h2, h3, h4, h6, h8]; try simp only [List.getElem?_cons_zero, Option.getD_some, app_val])
                            rfl
                          apply rgnD_pre 7
                          · repeat (simp -implicitDefEqProofs (maxSteps := 1000000) (disch := first | assumption | omega) [St.e, mx_ite, mn_ite, hadd, h1, h2, h3, h4, h6, h8]; try simp only [List.getElem?_cons_zero, Option.getD_some, app_val])
                            rfl
                          refine hK _ _ (by simp [AS.fin, delAll, del, Nat.add_assoc]; rfl) ?_; clear hK
                          refine LWP_cond rfl (fun h9 => ?_) (fun h9 => ?_)
                          · try simp only [decide_eq_true_eq, decide_eq_false_iff_not, Bool.not_eq_true', Bool.not_eq_false', Bool.not_true, Bool.not_false, beq_iff_eq, bne_iff_ne, beq_eq_false_iff_ne, bne_eq_false_iff_eq, Bool.and_eq_true, Bool.or_eq_false_iff, Int.not_lt, Int.not_le, Nat.not_lt, Nat.not_le, ne_eq, Bool.true_eq_false, Bool.false_eq_true, reduceCtorEq] at h9
                            all_goals try (exfalso; omega)
                            all_goals
                              refine LWP_seq ?_
                              refine LWP_seq ?_
                              refine LWP_regD' fun K hK => ?_
                              apply rgnD_pre 8
                              · repeat (simp -implicitDefEqProofs (maxSteps := 1000000) (disch := first | assumption | omega) [St.e, mx_ite, mn_ite, hadd, h1, h2, h3, h4, h6, h8, h9]; try simp only [List.getElem?_cons_zero, Option.getD_some, app_val])
                                rfl
                              apply rgnD_pre 5
                              · repeat (simp -implicitDefEqProofs (maxSteps := 1000000) (disch := first | assumption | omega) [St.e, mx_ite, mn_ite, hadd, h1, h2, h3, h4, h6, h8, h9]; try simp only [List.getElem?_cons_zero, Option.getD_some, app_val])
                                rfl
                              refine hK _ _ (by simp [AS.fin, delAll, del, Nat.add_assoc]; rfl) ?_; clear hK
                              refine LWP_cond rfl (fun h10 => ?_) (fun h10 => ?_)
                              · try simp only [decide_eq_true_eq, decide_eq_false_iff_not, Bool.not_eq_true', Bool.not_eq_false', Bool.not_true, Bool.not_false, beq_iff_eq, bne_iff_ne, beq_eq_false_iff_ne, bne_eq_false_iff_eq, Bool.and_eq_true, Bool.or_eq_false_iff, Int.not_lt, Int.not_le, Nat.not_lt, Nat.not_le, ne_eq, Bool.true_eq_false, Bool.false_eq_true, reduceCtorEq] at h10
                                all_goals try (exfalso; omega)
                                all_goals
                                  refine LWP_seq ?_
                                  apply LWP_run
                                  · repeat (simp -implicitDefEqProofs (maxSteps := 1000000) (disch := first | assumption | omega) [St.e, mx_ite, mn_ite, hadd, h1, h2, h3, h4, h6, h8, h9, h10]; try simp only [List.getElem?_cons_zero, Option.getD_some, app_val])
                                    rfl
                                  -- leaf 1
                                  refine LWP_ret ⟨_, rfl, ?_⟩
                                  refine wkV_of_eq ?_
                                  simp only [retV]
                                  all_goals
                                    first
                                      | (exfalso
                                         have := hall i k (by omega) (by omega) (by unfold ov; omega)
                                         omega)
                                      | (exfalso
                                         have := c2.2 (tch_end (by omega) hex)
                                         simp_all; done)
                                      | (simp; done)
                              · try simp only [decide_eq_true_eq, decide_eq_false_iff_not, Bool.not_eq_true', Bool.not_eq_false', Bool.not_true, Bool.not_false, beq_iff_eq, bne_iff_ne, beq_eq_false_iff_ne, bne_eq_false_iff_eq, Bool.and_eq_true, Bool.or_eq_false_iff, Int.not_lt, Int.not_le, Nat.not_lt, Nat.not_le, ne_eq, Bool.true_eq_false, Bool.false_eq_true, reduceCtorEq] at h10
                                all_goals try (exfalso; omega)
                                all_goals
                                  refine LWP_skip ?_
                                  refine LWP_regD' fun K hK => ?_
                                  apply rgnD_pre 2
                                  · repeat (simp -implicitDefEqProofs (maxSteps := 1000000) (disch := first | assumption | omega) [St.e, mx_ite, mn_ite, hadd, h1, h2, h3, h4, h6, h8, h9, h10]; try simp only [List.getElem?_cons_zero, Option.getD_some, app_val])
                                    rfl
                                  refine rgnD_guard (x := 82) (b := false) rfl (fun h11 => ?_) (fun h11 => ?_)
                                  · try simp only [decide_eq_true_eq, decide_eq_false_iff_not, Bool.not_eq_true', Bool.not_eq_false', Bool.not_true, Bool.not_false, beq_iff_eq, bne_iff_ne, beq_eq_false_iff_ne, bne_eq_false_iff_eq, Bool.and_eq_true, Bool.or_eq_false_iff, Int.not_lt, Int.not_le, Nat.not_lt, Nat.not_le, ne_eq, Bool.true_eq_false, Bool.false_eq_true, reduceCtorEq] at h11
                                    all_goals try (exfalso; omega)
                                    all_goals
                                      apply rgnD_pre 8
                                      · repeat (simp -implicitDefEqProofs (maxSteps := 1000000) (disch := first | assumption | omega) [St.e, mx_ite, mn_ite, hadd, h1, h2, h3, h4, h6, h8, h9, h10, h11]; try simp only [List.getElem?_cons_zero, Option.getD_some, app_val])
                                        rfl
                                      apply rgnD_pre 7
                                      · repeat (simp -implicitDefEqProofs (maxSteps := 1000000) (disch := first | assumption | omega) [St.e, mx_ite, mn_ite, hadd, h1, h2, h3, h4, h6, h8, h9, h10, h11]; try simp only [List.getElem?_cons_zero, Option.getD_some, app_val])
                                        rfl
                                      refine hK _ _ (by simp [AS.fin, delAll, del, Nat.add_assoc]; rfl) ?_; clear hK
                                      apply LWP_run
                                      · repeat (simp -implicitDefEqProofs (maxSteps := 1000000) (disch := first | assumption | omega) [St.e, mx_ite, mn_ite, hadd, h1, h2, h3, h4, h6, h8, h9, h10, h11]; try simp only [List.getElem?_cons_zero, Option.getD_some, app_val])
                                        rfl
                                      -- loop 1, round 0
                                      refine ⟨(k + 1, ((a[i]'(by omega)).h + (b[k]'(by omega)).h == D)), ?_, ?_, ?_, ?_⟩
                                      · refine ⟨by simp only; omega, ?_⟩
                                        simp only
                                        constructor
                                        · intro q
                                          exact tch_yes (by omega) (by omega) (by unfold ov; omega) (by simpa using q)
                                        · intro q
                                          by_cases hs : (a[i]'(by omega)).h + (b[k]'(by omega)).h = D
                                          · simp [hs]
                                          · rw [tch_no (by omega) (by omega) (fun h => hs h.2)] at q
                                            have := e2.2 q
                                            simp_all
                                      · simp only; omega
                                      · simp (maxSteps := 1000000) (disch := first | assumption | omega) [leV, get_e0, get_e1, wkV.refl, wkV_int, wrap_i64, decT, decF, St.e, mx_ite, mn_ite, hadd, h1, h2, h3, h4, h6, h8, h9, h10, h11]
                                      · simp [leH, get_e0, get_e1, h1, h2, h3, h4, h6, h8, h9, h10, h11]
                                  · try simp only [decide_eq_true_eq, decide_eq_false_iff_not, Bool.not_eq_true', Bool.not_eq_false', Bool.not_true, Bool.not_false, beq_iff_eq, bne_iff_ne, beq_eq_false_iff_ne, bne_eq_false_iff_eq, Bool.and_eq_true, Bool.or_eq_false_iff, Int.not_lt, Int.not_le, Nat.not_lt, Nat.not_le, ne_eq, Bool.true_eq_false, Bool.false_eq_true, reduceCtorEq] at h11
                                    all_goals try (exfalso; omega)
                                    all_goals
                                      apply rgnD_pre 8
                                      · repeat (simp -implicitDefEqProofs (maxSteps := 1000000) (disch := first | assumption | omega) [St.e, mx_ite, mn_ite, hadd, h1, h2, h3, h4, h6, h8, h9, h10, h11]; try simp only [List.getElem?_cons_zero, Option.getD_some, app_val])
                                        rfl
                                      apply rgnD_pre 6
                                      · repeat (simp -implicitDefEqProofs (maxSteps := 1000000) (disch := first | assumption | omega) [St.e, mx_ite, mn_ite, hadd, h1, h2, h3, h4, h6, h8, h9, h10, h11]; try simp only [List.getElem?_cons_zero, Option.getD_some, app_val])
                                        rfl
                                      refine hK _ _ (by simp [AS.fin, delAll, del, Nat.add_assoc]; rfl) ?_; clear hK
                                      apply LWP_run
                                      · repeat (simp -implicitDefEqProofs (maxSteps := 1000000) (disch := first | assumption | omega) [St.e, mx_ite, mn_ite, hadd, h1, h2, h3, h4, h6, h8, h9, h10, h11]; try simp only [List.getElem?_cons_zero, Option.getD_some, app_val])
                                        rfl
                                      -- loop 1, round 1
                                      refine ⟨(k + 1, true), ?_, ?_, ?_, ?_⟩
                                      · refine ⟨by simp only; omega, ?_⟩
                                        simp only
                                        constructor
                                        · intro _
                                          exact tch_mono (e2.1 (by assumption))
                                        · intro _
                                          first | rfl | trivial
                                      · simp only; omega
                                      · simp (maxSteps := 1000000) (disch := first | assumption | omega) [leV, get_e0, get_e1, wkV.refl, wkV_int, wrap_i64, decT, decF, St.e, mx_ite, mn_ite, hadd, h1, h2, h3, h4, h6, h8, h9, h10, h11]
                                      · simp [leH, get_e0, get_e1, h1, h2, h3, h4, h6, h8, h9, h10, h11]
                          · try simp only [decide_eq_true_eq, decide_eq_false_iff_not, Bool.not_eq_true', Bool.not_eq_false', Bool.not_true, Bool.not_false, beq_iff_eq, bne_iff_ne, beq_eq_false_iff_ne, bne_eq_false_iff_eq, Bool.and_eq_true, Bool.or_eq_false_iff, Int.not_lt, Int.not_le, Nat.not_lt, Nat.not_le, ne_eq, Bool.true_eq_false, Bool.false_eq_true, reduceCtorEq] at h9
                            all_goals try (exfalso; omega)
                            all_goals
                              refine LWP_skip ?_
                              apply LWP_run
                              · repeat (simp -implicitDefEqProofs (maxSteps := 1000000) (disch := first | assumption | omega) [St.e, mx_ite, mn_ite, hadd, h1, h2, h3, h4, h6, h8, h9]; try simp only [List.getElem?_cons_zero, Option.getD_some, app_val])
                                rfl
                              -- loop 1, round 2
                              refine ⟨(k + 1, t2), ?_, ?_, ?_, ?_⟩
                              · refine ⟨by simp only; omega, ?_⟩
                                simp only
                                rw [tch_no (by omega) (by omega) (fun h => absurd h.1 (by unfold ov; omega))]
                                exact e2
                              · simp only; omega
                              · simp (maxSteps := 1000000) (disch := first | assumption | omega) [leV, get_e0, get_e1, wkV.refl, wkV_int, wrap_i64, decT, decF, St.e, mx_ite, mn_ite, hadd, h1, h2, h3, h4, h6, h8, h9]
                              · simp [leH, get_e0, get_e1, h1, h2, h3, h4, h6, h8, h9]
                      · try simp only [decide_eq_true_eq, decide_eq_false_iff_not, Bool.not_eq_true', Bool.not_eq_false', Bool.not_true, Bool.not_false, beq_iff_eq, bne_iff_ne, beq_eq_false_iff_ne, bne_eq_false_iff_eq, Bool.and_eq_true, Bool.or_eq_false_iff, Int.not_lt, Int.not_le, Nat.not_lt, Nat.not_le, ne_eq, Bool.true_eq_false, Bool.false_eq_true, reduceCtorEq] at h8
                        all_goals try (exfalso; omega)
                        all_goals
                          refine LWP_exit ?_
                          apply LWP_run
                          · repeat (simp -implicitDefEqProofs (maxSteps := 1000000) (disch := first | assumption | omega) [St.e, mx_ite, mn_ite, hadd, h1, h2, h3, h4, h6, h8]; try simp only [List.getElem?_cons_zero, Option.getD_some, app_val])
                            rfl
                          -- loop 0, round 0
                          refine ⟨(i + 1, t2), ?_, ?_, ?_, ?_⟩
                          · exact ⟨by simp only; omega, by simp only; rw [← tch_row (k := k) (by omega)]; exact e2⟩
                          · simp only; omega
                          · simp (maxSteps := 1000000) (disch := first | assumption | omega) [leV, get_e0, get_e1, wkV.refl, wkV_int, wrap_i64, decT, decF, St.e, mx_ite, mn_ite, hadd, h1, h2, h3, h4, h6, h8]
                          · simp [leH, get_e0, get_e1, h1, h2, h3, h4, h6, h8]
                  · try simp only [decide_eq_true_eq, decide_eq_false_iff_not, Bool.not_eq_true', Bool.not_eq_false', Bool.not_true, Bool.not_false, beq_iff_eq, bne_iff_ne, beq_eq_false_iff_ne, bne_eq_false_iff_eq, Bool.and_eq_true, Bool.or_eq_false_iff, Int.not_lt, Int.not_le, Nat.not_lt, Nat.not_le, ne_eq, Bool.true_eq_false, Bool.false_eq_true, reduceCtorEq] at h6
                    all_goals try (exfalso; omega)
                    all_goals
                      refine LWP_exit ?_
                      refine LWP_seq ?_
                      refine LWP_reg fun K hK => ?_
                      apply rgnS_pre 3
                      · repeat (simp -implicitDefEqProofs (maxSteps := 1000000) (disch := first | assumption | omega) [St.e, mx_ite, mn_ite, hadd, h1, h2, h3, h4, h6]; try simp only [List.getElem?_cons_zero, Option.getD_some, app_val])
                        rfl
                      refine rgnS_guard (x := 99) (b := true) rfl (fun h12 => ?_) (fun h12 => ?_)
                      · try simp only [decide_eq_true_eq, decide_eq_false_iff_not, Bool.not_eq_true', Bool.not_eq_false', Bool.not_true, Bool.not_false, beq_iff_eq, bne_iff_ne, beq_eq_false_iff_ne, bne_eq_false_iff_eq, Bool.and_eq_true, Bool.or_eq_false_iff, Int.not_lt, Int.not_le, Nat.not_lt, Nat.not_le, ne_eq, Bool.true_eq_false, Bool.false_eq_true, reduceCtorEq] at h12
                        all_goals try (exfalso; omega)
                        all_goals
                          apply rgnS_pre 3
                          · repeat (simp -implicitDefEqProofs (maxSteps := 1000000) (disch := first | assumption | omega) [St.e, mx_ite, mn_ite, hadd, h1, h2, h3, h4, h6, h12]; try simp only [List.getElem?_cons_zero, Option.getD_some, app_val])
                            rfl
                          refine rgnS_guard (x := 102) (b := true) rfl (fun h13 => ?_) (fun h13 => ?_)
                          · try simp only [decide_eq_true_eq, decide_eq_false_iff_not, Bool.not_eq_true', Bool.not_eq_false', Bool.not_true, Bool.not_false, beq_iff_eq, bne_iff_ne, beq_eq_false_iff_ne, bne_eq_false_iff_eq, Bool.and_eq_true, Bool.or_eq_false_iff, Int.not_lt, Int.not_le, Nat.not_lt, Nat.not_le, ne_eq, Bool.true_eq_false, Bool.false_eq_true, reduceCtorEq] at h13
                            all_goals try (exfalso; omega)
                            all_goals
                              refine rgnS_call (hsheads) rfl rfl (by simp [pureL, pureR, AV.pure, St.e, mx_ite, mn_ite]) (by simp [pureL, pureR, AV.pure, St.e, mx_ite, mn_ite]) (by simp [gd, get_e0, get_e1, LArg.ev, h1, h2, h3, h4, h6, h12, h13]) ?_
                              apply rgnS_pre 2
                              · repeat (simp -implicitDefEqProofs (maxSteps := 1000000) (disch := first | assumption | omega) [St.e, mx_ite, mn_ite, hadd, h1, h2, h3, h4, h6, h12, h13]; try simp only [List.getElem?_cons_zero, Option.getD_some, app_val])
                                rfl
                              refine hK _ ?_; clear hK
                              -- leaf 2
                              refine LWP_ret ⟨_, rfl, ?_⟩
                              refine wkV_of_eq ?_
                              simp only [retV]
                              all_goals
                                first
                                  | (exfalso
                                     have := hall i k (by omega) (by omega) (by unfold ov; omega)
                                     omega)
                                  | (exfalso
                                     have := c2.2 (tch_end (by omega) hex)
                                     simp_all; done)
                                  | (simp; done)
                          · try simp only [decide_eq_true_eq, decide_eq_false_iff_not, Bool.not_eq_true', Bool.not_eq_false', Bool.not_true, Bool.not_false, beq_iff_eq, bne_iff_ne, beq_eq_false_iff_ne, bne_eq_false_iff_eq, Bool.and_eq_true, Bool.or_eq_false_iff, Int.not_lt, Int.not_le, Nat.not_lt, Nat.not_le, ne_eq, Bool.true_eq_false, Bool.false_eq_true, reduceCtorEq] at h13
                            all_goals try (exfalso; omega)
                            all_goals
                              apply rgnS_pre 2
                              · repeat (simp -implicitDefEqProofs (maxSteps := 1000000) (disch := first | assumption | omega) [St.e, mx_ite, mn_ite, hadd, h1, h2, h3, h4, h6, h12, h13]; try simp only [List.getElem?_cons_zero, Option.getD_some, app_val])
                                rfl
                              refine hK _ ?_; clear hK
                              -- leaf 3
                              refine LWP_ret ⟨_, rfl, ?_⟩
                              refine wkV_of_eq ?_
                              simp only [retV]
                              all_goals
                                first
                                  | (exfalso
                                     have := hall i k (by omega) (by omega) (by unfold ov; omega)
                                     omega)
                                  | (exfalso
                                     have := c2.2 (tch_end (by omega) hex)
                                     simp_all; done)
                                  | (simp; done)
                      · try simp only [decide_eq_true_eq, decide_eq_false_iff_not, Bool.not_eq_true', Bool.not_eq_false', Bool.not_true, Bool.not_false, beq_iff_eq, bne_iff_ne, beq_eq_false_iff_ne, bne_eq_false_iff_eq, Bool.and_eq_true, Bool.or_eq_false_iff, Int.not_lt, Int.not_le, Nat.not_lt, Nat.not_le, ne_eq, Bool.true_eq_false, Bool.false_eq_true, reduceCtorEq] at h12
                        all_goals try (exfalso; omega)
                        all_goals
                          apply rgnS_pre 5
                          · repeat (simp -implicitDefEqProofs (maxSteps := 1000000) (disch := first | assumption | omega) [St.e, mx_ite, mn_ite, hadd, h1, h2, h3, h4, h6, h12]; try simp only [List.getElem?_cons_zero, Option.getD_some, app_val])
                            rfl
                          refine hK _ ?_; clear hK
                          -- leaf 4
                          refine LWP_ret ⟨_, rfl, ?_⟩
                          refine wkV_of_eq ?_
                          simp only [retV]
                          all_goals
                            first
                              | (exfalso
                                 have := hall i k (by omega) (by omega) (by unfold ov; omega)
                                 omega)
                              | (exfalso
                                 have := c2.2 (tch_end (by omega) hex)
                                 simp_all; done)
                              | (simp; done)
          · try simp only [decide_eq_true_eq, decide_eq_false_iff_not, Bool.not_eq_true', Bool.not_eq_false', Bool.not_true, Bool.not_false, beq_iff_eq, bne_iff_ne, beq_eq_false_iff_ne, bne_eq_false_iff_eq, Bool.and_eq_true, Bool.or_eq_false_iff, Int.not_lt, Int.not_le, Nat.not_lt, Nat.not_le, ne_eq, Bool.true_eq_false, Bool.false_eq_true, reduceCtorEq] at h3
            all_goals try (exfalso; omega)
            all_goals
              apply rgnS_pre 3
              · repeat (simp -implicitDefEqProofs (maxSteps := 1000000) (disch := first | assumption | omega) [St.e, mx_ite, mn_ite, hadd, h1, h2, h3]; try simp only [List.getElem?_cons_zero, Option.getD_some, app_val])
                rfl
              refine hK _ ?_; clear hK
              refine LWP_cond (t := true) (by simp [LArg.ev, get_e0, get_e1, h1, h2, h3]) (fun _ => ?_) (fun h => by cases h)
              refine LWP_seq ?_
              refine LWP_reg fun K hK => ?_
              refine rgnS_call (hsheads) rfl rfl (by simp [pureL, pureR, AV.pure, St.e, mx_ite, mn_ite]) (by simp [pureL, pureR, AV.pure, St.e, mx_ite, mn_ite]) (by simp [gd, get_e0, get_e1, LArg.ev, h1, h2, h3]) ?_
              apply rgnS_pre 1
              · repeat (simp -implicitDefEqProofs (maxSteps := 1000000) (disch := first | assumption | omega) [St.e, mx_ite, mn_ite, hadd, h1, h2, h3]; try simp only [List.getElem?_cons_zero, Option.getD_some, app_val])
                rfl
              refine hK _ ?_; clear hK
              -- leaf 5
              refine LWP_ret ⟨_, rfl, ?_⟩
              refine wkV_of_eq ?_
              simp only [retV]
              all_goals
                first
                  | (exfalso
                     have := hall i k (by omega) (by omega) (by unfold ov; omega)
                     omega)
                  | (exfalso
                     have := c2.2 (tch_end (by omega) hex)
                     simp_all; done)
                  | (simp; done)
      · try simp only [decide_eq_true_eq, decide_eq_false_iff_not, Bool.not_eq_true', Bool.not_eq_false', Bool.not_true, Bool.not_false, beq_iff_eq, bne_iff_ne, beq_eq_false_iff_ne, bne_eq_false_iff_eq, Bool.and_eq_true, Bool.or_eq_false_iff, Int.not_lt, Int.not_le, Nat.not_lt, Nat.not_le, ne_eq, Bool.true_eq_false, Bool.false_eq_true, reduceCtorEq] at h2
        all_goals try (exfalso; omega)
        all_goals
          apply rgnS_pre 8
          · repeat (simp -implicitDefEqProofs (maxSteps := 1000000) (disch := first | assumption | omega) [St.e, mx_ite, mn_ite, hadd, h1, h2]; try simp only [List.getElem?_cons_zero, Option.getD_some, app_val])
            rfl
          refine hK _ ?_; clear hK
          refine LWP_cond (t := true) (by simp [LArg.ev, get_e0, get_e1, h1, h2]) (fun _ => ?_) (fun h => by cases h)
          refine LWP_seq ?_
          refine LWP_reg fun K hK => ?_
          refine rgnS_call (hsheads) rfl rfl (by simp [pureL, pureR, AV.pure, St.e, mx_ite, mn_ite]) (by simp [pureL, pureR, AV.pure, St.e, mx_ite, mn_ite]) (by simp [gd, get_e0, get_e1, LArg.ev, h1, h2]) ?_
          apply rgnS_pre 1
          · repeat (simp -implicitDefEqProofs (maxSteps := 1000000) (disch := first | assumption | omega) [St.e, mx_ite, mn_ite, hadd, h1, h2]; try simp only [List.getElem?_cons_zero, Option.getD_some, app_val])
            rfl
          refine hK _ ?_; clear hK
          -- leaf 6
          refine LWP_ret ⟨_, rfl, ?_⟩
          refine wkV_of_eq ?_
          simp only [retV]
          all_goals
            first
              | (exfalso
                 have := hall i k (by omega) (by omega) (by unfold ov; omega)
                 omega)
              | (exfalso
                 have := c2.2 (tch_end (by omega) hex)
                 simp_all; done)
              | (simp; done)
  · try simp only [decide_eq_true_eq, decide_eq_false_iff_not, Bool.not_eq_true', Bool.not_eq_false', Bool.not_true, Bool.not_false, beq_iff_eq, bne_iff_ne, beq_eq_false_iff_ne, bne_eq_false_iff_eq, Bool.and_eq_true, Bool.or_eq_false_iff, Int.not_lt, Int.not_le, Nat.not_lt, Nat.not_le, ne_eq, Bool.true_eq_false, Bool.false_eq_true, reduceCtorEq] at h1
    all_goals try (exfalso; omega)
    all_goals
      apply rgnS_pre 8
      · repeat (simp -implicitDefEqProofs (maxSteps := 1000000) (disch := first | assumption | omega) [St.e, mx_ite, mn_ite, hadd, h1]; try simp only [List.getElem?_cons_zero, Option.getD_some, app_val])
        rfl
      apply rgnS_pre 5
      · repeat (simp -implicitDefEqProofs (maxSteps := 1000000) (disch := first | assumption | omega) [St.e, mx_ite, mn_ite, hadd, h1]; try simp only [List.getElem?_cons_zero, Option.getD_some, app_val])
        rfl
      refine hK _ ?_; clear hK
      refine LWP_cond (t := true) (by simp [LArg.ev, get_e0, get_e1, h1]) (fun _ => ?_) (fun h => by cases h)
      refine LWP_seq ?_
      refine LWP_reg fun K hK => ?_
      refine rgnS_call (hsheads) rfl rfl (by simp [pureL, pureR, AV.pure, St.e, mx_ite, mn_ite]) (by simp [pureL, pureR, AV.pure, St.e, mx_ite, mn_ite]) (by simp [gd, get_e0, get_e1, LArg.ev, h1]) ?_
      apply rgnS_pre 1
      · repeat (simp -implicitDefEqProofs (maxSteps := 1000000) (disch := first | assumption | omega) [St.e, mx_ite, mn_ite, hadd, h1]; try simp only [List.getElem?_cons_zero, Option.getD_some, app_val])
        rfl
      refine hK _ ?_; clear hK
      -- leaf 7
      refine LWP_ret ⟨_, rfl, ?_⟩
      refine wkV_of_eq ?_
      simp only [retV]
      all_goals
        first
          | (exfalso
             have := hall i k (by omega) (by omega) (by unfold ov; omega)
             omega)
          | (exfalso
             have := c2.2 (tch_end (by omega) hex)
             simp_all; done)
          | (simp; done)
end

end Go.AM.Sk
