/- A part of a proof about the given program: what its name says. No premise beyond the statements'. -/
import Derived.Test.YtjfmkhihhdhnnaaGreatEzBarsI
set_option linter.unusedSimpArgs false
set_option linter.unusedVariables false
/- The search for a time among bars. -/
namespace Go.AM.Ez
open Go.AM
theorem half (i j : Nat) (h : i + j < 2000) : (IntKind.wrap .u64 ((i : Int) + (j : Int))).fdiv (2 ^ min 1 (IntKind.bits .u64)) = (((i + j) / 2 : Nat) : Int) := by
  have e1 : IntKind.wrap .u64 ((i : Int) + (j : Int)) = ((i + j : Nat) : Int) := by
    simp [IntKind.wrap, IntKind.bits, IntKind.signed]
    omega
  rw [e1]
  have e2 : ((2 : Int) ^ min 1 (IntKind.bits .u64)) = 2 := rfl
  rw [e2, Int.fdiv_eq_ediv_of_nonneg _ (by omega)]
  rfl

section
attribute [local simp ↓] List.map_nil List.map_cons
attribute [local simp] m_ o_ g_ stepsS stepS gd opEff appEff LArg.ev app_val app_new app_upd app_kill putV ins_e0 ins_e1 get_e0 get_e1 binV binI grd bnd ldCells AV.cells AV.scalar AV.known setAt fillL chunks elems mxI mnI del Nat.add_assoc nlt_self nne_self nne_self' List.take_of_length_le decT decF wrap_i64 stepsD stepD ST.as dEffF LOp.cls softOK LOp.args LOp.rds AV.ids appD_val appD_new appD_upd appD_kill AS.flush delAll
set_option maxHeartbeats 2000000 in
theorem bsf_ok (bs : List Br) (t : Rat) (pos : Nat) (hl : bs.length < 1000) (ht : okR t) (hb : ∀ b ∈ bs, okR b.x) (hp : pos ≤ bs.length) (hs : ∀ (k : Nat) (h : k < bs.length), k < pos ↔ bs[k].x < t) : ACalls Go.Proofs.Tryz.prog 65 [.tsl 4 (bs.map Br.e), .agg (qR t).e, .fn 66 [] []] [] 0 (fun r _ _ => r = .tup [.int .i64 (pos : Nat), .bool (decide (∃ b, bs[pos]? = some b ∧ b.x = t))]) := by
  refine pure_body ok65 rfl ?_
  simp only [parV]
  refine LWP_seq ?_
  apply LWP_run
  · repeat (simp -implicitDefEqProofs (maxSteps := 1000000) (disch := first | assumption | omega) [Q.e, qR, Br.e, barE, half]; try simp only [List.getElem?_cons_zero, Option.getD_some, app_val])
    rfl
  refine LWP_seq ?_
  apply LWP_run
  · repeat (simp -implicitDefEqProofs (maxSteps := 1000000) (disch := first | assumption | omega) [Q.e, qR, Br.e, barE, half]; try simp only [List.getElem?_cons_zero, Option.getD_some, app_val])
    rfl
  refine LWP_seq ?_
  apply LWP_run
  · repeat (simp -implicitDefEqProofs (maxSteps := 1000000) (disch := first | assumption | omega) [Q.e, qR, Br.e, barE, half]; try simp only [List.getElem?_cons_zero, Option.getD_some, app_val])
    rfl
  refine LWP_seq ?_
  refine LWP_block ?_
  refine LWP_for (fun (p : Nat × Nat) => [(0, .tsl 4 (bs.map Br.e)), (2, .fn 66 [] []), (4, .ptr 2 0 0 0), (8, .int .i64 (bs.length : Nat)), (9, .int .i64 (p.1 : Nat)), (10, .int .i64 (p.2 : Nat))]) (fun (p : Nat × Nat) => [(0, Blk.rows 2 [(qR t).e])]) (fun (p : Nat × Nat) n => 1 ≤ n ∧ p.1 ≤ pos ∧ pos ≤ p.2 ∧ p.2 ≤ bs.length) (fun (p : Nat × Nat) => p.2 - p.1) (0, bs.length) ?_ ?_ ?_ ?_
  · simp (maxSteps := 1000000) (disch := first | assumption | omega) [leV, get_e0, get_e1, wkV.refl, wkV_int, decT, decF, Q.e, qR, Br.e, barE, half]
  · simp [leH, get_e0, get_e1]
    rfl
  · exact ⟨Nat.le_refl 1, by omega, by omega, by omega⟩
  rintro ⟨i, j⟩ n ⟨c0, c1, c2, c3⟩
  simp only at c0 c1 c2 c3
  refine LWP_seq ?_
  refine LWP_seq ?_
  apply LWP_run
  · repeat (simp -implicitDefEqProofs (maxSteps := 1000000) (disch := first | assumption | omega) [Q.e, qR, Br.e, barE, half]; try simp only [List.getElem?_cons_zero, Option.getD_some, app_val])
    rfl
  refine LWP_cond rfl (fun h2 => ?_) (fun h2 => ?_)
  · try simp only [decide_eq_true_eq, decide_eq_false_iff_not, Bool.not_eq_true', Bool.not_eq_false', Bool.not_true, Bool.not_false, beq_iff_eq, bne_iff_ne, beq_eq_false_iff_ne, bne_eq_false_iff_eq, Bool.and_eq_true, Bool.or_eq_false_iff, Int.not_lt, Int.not_le, Nat.not_lt, Nat.not_le, ne_eq, Bool.true_eq_false, Bool.false_eq_true, reduceCtorEq] at h2
    all_goals try (exfalso; omega)
    all_goals
      refine LWP_skip ?_
      refine LWP_block ?_
      refine LWP_seq ?_
      apply LWP_run
      · repeat (simp -implicitDefEqProofs (maxSteps := 1000000) (disch := first | assumption | omega) [Q.e, qR, Br.e, barE, half, h2]; try simp only [List.getElem?_cons_zero, Option.getD_some, app_val])
        rfl
      refine LWP_seq ?_
      refine LWP_regD' fun K hK => ?_
      apply rgnD_pre 6
      · repeat (simp -implicitDefEqProofs (maxSteps := 1000000) (disch := first | assumption | omega) [Q.e, qR, Br.e, barE, half, h2]; try simp only [List.getElem?_cons_zero, Option.getD_some, app_val])
        rfl
      refine rgnD_call (cmpb_ok (bs[(i+j)/2]'(by omega)).x t (bs[(i+j)/2]'(by omega)).n (bs[(i+j)/2]'(by omega)).d (hb _ (List.getElem_mem _)) ht) rfl rfl (by simp [pureL, pureR, AV.pure, Q.e, qR, Br.e, barE]) (by simp [pureL, pureR, AV.pure, Q.e, qR, Br.e, barE]) (by simp [gd, get_e0, get_e1, LArg.ev, h2]) (by simp (maxSteps := 1000000) (disch := first | assumption | omega) [Q.e, qR, Br.e, barE, half]) ?_
      apply rgnD_pre 1
      · repeat (simp -implicitDefEqProofs (maxSteps := 1000000) (disch := first | assumption | omega) [Q.e, qR, Br.e, barE, half, h2]; try simp only [List.getElem?_cons_zero, Option.getD_some, app_val])
        rfl
      refine hK _ _ (by simp [AS.fin, delAll, del, Nat.add_assoc]; rfl) ?_; clear hK
      refine LWP_cond rfl (fun h3 => ?_) (fun h3 => ?_)
      · try simp only [decide_eq_true_eq, decide_eq_false_iff_not, Bool.not_eq_true', Bool.not_eq_false', Bool.not_true, Bool.not_false, beq_iff_eq, bne_iff_ne, beq_eq_false_iff_ne, bne_eq_false_iff_eq, Bool.and_eq_true, Bool.or_eq_false_iff, Int.not_lt, Int.not_le, Nat.not_lt, Nat.not_le, ne_eq, Bool.true_eq_false, Bool.false_eq_true, reduceCtorEq] at h3
        all_goals try (exfalso; omega)
        all_goals
          apply LWP_run
          · repeat (simp -implicitDefEqProofs (maxSteps := 1000000) (disch := first | assumption | omega) [Q.e, qR, Br.e, barE, half, h2, h3]; try simp only [List.getElem?_cons_zero, Option.getD_some, app_val])
            rfl
          -- loop 0, round 0
          refine ⟨((i + j) / 2 + 1, j), ?_, ?_, ?_, ?_⟩
          · have hm := (hs ((i + j) / 2) (by omega)).2 (cmpR_lt.1 (by assumption))
            exact ⟨by simp only; omega, by simp only; omega, by simp only; omega, by simp only; omega⟩
          · omega
          · simp (maxSteps := 1000000) (disch := first | assumption | omega) [leV, get_e0, get_e1, wkV.refl, wkV_int, wrap_i64, decT, decF, Q.e, qR, Br.e, barE, half, h2, h3]
          · simp [leH, get_e0, get_e1, h2, h3]
            try rfl
      · try simp only [decide_eq_true_eq, decide_eq_false_iff_not, Bool.not_eq_true', Bool.not_eq_false', Bool.not_true, Bool.not_false, beq_iff_eq, bne_iff_ne, beq_eq_false_iff_ne, bne_eq_false_iff_eq, Bool.and_eq_true, Bool.or_eq_false_iff, Int.not_lt, Int.not_le, Nat.not_lt, Nat.not_le, ne_eq, Bool.true_eq_false, Bool.false_eq_true, reduceCtorEq] at h3
        all_goals try (exfalso; omega)
        all_goals
          apply LWP_run
          · repeat (simp -implicitDefEqProofs (maxSteps := 1000000) (disch := first | assumption | omega) [Q.e, qR, Br.e, barE, half, h2, h3]; try simp only [List.getElem?_cons_zero, Option.getD_some, app_val])
            rfl
          -- loop 0, round 1
          refine ⟨(i, (i + j) / 2), ?_, ?_, ?_, ?_⟩
          · have hm : ¬ (i + j) / 2 < pos := fun q => by
              have := cmpR_lt.2 ((hs _ (by omega)).1 q)
              omega
            exact ⟨by simp only; omega, by simp only; omega, by simp only; omega, by simp only; omega⟩
          · omega
          · simp (maxSteps := 1000000) (disch := first | assumption | omega) [leV, get_e0, get_e1, wkV.refl, wkV_int, wrap_i64, decT, decF, Q.e, qR, Br.e, barE, half, h2, h3]
          · simp [leH, get_e0, get_e1, h2, h3]
            try rfl
  · try simp only [decide_eq_true_eq, decide_eq_false_iff_not, Bool.not_eq_true', Bool.not_eq_false', Bool.not_true, Bool.not_false, beq_iff_eq, bne_iff_ne, beq_eq_false_iff_ne, bne_eq_false_iff_eq, Bool.and_eq_true, Bool.or_eq_false_iff, Int.not_lt, Int.not_le, Nat.not_lt, Nat.not_le, ne_eq, Bool.true_eq_false, Bool.false_eq_true, reduceCtorEq] at h2
    all_goals try (exfalso; omega)
    all_goals
      refine LWP_exit ?_
      refine LWP_seq ?_
      refine LWP_regD' fun K hK => ?_
      apply rgnD_pre 5
      · repeat (simp -implicitDefEqProofs (maxSteps := 1000000) (disch := first | assumption | omega) [Q.e, qR, Br.e, barE, half, h2]; try simp only [List.getElem?_cons_zero, Option.getD_some, app_val])
        rfl
      refine rgnD_guard (x := 39) (b := true) rfl (fun h4 => ?_) (fun h4 => ?_)
      · try simp only [decide_eq_true_eq, decide_eq_false_iff_not, Bool.not_eq_true', Bool.not_eq_false', Bool.not_true, Bool.not_false, beq_iff_eq, bne_iff_ne, beq_eq_false_iff_ne, bne_eq_false_iff_eq, Bool.and_eq_true, Bool.or_eq_false_iff, Int.not_lt, Int.not_le, Nat.not_lt, Nat.not_le, ne_eq, Bool.true_eq_false, Bool.false_eq_true, reduceCtorEq] at h4
        all_goals try (exfalso; omega)
        all_goals
          apply rgnD_pre 6
          · repeat (simp -implicitDefEqProofs (maxSteps := 1000000) (disch := first | assumption | omega) [Q.e, qR, Br.e, barE, half, h2, h4]; try simp only [List.getElem?_cons_zero, Option.getD_some, app_val])
            rfl
          refine rgnD_call (cmpb_ok (bs[i]'(by omega)).x t (bs[i]'(by omega)).n (bs[i]'(by omega)).d (hb _ (List.getElem_mem _)) ht) rfl rfl (by simp [pureL, pureR, AV.pure, Q.e, qR, Br.e, barE]) (by simp [pureL, pureR, AV.pure, Q.e, qR, Br.e, barE]) (by simp [gd, get_e0, get_e1, LArg.ev, h2, h4]) (by simp (maxSteps := 1000000) (disch := first | assumption | omega) [Q.e, qR, Br.e, barE, half]) ?_
          apply rgnD_pre 4
          · repeat (simp -implicitDefEqProofs (maxSteps := 1000000) (disch := first | assumption | omega) [Q.e, qR, Br.e, barE, half, h2, h4]; try simp only [List.getElem?_cons_zero, Option.getD_some, app_val])
            rfl
          refine hK _ _ (by simp [AS.fin, delAll, del, Nat.add_assoc]; rfl) ?_; clear hK
          -- leaf 0
          refine LWP_ret ⟨_, rfl, ?_⟩
          refine wkV_of_eq ?_
          simp only [retV]
          all_goals
            have e : i = pos := by omega
            subst e
            first
              | (have hi : i < bs.length := by omega
                 have hq : (cmpR (bs[i]'hi).x t == 0) = decide (∃ b, bs[i]? = some b ∧ b.x = t) := by
                   rw [Bool.eq_iff_iff, beq_iff_eq, cmpR_eq, decide_eq_true_eq]
                   exact ⟨fun h => ⟨_, List.getElem?_eq_getElem hi, h⟩, fun ⟨b, h1, h2⟩ => by rw [List.getElem?_eq_getElem hi] at h1; cases h1; exact h2⟩
                 rw [hq]; done)
              | (have hi : bs.length ≤ i := by omega
                 have hq : decide (∃ b, bs[i]? = some b ∧ b.x = t) = false := by
                   rw [decide_eq_false_iff_not]
                   rintro ⟨b, h1, h2⟩
                   rw [List.getElem?_eq_none hi] at h1
                   cases h1
                 rw [hq]; done)
      · try simp only [decide_eq_true_eq, decide_eq_false_iff_not, Bool.not_eq_true', Bool.not_eq_false', Bool.not_true, Bool.not_false, beq_iff_eq, bne_iff_ne, beq_eq_false_iff_ne, bne_eq_false_iff_eq, Bool.and_eq_true, Bool.or_eq_false_iff, Int.not_lt, Int.not_le, Nat.not_lt, Nat.not_le, ne_eq, Bool.true_eq_false, Bool.false_eq_true, reduceCtorEq] at h4
        all_goals try (exfalso; omega)
        all_goals
          apply rgnD_pre 8
          · repeat (simp -implicitDefEqProofs (maxSteps := 1000000) (disch := first | assumption | omega) [Q.e, qR, Br.e, barE, half, h2, h4]; try simp only [List.getElem?_cons_zero, Option.getD_some, app_val])
            rfl
          apply rgnD_pre 2
          · repeat (simp -implicitDefEqProofs (maxSteps := 1000000) (disch := first | assumption | omega) [Q.e, qR, Br.e, barE, half, h2, h4]; try simp only [List.getElem?_cons_zero, Option.getD_some, app_val])
            rfl
          refine hK _ _ (by simp [AS.fin, delAll, del, Nat.add_assoc]; rfl) ?_; clear hK
          -- leaf 1
          refine LWP_ret ⟨_, rfl, ?_⟩
          refine wkV_of_eq ?_
          simp only [retV]
          all_goals
            have e : i = pos := by omega
            subst e
            first
              | (have hi : i < bs.length := by omega
                 have hq : (cmpR (bs[i]'hi).x t == 0) = decide (∃ b, bs[i]? = some b ∧ b.x = t) := by
                   rw [Bool.eq_iff_iff, beq_iff_eq, cmpR_eq, decide_eq_true_eq]
                   exact ⟨fun h => ⟨_, List.getElem?_eq_getElem hi, h⟩, fun ⟨b, h1, h2⟩ => by rw [List.getElem?_eq_getElem hi] at h1; cases h1; exact h2⟩
                 rw [hq]; done)
              | (have hi : bs.length ≤ i := by omega
                 have hq : decide (∃ b, bs[i]? = some b ∧ b.x = t) = false := by
                   rw [decide_eq_false_iff_not]
                   rintro ⟨b, h1, h2⟩
                   rw [List.getElem?_eq_none hi] at h1
                   cases h1
                 rw [hq]; done)
end

end Go.AM.Ez
