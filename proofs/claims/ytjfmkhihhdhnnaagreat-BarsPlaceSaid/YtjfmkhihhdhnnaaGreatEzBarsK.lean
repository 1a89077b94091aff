/- A part of a proof about the given program: what its name says. No premise beyond the statements'. -/
import Derived.Test.YtjfmkhihhdhnnaaGreatEzBarsJ
set_option linter.unusedSimpArgs false
set_option linter.unusedVariables false
/- Which bar a time is in. -/
namespace Go.AM.Ez
open Go.AM
theorem pureR_br (bs : List Br) : pureR (bs.map Br.e) = true := by
  induction bs with
  | nil => simp [pureR]
  | cons b r ih => simp [pureR, Br.e, barE, pureL, AV.pure, ih]
def Br.good (b : Br) : Prop := okR b.x ∧ mOk b.n b.d = true ∧ okR (b.x + mkRat b.n b.d)
def idxB (bs : List Br) (t : Rat) (pos : Nat) (l : Br) : Int := if (∃ b, bs[pos]? = some b ∧ b.x = t) then (pos : Int) else if pos = bs.length ∧ l.x + mkRat l.n l.d ≤ t then (pos : Int) else (pos : Int) - 1

section
attribute [local simp ↓] List.map_nil List.map_cons
attribute [local simp] m_ o_ g_ stepsS stepS gd opEff appEff LArg.ev app_val app_new app_upd app_kill putV ins_e0 ins_e1 get_e0 get_e1 binV binI grd bnd ldCells AV.cells AV.scalar AV.known setAt fillL chunks elems mxI mnI del Nat.add_assoc nlt_self nne_self nne_self' List.take_of_length_le decT decF wrap_i64 stepsD stepD ST.as dEffF LOp.cls softOK LOp.args LOp.rds AV.ids appD_val appD_new appD_upd appD_kill AS.flush delAll
set_option maxHeartbeats 2000000 in
theorem indexB_ok (bs : List Br) (t : Rat) (pos : Nat)  (hl : bs.length < 1000) (hm : 0 < bs.length) (ht : okR t) (hb : ∀ b ∈ bs, Br.good b) (hp : pos ≤ bs.length) (hs : ∀ (k : Nat) (h : k < bs.length), k < pos ↔ bs[k].x < t) : ACalls Go.Proofs.Tryz.prog 23 [.tsl 4 (bs.map Br.e), .agg (qR t).e] [] 0 (fun r _ _ => r = .int .i64 (idxB bs t pos (bs[bs.length - 1]'(by omega)))) := by
  refine pure_body ok23 rfl ?_
  simp only [parV]
  have C1 := bsf_ok bs t pos hl ht (fun b h => (hb b h).1) hp hs
  have gm := hb (bs[bs.length - 1]'(by omega)) (List.getElem_mem _)
  have C2 := end_R (bs[bs.length - 1]'(by omega)).x (bs[bs.length - 1]'(by omega)).n (bs[bs.length - 1]'(by omega)).d gm.1 gm.2.1
  rw [fR_ok gm.2.2] at C2
  have C3 := cmp_R ((bs[bs.length - 1]'(by omega)).x + mkRat (bs[bs.length - 1]'(by omega)).n (bs[bs.length - 1]'(by omega)).d) t gm.2.2 ht
  simp only [Q.e, qR, barE] at C1 C2 C3
  refine LWP_seq ?_
  apply LWP_run
  · repeat (simp -implicitDefEqProofs (maxSteps := 1000000) (disch := first | assumption | omega) [Q.e, qR, Br.e, barE, beqF, beqT]; try simp only [List.getElem?_cons_zero, Option.getD_some, app_val])
    rfl
  refine LWP_seq ?_
  refine LWP_reg fun K hK => ?_
  apply rgnS_pre 2
  · repeat (simp -implicitDefEqProofs (maxSteps := 1000000) (disch := first | assumption | omega) [Q.e, qR, Br.e, barE, beqF, beqT]; try simp only [List.getElem?_cons_zero, Option.getD_some, app_val])
    rfl
  refine rgnS_call (C1) rfl rfl (by simp [pureL, pureR, AV.pure, Q.e, qR, Br.e, barE, pureR_br]) (by simp [pureL, pureR, AV.pure, Q.e, qR, Br.e, barE, pureR_br]) (by simp [gd, get_e0, get_e1, LArg.ev]) ?_
  apply rgnS_pre 5
  · repeat (simp -implicitDefEqProofs (maxSteps := 1000000) (disch := first | assumption | omega) [Q.e, qR, Br.e, barE, beqF, beqT]; try simp only [List.getElem?_cons_zero, Option.getD_some, app_val])
    rfl
  refine hK _ ?_; clear hK
  refine LWP_seq ?_
  refine LWP_seq ?_
  apply LWP_run
  · repeat (simp -implicitDefEqProofs (maxSteps := 1000000) (disch := first | assumption | omega) [Q.e, qR, Br.e, barE, beqF, beqT]; try simp only [List.getElem?_cons_zero, Option.getD_some, app_val])
    rfl
  refine LWP_cond rfl (fun h1 => ?_) (fun h1 => ?_)
  · try simp only [decide_eq_true_eq, decide_eq_false_iff_not, Bool.not_eq_true', Bool.not_eq_false', Bool.not_true, Bool.not_false, beq_iff_eq, bne_iff_ne, beq_eq_false_iff_ne, bne_eq_false_iff_eq, Bool.and_eq_true, Bool.or_eq_false_iff, Int.not_lt, Int.not_le, Nat.not_lt, Nat.not_le, ne_eq, Bool.true_eq_false, Bool.false_eq_true, reduceCtorEq] at h1
    all_goals try (exfalso; omega)
    all_goals
      refine LWP_seq ?_
      apply LWP_run
      · repeat (simp -implicitDefEqProofs (maxSteps := 1000000) (disch := first | assumption | omega) [Q.e, qR, Br.e, barE, beqF, beqT, h1]; try simp only [List.getElem?_cons_zero, Option.getD_some, app_val])
        rfl
      -- leaf 0
      refine LWP_ret ⟨_, rfl, ?_⟩
      refine wkV_of_eq ?_
      simp only [retV]
      all_goals
        congr 1
        simp only [idxB]
        first
          | (rw [if_pos (by assumption)] <;> omega)
          | (rw [if_neg (by assumption), if_pos ⟨by omega, cmpR_le.1 (by omega)⟩] <;> omega)
          | (rw [if_neg (by assumption), if_neg (fun h => by have h1 := h.1; have h2 := cmpR_le.2 h.2; omega)] <;> omega)
  · try simp only [decide_eq_true_eq, decide_eq_false_iff_not, Bool.not_eq_true', Bool.not_eq_false', Bool.not_true, Bool.not_false, beq_iff_eq, bne_iff_ne, beq_eq_false_iff_ne, bne_eq_false_iff_eq, Bool.and_eq_true, Bool.or_eq_false_iff, Int.not_lt, Int.not_le, Nat.not_lt, Nat.not_le, ne_eq, Bool.true_eq_false, Bool.false_eq_true, reduceCtorEq] at h1
    all_goals try (exfalso; omega)
    all_goals
      refine LWP_skip ?_
      refine LWP_seq ?_
      refine LWP_seq ?_
      refine LWP_regD' fun K hK => ?_
      apply rgnD_pre 5
      · repeat (simp -implicitDefEqProofs (maxSteps := 1000000) (disch := first | assumption | omega) [Q.e, qR, Br.e, barE, beqF, beqT, h1]; try simp only [List.getElem?_cons_zero, Option.getD_some, app_val])
        rfl
      refine rgnD_guard (x := 19) (b := true) rfl (fun h2 => ?_) (fun h2 => ?_)
      · try simp only [decide_eq_true_eq, decide_eq_false_iff_not, Bool.not_eq_true', Bool.not_eq_false', Bool.not_true, Bool.not_false, beq_iff_eq, bne_iff_ne, beq_eq_false_iff_ne, bne_eq_false_iff_eq, Bool.and_eq_true, Bool.or_eq_false_iff, Int.not_lt, Int.not_le, Nat.not_lt, Nat.not_le, ne_eq, Bool.true_eq_false, Bool.false_eq_true, reduceCtorEq] at h2
        all_goals try (exfalso; omega)
        all_goals
          apply rgnD_pre 5
          · repeat (simp -implicitDefEqProofs (maxSteps := 1000000) (disch := first | assumption | omega) [Q.e, qR, Br.e, barE, beqF, beqT, h1, h2]; try simp only [List.getElem?_cons_zero, Option.getD_some, app_val])
            rfl
          refine rgnD_call (C2) rfl rfl (by simp [pureL, pureR, AV.pure, Q.e, qR, Br.e, barE]) (by simp [pureL, pureR, AV.pure, Q.e, qR, Br.e, barE]) (by simp [gd, get_e0, get_e1, LArg.ev, h1, h2]) (by simp (maxSteps := 1000000) (disch := first | assumption | omega) [Q.e, qR, Br.e, barE, beqF, beqT]) ?_
          apply rgnD_pre 1
          · repeat (simp -implicitDefEqProofs (maxSteps := 1000000) (disch := first | assumption | omega) [Q.e, qR, Br.e, barE, beqF, beqT, h1, h2]; try simp only [List.getElem?_cons_zero, Option.getD_some, app_val])
            rfl
          refine rgnD_call (C3) rfl rfl (by simp [pureL, pureR, AV.pure, Q.e, qR, Br.e, barE]) (by simp [pureL, pureR, AV.pure, Q.e, qR, Br.e, barE]) (by simp [gd, get_e0, get_e1, LArg.ev, h1, h2]) (by simp (maxSteps := 1000000) (disch := first | assumption | omega) [Q.e, qR, Br.e, barE, beqF, beqT]) ?_
          apply rgnD_pre 2
          · repeat (simp -implicitDefEqProofs (maxSteps := 1000000) (disch := first | assumption | omega) [Q.e, qR, Br.e, barE, beqF, beqT, h1, h2]; try simp only [List.getElem?_cons_zero, Option.getD_some, app_val])
            rfl
          refine hK _ _ (by simp [AS.fin, delAll, del, Nat.add_assoc]; rfl) ?_; clear hK
          refine LWP_cond rfl (fun h3 => ?_) (fun h3 => ?_)
          · try simp only [decide_eq_true_eq, decide_eq_false_iff_not, Bool.not_eq_true', Bool.not_eq_false', Bool.not_true, Bool.not_false, beq_iff_eq, bne_iff_ne, beq_eq_false_iff_ne, bne_eq_false_iff_eq, Bool.and_eq_true, Bool.or_eq_false_iff, Int.not_lt, Int.not_le, Nat.not_lt, Nat.not_le, ne_eq, Bool.true_eq_false, Bool.false_eq_true, reduceCtorEq] at h3
            all_goals try (exfalso; omega)
            all_goals
              refine LWP_seq ?_
              apply LWP_run
              · repeat (simp -implicitDefEqProofs (maxSteps := 1000000) (disch := first | assumption | omega) [Q.e, qR, Br.e, barE, beqF, beqT, h1, h2, h3]; try simp only [List.getElem?_cons_zero, Option.getD_some, app_val])
                rfl
              -- leaf 1
              refine LWP_ret ⟨_, rfl, ?_⟩
              refine wkV_of_eq ?_
              simp only [retV]
              all_goals
                congr 1
                simp only [idxB]
                first
                  | (rw [if_pos (by assumption)] <;> omega)
                  | (rw [if_neg (by assumption), if_pos ⟨by omega, cmpR_le.1 (by omega)⟩] <;> omega)
                  | (rw [if_neg (by assumption), if_neg (fun h => by have h1 := h.1; have h2 := cmpR_le.2 h.2; omega)] <;> omega)
          · try simp only [decide_eq_true_eq, decide_eq_false_iff_not, Bool.not_eq_true', Bool.not_eq_false', Bool.not_true, Bool.not_false, beq_iff_eq, bne_iff_ne, beq_eq_false_iff_ne, bne_eq_false_iff_eq, Bool.and_eq_true, Bool.or_eq_false_iff, Int.not_lt, Int.not_le, Nat.not_lt, Nat.not_le, ne_eq, Bool.true_eq_false, Bool.false_eq_true, reduceCtorEq] at h3
            all_goals try (exfalso; omega)
            all_goals
              refine LWP_skip ?_
              refine LWP_seq ?_
              apply LWP_run
              · repeat (simp -implicitDefEqProofs (maxSteps := 1000000) (disch := first | assumption | omega) [Q.e, qR, Br.e, barE, beqF, beqT, h1, h2, h3]; try simp only [List.getElem?_cons_zero, Option.getD_some, app_val])
                rfl
              -- leaf 2
              refine LWP_ret ⟨_, rfl, ?_⟩
              refine wkV_of_eq ?_
              simp only [retV]
              all_goals
                congr 1
                simp only [idxB]
                first
                  | (rw [if_pos (by assumption)] <;> omega)
                  | (rw [if_neg (by assumption), if_pos ⟨by omega, cmpR_le.1 (by omega)⟩] <;> omega)
                  | (rw [if_neg (by assumption), if_neg (fun h => by have h1 := h.1; have h2 := cmpR_le.2 h.2; omega)] <;> omega)
      · try simp only [decide_eq_true_eq, decide_eq_false_iff_not, Bool.not_eq_true', Bool.not_eq_false', Bool.not_true, Bool.not_false, beq_iff_eq, bne_iff_ne, beq_eq_false_iff_ne, bne_eq_false_iff_eq, Bool.and_eq_true, Bool.or_eq_false_iff, Int.not_lt, Int.not_le, Nat.not_lt, Nat.not_le, ne_eq, Bool.true_eq_false, Bool.false_eq_true, reduceCtorEq] at h2
        all_goals try (exfalso; omega)
        all_goals
          apply rgnD_pre 8
          · repeat (simp -implicitDefEqProofs (maxSteps := 1000000) (disch := first | assumption | omega) [Q.e, qR, Br.e, barE, beqF, beqT, h1, h2]; try simp only [List.getElem?_cons_zero, Option.getD_some, app_val])
            rfl
          apply rgnD_pre 1
          · repeat (simp -implicitDefEqProofs (maxSteps := 1000000) (disch := first | assumption | omega) [Q.e, qR, Br.e, barE, beqF, beqT, h1, h2]; try simp only [List.getElem?_cons_zero, Option.getD_some, app_val])
            rfl
          refine hK _ _ (by simp [AS.fin, delAll, del, Nat.add_assoc]; rfl) ?_; clear hK
          refine LWP_cond (t := false) (by simp [LArg.ev, get_e0, get_e1, h1, h2]) (fun h => by cases h) (fun _ => ?_)
          refine LWP_skip ?_
          refine LWP_seq ?_
          apply LWP_run
          · repeat (simp -implicitDefEqProofs (maxSteps := 1000000) (disch := first | assumption | omega) [Q.e, qR, Br.e, barE, beqF, beqT, h1, h2]; try simp only [List.getElem?_cons_zero, Option.getD_some, app_val])
            rfl
          -- leaf 3
          refine LWP_ret ⟨_, rfl, ?_⟩
          refine wkV_of_eq ?_
          simp only [retV]
          all_goals
            congr 1
            simp only [idxB]
            first
              | (rw [if_pos (by assumption)] <;> omega)
              | (rw [if_neg (by assumption), if_pos ⟨by omega, cmpR_le.1 (by omega)⟩] <;> omega)
              | (rw [if_neg (by assumption), if_neg (fun h => by have h1 := h.1; have h2 := cmpR_le.2 h.2; omega)] <;> omega)
end

end Go.AM.Ez
