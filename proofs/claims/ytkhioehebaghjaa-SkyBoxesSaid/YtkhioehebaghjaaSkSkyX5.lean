/- A part of a proof about the given program: what its name says. No premise beyond the statements'. -/
import Derived.Test.YtkhioehebaghjaaSkSkyX4
import Derived.Test.YtkhioehebaghjaaSkSkyV0
import Derived.Test.YtkhioehebaghjaaSkSkySm
set_option linter.unusedSimpArgs false
set_option linter.unusedVariables false
/- The second opinion's boxes; the law on the skylines of boxes. -/
namespace Go.AM.Sk
open Go.AM
open Go.AM.SkyP
theorem stp_nil (hf : Bx → Int) : stp hf [] = [] := rfl
theorem bad_no {l : List Bx} {i : Nat} (ha : l.all bxB = true) (hi : i < l.length) (h : bxB (l[i]'hi) = false) : False := by
  have := List.all_eq_true.1 ha _ (List.getElem_mem hi)
  rw [h] at this; cases this
theorem steps_wrap {l : List Bx} {i : Nat} (hi : i < l.length) (h : bxB (l[i]'hi) = true) : IntKind.i64.wrap (-(l[i]'hi).y0) = -(l[i]'hi).y0 := bxB_y0 h

section
attribute [local simp ↓] List.map_nil List.map_cons
attribute [local simp] m_ o_ g_ stepsS stepS gd opEff appEff LArg.ev app_val app_new app_upd app_kill putV ins_e0 ins_e1 get_e0 get_e1 binV binI grd bnd ldCells AV.cells AV.scalar AV.known setAt fillL chunks elems mxI mnI del Nat.add_assoc nlt_self nne_self nne_self' List.take_of_length_le decT decF wrap_i64 stepsD stepD ST.as dEffF LOp.cls softOK LOp.args LOp.rds AV.ids appD_val appD_new appD_upd appD_kill AS.flush delAll
set_option maxHeartbeats 2000000 in
set_option maxRecDepth 20000 in
theorem rok_ok (x : Int)  : ACalls Go.Proofs.Try.prog 33 [.int .i64 x] [] 0 (fun r _ _ => r = .bool (okF x)) := by
  refine pure_body ok33 rfl ?_
  simp only [parV]
  refine LWP_seq ?_
  apply LWP_run
  · repeat (simp -implicitDefEqProofs (maxSteps := 1000000) (disch := first | assumption | omega) []; try simp only [gz])
    rfl
  refine LWP_seq ?_
  refine LWP_reg fun K hK => ?_
  apply rgnS_pre 3
  · repeat (simp -implicitDefEqProofs (maxSteps := 1000000) (disch := first | assumption | omega) []; try simp only [gz])
    rfl
  refine rgnS_guard (x := 5) (b := true) rfl (fun h1 => ?_) (fun h1 => ?_)
  · try simp only [bn, reduceCtorEq] at h1
    all_goals try (exfalso; omega)
    all_goals
      apply rgnS_pre 4
      · repeat (simp -implicitDefEqProofs (maxSteps := 1000000) (disch := first | assumption | omega) [h1]; try simp only [gz])
        rfl
      refine hK _ ?_; clear hK
      -- leaf 0
      refine LWP_ret ⟨_, rfl, ?_⟩
      refine wkV_of_eq ?_
      simp only [retV]
      all_goals
        simp only [okF]
        congr 1
        rw [Bool.eq_iff_iff]
        simp only [beq_iff_eq, decide_eq_true_eq, Bool.false_eq_true, false_iff, true_iff]
        omega
  · try simp only [bn, reduceCtorEq] at h1
    all_goals try (exfalso; omega)
    all_goals
      apply rgnS_pre 3
      · repeat (simp -implicitDefEqProofs (maxSteps := 1000000) (disch := first | assumption | omega) [h1]; try simp only [gz])
        rfl
      refine hK _ ?_; clear hK
      -- leaf 1
      refine LWP_ret ⟨_, rfl, ?_⟩
      refine wkV_of_eq ?_
      simp only [retV]
      all_goals
        simp only [okF]
        congr 1
        rw [Bool.eq_iff_iff]
        simp only [beq_iff_eq, decide_eq_true_eq, Bool.false_eq_true, false_iff, true_iff]
        omega
set_option maxHeartbeats 2000000 in
set_option maxRecDepth 20000 in
theorem rcheck_ok (b : Bx)  : ACalls Go.Proofs.Try.prog 38 [.agg b.e] [] 0 (fun r _ _ => r = .bool (bxB b)) := by
  refine pure_body ok38 rfl ?_
  simp only [parV]
  refine LWP_seq ?_
  apply LWP_run
  · repeat (simp -implicitDefEqProofs (maxSteps := 1000000) (disch := first | assumption | omega) [Bx.e]; try simp only [gz])
    rfl
  refine LWP_seq ?_
  refine LWP_reg fun K hK => ?_
  apply rgnS_pre 2
  · repeat (simp -implicitDefEqProofs (maxSteps := 1000000) (disch := first | assumption | omega) [Bx.e]; try simp only [gz])
    rfl
  refine rgnS_call (rok_ok b.x0) rfl rfl (by simp [pureL, pureR, AV.pure, Bx.e]) (by simp [pureL, pureR, AV.pure, Bx.e]) (by simp [gd, get_e0, get_e1, LArg.ev]) ?_
  apply rgnS_pre 1
  · repeat (simp -implicitDefEqProofs (maxSteps := 1000000) (disch := first | assumption | omega) [Bx.e]; try simp only [gz])
    rfl
  refine rgnS_guard (x := 6) (b := true) rfl (fun h1 => ?_) (fun h1 => ?_)
  · try simp only [bn, reduceCtorEq] at h1
    all_goals try (exfalso; omega)
    all_goals
      apply rgnS_pre 2
      · repeat (simp -implicitDefEqProofs (maxSteps := 1000000) (disch := first | assumption | omega) [Bx.e, h1]; try simp only [gz])
        rfl
      refine rgnS_call (rok_ok b.y0) rfl rfl (by simp [pureL, pureR, AV.pure, Bx.e]) (by simp [pureL, pureR, AV.pure, Bx.e]) (by simp [gd, get_e0, get_e1, LArg.ev, h1]) ?_
      apply rgnS_pre 2
      · repeat (simp -implicitDefEqProofs (maxSteps := 1000000) (disch := first | assumption | omega) [Bx.e, h1]; try simp only [gz])
        rfl
      refine rgnS_guard (x := 11) (b := true) rfl (fun h2 => ?_) (fun h2 => ?_)
      · try simp only [bn, reduceCtorEq] at h2
        all_goals try (exfalso; omega)
        all_goals
          apply rgnS_pre 2
          · repeat (simp -implicitDefEqProofs (maxSteps := 1000000) (disch := first | assumption | omega) [Bx.e, h1, h2]; try simp only [gz])
            rfl
          refine rgnS_call (rok_ok b.x1) rfl rfl (by simp [pureL, pureR, AV.pure, Bx.e]) (by simp [pureL, pureR, AV.pure, Bx.e]) (by simp [gd, get_e0, get_e1, LArg.ev, h1, h2]) ?_
          apply rgnS_pre 2
          · repeat (simp -implicitDefEqProofs (maxSteps := 1000000) (disch := first | assumption | omega) [Bx.e, h1, h2]; try simp only [gz])
            rfl
          refine rgnS_guard (x := 16) (b := true) rfl (fun h3 => ?_) (fun h3 => ?_)
          · try simp only [bn, reduceCtorEq] at h3
            all_goals try (exfalso; omega)
            all_goals
              apply rgnS_pre 2
              · repeat (simp -implicitDefEqProofs (maxSteps := 1000000) (disch := first | assumption | omega) [Bx.e, h1, h2, h3]; try simp only [gz])
                rfl
              refine rgnS_call (rok_ok b.y1) rfl rfl (by simp [pureL, pureR, AV.pure, Bx.e]) (by simp [pureL, pureR, AV.pure, Bx.e]) (by simp [gd, get_e0, get_e1, LArg.ev, h1, h2, h3]) ?_
              apply rgnS_pre 2
              · repeat (simp -implicitDefEqProofs (maxSteps := 1000000) (disch := first | assumption | omega) [Bx.e, h1, h2, h3]; try simp only [gz])
                rfl
              refine rgnS_guard (x := 21) (b := true) rfl (fun h4 => ?_) (fun h4 => ?_)
              · try simp only [bn, reduceCtorEq] at h4
                all_goals try (exfalso; omega)
                all_goals
                  apply rgnS_pre 7
                  · repeat (simp -implicitDefEqProofs (maxSteps := 1000000) (disch := first | assumption | omega) [Bx.e, h1, h2, h3, h4]; try simp only [gz])
                    rfl
                  refine rgnS_guard (x := 28) (b := true) rfl (fun h5 => ?_) (fun h5 => ?_)
                  · try simp only [bn, reduceCtorEq] at h5
                    all_goals try (exfalso; omega)
                    all_goals
                      apply rgnS_pre 7
                      · repeat (simp -implicitDefEqProofs (maxSteps := 1000000) (disch := first | assumption | omega) [Bx.e, h1, h2, h3, h4, h5]; try simp only [gz])
                        rfl
                      refine hK _ ?_; clear hK
                      -- leaf 0
                      refine LWP_ret ⟨_, rfl, ?_⟩
                      refine wkV_of_eq ?_
                      simp only [retV]
                      all_goals
                        simp_all [bxB]
                  · try simp only [bn, reduceCtorEq] at h5
                    all_goals try (exfalso; omega)
                    all_goals
                      apply rgnS_pre 6
                      · repeat (simp -implicitDefEqProofs (maxSteps := 1000000) (disch := first | assumption | omega) [Bx.e, h1, h2, h3, h4, h5]; try simp only [gz])
                        rfl
                      refine hK _ ?_; clear hK
                      -- leaf 1
                      refine LWP_ret ⟨_, rfl, ?_⟩
                      refine wkV_of_eq ?_
                      simp only [retV]
                      all_goals
                        simp_all [bxB]
              · try simp only [bn, reduceCtorEq] at h4
                all_goals try (exfalso; omega)
                all_goals
                  apply rgnS_pre 8
                  · repeat (simp -implicitDefEqProofs (maxSteps := 1000000) (disch := first | assumption | omega) [Bx.e, h1, h2, h3, h4]; try simp only [gz])
                    rfl
                  apply rgnS_pre 5
                  · repeat (simp -implicitDefEqProofs (maxSteps := 1000000) (disch := first | assumption | omega) [Bx.e, h1, h2, h3, h4]; try simp only [gz])
                    rfl
                  refine hK _ ?_; clear hK
                  -- leaf 2
                  refine LWP_ret ⟨_, rfl, ?_⟩
                  refine wkV_of_eq ?_
                  simp only [retV]
                  all_goals
                    simp_all [bxB]
          · try simp only [bn, reduceCtorEq] at h3
            all_goals try (exfalso; omega)
            all_goals
              apply rgnS_pre 8
              · repeat (simp -implicitDefEqProofs (maxSteps := 1000000) (disch := first | assumption | omega) [Bx.e, h1, h2, h3]; try simp only [gz])
                rfl
              apply rgnS_pre 8
              · repeat (simp -implicitDefEqProofs (maxSteps := 1000000) (disch := first | assumption | omega) [Bx.e, h1, h2, h3]; try simp only [gz])
                rfl
              apply rgnS_pre 2
              · repeat (simp -implicitDefEqProofs (maxSteps := 1000000) (disch := first | assumption | omega) [Bx.e, h1, h2, h3]; try simp only [gz])
                rfl
              refine hK _ ?_; clear hK
              -- leaf 3
              refine LWP_ret ⟨_, rfl, ?_⟩
              refine wkV_of_eq ?_
              simp only [retV]
              all_goals
                simp_all [bxB]
      · try simp only [bn, reduceCtorEq] at h2
        all_goals try (exfalso; omega)
        all_goals
          apply rgnS_pre 8
          · repeat (simp -implicitDefEqProofs (maxSteps := 1000000) (disch := first | assumption | omega) [Bx.e, h1, h2]; try simp only [gz])
            rfl
          apply rgnS_pre 8
          · repeat (simp -implicitDefEqProofs (maxSteps := 1000000) (disch := first | assumption | omega) [Bx.e, h1, h2]; try simp only [gz])
            rfl
          apply rgnS_pre 7
          · repeat (simp -implicitDefEqProofs (maxSteps := 1000000) (disch := first | assumption | omega) [Bx.e, h1, h2]; try simp only [gz])
            rfl
          refine hK _ ?_; clear hK
          -- leaf 4
          refine LWP_ret ⟨_, rfl, ?_⟩
          refine wkV_of_eq ?_
          simp only [retV]
          all_goals
            simp_all [bxB]
  · try simp only [bn, reduceCtorEq] at h1
    all_goals try (exfalso; omega)
    all_goals
      apply rgnS_pre 8
      · repeat (simp -implicitDefEqProofs (maxSteps := 1000000) (disch := first | assumption | omega) [Bx.e, h1]; try simp only [gz])
        rfl
      apply rgnS_pre 8
      · repeat (simp -implicitDefEqProofs (maxSteps := 1000000) (disch := first | assumption | omega) [Bx.e, h1]; try simp only [gz])
        rfl
      apply rgnS_pre 8
      · repeat (simp -implicitDefEqProofs (maxSteps := 1000000) (disch := first | assumption | omega) [Bx.e, h1]; try simp only [gz])
        rfl
      apply rgnS_pre 4
      · repeat (simp -implicitDefEqProofs (maxSteps := 1000000) (disch := first | assumption | omega) [Bx.e, h1]; try simp only [gz])
        rfl
      refine hK _ ?_; clear hK
      -- leaf 5
      refine LWP_ret ⟨_, rfl, ?_⟩
      refine wkV_of_eq ?_
      simp only [retV]
      all_goals
        simp_all [bxB]
set_option maxHeartbeats 2000000 in
set_option maxRecDepth 20000 in
theorem rof_f (l : List Bx) (hl : l.length ≤ 60) : ACalls Go.Proofs.Try.prog 26 [.tsl 4 (l.map Bx.e), .bool false] [] 0 (fun r _ _ => r = edgeV (fun b => b.y1) l) := by
  refine pure_body ok26 rfl ?_
  simp only [parV]
  have hR := rline_ok (stp (fun b => b.y1) l) (by have := stp_len (fun b => b.y1) l; omega)
  rw [rl_line stp_pos] at hR
  refine LWP_seq ?_
  apply LWP_run
  · repeat (simp -implicitDefEqProofs (maxSteps := 1000000) (disch := first | assumption | omega) [Bx.e, stp_nil]; try simp only [gz])
    rfl
  refine LWP_seq ?_
  refine LWP_seq ?_
  apply LWP_run
  · repeat (simp -implicitDefEqProofs (maxSteps := 1000000) (disch := first | assumption | omega) [Bx.e, stp_nil]; try simp only [gz])
    rfl
  refine LWP_cond rfl (fun h1 => ?_) (fun h1 => ?_)
  · try simp only [bn, reduceCtorEq] at h1
    all_goals try (exfalso; omega)
    all_goals
      refine LWP_seq ?_
      apply LWP_run
      · repeat (simp -implicitDefEqProofs (maxSteps := 1000000) (disch := first | assumption | omega) [Bx.e, stp_nil, h1]; try simp only [gz])
        rfl
      -- leaf 0
      refine LWP_ret ⟨_, rfl, ?_⟩
      refine wkV_of_eq ?_
      simp only [retV]
      all_goals
        simp
  · try simp only [bn, reduceCtorEq] at h1
    all_goals try (exfalso; omega)
    all_goals
      refine LWP_skip ?_
      refine LWP_seq ?_
      apply LWP_run
      · repeat (simp -implicitDefEqProofs (maxSteps := 1000000) (disch := first | assumption | omega) [Bx.e, stp_nil, h1]; try simp only [gz])
        rfl
      refine LWP_seq ?_
      refine LWP_seq ?_
      apply LWP_run
      · repeat (simp -implicitDefEqProofs (maxSteps := 1000000) (disch := first | assumption | omega) [Bx.e, stp_nil, h1]; try simp only [gz])
        rfl
      refine LWP_block ?_
      refine LWP_for (fun (p : Nat × Nat) => [(0, .tsl 4 (l.map Bx.e)), (1, .bool false), (6, .sl 3 p.2 0 (stp (fun b => b.y1) (l.take p.1)).length), (7, .int .i64 (p.1 : Nat))]) (fun (p : Nat × Nat) => [(p.2, Blk.rows 3 ((stp (fun b => b.y1) (l.take p.1)).map St.e))]) (fun (p : Nat × Nat) n => p.1 ≤ l.length ∧ p.2 < n ∧ (l.take p.1).all bxB = true) (fun (p : Nat × Nat) => l.length - p.1) (0, 0) ?_ ?_ ?_ ?_
      · simp (maxSteps := 1000000) (disch := first | assumption | omega) [leV, get_e0, get_e1, wkV.refl, wkV_int, decT, decF, Bx.e, stp_nil, h1]
        try rfl
      · simp [leH, get_e0, get_e1, h1]
        try rfl
      · exact ⟨Nat.zero_le _, by simp, by simp⟩
      rintro ⟨i, b⟩ n ⟨c1, c2, c3⟩
      simp only at c1 c2 c3
      have sw := fun hi h => steps_wrap (l := l) (i := i) hi h
      have sl := stp_len (fun b => b.y1) (l.take i)
      have fy := fun hi hx => stp_yes (hf := fun b => b.y1) (l := l) (i := i) hi hx
      have fn := fun hi hx => stp_no (hf := fun b => b.y1) (l := l) (i := i) hi hx
      have g2 : ¬ b = n := by omega
      have g3 : ¬ n = b := by omega
      have g4 : ¬ n + 1 = b := by omega
      have g5 : b < n + 1 := by omega
      have hbn : b < n := by omega
      have htl : (l.take i).length = i := by rw [List.length_take]; omega
      rw [htl] at sl
      have htk : List.take (stp (fun b => b.y1) (l.take i)).length (List.map St.e (stp (fun b => b.y1) (l.take i))) = List.map St.e (stp (fun b => b.y1) (l.take i)) := List.take_of_length_le (by simp)
      have hb24 : ((stp (fun b => b.y1) (l.take i)).length + 1) * 24 ≤ 17592186044416 := by omega
      refine LWP_seq ?_
      refine LWP_seq ?_
      apply LWP_run
      · repeat (simp -implicitDefEqProofs (maxSteps := 1000000) (disch := first | assumption | omega) [Bx.e, stp_nil, h1, sw, g2, g3, g4, g5, hbn, htk, hb24, fy, fn]; try simp only [gz])
        rfl
      refine LWP_cond rfl (fun h3 => ?_) (fun h3 => ?_)
      · try simp only [bn, reduceCtorEq] at h3
        all_goals try (exfalso; omega)
        all_goals
          refine LWP_skip ?_
          refine LWP_seq ?_
          refine LWP_block ?_
          refine LWP_seq ?_
          apply LWP_run
          · repeat (simp -implicitDefEqProofs (maxSteps := 1000000) (disch := first | assumption | omega) [Bx.e, stp_nil, h1, sw, g2, g3, g4, g5, hbn, htk, hb24, fy, fn, h3]; try simp only [gz])
            rfl
          refine LWP_seq ?_
          refine LWP_seq ?_
          refine LWP_reg fun K hK => ?_
          apply rgnS_pre 1
          · repeat (simp -implicitDefEqProofs (maxSteps := 1000000) (disch := first | assumption | omega) [Bx.e, stp_nil, h1, sw, g2, g3, g4, g5, hbn, htk, hb24, fy, fn, h3]; try simp only [gz])
            rfl
          refine rgnS_call (rcheck_ok (l[i]'(by omega))) rfl rfl (by simp [pureL, pureR, AV.pure, Bx.e, stp_nil, Bx.e]) (by simp [pureL, pureR, AV.pure, Bx.e, stp_nil, Bx.e]) (by simp [gd, get_e0, get_e1, LArg.ev, h1, sw, g2, g3, g4, g5, hbn, htk, hb24, fy, fn, h3]) ?_
          apply rgnS_pre 1
          · repeat (simp -implicitDefEqProofs (maxSteps := 1000000) (disch := first | assumption | omega) [Bx.e, stp_nil, h1, sw, g2, g3, g4, g5, hbn, htk, hb24, fy, fn, h3]; try simp only [gz])
            rfl
          refine hK _ ?_; clear hK
          refine LWP_cond rfl (fun h4 => ?_) (fun h4 => ?_)
          · try simp only [bn, reduceCtorEq] at h4
            all_goals try (exfalso; omega)
            all_goals
              refine LWP_seq ?_
              apply LWP_run
              · repeat (simp -implicitDefEqProofs (maxSteps := 1000000) (disch := first | assumption | omega) [Bx.e, stp_nil, h1, sw, g2, g3, g4, g5, hbn, htk, hb24, fy, fn, h3, h4]; try simp only [gz])
                rfl
              -- leaf 1
              refine LWP_ret ⟨_, rfl, ?_⟩
              rw [edgeV, if_neg (by rw [edge_bad (i := i) (by omega) (by assumption)]; simp)]
              exact wkV.tup2 (wkV.nils 3) (wkV.refl _)
          · try simp only [bn, reduceCtorEq] at h4
            all_goals try (exfalso; omega)
            all_goals
              refine LWP_skip ?_
              refine LWP_seq ?_
              apply LWP_run
              · repeat (simp -implicitDefEqProofs (maxSteps := 1000000) (disch := first | assumption | omega) [Bx.e, stp_nil, h1, sw, g2, g3, g4, g5, hbn, htk, hb24, fy, fn, h3, h4]; try simp only [gz])
                rfl
              refine LWP_seq ?_
              refine LWP_seq ?_
              apply LWP_run
              · repeat (simp -implicitDefEqProofs (maxSteps := 1000000) (disch := first | assumption | omega) [Bx.e, stp_nil, h1, sw, g2, g3, g4, g5, hbn, htk, hb24, fy, fn, h3, h4]; try simp only [gz])
                rfl
              refine LWP_cond (t := false) (by simp [LArg.ev, get_e0, get_e1, h1, sw, g2, g3, g4, g5, hbn, htk, hb24, fy, fn, h3, h4]) (fun h => by cases h) (fun _ => ?_)
              refine LWP_skip ?_
              refine LWP_seq ?_
              apply LWP_run
              · repeat (simp -implicitDefEqProofs (maxSteps := 1000000) (disch := first | assumption | omega) [Bx.e, stp_nil, h1, sw, g2, g3, g4, g5, hbn, htk, hb24, fy, fn, h3, h4]; try simp only [gz])
                rfl
              refine LWP_cond rfl (fun h5 => ?_) (fun h5 => ?_)
              · try simp only [bn, reduceCtorEq] at h5
                all_goals try (exfalso; omega)
                all_goals
                  apply LWP_run
                  · repeat (simp -implicitDefEqProofs (maxSteps := 1000000) (disch := first | assumption | omega) [Bx.e, stp_nil, h1, sw, g2, g3, g4, g5, hbn, htk, hb24, fy, fn, h3, h4, h5]; try simp only [gz])
                    rfl
                  apply LWP_run
                  · repeat (simp -implicitDefEqProofs (maxSteps := 1000000) (disch := first | assumption | omega) [Bx.e, stp_nil, h1, sw, g2, g3, g4, g5, hbn, htk, hb24, fy, fn, h3, h4, h5]; try simp only [gz])
                    rfl
                  -- loop 0, round 0
                  refine ⟨(i + 1, n + 1), ?_, ?_, ?_, ?_⟩
                  · refine ⟨by simp only; omega, by simp, ?_⟩
                    simp only
                    rw [List.take_succ_eq_append_getElem (by omega), List.all_append, c3]
                    simp only [List.all_cons, List.all_nil, Bool.and_true, Bool.true_and]
                    assumption
                  · simp only; omega
                  · simp (maxSteps := 1000000) (disch := first | assumption | omega) [leV, get_e0, get_e1, wkV.refl, wkV_int, wrap_i64, decT, decF, Bx.e, stp_nil, h1, sw, g2, g3, g4, g5, hbn, htk, hb24, fy, fn, h3, h4, h5]
                  · simp [leH, get_e0, get_e1, h1, sw, g2, g3, g4, g5, hbn, htk, hb24, fy, fn, h3, h4, h5]
                    try rfl
              · try simp only [bn, reduceCtorEq] at h5
                all_goals try (exfalso; omega)
                all_goals
                  refine LWP_skip ?_
                  apply LWP_run
                  · repeat (simp -implicitDefEqProofs (maxSteps := 1000000) (disch := first | assumption | omega) [Bx.e, stp_nil, h1, sw, g2, g3, g4, g5, hbn, htk, hb24, fy, fn, h3, h4, h5]; try simp only [gz])
                    rfl
                  -- loop 0, round 1
                  refine ⟨(i + 1, b), ?_, ?_, ?_, ?_⟩
                  · refine ⟨by simp only; omega, by simp only; omega, ?_⟩
                    simp only
                    rw [List.take_succ_eq_append_getElem (by omega), List.all_append, c3]
                    simp only [List.all_cons, List.all_nil, Bool.and_true, Bool.true_and]
                    assumption
                  · simp only; omega
                  · simp (maxSteps := 1000000) (disch := first | assumption | omega) [leV, get_e0, get_e1, wkV.refl, wkV_int, wrap_i64, decT, decF, Bx.e, stp_nil, h1, sw, g2, g3, g4, g5, hbn, htk, hb24, fy, fn, h3, h4, h5]
                  · simp [leH, get_e0, get_e1, h1, sw, g2, g3, g4, g5, hbn, htk, hb24, fy, fn, h3, h4, h5]
                    try rfl
      · try simp only [bn, reduceCtorEq] at h3
        all_goals try (exfalso; omega)
        all_goals
          refine LWP_exit ?_
          refine LWP_seq ?_
          have ei : i = l.length := by omega
          subst ei
          rw [List.take_length] at *
          refine LWP_deep [(6, .tsl 3 ((stp (fun b => b.y1) l).map St.e))] 5 ?_ ?_
          · simp only [deepL]
            exact ⟨⟨_, rfl, deep_rowz (k := 3) (m := (stp (fun b => b.y1) l).length) (l := stp (fun b => b.y1) l) (Q := stp (fun b => b.y1) l) (by simp [get_e1]) (by simp) (Nat.le_refl _)⟩, trivial⟩
          refine LWP_reg fun K hK => ?_
          apply rgnS_pre 1
          · repeat (simp -implicitDefEqProofs (maxSteps := 1000000) (disch := first | assumption | omega) [Bx.e, stp_nil, h1, sw, g2, g3, g4, g5, hbn, htk, hb24, fy, fn, h3]; try simp only [gz])
            rfl
          refine rgnS_call (hR) rfl rfl (by simp [pureL, pureR, AV.pure, Bx.e, stp_nil, pureR_st]) (by simp [pureL, pureR, AV.pure, Bx.e, stp_nil, pureR_st]) (by simp [gd, get_e0, get_e1, LArg.ev, h1, sw, g2, g3, g4, g5, hbn, htk, hb24, fy, fn, h3]) ?_
          apply rgnS_pre 2
          · repeat (simp -implicitDefEqProofs (maxSteps := 1000000) (disch := first | assumption | omega) [Bx.e, stp_nil, h1, sw, g2, g3, g4, g5, hbn, htk, hb24, fy, fn, h3]; try simp only [gz])
            rfl
          refine hK _ ?_; clear hK
          -- leaf 2
          refine LWP_ret ⟨_, rfl, ?_⟩
          refine wkV_of_eq ?_
          simp only [retV]
          all_goals
            rw [edgeV, if_pos c3]
set_option maxHeartbeats 2000000 in
set_option maxRecDepth 20000 in
theorem rof_t (l : List Bx) (hl : l.length ≤ 60) : ACalls Go.Proofs.Try.prog 26 [.tsl 4 (l.map Bx.e), .bool true] [] 0 (fun r _ _ => r = edgeV (fun b => -b.y0) l) := by
  refine pure_body ok26 rfl ?_
  simp only [parV]
  have hR := rline_ok (stp (fun b => -b.y0) l) (by have := stp_len (fun b => -b.y0) l; omega)
  rw [rl_line stp_pos] at hR
  refine LWP_seq ?_
  apply LWP_run
  · repeat (simp -implicitDefEqProofs (maxSteps := 1000000) (disch := first | assumption | omega) [Bx.e, stp_nil]; try simp only [gz])
    rfl
  refine LWP_seq ?_
  refine LWP_seq ?_
  apply LWP_run
  · repeat (simp -implicitDefEqProofs (maxSteps := 1000000) (disch := first | assumption | omega) [Bx.e, stp_nil]; try simp only [gz])
    rfl
  refine LWP_cond rfl (fun h1 => ?_) (fun h1 => ?_)
  · try simp only [bn, reduceCtorEq] at h1
    all_goals try (exfalso; omega)
    all_goals
      refine LWP_seq ?_
      apply LWP_run
      · repeat (simp -implicitDefEqProofs (maxSteps := 1000000) (disch := first | assumption | omega) [Bx.e, stp_nil, h1]; try simp only [gz])
        rfl
      -- leaf 0
      refine LWP_ret ⟨_, rfl, ?_⟩
      refine wkV_of_eq ?_
      simp only [retV]
      all_goals
        simp
  · try simp only [bn, reduceCtorEq] at h1
    all_goals try (exfalso; omega)
    all_goals
      refine LWP_skip ?_
      refine LWP_seq ?_
      apply LWP_run
      · repeat (simp -implicitDefEqProofs (maxSteps := 1000000) (disch := first | assumption | omega) [Bx.e, stp_nil, h1]; try simp only [gz])
        rfl
      refine LWP_seq ?_
      refine LWP_seq ?_
      apply LWP_run
      · repeat (simp -implicitDefEqProofs (maxSteps := 1000000) (disch := first | assumption | omega) [Bx.e, stp_nil, h1]; try simp only [gz])
        rfl
      refine LWP_block ?_
      refine LWP_for (fun (p : Nat × Nat) => [(0, .tsl 4 (l.map Bx.e)), (1, .bool true), (6, .sl 3 p.2 0 (stp (fun b => -b.y0) (l.take p.1)).length), (7, .int .i64 (p.1 : Nat))]) (fun (p : Nat × Nat) => [(p.2, Blk.rows 3 ((stp (fun b => -b.y0) (l.take p.1)).map St.e))]) (fun (p : Nat × Nat) n => p.1 ≤ l.length ∧ p.2 < n ∧ (l.take p.1).all bxB = true) (fun (p : Nat × Nat) => l.length - p.1) (0, 0) ?_ ?_ ?_ ?_
      · simp (maxSteps := 1000000) (disch := first | assumption | omega) [leV, get_e0, get_e1, wkV.refl, wkV_int, decT, decF, Bx.e, stp_nil, h1]
        try rfl
      · simp [leH, get_e0, get_e1, h1]
        try rfl
      · exact ⟨Nat.zero_le _, by simp, by simp⟩
      rintro ⟨i, b⟩ n ⟨c1, c2, c3⟩
      simp only at c1 c2 c3
      have sw := fun hi h => steps_wrap (l := l) (i := i) hi h
      have sl := stp_len (fun b => -b.y0) (l.take i)
      have fy := fun hi hx => stp_yes (hf := fun b => -b.y0) (l := l) (i := i) hi hx
      have fn := fun hi hx => stp_no (hf := fun b => -b.y0) (l := l) (i := i) hi hx
      have g2 : ¬ b = n := by omega
      have g3 : ¬ n = b := by omega
      have g4 : ¬ n + 1 = b := by omega
      have g5 : b < n + 1 := by omega
      have hbn : b < n := by omega
      have htl : (l.take i).length = i := by rw [List.length_take]; omega
      rw [htl] at sl
      have htk : List.take (stp (fun b => -b.y0) (l.take i)).length (List.map St.e (stp (fun b => -b.y0) (l.take i))) = List.map St.e (stp (fun b => -b.y0) (l.take i)) := List.take_of_length_le (by simp)
      have hb24 : ((stp (fun b => -b.y0) (l.take i)).length + 1) * 24 ≤ 17592186044416 := by omega
      refine LWP_seq ?_
      refine LWP_seq ?_
      apply LWP_run
      · repeat (simp -implicitDefEqProofs (maxSteps := 1000000) (disch := first | assumption | omega) [Bx.e, stp_nil, h1, sw, g2, g3, g4, g5, hbn, htk, hb24, fy, fn]; try simp only [gz])
        rfl
      refine LWP_cond rfl (fun h3 => ?_) (fun h3 => ?_)
      · try simp only [bn, reduceCtorEq] at h3
        all_goals try (exfalso; omega)
        all_goals
          refine LWP_skip ?_
          refine LWP_seq ?_
          refine LWP_block ?_
          refine LWP_seq ?_
          apply LWP_run
          · repeat (simp -implicitDefEqProofs (maxSteps := 1000000) (disch := first | assumption | omega) [Bx.e, stp_nil, h1, sw, g2, g3, g4, g5, hbn, htk, hb24, fy, fn, h3]; try simp only [gz])
            rfl
          refine LWP_seq ?_
          refine LWP_seq ?_
          refine LWP_reg fun K hK => ?_
          apply rgnS_pre 1
          · repeat (simp -implicitDefEqProofs (maxSteps := 1000000) (disch := first | assumption | omega) [Bx.e, stp_nil, h1, sw, g2, g3, g4, g5, hbn, htk, hb24, fy, fn, h3]; try simp only [gz])
            rfl
          refine rgnS_call (rcheck_ok (l[i]'(by omega))) rfl rfl (by simp [pureL, pureR, AV.pure, Bx.e, stp_nil, Bx.e]) (by simp [pureL, pureR, AV.pure, Bx.e, stp_nil, Bx.e]) (by simp [gd, get_e0, get_e1, LArg.ev, h1, sw, g2, g3, g4, g5, hbn, htk, hb24, fy, fn, h3]) ?_
          apply rgnS_pre 1
          · repeat (simp -implicitDefEqProofs (maxSteps := 1000000) (disch := first | assumption | omega) [Bx.e, stp_nil, h1, sw, g2, g3, g4, g5, hbn, htk, hb24, fy, fn, h3]; try simp only [gz])
            rfl
          refine hK _ ?_; clear hK
          refine LWP_cond rfl (fun h4 => ?_) (fun h4 => ?_)
          · try simp only [bn, reduceCtorEq] at h4
            all_goals try (exfalso; omega)
            all_goals
              refine LWP_seq ?_
              apply LWP_run
              · repeat (simp -implicitDefEqProofs (maxSteps := 1000000) (disch := first | assumption | omega) [Bx.e, stp_nil, h1, sw, g2, g3, g4, g5, hbn, htk, hb24, fy, fn, h3, h4]; try simp only [gz])
                rfl
              -- leaf 1
              refine LWP_ret ⟨_, rfl, ?_⟩
              rw [edgeV, if_neg (by rw [edge_bad (i := i) (by omega) (by assumption)]; simp)]
              exact wkV.tup2 (wkV.nils 3) (wkV.refl _)
          · try simp only [bn, reduceCtorEq] at h4
            all_goals try (exfalso; omega)
            all_goals
              refine LWP_skip ?_
              refine LWP_seq ?_
              apply LWP_run
              · repeat (simp -implicitDefEqProofs (maxSteps := 1000000) (disch := first | assumption | omega) [Bx.e, stp_nil, h1, sw, g2, g3, g4, g5, hbn, htk, hb24, fy, fn, h3, h4]; try simp only [gz])
                rfl
              refine LWP_seq ?_
              refine LWP_seq ?_
              apply LWP_run
              · repeat (simp -implicitDefEqProofs (maxSteps := 1000000) (disch := first | assumption | omega) [Bx.e, stp_nil, h1, sw, g2, g3, g4, g5, hbn, htk, hb24, fy, fn, h3, h4]; try simp only [gz])
                rfl
              refine LWP_cond (t := true) (by simp [LArg.ev, get_e0, get_e1, h1, sw, g2, g3, g4, g5, hbn, htk, hb24, fy, fn, h3, h4]) (fun _ => ?_) (fun h => by cases h)
              apply LWP_run
              · repeat (simp -implicitDefEqProofs (maxSteps := 1000000) (disch := first | assumption | omega) [Bx.e, stp_nil, h1, sw, g2, g3, g4, g5, hbn, htk, hb24, fy, fn, h3, h4]; try simp only [gz])
                rfl
              refine LWP_seq ?_
              apply LWP_run
              · repeat (simp -implicitDefEqProofs (maxSteps := 1000000) (disch := first | assumption | omega) [Bx.e, stp_nil, h1, sw, g2, g3, g4, g5, hbn, htk, hb24, fy, fn, h3, h4]; try simp only [gz])
                rfl
              refine LWP_cond rfl (fun h5 => ?_) (fun h5 => ?_)
              · try simp only [bn, reduceCtorEq] at h5
                all_goals try (exfalso; omega)
                all_goals
                  apply LWP_run
                  · repeat (simp -implicitDefEqProofs (maxSteps := 1000000) (disch := first | assumption | omega) [Bx.e, stp_nil, h1, sw, g2, g3, g4, g5, hbn, htk, hb24, fy, fn, h3, h4, h5]; try simp only [gz])
                    rfl
                  apply LWP_run
                  · repeat (simp -implicitDefEqProofs (maxSteps := 1000000) (disch := first | assumption | omega) [Bx.e, stp_nil, h1, sw, g2, g3, g4, g5, hbn, htk, hb24, fy, fn, h3, h4, h5]; try simp only [gz])
                    rfl
                  -- loop 0, round 0
                  refine ⟨(i + 1, n + 1), ?_, ?_, ?_, ?_⟩
                  · refine ⟨by simp only; omega, by simp, ?_⟩
                    simp only
                    rw [List.take_succ_eq_append_getElem (by omega), List.all_append, c3]
                    simp only [List.all_cons, List.all_nil, Bool.and_true, Bool.true_and]
                    assumption
                  · simp only; omega
                  · simp (maxSteps := 1000000) (disch := first | assumption | omega) [leV, get_e0, get_e1, wkV.refl, wkV_int, wrap_i64, decT, decF, Bx.e, stp_nil, h1, sw, g2, g3, g4, g5, hbn, htk, hb24, fy, fn, h3, h4, h5]
                  · simp [leH, get_e0, get_e1, h1, sw, g2, g3, g4, g5, hbn, htk, hb24, fy, fn, h3, h4, h5]
                    try rfl
              · try simp only [bn, reduceCtorEq] at h5
                all_goals try (exfalso; omega)
                all_goals
                  refine LWP_skip ?_
                  apply LWP_run
                  · repeat (simp -implicitDefEqProofs (maxSteps := 1000000) (disch := first | assumption | omega) [Bx.e, stp_nil, h1, sw, g2, g3, g4, g5, hbn, htk, hb24, fy, fn, h3, h4, h5]; try simp only [gz])
                    rfl
                  -- loop 0, round 1
                  refine ⟨(i + 1, b), ?_, ?_, ?_, ?_⟩
                  · refine ⟨by simp only; omega, by simp only; omega, ?_⟩
                    simp only
                    rw [List.take_succ_eq_append_getElem (by omega), List.all_append, c3]
                    simp only [List.all_cons, List.all_nil, Bool.and_true, Bool.true_and]
                    assumption
                  · simp only; omega
                  · simp (maxSteps := 1000000) (disch := first | assumption | omega) [leV, get_e0, get_e1, wkV.refl, wkV_int, wrap_i64, decT, decF, Bx.e, stp_nil, h1, sw, g2, g3, g4, g5, hbn, htk, hb24, fy, fn, h3, h4, h5]
                  · simp [leH, get_e0, get_e1, h1, sw, g2, g3, g4, g5, hbn, htk, hb24, fy, fn, h3, h4, h5]
                    try rfl
      · try simp only [bn, reduceCtorEq] at h3
        all_goals try (exfalso; omega)
        all_goals
          refine LWP_exit ?_
          refine LWP_seq ?_
          have ei : i = l.length := by omega
          subst ei
          rw [List.take_length] at *
          refine LWP_deep [(6, .tsl 3 ((stp (fun b => -b.y0) l).map St.e))] 5 ?_ ?_
          · simp only [deepL]
            exact ⟨⟨_, rfl, deep_rowz (k := 3) (m := (stp (fun b => -b.y0) l).length) (l := stp (fun b => -b.y0) l) (Q := stp (fun b => -b.y0) l) (by simp [get_e1]) (by simp) (Nat.le_refl _)⟩, trivial⟩
          refine LWP_reg fun K hK => ?_
          apply rgnS_pre 1
          · repeat (simp -implicitDefEqProofs (maxSteps := 1000000) (disch := first | assumption | omega) [Bx.e, stp_nil, h1, sw, g2, g3, g4, g5, hbn, htk, hb24, fy, fn, h3]; try simp only [gz])
            rfl
          refine rgnS_call (hR) rfl rfl (by simp [pureL, pureR, AV.pure, Bx.e, stp_nil, pureR_st]) (by simp [pureL, pureR, AV.pure, Bx.e, stp_nil, pureR_st]) (by simp [gd, get_e0, get_e1, LArg.ev, h1, sw, g2, g3, g4, g5, hbn, htk, hb24, fy, fn, h3]) ?_
          apply rgnS_pre 2
          · repeat (simp -implicitDefEqProofs (maxSteps := 1000000) (disch := first | assumption | omega) [Bx.e, stp_nil, h1, sw, g2, g3, g4, g5, hbn, htk, hb24, fy, fn, h3]; try simp only [gz])
            rfl
          refine hK _ ?_; clear hK
          -- leaf 2
          refine LWP_ret ⟨_, rfl, ?_⟩
          refine wkV_of_eq ?_
          simp only [retV]
          all_goals
            rw [edgeV, if_pos c3]
set_option maxHeartbeats 2000000 in
set_option maxRecDepth 20000 in
theorem rOf_yes (l : List Bx) (hl : l.length ≤ 60) (ha : l.all bxB = true) : ACalls Go.Proofs.Try.prog 10 [.tsl 4 (l.map Bx.e)] [] 0 (fun r _ _ => r = .tup [.tsl 3 ((lineS (stp (fun b => b.y1) l)).map St.e), .int .i64 0]) := by
  refine pure_body ok10 rfl ?_
  simp only [parV]
  have hE := rof_f l hl
  rw [edgeV, if_pos ha] at hE
  refine LWP_seq ?_
  apply LWP_run
  · repeat (simp -implicitDefEqProofs (maxSteps := 1000000) (disch := first | assumption | omega) []; try simp only [gz])
    rfl
  refine LWP_seq ?_
  refine LWP_reg fun K hK => ?_
  apply rgnS_pre 1
  · repeat (simp -implicitDefEqProofs (maxSteps := 1000000) (disch := first | assumption | omega) []; try simp only [gz])
    rfl
  refine rgnS_call (hE) rfl rfl (by simp [pureL, pureR, AV.pure, pureR_st, pureR_bx, pureR]) (by simp [pureL, pureR, AV.pure, pureR_st, pureR_bx, pureR]) (by simp [gd, get_e0, get_e1, LArg.ev]) ?_
  apply rgnS_pre 4
  · repeat (simp -implicitDefEqProofs (maxSteps := 1000000) (disch := first | assumption | omega) []; try simp only [gz])
    rfl
  refine hK _ ?_; clear hK
  -- leaf 0
  refine LWP_ret ⟨_, rfl, ?_⟩
  refine wkV_of_eq ?_
  simp only [retV]
  all_goals
    rfl
set_option maxHeartbeats 2000000 in
set_option maxRecDepth 20000 in
theorem rOf_no (l : List Bx) (hl : l.length ≤ 60) (ha : l.all bxB = false) : ACalls Go.Proofs.Try.prog 10 [.tsl 4 (l.map Bx.e)] [] 0 (fun r _ _ => r = .tup [.tsl 3 [], .int .i64 2]) := by
  refine pure_body ok10 rfl ?_
  simp only [parV]
  have hE := rof_f l hl
  rw [edgeV, if_neg (by rw [ha]; simp)] at hE
  refine LWP_seq ?_
  apply LWP_run
  · repeat (simp -implicitDefEqProofs (maxSteps := 1000000) (disch := first | assumption | omega) []; try simp only [gz])
    rfl
  refine LWP_seq ?_
  refine LWP_reg fun K hK => ?_
  apply rgnS_pre 1
  · repeat (simp -implicitDefEqProofs (maxSteps := 1000000) (disch := first | assumption | omega) []; try simp only [gz])
    rfl
  refine rgnS_call (hE) rfl rfl (by simp [pureL, pureR, AV.pure, pureR_st, pureR_bx, pureR]) (by simp [pureL, pureR, AV.pure, pureR_st, pureR_bx, pureR]) (by simp [gd, get_e0, get_e1, LArg.ev]) ?_
  apply rgnS_pre 4
  · repeat (simp -implicitDefEqProofs (maxSteps := 1000000) (disch := first | assumption | omega) []; try simp only [gz])
    rfl
  refine hK _ ?_; clear hK
  -- leaf 0
  refine LWP_ret ⟨_, rfl, ?_⟩
  refine wkV_of_eq ?_
  simp only [retV]
  all_goals
    rfl
set_option maxHeartbeats 2000000 in
set_option maxRecDepth 20000 in
theorem rUnder_yes (l : List Bx) (hl : l.length ≤ 60) (ha : l.all bxB = true) : ACalls Go.Proofs.Try.prog 12 [.tsl 4 (l.map Bx.e)] [] 0 (fun r _ _ => r = .tup [.tsl 3 ((lineS (stp (fun b => -b.y0) l)).map St.e), .int .i64 0]) := by
  refine pure_body ok12 rfl ?_
  simp only [parV]
  have hE := rof_t l hl
  rw [edgeV, if_pos ha] at hE
  refine LWP_seq ?_
  apply LWP_run
  · repeat (simp -implicitDefEqProofs (maxSteps := 1000000) (disch := first | assumption | omega) []; try simp only [gz])
    rfl
  refine LWP_seq ?_
  refine LWP_reg fun K hK => ?_
  apply rgnS_pre 1
  · repeat (simp -implicitDefEqProofs (maxSteps := 1000000) (disch := first | assumption | omega) []; try simp only [gz])
    rfl
  refine rgnS_call (hE) rfl rfl (by simp [pureL, pureR, AV.pure, pureR_st, pureR_bx, pureR]) (by simp [pureL, pureR, AV.pure, pureR_st, pureR_bx, pureR]) (by simp [gd, get_e0, get_e1, LArg.ev]) ?_
  apply rgnS_pre 4
  · repeat (simp -implicitDefEqProofs (maxSteps := 1000000) (disch := first | assumption | omega) []; try simp only [gz])
    rfl
  refine hK _ ?_; clear hK
  -- leaf 0
  refine LWP_ret ⟨_, rfl, ?_⟩
  refine wkV_of_eq ?_
  simp only [retV]
  all_goals
    rfl
set_option maxHeartbeats 2000000 in
set_option maxRecDepth 20000 in
theorem rUnder_no (l : List Bx) (hl : l.length ≤ 60) (ha : l.all bxB = false) : ACalls Go.Proofs.Try.prog 12 [.tsl 4 (l.map Bx.e)] [] 0 (fun r _ _ => r = .tup [.tsl 3 [], .int .i64 2]) := by
  refine pure_body ok12 rfl ?_
  simp only [parV]
  have hE := rof_t l hl
  rw [edgeV, if_neg (by rw [ha]; simp)] at hE
  refine LWP_seq ?_
  apply LWP_run
  · repeat (simp -implicitDefEqProofs (maxSteps := 1000000) (disch := first | assumption | omega) []; try simp only [gz])
    rfl
  refine LWP_seq ?_
  refine LWP_reg fun K hK => ?_
  apply rgnS_pre 1
  · repeat (simp -implicitDefEqProofs (maxSteps := 1000000) (disch := first | assumption | omega) []; try simp only [gz])
    rfl
  refine rgnS_call (hE) rfl rfl (by simp [pureL, pureR, AV.pure, pureR_st, pureR_bx, pureR]) (by simp [pureL, pureR, AV.pure, pureR_st, pureR_bx, pureR]) (by simp [gd, get_e0, get_e1, LArg.ev]) ?_
  apply rgnS_pre 4
  · repeat (simp -implicitDefEqProofs (maxSteps := 1000000) (disch := first | assumption | omega) []; try simp only [gz])
    rfl
  refine hK _ ?_; clear hK
  -- leaf 0
  refine LWP_ret ⟨_, rfl, ?_⟩
  refine wkV_of_eq ?_
  simp only [retV]
  all_goals
    rfl
set_option maxHeartbeats 2000000 in
set_option maxRecDepth 20000 in
theorem boxes_big (l : List Bx) (h : 60 < l.length) : ACalls Go.Proofs.Try.prog 3 [.tsl 4 (l.map Bx.e)] [] 0 (fun r _ _ => r = .bool true) := by
  refine pure_body ok3 rfl ?_
  simp only [parV]
  refine LWP_seq ?_
  apply LWP_run
  · repeat (simp -implicitDefEqProofs (maxSteps := 1000000) (disch := first | assumption | omega) [h]; try simp only [gz])
    rfl
  refine LWP_seq ?_
  refine LWP_seq ?_
  apply LWP_run
  · repeat (simp -implicitDefEqProofs (maxSteps := 1000000) (disch := first | assumption | omega) [h]; try simp only [gz])
    rfl
  refine LWP_cond (t := true) (by simp [LArg.ev, get_e0, get_e1]) (fun _ => ?_) (fun h => by cases h)
  refine LWP_seq ?_
  refine LWP_reg fun K hK => ?_
  refine rgnS_call (hsheads) rfl rfl (by simp [pureL, pureR, AV.pure]) (by simp [pureL, pureR, AV.pure]) (by simp [gd, get_e0, get_e1, LArg.ev]) ?_
  apply rgnS_pre 1
  · repeat (simp -implicitDefEqProofs (maxSteps := 1000000) (disch := first | assumption | omega) [h]; try simp only [gz])
    rfl
  refine hK _ ?_; clear hK
  -- leaf 0
  refine LWP_ret ⟨_, rfl, ?_⟩
  refine wkV_of_eq ?_
  simp only [retV]
  all_goals
    rfl
set_option maxHeartbeats 2000000 in
set_option maxRecDepth 20000 in
theorem boxes_in (l : List Bx) (a c : List St) (e : Int) (hl : l.length ≤ 60) (h1_ : ACalls Go.Proofs.Try.prog 9 [.tsl 4 (l.map Bx.e)] [] 0 (fun r _ _ => r = .tup [.tsl 3 (a.map St.e), .int .i64 e])) (h2_ : ACalls Go.Proofs.Try.prog 10 [.tsl 4 (l.map Bx.e)] [] 0 (fun r _ _ => r = .tup [.tsl 3 (a.map St.e), .int .i64 e])) (h3_ : ACalls Go.Proofs.Try.prog 11 [.tsl 4 (l.map Bx.e)] [] 0 (fun r _ _ => r = .tup [.tsl 3 (c.map St.e), .int .i64 e])) (h4_ : ACalls Go.Proofs.Try.prog 12 [.tsl 4 (l.map Bx.e)] [] 0 (fun r _ _ => r = .tup [.tsl 3 (c.map St.e), .int .i64 e])) (s1_ : ACalls Go.Proofs.Try.prog 13 [.tsl 3 (a.map St.e), .tsl 3 (a.map St.e)] [] 0 (fun r _ _ => r = .bool true)) (s2_ : ACalls Go.Proofs.Try.prog 13 [.tsl 3 (c.map St.e), .tsl 3 (c.map St.e)] [] 0 (fun r _ _ => r = .bool true)) : ACalls Go.Proofs.Try.prog 3 [.tsl 4 (l.map Bx.e)] [] 0 (fun r _ _ => r = .bool true) := by
  refine pure_body ok3 rfl ?_
  simp only [parV]
  refine LWP_seq ?_
  apply LWP_run
  · repeat (simp -implicitDefEqProofs (maxSteps := 1000000) (disch := first | assumption | omega) [hl]; try simp only [gz])
    rfl
  refine LWP_seq ?_
  refine LWP_seq ?_
  apply LWP_run
  · repeat (simp -implicitDefEqProofs (maxSteps := 1000000) (disch := first | assumption | omega) [hl]; try simp only [gz])
    rfl
  refine LWP_cond (t := false) (by simp [LArg.ev, get_e0, get_e1]) (fun h => by cases h) (fun _ => ?_)
  refine LWP_skip ?_
  refine LWP_seq ?_
  refine LWP_reg fun K hK => ?_
  apply rgnS_pre 1
  · repeat (simp -implicitDefEqProofs (maxSteps := 1000000) (disch := first | assumption | omega) [hl]; try simp only [gz])
    rfl
  refine rgnS_call (h1_) rfl rfl (by simp [pureL, pureR, AV.pure, pureR_st, pureR_bx]) (by simp [pureL, pureR, AV.pure, pureR_st, pureR_bx]) (by simp [gd, get_e0, get_e1, LArg.ev]) ?_
  apply rgnS_pre 5
  · repeat (simp -implicitDefEqProofs (maxSteps := 1000000) (disch := first | assumption | omega) [hl]; try simp only [gz])
    rfl
  refine hK _ ?_; clear hK
  refine LWP_seq ?_
  refine LWP_reg fun K hK => ?_
  apply rgnS_pre 1
  · repeat (simp -implicitDefEqProofs (maxSteps := 1000000) (disch := first | assumption | omega) [hl]; try simp only [gz])
    rfl
  refine rgnS_call (h2_) rfl rfl (by simp [pureL, pureR, AV.pure, pureR_st, pureR_bx]) (by simp [pureL, pureR, AV.pure, pureR_st, pureR_bx]) (by simp [gd, get_e0, get_e1, LArg.ev]) ?_
  apply rgnS_pre 5
  · repeat (simp -implicitDefEqProofs (maxSteps := 1000000) (disch := first | assumption | omega) [hl]; try simp only [gz])
    rfl
  refine hK _ ?_; clear hK
  refine LWP_seq ?_
  refine LWP_reg fun K hK => ?_
  apply rgnS_pre 1
  · repeat (simp -implicitDefEqProofs (maxSteps := 1000000) (disch := first | assumption | omega) [hl]; try simp only [gz])
    rfl
  refine rgnS_call (h3_) rfl rfl (by simp [pureL, pureR, AV.pure, pureR_st, pureR_bx]) (by simp [pureL, pureR, AV.pure, pureR_st, pureR_bx]) (by simp [gd, get_e0, get_e1, LArg.ev]) ?_
  apply rgnS_pre 5
  · repeat (simp -implicitDefEqProofs (maxSteps := 1000000) (disch := first | assumption | omega) [hl]; try simp only [gz])
    rfl
  refine hK _ ?_; clear hK
  refine LWP_seq ?_
  refine LWP_reg fun K hK => ?_
  apply rgnS_pre 1
  · repeat (simp -implicitDefEqProofs (maxSteps := 1000000) (disch := first | assumption | omega) [hl]; try simp only [gz])
    rfl
  refine rgnS_call (h4_) rfl rfl (by simp [pureL, pureR, AV.pure, pureR_st, pureR_bx]) (by simp [pureL, pureR, AV.pure, pureR_st, pureR_bx]) (by simp [gd, get_e0, get_e1, LArg.ev]) ?_
  apply rgnS_pre 5
  · repeat (simp -implicitDefEqProofs (maxSteps := 1000000) (disch := first | assumption | omega) [hl]; try simp only [gz])
    rfl
  refine hK _ ?_; clear hK
  refine LWP_seq ?_
  refine LWP_reg fun K hK => ?_
  apply rgnS_pre 2
  · repeat (simp -implicitDefEqProofs (maxSteps := 1000000) (disch := first | assumption | omega) [hl]; try simp only [gz])
    rfl
  refine rgnS_call (s1_) rfl rfl (by simp [pureL, pureR, AV.pure, pureR_st]) (by simp [pureL, pureR, AV.pure, pureR_st]) (by simp [gd, get_e0, get_e1, LArg.ev]) ?_
  apply rgnS_pre 8
  · repeat (simp -implicitDefEqProofs (maxSteps := 1000000) (disch := first | assumption | omega) [hl]; try simp only [gz])
    rfl
  refine rgnS_call (s2_) rfl rfl (by simp [pureL, pureR, AV.pure, pureR_st]) (by simp [pureL, pureR, AV.pure, pureR_st]) (by simp [gd, get_e0, get_e1, LArg.ev]) ?_
  apply rgnS_pre 7
  · repeat (simp -implicitDefEqProofs (maxSteps := 1000000) (disch := first | assumption | omega) [hl]; try simp only [gz])
    rfl
  refine rgnS_call (hsheads) rfl rfl (by simp [pureL, pureR, AV.pure]) (by simp [pureL, pureR, AV.pure]) (by simp [gd, get_e0, get_e1, LArg.ev]) ?_
  apply rgnS_pre 2
  · repeat (simp -implicitDefEqProofs (maxSteps := 1000000) (disch := first | assumption | omega) [hl]; try simp only [gz])
    rfl
  refine hK _ ?_; clear hK
  -- leaf 0
  refine LWP_ret ⟨_, rfl, ?_⟩
  refine wkV_of_eq ?_
  simp only [retV]
  all_goals
    rfl
end

open Classical in
theorem same_self (a : List St) : sameS a a = true := decide_eq_true rfl
theorem skyBoxes_ok (l : List Bx) : ACalls Go.Proofs.Try.prog 3 [.tsl 4 (l.map Bx.e)] [] 0 (fun r _ _ => r = .bool true) := by
  by_cases hb : 60 < l.length
  · exact boxes_big l hb
  have hl : l.length ≤ 60 := by omega
  have hsame : ∀ a : List St, a.length ≤ 200 → ACalls Go.Proofs.Try.prog 13 [.tsl 3 (a.map St.e), .tsl 3 (a.map St.e)] [] 0 (fun r _ _ => r = .bool true) := fun a h => by
    have := same_ok a a (by omega) (by omega)
    rwa [same_self] at this
  have hlen : ∀ hf : Bx → Int, (lineS (stp hf l)).length ≤ 200 := fun hf => by
    have h1 := lineS_len (stp hf l)
    have h2 := stp_len hf l
    omega
  cases ha : l.all bxB with
  | false => exact boxes_in l [] [] 2 hl (of_no l hl ha) (rOf_no l hl ha) (under_no l hl ha) (rUnder_no l hl ha) (hsame [] (by simp)) (hsame [] (by simp))
  | true => exact boxes_in l _ _ 0 hl (of_yes l hl ha) (rOf_yes l hl ha) (under_yes l hl ha) (rUnder_yes l hl ha) (hsame _ (hlen _)) (hsame _ (hlen _))
open Go.Proofs.Try in
set_option maxRecDepth 100000 in
theorem skyBoxes_all (l : List AV) (h : wtAll prog [22] l) : ACalls prog 3 l [] 0 (fun r _ _ => r = .bool true) := by
  match l, h with
  | [a], ⟨⟨n, ha⟩, _⟩ =>
    obtain ⟨x, rfl⟩ := rd_bxs ha
    exact skyBoxes_ok x

end Go.AM.Sk
