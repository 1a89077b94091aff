/- A part of a proof about the given program: what its name says. No premise beyond the statements'. -/
import Derived.Test.YtkhioehebaghjaaSkSkyR
import Derived.Test.YtkhioehebaghjaaSkHs
set_option linter.unusedSimpArgs false
set_option linter.unusedVariables false
/- The skyline of boxes: which boxes may be, their steps, and the line of these. -/
namespace Go.AM.Sk
open Go.AM
open Go.AM.SkyP
structure Bx where
  x0 : Int
  y0 : Int
  x1 : Int
  y1 : Int
def Bx.e (b : Bx) : List AV := [.int .i64 b.x0, .int .i64 b.y0, .int .i64 b.x1, .int .i64 b.y1]
def Bx.nth (b : Bx) (i : Nat) : Int := if i = 0 then b.x0 else if i = 1 then b.y0 else if i = 2 then b.x1 else b.y1
theorem nth0 (b : Bx) : b.nth 0 = b.x0 := rfl
theorem nth1 (b : Bx) : b.nth 1 = b.y0 := rfl
theorem nth2 (b : Bx) : b.nth 2 = b.x1 := rfl
theorem nth3 (b : Bx) : b.nth 3 = b.y1 := rfl
def bxB (b : Bx) : Bool := okF b.x0 && okF b.y0 && okF b.x1 && okF b.y1 && (decide (b.x0 ≤ b.x1) && decide (b.y0 ≤ b.y1))
theorem nth_drop (b : Bx) {i : Nat} (h : i < 4) : List.drop i [AV.int .i64 b.x0, AV.int .i64 b.y0, AV.int .i64 b.x1, AV.int .i64 b.y1] = .int .i64 (b.nth i) :: List.drop (i + 1) [AV.int .i64 b.x0, AV.int .i64 b.y0, AV.int .i64 b.x1, AV.int .i64 b.y1] := by
  have : i = 0 ∨ i = 1 ∨ i = 2 ∨ i = 3 := by omega
  rcases this with rfl | rfl | rfl | rfl <;> rfl
theorem bxB_bad {b : Bx} {i : Nat} (h : i < 4) (h2 : okF (b.nth i) = false) : bxB b = false := by
  have : i = 0 ∨ i = 1 ∨ i = 2 ∨ i = 3 := by omega
  rcases this with rfl | rfl | rfl | rfl <;> simp [Bx.nth] at h2 <;> simp [bxB, h2]
theorem bxB_all {b : Bx} (h : ∀ j, j < 4 → okF (b.nth j) = true) : bxB b = (decide (b.x0 ≤ b.x1) && decide (b.y0 ≤ b.y1)) := by
  have h0 := h 0 (by omega)
  have h1 := h 1 (by omega)
  have h2 := h 2 (by omega)
  have h3 := h 3 (by omega)
  simp [Bx.nth] at h0 h1 h2 h3
  simp [bxB, h0, h1, h2, h3]
theorem bxB_y0 {b : Bx} (h : bxB b = true) : IntKind.i64.wrap (-b.y0) = -b.y0 := by
  simp only [bxB, okF, Bool.and_eq_true, decide_eq_true_eq] at h
  exact wrap_i64 (by omega) (by omega)

section
attribute [local simp ↓] List.map_nil List.map_cons
attribute [local simp] m_ o_ g_ stepsS stepS gd opEff appEff LArg.ev app_val app_new app_upd app_kill putV ins_e0 ins_e1 get_e0 get_e1 binV binI grd bnd ldCells AV.cells AV.scalar AV.known setAt fillL chunks elems mxI mnI del Nat.add_assoc nlt_self nne_self nne_self' List.take_of_length_le decT decF wrap_i64 stepsD stepD ST.as dEffF LOp.cls softOK LOp.args LOp.rds AV.ids appD_val appD_new appD_upd appD_kill AS.flush delAll
set_option maxHeartbeats 2000000 in
set_option maxRecDepth 20000 in
theorem boxcheck_ok (b : Bx)  : ACalls Go.Proofs.Try.prog 37 [.agg b.e] [] 0 (fun r _ _ => r = .bool (bxB b)) := by
  refine pure_body ok37 rfl ?_
  simp only [parV]
  refine LWP_seq ?_
  apply LWP_run
  · repeat (simp -implicitDefEqProofs (maxSteps := 1000000) (disch := first | assumption | omega) [Bx.e, nth0, nth1, nth2, nth3, nth_drop b]; try simp only [gz])
    rfl
  refine LWP_seq ?_
  refine LWP_seq ?_
  apply LWP_run
  · repeat (simp -implicitDefEqProofs (maxSteps := 1000000) (disch := first | assumption | omega) [Bx.e, nth0, nth1, nth2, nth3, nth_drop b]; try simp only [gz])
    rfl
  refine LWP_block ?_
  refine LWP_for (fun (i : Nat) => [(1, .ptr 4 0 0 0), (13, .agg [.int .i64 b.x0, .int .i64 b.y0, .int .i64 b.x1, .int .i64 b.y1]), (14, .int .i64 (i : Nat))]) (fun (i : Nat) => [(0, Blk.rows 4 [[.int .i64 b.x0, .int .i64 b.y0, .int .i64 b.x1, .int .i64 b.y1]])]) (fun (i : Nat) n => 1 ≤ n ∧ i ≤ 4 ∧ ∀ j, j < i → okF (b.nth j) = true) (fun (i : Nat) => 4 - i) 0 ?_ ?_ ?_ ?_
  · simp (maxSteps := 1000000) (disch := first | assumption | omega) [leV, get_e0, get_e1, wkV.refl, wkV_int, decT, decF, Bx.e, nth0, nth1, nth2, nth3, nth_drop b]
  · simp [leH, get_e0, get_e1]
    try rfl
  · exact ⟨Nat.le_refl _, Nat.zero_le _, fun j hj => absurd hj (Nat.not_lt_zero _)⟩
  rintro i n ⟨c0, c1, c2⟩
  try simp only at *
  refine LWP_seq ?_
  apply LWP_run
  · repeat (simp -implicitDefEqProofs (maxSteps := 1000000) (disch := first | assumption | omega) [Bx.e, nth0, nth1, nth2, nth3, nth_drop b]; try simp only [gz])
    rfl
  refine LWP_seq ?_
  refine LWP_cond rfl (fun h2 => ?_) (fun h2 => ?_)
  · try simp only [bn, reduceCtorEq] at h2
    all_goals try (exfalso; omega)
    all_goals
      refine LWP_skip ?_
      refine LWP_seq ?_
      refine LWP_block ?_
      refine LWP_seq ?_
      apply LWP_run
      · repeat (simp -implicitDefEqProofs (maxSteps := 1000000) (disch := first | assumption | omega) [Bx.e, nth0, nth1, nth2, nth3, nth_drop b, h2]; try simp only [gz])
        rfl
      refine LWP_seq ?_
      refine LWP_reg fun K hK => ?_
      apply rgnS_pre 1
      · repeat (simp -implicitDefEqProofs (maxSteps := 1000000) (disch := first | assumption | omega) [Bx.e, nth0, nth1, nth2, nth3, nth_drop b, h2]; try simp only [gz])
        rfl
      refine rgnS_call (fixok_ok (b.nth i)) rfl rfl (by simp [pureL, pureR, AV.pure, Bx.e, nth0, nth1, nth2, nth3]) (by simp [pureL, pureR, AV.pure, Bx.e, nth0, nth1, nth2, nth3]) (by simp [gd, get_e0, get_e1, LArg.ev, h2]) ?_
      apply rgnS_pre 1
      · repeat (simp -implicitDefEqProofs (maxSteps := 1000000) (disch := first | assumption | omega) [Bx.e, nth0, nth1, nth2, nth3, nth_drop b, h2]; try simp only [gz])
        rfl
      refine hK _ ?_; clear hK
      refine LWP_cond rfl (fun h3 => ?_) (fun h3 => ?_)
      · try simp only [bn, reduceCtorEq] at h3
        all_goals try (exfalso; omega)
        all_goals
          refine LWP_seq ?_
          apply LWP_run
          · repeat (simp -implicitDefEqProofs (maxSteps := 1000000) (disch := first | assumption | omega) [Bx.e, nth0, nth1, nth2, nth3, nth_drop b, h2, h3]; try simp only [gz])
            rfl
          -- leaf 0
          refine LWP_ret ⟨_, rfl, ?_⟩
          refine wkV_of_eq ?_
          simp only [retV]
          all_goals
            first
              | (rw [bxB_bad (i := i) (by omega) (by assumption)]; done)
              | (have e := bxB_all (fun j hj => c2 j (by omega))
                 rw [e]
                 simp_all; done)
      · try simp only [bn, reduceCtorEq] at h3
        all_goals try (exfalso; omega)
        all_goals
          refine LWP_skip ?_
          apply LWP_run
          · repeat (simp -implicitDefEqProofs (maxSteps := 1000000) (disch := first | assumption | omega) [Bx.e, nth0, nth1, nth2, nth3, nth_drop b, h2, h3]; try simp only [gz])
            rfl
          -- loop 0, round 0
          refine ⟨i + 1, ?_, ?_, ?_, ?_⟩
          · refine ⟨by omega, by omega, fun j hj => ?_⟩
            rcases Nat.lt_or_ge j i with q | q
            · exact c2 j q
            · have e : j = i := by omega
              subst e
              assumption
          · omega
          · simp (maxSteps := 1000000) (disch := first | assumption | omega) [leV, get_e0, get_e1, wkV.refl, wkV_int, wrap_i64, decT, decF, Bx.e, nth0, nth1, nth2, nth3, nth_drop b, h2, h3]
          · simp [leH, get_e0, get_e1, h2, h3]
            try rfl
  · try simp only [bn, reduceCtorEq] at h2
    all_goals try (exfalso; omega)
    all_goals
      refine LWP_exit ?_
      refine LWP_seq ?_
      refine LWP_reg fun K hK => ?_
      apply rgnS_pre 6
      · repeat (simp -implicitDefEqProofs (maxSteps := 1000000) (disch := first | assumption | omega) [Bx.e, nth0, nth1, nth2, nth3, nth_drop b, h2]; try simp only [gz])
        rfl
      refine rgnS_guard (x := 26) (b := true) rfl (fun h4 => ?_) (fun h4 => ?_)
      · try simp only [bn, reduceCtorEq] at h4
        all_goals try (exfalso; omega)
        all_goals
          apply rgnS_pre 7
          · repeat (simp -implicitDefEqProofs (maxSteps := 1000000) (disch := first | assumption | omega) [Bx.e, nth0, nth1, nth2, nth3, nth_drop b, h2, h4]; try simp only [gz])
            rfl
          refine hK _ ?_; clear hK
          -- leaf 1
          refine LWP_ret ⟨_, rfl, ?_⟩
          refine wkV_of_eq ?_
          simp only [retV]
          all_goals
            first
              | (rw [bxB_bad (i := i) (by omega) (by assumption)]; done)
              | (have e := bxB_all (fun j hj => c2 j (by omega))
                 rw [e]
                 simp_all; done)
      · try simp only [bn, reduceCtorEq] at h4
        all_goals try (exfalso; omega)
        all_goals
          apply rgnS_pre 6
          · repeat (simp -implicitDefEqProofs (maxSteps := 1000000) (disch := first | assumption | omega) [Bx.e, nth0, nth1, nth2, nth3, nth_drop b, h2, h4]; try simp only [gz])
            rfl
          refine hK _ ?_; clear hK
          -- leaf 2
          refine LWP_ret ⟨_, rfl, ?_⟩
          refine wkV_of_eq ?_
          simp only [retV]
          all_goals
            first
              | (rw [bxB_bad (i := i) (by omega) (by assumption)]; done)
              | (have e := bxB_all (fun j hj => c2 j (by omega))
                 rw [e]
                 simp_all; done)
set_option maxHeartbeats 2000000 in
set_option maxRecDepth 20000 in
theorem of1_ok (b : Bx)  : ACalls Go.Proofs.Try.prog 25 [.agg b.e] [] 0 (fun r _ _ => r = .int .i64 b.y1) := by
  refine pure_body ok25 rfl ?_
  simp only [parV]
  refine LWP_seq ?_
  apply LWP_run
  · repeat (simp -implicitDefEqProofs (maxSteps := 1000000) (disch := first | assumption | omega) [Bx.e]; try simp only [gz])
    rfl
  refine LWP_seq ?_
  apply LWP_run
  · repeat (simp -implicitDefEqProofs (maxSteps := 1000000) (disch := first | assumption | omega) [Bx.e]; try simp only [gz])
    rfl
  -- leaf 0
  refine LWP_ret ⟨_, rfl, ?_⟩
  refine wkV_of_eq ?_
  simp only [retV]
  all_goals
    rfl
set_option maxHeartbeats 2000000 in
set_option maxRecDepth 20000 in
theorem under1_ok (b : Bx) (h : bxB b = true) : ACalls Go.Proofs.Try.prog 27 [.agg b.e] [] 0 (fun r _ _ => r = .int .i64 (-b.y0)) := by
  refine pure_body ok27 rfl ?_
  simp only [parV]
  refine LWP_seq ?_
  apply LWP_run
  · repeat (simp -implicitDefEqProofs (maxSteps := 1000000) (disch := first | assumption | omega) [Bx.e, bxB_y0 h]; try simp only [gz])
    rfl
  refine LWP_seq ?_
  apply LWP_run
  · repeat (simp -implicitDefEqProofs (maxSteps := 1000000) (disch := first | assumption | omega) [Bx.e, bxB_y0 h]; try simp only [gz])
    rfl
  -- leaf 0
  refine LWP_ret ⟨_, rfl, ?_⟩
  refine wkV_of_eq ?_
  simp only [retV]
  all_goals
    simp [bxB_y0 h]
end

end Go.AM.Sk
