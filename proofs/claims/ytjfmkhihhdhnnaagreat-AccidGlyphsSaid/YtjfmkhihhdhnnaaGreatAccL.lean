/- A part of a proof about the given program: what its name says. No premise beyond the statements'. -/
import Derived.Test.YtjfmkhihhdhnnaaGreatAccG
set_option linter.unusedSimpArgs false
set_option linter.unusedVariables false
/- The law on accidentals: for every two numbers it answers true. -/
namespace Go.AM.Ez
open Go.AM

theorem law_in_in (a g x1 x2 x3 x4 : Int) (h1 : -2 ≤ a) (h2 : a ≤ 2) (h3 : x2 = a) (h4 : x4 = g)
    (C1 : ACalls Go.Proofs.Tryz.prog 14 [.int .i64 a] [] 0 (fun r _ _ => r = .tup [.int .i64 x1, .bool true])) (C2 : ACalls Go.Proofs.Tryz.prog 15 [.int .i64 x1] [] 0 (fun r _ _ => r = .tup [.int .i64 x2, .bool true]))
    (C3 : ACalls Go.Proofs.Tryz.prog 15 [.int .i64 g] [] 0 (fun r _ _ => r = .tup [.int .i64 x3, .bool true])) (C4 : ACalls Go.Proofs.Tryz.prog 14 [.int .i64 x3] [] 0 (fun r _ _ => r = .tup [.int .i64 x4, .bool true])) :
    ACalls Go.Proofs.Tryz.prog 5 [.int .i64 a, .int .i64 g] [] 0 (fun r _ _ => r = .bool true) := by
  refine pure_body ok5 rfl ?_
  simp only [parV]
  refine LWP_seq ?_
  apply LWP_run
  · simp -implicitDefEqProofs (maxSteps := 1000000) (disch := first | assumption | omega) [m_, o_, g_, stepsS, stepS, gd, opEff, appEff, LArg.ev, app_val, app_new, app_upd, app_kill, putV, ins_e0, ins_e1, get_e0, get_e1, binV, binI, grd, bnd, ldCells, AV.cells, AV.scalar, AV.known, setAt, fillL, chunks, elems, mxI, mnI, del, Nat.add_assoc, nlt_self, nne_self, nne_self', List.take_of_length_le, decT, decF, wrap_i64, eqV, eqS]; rfl
  refine LWP_seq ?_
  refine LWP_reg fun K hK => ?_
  apply rgnS_pre 1
  · simp -implicitDefEqProofs (maxSteps := 1000000) (disch := first | assumption | omega) [m_, o_, g_, stepsS, stepS, gd, opEff, appEff, LArg.ev, app_val, app_new, app_upd, app_kill, putV, ins_e0, ins_e1, get_e0, get_e1, binV, binI, grd, bnd, ldCells, AV.cells, AV.scalar, AV.known, setAt, fillL, chunks, elems, mxI, mnI, del, Nat.add_assoc, nlt_self, nne_self, nne_self', List.take_of_length_le, decT, decF, wrap_i64, eqV, eqS]; rfl
  refine rgnS_call (C1) rfl rfl (by simp [pureL, pureR, AV.pure, eqV, eqS]) (by simp [pureL, pureR, AV.pure, eqV, eqS]) (by simp [gd, get_e0, get_e1, LArg.ev, eqV, eqS]) ?_
  apply rgnS_pre 5
  · simp -implicitDefEqProofs (maxSteps := 1000000) (disch := first | assumption | omega) [m_, o_, g_, stepsS, stepS, gd, opEff, appEff, LArg.ev, app_val, app_new, app_upd, app_kill, putV, ins_e0, ins_e1, get_e0, get_e1, binV, binI, grd, bnd, ldCells, AV.cells, AV.scalar, AV.known, setAt, fillL, chunks, elems, mxI, mnI, del, Nat.add_assoc, nlt_self, nne_self, nne_self', List.take_of_length_le, decT, decF, wrap_i64, eqV, eqS]; rfl
  refine hK _ ?_; clear hK
  refine LWP_seq ?_
  refine LWP_reg fun K hK => ?_
  apply rgnS_pre 1
  · simp -implicitDefEqProofs (maxSteps := 1000000) (disch := first | assumption | omega) [m_, o_, g_, stepsS, stepS, gd, opEff, appEff, LArg.ev, app_val, app_new, app_upd, app_kill, putV, ins_e0, ins_e1, get_e0, get_e1, binV, binI, grd, bnd, ldCells, AV.cells, AV.scalar, AV.known, setAt, fillL, chunks, elems, mxI, mnI, del, Nat.add_assoc, nlt_self, nne_self, nne_self', List.take_of_length_le, decT, decF, wrap_i64, eqV, eqS]; rfl
  refine rgnS_call (C2) rfl rfl (by simp [pureL, pureR, AV.pure, eqV, eqS]) (by simp [pureL, pureR, AV.pure, eqV, eqS]) (by simp [gd, get_e0, get_e1, LArg.ev, eqV, eqS]) ?_
  apply rgnS_pre 5
  · simp -implicitDefEqProofs (maxSteps := 1000000) (disch := first | assumption | omega) [m_, o_, g_, stepsS, stepS, gd, opEff, appEff, LArg.ev, app_val, app_new, app_upd, app_kill, putV, ins_e0, ins_e1, get_e0, get_e1, binV, binI, grd, bnd, ldCells, AV.cells, AV.scalar, AV.known, setAt, fillL, chunks, elems, mxI, mnI, del, Nat.add_assoc, nlt_self, nne_self, nne_self', List.take_of_length_le, decT, decF, wrap_i64, eqV, eqS]; rfl
  refine hK _ ?_; clear hK
  refine LWP_seq ?_
  refine LWP_reg fun K hK => ?_
  apply rgnS_pre 1
  · simp -implicitDefEqProofs (maxSteps := 1000000) (disch := first | assumption | omega) [m_, o_, g_, stepsS, stepS, gd, opEff, appEff, LArg.ev, app_val, app_new, app_upd, app_kill, putV, ins_e0, ins_e1, get_e0, get_e1, binV, binI, grd, bnd, ldCells, AV.cells, AV.scalar, AV.known, setAt, fillL, chunks, elems, mxI, mnI, del, Nat.add_assoc, nlt_self, nne_self, nne_self', List.take_of_length_le, decT, decF, wrap_i64, eqV, eqS]; rfl
  refine rgnS_call (C3) rfl rfl (by simp [pureL, pureR, AV.pure, eqV, eqS]) (by simp [pureL, pureR, AV.pure, eqV, eqS]) (by simp [gd, get_e0, get_e1, LArg.ev, eqV, eqS]) ?_
  apply rgnS_pre 5
  · simp -implicitDefEqProofs (maxSteps := 1000000) (disch := first | assumption | omega) [m_, o_, g_, stepsS, stepS, gd, opEff, appEff, LArg.ev, app_val, app_new, app_upd, app_kill, putV, ins_e0, ins_e1, get_e0, get_e1, binV, binI, grd, bnd, ldCells, AV.cells, AV.scalar, AV.known, setAt, fillL, chunks, elems, mxI, mnI, del, Nat.add_assoc, nlt_self, nne_self, nne_self', List.take_of_length_le, decT, decF, wrap_i64, eqV, eqS]; rfl
  refine hK _ ?_; clear hK
  refine LWP_seq ?_
  refine LWP_reg fun K hK => ?_
  apply rgnS_pre 1
  · simp -implicitDefEqProofs (maxSteps := 1000000) (disch := first | assumption | omega) [m_, o_, g_, stepsS, stepS, gd, opEff, appEff, LArg.ev, app_val, app_new, app_upd, app_kill, putV, ins_e0, ins_e1, get_e0, get_e1, binV, binI, grd, bnd, ldCells, AV.cells, AV.scalar, AV.known, setAt, fillL, chunks, elems, mxI, mnI, del, Nat.add_assoc, nlt_self, nne_self, nne_self', List.take_of_length_le, decT, decF, wrap_i64, eqV, eqS]; rfl
  refine rgnS_call (C4) rfl rfl (by simp [pureL, pureR, AV.pure, eqV, eqS]) (by simp [pureL, pureR, AV.pure, eqV, eqS]) (by simp [gd, get_e0, get_e1, LArg.ev, eqV, eqS]) ?_
  apply rgnS_pre 5
  · simp -implicitDefEqProofs (maxSteps := 1000000) (disch := first | assumption | omega) [m_, o_, g_, stepsS, stepS, gd, opEff, appEff, LArg.ev, app_val, app_new, app_upd, app_kill, putV, ins_e0, ins_e1, get_e0, get_e1, binV, binI, grd, bnd, ldCells, AV.cells, AV.scalar, AV.known, setAt, fillL, chunks, elems, mxI, mnI, del, Nat.add_assoc, nlt_self, nne_self, nne_self', List.take_of_length_le, decT, decF, wrap_i64, eqV, eqS]; rfl
  refine hK _ ?_; clear hK
  refine LWP_seq ?_
  refine LWP_reg fun K hK => ?_
  apply rgnS_pre 9
  · simp -implicitDefEqProofs (maxSteps := 1000000) (disch := first | assumption | omega) [m_, o_, g_, stepsS, stepS, gd, opEff, appEff, LArg.ev, app_val, app_new, app_upd, app_kill, putV, ins_e0, ins_e1, get_e0, get_e1, binV, binI, grd, bnd, ldCells, AV.cells, AV.scalar, AV.known, setAt, fillL, chunks, elems, mxI, mnI, del, Nat.add_assoc, nlt_self, nne_self, nne_self', List.take_of_length_le, decT, decF, wrap_i64, eqV, eqS, h3, h4]; rfl
  apply rgnS_pre 12
  · simp -implicitDefEqProofs (maxSteps := 1000000) (disch := first | assumption | omega) [m_, o_, g_, stepsS, stepS, gd, opEff, appEff, LArg.ev, app_val, app_new, app_upd, app_kill, putV, ins_e0, ins_e1, get_e0, get_e1, binV, binI, grd, bnd, ldCells, AV.cells, AV.scalar, AV.known, setAt, fillL, chunks, elems, mxI, mnI, del, Nat.add_assoc, nlt_self, nne_self, nne_self', List.take_of_length_le, decT, decF, wrap_i64, eqV, eqS, h3, h4]; rfl
  apply rgnS_pre 12
  · simp -implicitDefEqProofs (maxSteps := 1000000) (disch := first | assumption | omega) [m_, o_, g_, stepsS, stepS, gd, opEff, appEff, LArg.ev, app_val, app_new, app_upd, app_kill, putV, ins_e0, ins_e1, get_e0, get_e1, binV, binI, grd, bnd, ldCells, AV.cells, AV.scalar, AV.known, setAt, fillL, chunks, elems, mxI, mnI, del, Nat.add_assoc, nlt_self, nne_self, nne_self', List.take_of_length_le, decT, decF, wrap_i64, eqV, eqS, h3, h4]; rfl
  refine rgnS_call (hbheads) rfl rfl (by simp [pureL, pureR, AV.pure, eqV, eqS, h3, h4]) (by simp [pureL, pureR, AV.pure, eqV, eqS, h3, h4]) (by simp [gd, get_e0, get_e1, LArg.ev, eqV, eqS, h3, h4]) ?_
  apply rgnS_pre 2
  · simp -implicitDefEqProofs (maxSteps := 1000000) (disch := first | assumption | omega) [m_, o_, g_, stepsS, stepS, gd, opEff, appEff, LArg.ev, app_val, app_new, app_upd, app_kill, putV, ins_e0, ins_e1, get_e0, get_e1, binV, binI, grd, bnd, ldCells, AV.cells, AV.scalar, AV.known, setAt, fillL, chunks, elems, mxI, mnI, del, Nat.add_assoc, nlt_self, nne_self, nne_self', List.take_of_length_le, decT, decF, wrap_i64, eqV, eqS, h3, h4]; rfl
  refine hK _ ?_; clear hK
  refine LWP_ret ⟨_, rfl, ?_⟩
  refine wkV_of_eq ?_
  simp only [retV]

theorem law_in_out (a g x1 x2 x3 x4 : Int) (h1 : -2 ≤ a) (h2 : a ≤ 2) (h3 : x2 = a) (b4 : Bool)
    (C1 : ACalls Go.Proofs.Tryz.prog 14 [.int .i64 a] [] 0 (fun r _ _ => r = .tup [.int .i64 x1, .bool true])) (C2 : ACalls Go.Proofs.Tryz.prog 15 [.int .i64 x1] [] 0 (fun r _ _ => r = .tup [.int .i64 x2, .bool true]))
    (C3 : ACalls Go.Proofs.Tryz.prog 15 [.int .i64 g] [] 0 (fun r _ _ => r = .tup [.int .i64 x3, .bool false])) (C4 : ACalls Go.Proofs.Tryz.prog 14 [.int .i64 x3] [] 0 (fun r _ _ => r = .tup [.int .i64 x4, .bool b4])) :
    ACalls Go.Proofs.Tryz.prog 5 [.int .i64 a, .int .i64 g] [] 0 (fun r _ _ => r = .bool true) := by
  refine pure_body ok5 rfl ?_
  simp only [parV]
  refine LWP_seq ?_
  apply LWP_run
  · simp -implicitDefEqProofs (maxSteps := 1000000) (disch := first | assumption | omega) [m_, o_, g_, stepsS, stepS, gd, opEff, appEff, LArg.ev, app_val, app_new, app_upd, app_kill, putV, ins_e0, ins_e1, get_e0, get_e1, binV, binI, grd, bnd, ldCells, AV.cells, AV.scalar, AV.known, setAt, fillL, chunks, elems, mxI, mnI, del, Nat.add_assoc, nlt_self, nne_self, nne_self', List.take_of_length_le, decT, decF, wrap_i64, eqV, eqS]; rfl
  refine LWP_seq ?_
  refine LWP_reg fun K hK => ?_
  apply rgnS_pre 1
  · simp -implicitDefEqProofs (maxSteps := 1000000) (disch := first | assumption | omega) [m_, o_, g_, stepsS, stepS, gd, opEff, appEff, LArg.ev, app_val, app_new, app_upd, app_kill, putV, ins_e0, ins_e1, get_e0, get_e1, binV, binI, grd, bnd, ldCells, AV.cells, AV.scalar, AV.known, setAt, fillL, chunks, elems, mxI, mnI, del, Nat.add_assoc, nlt_self, nne_self, nne_self', List.take_of_length_le, decT, decF, wrap_i64, eqV, eqS]; rfl
  refine rgnS_call (C1) rfl rfl (by simp [pureL, pureR, AV.pure, eqV, eqS]) (by simp [pureL, pureR, AV.pure, eqV, eqS]) (by simp [gd, get_e0, get_e1, LArg.ev, eqV, eqS]) ?_
  apply rgnS_pre 5
  · simp -implicitDefEqProofs (maxSteps := 1000000) (disch := first | assumption | omega) [m_, o_, g_, stepsS, stepS, gd, opEff, appEff, LArg.ev, app_val, app_new, app_upd, app_kill, putV, ins_e0, ins_e1, get_e0, get_e1, binV, binI, grd, bnd, ldCells, AV.cells, AV.scalar, AV.known, setAt, fillL, chunks, elems, mxI, mnI, del, Nat.add_assoc, nlt_self, nne_self, nne_self', List.take_of_length_le, decT, decF, wrap_i64, eqV, eqS]; rfl
  refine hK _ ?_; clear hK
  refine LWP_seq ?_
  refine LWP_reg fun K hK => ?_
  apply rgnS_pre 1
  · simp -implicitDefEqProofs (maxSteps := 1000000) (disch := first | assumption | omega) [m_, o_, g_, stepsS, stepS, gd, opEff, appEff, LArg.ev, app_val, app_new, app_upd, app_kill, putV, ins_e0, ins_e1, get_e0, get_e1, binV, binI, grd, bnd, ldCells, AV.cells, AV.scalar, AV.known, setAt, fillL, chunks, elems, mxI, mnI, del, Nat.add_assoc, nlt_self, nne_self, nne_self', List.take_of_length_le, decT, decF, wrap_i64, eqV, eqS]; rfl
  refine rgnS_call (C2) rfl rfl (by simp [pureL, pureR, AV.pure, eqV, eqS]) (by simp [pureL, pureR, AV.pure, eqV, eqS]) (by simp [gd, get_e0, get_e1, LArg.ev, eqV, eqS]) ?_
  apply rgnS_pre 5
  · simp -implicitDefEqProofs (maxSteps := 1000000) (disch := first | assumption | omega) [m_, o_, g_, stepsS, stepS, gd, opEff, appEff, LArg.ev, app_val, app_new, app_upd, app_kill, putV, ins_e0, ins_e1, get_e0, get_e1, binV, binI, grd, bnd, ldCells, AV.cells, AV.scalar, AV.known, setAt, fillL, chunks, elems, mxI, mnI, del, Nat.add_assoc, nlt_self, nne_self, nne_self', List.take_of_length_le, decT, decF, wrap_i64, eqV, eqS]; rfl
  refine hK _ ?_; clear hK
  refine LWP_seq ?_
  refine LWP_reg fun K hK => ?_
  apply rgnS_pre 1
  · simp -implicitDefEqProofs (maxSteps := 1000000) (disch := first | assumption | omega) [m_, o_, g_, stepsS, stepS, gd, opEff, appEff, LArg.ev, app_val, app_new, app_upd, app_kill, putV, ins_e0, ins_e1, get_e0, get_e1, binV, binI, grd, bnd, ldCells, AV.cells, AV.scalar, AV.known, setAt, fillL, chunks, elems, mxI, mnI, del, Nat.add_assoc, nlt_self, nne_self, nne_self', List.take_of_length_le, decT, decF, wrap_i64, eqV, eqS]; rfl
  refine rgnS_call (C3) rfl rfl (by simp [pureL, pureR, AV.pure, eqV, eqS]) (by simp [pureL, pureR, AV.pure, eqV, eqS]) (by simp [gd, get_e0, get_e1, LArg.ev, eqV, eqS]) ?_
  apply rgnS_pre 5
  · simp -implicitDefEqProofs (maxSteps := 1000000) (disch := first | assumption | omega) [m_, o_, g_, stepsS, stepS, gd, opEff, appEff, LArg.ev, app_val, app_new, app_upd, app_kill, putV, ins_e0, ins_e1, get_e0, get_e1, binV, binI, grd, bnd, ldCells, AV.cells, AV.scalar, AV.known, setAt, fillL, chunks, elems, mxI, mnI, del, Nat.add_assoc, nlt_self, nne_self, nne_self', List.take_of_length_le, decT, decF, wrap_i64, eqV, eqS]; rfl
  refine hK _ ?_; clear hK
  refine LWP_seq ?_
  refine LWP_reg fun K hK => ?_
  apply rgnS_pre 1
  · simp -implicitDefEqProofs (maxSteps := 1000000) (disch := first | assumption | omega) [m_, o_, g_, stepsS, stepS, gd, opEff, appEff, LArg.ev, app_val, app_new, app_upd, app_kill, putV, ins_e0, ins_e1, get_e0, get_e1, binV, binI, grd, bnd, ldCells, AV.cells, AV.scalar, AV.known, setAt, fillL, chunks, elems, mxI, mnI, del, Nat.add_assoc, nlt_self, nne_self, nne_self', List.take_of_length_le, decT, decF, wrap_i64, eqV, eqS]; rfl
  refine rgnS_call (C4) rfl rfl (by simp [pureL, pureR, AV.pure, eqV, eqS]) (by simp [pureL, pureR, AV.pure, eqV, eqS]) (by simp [gd, get_e0, get_e1, LArg.ev, eqV, eqS]) ?_
  apply rgnS_pre 5
  · simp -implicitDefEqProofs (maxSteps := 1000000) (disch := first | assumption | omega) [m_, o_, g_, stepsS, stepS, gd, opEff, appEff, LArg.ev, app_val, app_new, app_upd, app_kill, putV, ins_e0, ins_e1, get_e0, get_e1, binV, binI, grd, bnd, ldCells, AV.cells, AV.scalar, AV.known, setAt, fillL, chunks, elems, mxI, mnI, del, Nat.add_assoc, nlt_self, nne_self, nne_self', List.take_of_length_le, decT, decF, wrap_i64, eqV, eqS]; rfl
  refine hK _ ?_; clear hK
  refine LWP_seq ?_
  refine LWP_reg fun K hK => ?_
  apply rgnS_pre 9
  · simp -implicitDefEqProofs (maxSteps := 1000000) (disch := first | assumption | omega) [m_, o_, g_, stepsS, stepS, gd, opEff, appEff, LArg.ev, app_val, app_new, app_upd, app_kill, putV, ins_e0, ins_e1, get_e0, get_e1, binV, binI, grd, bnd, ldCells, AV.cells, AV.scalar, AV.known, setAt, fillL, chunks, elems, mxI, mnI, del, Nat.add_assoc, nlt_self, nne_self, nne_self', List.take_of_length_le, decT, decF, wrap_i64, eqV, eqS, h3]; rfl
  apply rgnS_pre 12
  · simp -implicitDefEqProofs (maxSteps := 1000000) (disch := first | assumption | omega) [m_, o_, g_, stepsS, stepS, gd, opEff, appEff, LArg.ev, app_val, app_new, app_upd, app_kill, putV, ins_e0, ins_e1, get_e0, get_e1, binV, binI, grd, bnd, ldCells, AV.cells, AV.scalar, AV.known, setAt, fillL, chunks, elems, mxI, mnI, del, Nat.add_assoc, nlt_self, nne_self, nne_self', List.take_of_length_le, decT, decF, wrap_i64, eqV, eqS, h3]; rfl
  apply rgnS_pre 12
  · simp -implicitDefEqProofs (maxSteps := 1000000) (disch := first | assumption | omega) [m_, o_, g_, stepsS, stepS, gd, opEff, appEff, LArg.ev, app_val, app_new, app_upd, app_kill, putV, ins_e0, ins_e1, get_e0, get_e1, binV, binI, grd, bnd, ldCells, AV.cells, AV.scalar, AV.known, setAt, fillL, chunks, elems, mxI, mnI, del, Nat.add_assoc, nlt_self, nne_self, nne_self', List.take_of_length_le, decT, decF, wrap_i64, eqV, eqS, h3]; rfl
  refine rgnS_call (hbheads) rfl rfl (by simp [pureL, pureR, AV.pure, eqV, eqS, h3]) (by simp [pureL, pureR, AV.pure, eqV, eqS, h3]) (by simp [gd, get_e0, get_e1, LArg.ev, eqV, eqS, h3]) ?_
  apply rgnS_pre 2
  · simp -implicitDefEqProofs (maxSteps := 1000000) (disch := first | assumption | omega) [m_, o_, g_, stepsS, stepS, gd, opEff, appEff, LArg.ev, app_val, app_new, app_upd, app_kill, putV, ins_e0, ins_e1, get_e0, get_e1, binV, binI, grd, bnd, ldCells, AV.cells, AV.scalar, AV.known, setAt, fillL, chunks, elems, mxI, mnI, del, Nat.add_assoc, nlt_self, nne_self, nne_self', List.take_of_length_le, decT, decF, wrap_i64, eqV, eqS, h3]; rfl
  refine hK _ ?_; clear hK
  refine LWP_ret ⟨_, rfl, ?_⟩
  refine wkV_of_eq ?_
  simp only [retV]

theorem law_lo_in (a g x1 x2 x3 x4 : Int) (h1 : a < -2) (h4 : x4 = g) (b2 : Bool)
    (C1 : ACalls Go.Proofs.Tryz.prog 14 [.int .i64 a] [] 0 (fun r _ _ => r = .tup [.int .i64 x1, .bool false])) (C2 : ACalls Go.Proofs.Tryz.prog 15 [.int .i64 x1] [] 0 (fun r _ _ => r = .tup [.int .i64 x2, .bool b2]))
    (C3 : ACalls Go.Proofs.Tryz.prog 15 [.int .i64 g] [] 0 (fun r _ _ => r = .tup [.int .i64 x3, .bool true])) (C4 : ACalls Go.Proofs.Tryz.prog 14 [.int .i64 x3] [] 0 (fun r _ _ => r = .tup [.int .i64 x4, .bool true])) :
    ACalls Go.Proofs.Tryz.prog 5 [.int .i64 a, .int .i64 g] [] 0 (fun r _ _ => r = .bool true) := by
  refine pure_body ok5 rfl ?_
  simp only [parV]
  refine LWP_seq ?_
  apply LWP_run
  · simp -implicitDefEqProofs (maxSteps := 1000000) (disch := first | assumption | omega) [m_, o_, g_, stepsS, stepS, gd, opEff, appEff, LArg.ev, app_val, app_new, app_upd, app_kill, putV, ins_e0, ins_e1, get_e0, get_e1, binV, binI, grd, bnd, ldCells, AV.cells, AV.scalar, AV.known, setAt, fillL, chunks, elems, mxI, mnI, del, Nat.add_assoc, nlt_self, nne_self, nne_self', List.take_of_length_le, decT, decF, wrap_i64, eqV, eqS]; rfl
  refine LWP_seq ?_
  refine LWP_reg fun K hK => ?_
  apply rgnS_pre 1
  · simp -implicitDefEqProofs (maxSteps := 1000000) (disch := first | assumption | omega) [m_, o_, g_, stepsS, stepS, gd, opEff, appEff, LArg.ev, app_val, app_new, app_upd, app_kill, putV, ins_e0, ins_e1, get_e0, get_e1, binV, binI, grd, bnd, ldCells, AV.cells, AV.scalar, AV.known, setAt, fillL, chunks, elems, mxI, mnI, del, Nat.add_assoc, nlt_self, nne_self, nne_self', List.take_of_length_le, decT, decF, wrap_i64, eqV, eqS]; rfl
  refine rgnS_call (C1) rfl rfl (by simp [pureL, pureR, AV.pure, eqV, eqS]) (by simp [pureL, pureR, AV.pure, eqV, eqS]) (by simp [gd, get_e0, get_e1, LArg.ev, eqV, eqS]) ?_
  apply rgnS_pre 5
  · simp -implicitDefEqProofs (maxSteps := 1000000) (disch := first | assumption | omega) [m_, o_, g_, stepsS, stepS, gd, opEff, appEff, LArg.ev, app_val, app_new, app_upd, app_kill, putV, ins_e0, ins_e1, get_e0, get_e1, binV, binI, grd, bnd, ldCells, AV.cells, AV.scalar, AV.known, setAt, fillL, chunks, elems, mxI, mnI, del, Nat.add_assoc, nlt_self, nne_self, nne_self', List.take_of_length_le, decT, decF, wrap_i64, eqV, eqS]; rfl
  refine hK _ ?_; clear hK
  refine LWP_seq ?_
  refine LWP_reg fun K hK => ?_
  apply rgnS_pre 1
  · simp -implicitDefEqProofs (maxSteps := 1000000) (disch := first | assumption | omega) [m_, o_, g_, stepsS, stepS, gd, opEff, appEff, LArg.ev, app_val, app_new, app_upd, app_kill, putV, ins_e0, ins_e1, get_e0, get_e1, binV, binI, grd, bnd, ldCells, AV.cells, AV.scalar, AV.known, setAt, fillL, chunks, elems, mxI, mnI, del, Nat.add_assoc, nlt_self, nne_self, nne_self', List.take_of_length_le, decT, decF, wrap_i64, eqV, eqS]; rfl
  refine rgnS_call (C2) rfl rfl (by simp [pureL, pureR, AV.pure, eqV, eqS]) (by simp [pureL, pureR, AV.pure, eqV, eqS]) (by simp [gd, get_e0, get_e1, LArg.ev, eqV, eqS]) ?_
  apply rgnS_pre 5
  · simp -implicitDefEqProofs (maxSteps := 1000000) (disch := first | assumption | omega) [m_, o_, g_, stepsS, stepS, gd, opEff, appEff, LArg.ev, app_val, app_new, app_upd, app_kill, putV, ins_e0, ins_e1, get_e0, get_e1, binV, binI, grd, bnd, ldCells, AV.cells, AV.scalar, AV.known, setAt, fillL, chunks, elems, mxI, mnI, del, Nat.add_assoc, nlt_self, nne_self, nne_self', List.take_of_length_le, decT, decF, wrap_i64, eqV, eqS]; rfl
  refine hK _ ?_; clear hK
  refine LWP_seq ?_
  refine LWP_reg fun K hK => ?_
  apply rgnS_pre 1
  · simp -implicitDefEqProofs (maxSteps := 1000000) (disch := first | assumption | omega) [m_, o_, g_, stepsS, stepS, gd, opEff, appEff, LArg.ev, app_val, app_new, app_upd, app_kill, putV, ins_e0, ins_e1, get_e0, get_e1, binV, binI, grd, bnd, ldCells, AV.cells, AV.scalar, AV.known, setAt, fillL, chunks, elems, mxI, mnI, del, Nat.add_assoc, nlt_self, nne_self, nne_self', List.take_of_length_le, decT, decF, wrap_i64, eqV, eqS]; rfl
  refine rgnS_call (C3) rfl rfl (by simp [pureL, pureR, AV.pure, eqV, eqS]) (by simp [pureL, pureR, AV.pure, eqV, eqS]) (by simp [gd, get_e0, get_e1, LArg.ev, eqV, eqS]) ?_
  apply rgnS_pre 5
  · simp -implicitDefEqProofs (maxSteps := 1000000) (disch := first | assumption | omega) [m_, o_, g_, stepsS, stepS, gd, opEff, appEff, LArg.ev, app_val, app_new, app_upd, app_kill, putV, ins_e0, ins_e1, get_e0, get_e1, binV, binI, grd, bnd, ldCells, AV.cells, AV.scalar, AV.known, setAt, fillL, chunks, elems, mxI, mnI, del, Nat.add_assoc, nlt_self, nne_self, nne_self', List.take_of_length_le, decT, decF, wrap_i64, eqV, eqS]; rfl
  refine hK _ ?_; clear hK
  refine LWP_seq ?_
  refine LWP_reg fun K hK => ?_
  apply rgnS_pre 1
  · simp -implicitDefEqProofs (maxSteps := 1000000) (disch := first | assumption | omega) [m_, o_, g_, stepsS, stepS, gd, opEff, appEff, LArg.ev, app_val, app_new, app_upd, app_kill, putV, ins_e0, ins_e1, get_e0, get_e1, binV, binI, grd, bnd, ldCells, AV.cells, AV.scalar, AV.known, setAt, fillL, chunks, elems, mxI, mnI, del, Nat.add_assoc, nlt_self, nne_self, nne_self', List.take_of_length_le, decT, decF, wrap_i64, eqV, eqS]; rfl
  refine rgnS_call (C4) rfl rfl (by simp [pureL, pureR, AV.pure, eqV, eqS]) (by simp [pureL, pureR, AV.pure, eqV, eqS]) (by simp [gd, get_e0, get_e1, LArg.ev, eqV, eqS]) ?_
  apply rgnS_pre 5
  · simp -implicitDefEqProofs (maxSteps := 1000000) (disch := first | assumption | omega) [m_, o_, g_, stepsS, stepS, gd, opEff, appEff, LArg.ev, app_val, app_new, app_upd, app_kill, putV, ins_e0, ins_e1, get_e0, get_e1, binV, binI, grd, bnd, ldCells, AV.cells, AV.scalar, AV.known, setAt, fillL, chunks, elems, mxI, mnI, del, Nat.add_assoc, nlt_self, nne_self, nne_self', List.take_of_length_le, decT, decF, wrap_i64, eqV, eqS]; rfl
  refine hK _ ?_; clear hK
  refine LWP_seq ?_
  refine LWP_reg fun K hK => ?_
  apply rgnS_pre 9
  · simp -implicitDefEqProofs (maxSteps := 1000000) (disch := first | assumption | omega) [m_, o_, g_, stepsS, stepS, gd, opEff, appEff, LArg.ev, app_val, app_new, app_upd, app_kill, putV, ins_e0, ins_e1, get_e0, get_e1, binV, binI, grd, bnd, ldCells, AV.cells, AV.scalar, AV.known, setAt, fillL, chunks, elems, mxI, mnI, del, Nat.add_assoc, nlt_self, nne_self, nne_self', List.take_of_length_le, decT, decF, wrap_i64, eqV, eqS, h4]; rfl
  apply rgnS_pre 12
  · simp -implicitDefEqProofs (maxSteps := 1000000) (disch := first | assumption | omega) [m_, o_, g_, stepsS, stepS, gd, opEff, appEff, LArg.ev, app_val, app_new, app_upd, app_kill, putV, ins_e0, ins_e1, get_e0, get_e1, binV, binI, grd, bnd, ldCells, AV.cells, AV.scalar, AV.known, setAt, fillL, chunks, elems, mxI, mnI, del, Nat.add_assoc, nlt_self, nne_self, nne_self', List.take_of_length_le, decT, decF, wrap_i64, eqV, eqS, h4]; rfl
  apply rgnS_pre 12
  · simp -implicitDefEqProofs (maxSteps := 1000000) (disch := first | assumption | omega) [m_, o_, g_, stepsS, stepS, gd, opEff, appEff, LArg.ev, app_val, app_new, app_upd, app_kill, putV, ins_e0, ins_e1, get_e0, get_e1, binV, binI, grd, bnd, ldCells, AV.cells, AV.scalar, AV.known, setAt, fillL, chunks, elems, mxI, mnI, del, Nat.add_assoc, nlt_self, nne_self, nne_self', List.take_of_length_le, decT, decF, wrap_i64, eqV, eqS, h4]; rfl
  refine rgnS_call (hbheads) rfl rfl (by simp [pureL, pureR, AV.pure, eqV, eqS, h4]) (by simp [pureL, pureR, AV.pure, eqV, eqS, h4]) (by simp [gd, get_e0, get_e1, LArg.ev, eqV, eqS, h4]) ?_
  apply rgnS_pre 2
  · simp -implicitDefEqProofs (maxSteps := 1000000) (disch := first | assumption | omega) [m_, o_, g_, stepsS, stepS, gd, opEff, appEff, LArg.ev, app_val, app_new, app_upd, app_kill, putV, ins_e0, ins_e1, get_e0, get_e1, binV, binI, grd, bnd, ldCells, AV.cells, AV.scalar, AV.known, setAt, fillL, chunks, elems, mxI, mnI, del, Nat.add_assoc, nlt_self, nne_self, nne_self', List.take_of_length_le, decT, decF, wrap_i64, eqV, eqS, h4]; rfl
  refine hK _ ?_; clear hK
  refine LWP_ret ⟨_, rfl, ?_⟩
  refine wkV_of_eq ?_
  simp only [retV]

theorem law_lo_out (a g x1 x2 x3 x4 : Int) (h1 : a < -2) (b2 b4 : Bool)
    (C1 : ACalls Go.Proofs.Tryz.prog 14 [.int .i64 a] [] 0 (fun r _ _ => r = .tup [.int .i64 x1, .bool false])) (C2 : ACalls Go.Proofs.Tryz.prog 15 [.int .i64 x1] [] 0 (fun r _ _ => r = .tup [.int .i64 x2, .bool b2]))
    (C3 : ACalls Go.Proofs.Tryz.prog 15 [.int .i64 g] [] 0 (fun r _ _ => r = .tup [.int .i64 x3, .bool false])) (C4 : ACalls Go.Proofs.Tryz.prog 14 [.int .i64 x3] [] 0 (fun r _ _ => r = .tup [.int .i64 x4, .bool b4])) :
    ACalls Go.Proofs.Tryz.prog 5 [.int .i64 a, .int .i64 g] [] 0 (fun r _ _ => r = .bool true) := by
  refine pure_body ok5 rfl ?_
  simp only [parV]
  refine LWP_seq ?_
  apply LWP_run
  · simp -implicitDefEqProofs (maxSteps := 1000000) (disch := first | assumption | omega) [m_, o_, g_, stepsS, stepS, gd, opEff, appEff, LArg.ev, app_val, app_new, app_upd, app_kill, putV, ins_e0, ins_e1, get_e0, get_e1, binV, binI, grd, bnd, ldCells, AV.cells, AV.scalar, AV.known, setAt, fillL, chunks, elems, mxI, mnI, del, Nat.add_assoc, nlt_self, nne_self, nne_self', List.take_of_length_le, decT, decF, wrap_i64, eqV, eqS]; rfl
  refine LWP_seq ?_
  refine LWP_reg fun K hK => ?_
  apply rgnS_pre 1
  · simp -implicitDefEqProofs (maxSteps := 1000000) (disch := first | assumption | omega) [m_, o_, g_, stepsS, stepS, gd, opEff, appEff, LArg.ev, app_val, app_new, app_upd, app_kill, putV, ins_e0, ins_e1, get_e0, get_e1, binV, binI, grd, bnd, ldCells, AV.cells, AV.scalar, AV.known, setAt, fillL, chunks, elems, mxI, mnI, del, Nat.add_assoc, nlt_self, nne_self, nne_self', List.take_of_length_le, decT, decF, wrap_i64, eqV, eqS]; rfl
  refine rgnS_call (C1) rfl rfl (by simp [pureL, pureR, AV.pure, eqV, eqS]) (by simp [pureL, pureR, AV.pure, eqV, eqS]) (by simp [gd, get_e0, get_e1, LArg.ev, eqV, eqS]) ?_
  apply rgnS_pre 5
  · simp -implicitDefEqProofs (maxSteps := 1000000) (disch := first | assumption | omega) [m_, o_, g_, stepsS, stepS, gd, opEff, appEff, LArg.ev, app_val, app_new, app_upd, app_kill, putV, ins_e0, ins_e1, get_e0, get_e1, binV, binI, grd, bnd, ldCells, AV.cells, AV.scalar, AV.known, setAt, fillL, chunks, elems, mxI, mnI, del, Nat.add_assoc, nlt_self, nne_self, nne_self', List.take_of_length_le, decT, decF, wrap_i64, eqV, eqS]; rfl
  refine hK _ ?_; clear hK
  refine LWP_seq ?_
  refine LWP_reg fun K hK => ?_
  apply rgnS_pre 1
  · simp -implicitDefEqProofs (maxSteps := 1000000) (disch := first | assumption | omega) [m_, o_, g_, stepsS, stepS, gd, opEff, appEff, LArg.ev, app_val, app_new, app_upd, app_kill, putV, ins_e0, ins_e1, get_e0, get_e1, binV, binI, grd, bnd, ldCells, AV.cells, AV.scalar, AV.known, setAt, fillL, chunks, elems, mxI, mnI, del, Nat.add_assoc, nlt_self, nne_self, nne_self', List.take_of_length_le, decT, decF, wrap_i64, eqV, eqS]; rfl
  refine rgnS_call (C2) rfl rfl (by simp [pureL, pureR, AV.pure, eqV, eqS]) (by simp [pureL, pureR, AV.pure, eqV, eqS]) (by simp [gd, get_e0, get_e1, LArg.ev, eqV, eqS]) ?_
  apply rgnS_pre 5
  · simp -implicitDefEqProofs (maxSteps := 1000000) (disch := first | assumption | omega) [m_, o_, g_, stepsS, stepS, gd, opEff, appEff, LArg.ev, app_val, app_new, app_upd, app_kill, putV, ins_e0, ins_e1, get_e0, get_e1, binV, binI, grd, bnd, ldCells, AV.cells, AV.scalar, AV.known, setAt, fillL, chunks, elems, mxI, mnI, del, Nat.add_assoc, nlt_self, nne_self, nne_self', List.take_of_length_le, decT, decF, wrap_i64, eqV, eqS]; rfl
  refine hK _ ?_; clear hK
  refine LWP_seq ?_
  refine LWP_reg fun K hK => ?_
  apply rgnS_pre 1
  · simp -implicitDefEqProofs (maxSteps := 1000000) (disch := first | assumption | omega) [m_, o_, g_, stepsS, stepS, gd, opEff, appEff, LArg.ev, app_val, app_new, app_upd, app_kill, putV, ins_e0, ins_e1, get_e0, get_e1, binV, binI, grd, bnd, ldCells, AV.cells, AV.scalar, AV.known, setAt, fillL, chunks, elems, mxI, mnI, del, Nat.add_assoc, nlt_self, nne_self, nne_self', List.take_of_length_le, decT, decF, wrap_i64, eqV, eqS]; rfl
  refine rgnS_call (C3) rfl rfl (by simp [pureL, pureR, AV.pure, eqV, eqS]) (by simp [pureL, pureR, AV.pure, eqV, eqS]) (by simp [gd, get_e0, get_e1, LArg.ev, eqV, eqS]) ?_
  apply rgnS_pre 5
  · simp -implicitDefEqProofs (maxSteps := 1000000) (disch := first | assumption | omega) [m_, o_, g_, stepsS, stepS, gd, opEff, appEff, LArg.ev, app_val, app_new, app_upd, app_kill, putV, ins_e0, ins_e1, get_e0, get_e1, binV, binI, grd, bnd, ldCells, AV.cells, AV.scalar, AV.known, setAt, fillL, chunks, elems, mxI, mnI, del, Nat.add_assoc, nlt_self, nne_self, nne_self', List.take_of_length_le, decT, decF, wrap_i64, eqV, eqS]; rfl
  refine hK _ ?_; clear hK
  refine LWP_seq ?_
  refine LWP_reg fun K hK => ?_
  apply rgnS_pre 1
  · simp -implicitDefEqProofs (maxSteps := 1000000) (disch := first | assumption | omega) [m_, o_, g_, stepsS, stepS, gd, opEff, appEff, LArg.ev, app_val, app_new, app_upd, app_kill, putV, ins_e0, ins_e1, get_e0, get_e1, binV, binI, grd, bnd, ldCells, AV.cells, AV.scalar, AV.known, setAt, fillL, chunks, elems, mxI, mnI, del, Nat.add_assoc, nlt_self, nne_self, nne_self', List.take_of_length_le, decT, decF, wrap_i64, eqV, eqS]; rfl
  refine rgnS_call (C4) rfl rfl (by simp [pureL, pureR, AV.pure, eqV, eqS]) (by simp [pureL, pureR, AV.pure, eqV, eqS]) (by simp [gd, get_e0, get_e1, LArg.ev, eqV, eqS]) ?_
  apply rgnS_pre 5
  · simp -implicitDefEqProofs (maxSteps := 1000000) (disch := first | assumption | omega) [m_, o_, g_, stepsS, stepS, gd, opEff, appEff, LArg.ev, app_val, app_new, app_upd, app_kill, putV, ins_e0, ins_e1, get_e0, get_e1, binV, binI, grd, bnd, ldCells, AV.cells, AV.scalar, AV.known, setAt, fillL, chunks, elems, mxI, mnI, del, Nat.add_assoc, nlt_self, nne_self, nne_self', List.take_of_length_le, decT, decF, wrap_i64, eqV, eqS]; rfl
  refine hK _ ?_; clear hK
  refine LWP_seq ?_
  refine LWP_reg fun K hK => ?_
  apply rgnS_pre 9
  · simp -implicitDefEqProofs (maxSteps := 1000000) (disch := first | assumption | omega) [m_, o_, g_, stepsS, stepS, gd, opEff, appEff, LArg.ev, app_val, app_new, app_upd, app_kill, putV, ins_e0, ins_e1, get_e0, get_e1, binV, binI, grd, bnd, ldCells, AV.cells, AV.scalar, AV.known, setAt, fillL, chunks, elems, mxI, mnI, del, Nat.add_assoc, nlt_self, nne_self, nne_self', List.take_of_length_le, decT, decF, wrap_i64, eqV, eqS, h1]; rfl
  apply rgnS_pre 12
  · simp -implicitDefEqProofs (maxSteps := 1000000) (disch := first | assumption | omega) [m_, o_, g_, stepsS, stepS, gd, opEff, appEff, LArg.ev, app_val, app_new, app_upd, app_kill, putV, ins_e0, ins_e1, get_e0, get_e1, binV, binI, grd, bnd, ldCells, AV.cells, AV.scalar, AV.known, setAt, fillL, chunks, elems, mxI, mnI, del, Nat.add_assoc, nlt_self, nne_self, nne_self', List.take_of_length_le, decT, decF, wrap_i64, eqV, eqS, h1]; rfl
  apply rgnS_pre 12
  · simp -implicitDefEqProofs (maxSteps := 1000000) (disch := first | assumption | omega) [m_, o_, g_, stepsS, stepS, gd, opEff, appEff, LArg.ev, app_val, app_new, app_upd, app_kill, putV, ins_e0, ins_e1, get_e0, get_e1, binV, binI, grd, bnd, ldCells, AV.cells, AV.scalar, AV.known, setAt, fillL, chunks, elems, mxI, mnI, del, Nat.add_assoc, nlt_self, nne_self, nne_self', List.take_of_length_le, decT, decF, wrap_i64, eqV, eqS, h1]; rfl
  refine rgnS_call (hbheads) rfl rfl (by simp [pureL, pureR, AV.pure, eqV, eqS, h1]) (by simp [pureL, pureR, AV.pure, eqV, eqS, h1]) (by simp [gd, get_e0, get_e1, LArg.ev, eqV, eqS, h1]) ?_
  apply rgnS_pre 2
  · simp -implicitDefEqProofs (maxSteps := 1000000) (disch := first | assumption | omega) [m_, o_, g_, stepsS, stepS, gd, opEff, appEff, LArg.ev, app_val, app_new, app_upd, app_kill, putV, ins_e0, ins_e1, get_e0, get_e1, binV, binI, grd, bnd, ldCells, AV.cells, AV.scalar, AV.known, setAt, fillL, chunks, elems, mxI, mnI, del, Nat.add_assoc, nlt_self, nne_self, nne_self', List.take_of_length_le, decT, decF, wrap_i64, eqV, eqS, h1]; rfl
  refine hK _ ?_; clear hK
  refine LWP_ret ⟨_, rfl, ?_⟩
  refine wkV_of_eq ?_
  simp only [retV]

theorem law_hi_in (a g x1 x2 x3 x4 : Int) (h1 : 2 < a) (h4 : x4 = g) (b2 : Bool)
    (C1 : ACalls Go.Proofs.Tryz.prog 14 [.int .i64 a] [] 0 (fun r _ _ => r = .tup [.int .i64 x1, .bool false])) (C2 : ACalls Go.Proofs.Tryz.prog 15 [.int .i64 x1] [] 0 (fun r _ _ => r = .tup [.int .i64 x2, .bool b2]))
    (C3 : ACalls Go.Proofs.Tryz.prog 15 [.int .i64 g] [] 0 (fun r _ _ => r = .tup [.int .i64 x3, .bool true])) (C4 : ACalls Go.Proofs.Tryz.prog 14 [.int .i64 x3] [] 0 (fun r _ _ => r = .tup [.int .i64 x4, .bool true])) :
    ACalls Go.Proofs.Tryz.prog 5 [.int .i64 a, .int .i64 g] [] 0 (fun r _ _ => r = .bool true) := by
  refine pure_body ok5 rfl ?_
  simp only [parV]
  refine LWP_seq ?_
  apply LWP_run
  · simp -implicitDefEqProofs (maxSteps := 1000000) (disch := first | assumption | omega) [m_, o_, g_, stepsS, stepS, gd, opEff, appEff, LArg.ev, app_val, app_new, app_upd, app_kill, putV, ins_e0, ins_e1, get_e0, get_e1, binV, binI, grd, bnd, ldCells, AV.cells, AV.scalar, AV.known, setAt, fillL, chunks, elems, mxI, mnI, del, Nat.add_assoc, nlt_self, nne_self, nne_self', List.take_of_length_le, decT, decF, wrap_i64, eqV, eqS]; rfl
  refine LWP_seq ?_
  refine LWP_reg fun K hK => ?_
  apply rgnS_pre 1
  · simp -implicitDefEqProofs (maxSteps := 1000000) (disch := first | assumption | omega) [m_, o_, g_, stepsS, stepS, gd, opEff, appEff, LArg.ev, app_val, app_new, app_upd, app_kill, putV, ins_e0, ins_e1, get_e0, get_e1, binV, binI, grd, bnd, ldCells, AV.cells, AV.scalar, AV.known, setAt, fillL, chunks, elems, mxI, mnI, del, Nat.add_assoc, nlt_self, nne_self, nne_self', List.take_of_length_le, decT, decF, wrap_i64, eqV, eqS]; rfl
  refine rgnS_call (C1) rfl rfl (by simp [pureL, pureR, AV.pure, eqV, eqS]) (by simp [pureL, pureR, AV.pure, eqV, eqS]) (by simp [gd, get_e0, get_e1, LArg.ev, eqV, eqS]) ?_
  apply rgnS_pre 5
  · simp -implicitDefEqProofs (maxSteps := 1000000) (disch := first | assumption | omega) [m_, o_, g_, stepsS, stepS, gd, opEff, appEff, LArg.ev, app_val, app_new, app_upd, app_kill, putV, ins_e0, ins_e1, get_e0, get_e1, binV, binI, grd, bnd, ldCells, AV.cells, AV.scalar, AV.known, setAt, fillL, chunks, elems, mxI, mnI, del, Nat.add_assoc, nlt_self, nne_self, nne_self', List.take_of_length_le, decT, decF, wrap_i64, eqV, eqS]; rfl
  refine hK _ ?_; clear hK
  refine LWP_seq ?_
  refine LWP_reg fun K hK => ?_
  apply rgnS_pre 1
  · simp -implicitDefEqProofs (maxSteps := 1000000) (disch := first | assumption | omega) [m_, o_, g_, stepsS, stepS, gd, opEff, appEff, LArg.ev, app_val, app_new, app_upd, app_kill, putV, ins_e0, ins_e1, get_e0, get_e1, binV, binI, grd, bnd, ldCells, AV.cells, AV.scalar, AV.known, setAt, fillL, chunks, elems, mxI, mnI, del, Nat.add_assoc, nlt_self, nne_self, nne_self', List.take_of_length_le, decT, decF, wrap_i64, eqV, eqS]; rfl
  refine rgnS_call (C2) rfl rfl (by simp [pureL, pureR, AV.pure, eqV, eqS]) (by simp [pureL, pureR, AV.pure, eqV, eqS]) (by simp [gd, get_e0, get_e1, LArg.ev, eqV, eqS]) ?_
  apply rgnS_pre 5
  · simp -implicitDefEqProofs (maxSteps := 1000000) (disch := first | assumption | omega) [m_, o_, g_, stepsS, stepS, gd, opEff, appEff, LArg.ev, app_val, app_new, app_upd, app_kill, putV, ins_e0, ins_e1, get_e0, get_e1, binV, binI, grd, bnd, ldCells, AV.cells, AV.scalar, AV.known, setAt, fillL, chunks, elems, mxI, mnI, del, Nat.add_assoc, nlt_self, nne_self, nne_self', List.take_of_length_le, decT, decF, wrap_i64, eqV, eqS]; rfl
  refine hK _ ?_; clear hK
  refine LWP_seq ?_
  refine LWP_reg fun K hK => ?_
  apply rgnS_pre 1
  · simp -implicitDefEqProofs (maxSteps := 1000000) (disch := first | assumption | omega) [m_, o_, g_, stepsS, stepS, gd, opEff, appEff, LArg.ev, app_val, app_new, app_upd, app_kill, putV, ins_e0, ins_e1, get_e0, get_e1, binV, binI, grd, bnd, ldCells, AV.cells, AV.scalar, AV.known, setAt, fillL, chunks, elems, mxI, mnI, del, Nat.add_assoc, nlt_self, nne_self, nne_self', List.take_of_length_le, decT, decF, wrap_i64, eqV, eqS]; rfl
  refine rgnS_call (C3) rfl rfl (by simp [pureL, pureR, AV.pure, eqV, eqS]) (by simp [pureL, pureR, AV.pure, eqV, eqS]) (by simp [gd, get_e0, get_e1, LArg.ev, eqV, eqS]) ?_
  apply rgnS_pre 5
  · simp -implicitDefEqProofs (maxSteps := 1000000) (disch := first | assumption | omega) [m_, o_, g_, stepsS, stepS, gd, opEff, appEff, LArg.ev, app_val, app_new, app_upd, app_kill, putV, ins_e0, ins_e1, get_e0, get_e1, binV, binI, grd, bnd, ldCells, AV.cells, AV.scalar, AV.known, setAt, fillL, chunks, elems, mxI, mnI, del, Nat.add_assoc, nlt_self, nne_self, nne_self', List.take_of_length_le, decT, decF, wrap_i64, eqV, eqS]; rfl
  refine hK _ ?_; clear hK
  refine LWP_seq ?_
  refine LWP_reg fun K hK => ?_
  apply rgnS_pre 1
  · simp -implicitDefEqProofs (maxSteps := 1000000) (disch := first | assumption | omega) [m_, o_, g_, stepsS, stepS, gd, opEff, appEff, LArg.ev, app_val, app_new, app_upd, app_kill, putV, ins_e0, ins_e1, get_e0, get_e1, binV, binI, grd, bnd, ldCells, AV.cells, AV.scalar, AV.known, setAt, fillL, chunks, elems, mxI, mnI, del, Nat.add_assoc, nlt_self, nne_self, nne_self', List.take_of_length_le, decT, decF, wrap_i64, eqV, eqS]; rfl
  refine rgnS_call (C4) rfl rfl (by simp [pureL, pureR, AV.pure, eqV, eqS]) (by simp [pureL, pureR, AV.pure, eqV, eqS]) (by simp [gd, get_e0, get_e1, LArg.ev, eqV, eqS]) ?_
  apply rgnS_pre 5
  · simp -implicitDefEqProofs (maxSteps := 1000000) (disch := first | assumption | omega) [m_, o_, g_, stepsS, stepS, gd, opEff, appEff, LArg.ev, app_val, app_new, app_upd, app_kill, putV, ins_e0, ins_e1, get_e0, get_e1, binV, binI, grd, bnd, ldCells, AV.cells, AV.scalar, AV.known, setAt, fillL, chunks, elems, mxI, mnI, del, Nat.add_assoc, nlt_self, nne_self, nne_self', List.take_of_length_le, decT, decF, wrap_i64, eqV, eqS]; rfl
  refine hK _ ?_; clear hK
  refine LWP_seq ?_
  refine LWP_reg fun K hK => ?_
  apply rgnS_pre 9
  · simp -implicitDefEqProofs (maxSteps := 1000000) (disch := first | assumption | omega) [m_, o_, g_, stepsS, stepS, gd, opEff, appEff, LArg.ev, app_val, app_new, app_upd, app_kill, putV, ins_e0, ins_e1, get_e0, get_e1, binV, binI, grd, bnd, ldCells, AV.cells, AV.scalar, AV.known, setAt, fillL, chunks, elems, mxI, mnI, del, Nat.add_assoc, nlt_self, nne_self, nne_self', List.take_of_length_le, decT, decF, wrap_i64, eqV, eqS, h4]; rfl
  apply rgnS_pre 12
  · simp -implicitDefEqProofs (maxSteps := 1000000) (disch := first | assumption | omega) [m_, o_, g_, stepsS, stepS, gd, opEff, appEff, LArg.ev, app_val, app_new, app_upd, app_kill, putV, ins_e0, ins_e1, get_e0, get_e1, binV, binI, grd, bnd, ldCells, AV.cells, AV.scalar, AV.known, setAt, fillL, chunks, elems, mxI, mnI, del, Nat.add_assoc, nlt_self, nne_self, nne_self', List.take_of_length_le, decT, decF, wrap_i64, eqV, eqS, h4]; rfl
  apply rgnS_pre 12
  · simp -implicitDefEqProofs (maxSteps := 1000000) (disch := first | assumption | omega) [m_, o_, g_, stepsS, stepS, gd, opEff, appEff, LArg.ev, app_val, app_new, app_upd, app_kill, putV, ins_e0, ins_e1, get_e0, get_e1, binV, binI, grd, bnd, ldCells, AV.cells, AV.scalar, AV.known, setAt, fillL, chunks, elems, mxI, mnI, del, Nat.add_assoc, nlt_self, nne_self, nne_self', List.take_of_length_le, decT, decF, wrap_i64, eqV, eqS, h4]; rfl
  refine rgnS_call (hbheads) rfl rfl (by simp [pureL, pureR, AV.pure, eqV, eqS, h4]) (by simp [pureL, pureR, AV.pure, eqV, eqS, h4]) (by simp [gd, get_e0, get_e1, LArg.ev, eqV, eqS, h4]) ?_
  apply rgnS_pre 2
  · simp -implicitDefEqProofs (maxSteps := 1000000) (disch := first | assumption | omega) [m_, o_, g_, stepsS, stepS, gd, opEff, appEff, LArg.ev, app_val, app_new, app_upd, app_kill, putV, ins_e0, ins_e1, get_e0, get_e1, binV, binI, grd, bnd, ldCells, AV.cells, AV.scalar, AV.known, setAt, fillL, chunks, elems, mxI, mnI, del, Nat.add_assoc, nlt_self, nne_self, nne_self', List.take_of_length_le, decT, decF, wrap_i64, eqV, eqS, h4]; rfl
  refine hK _ ?_; clear hK
  refine LWP_ret ⟨_, rfl, ?_⟩
  refine wkV_of_eq ?_
  simp only [retV]

theorem law_hi_out (a g x1 x2 x3 x4 : Int) (h1 : 2 < a) (b2 b4 : Bool)
    (C1 : ACalls Go.Proofs.Tryz.prog 14 [.int .i64 a] [] 0 (fun r _ _ => r = .tup [.int .i64 x1, .bool false])) (C2 : ACalls Go.Proofs.Tryz.prog 15 [.int .i64 x1] [] 0 (fun r _ _ => r = .tup [.int .i64 x2, .bool b2]))
    (C3 : ACalls Go.Proofs.Tryz.prog 15 [.int .i64 g] [] 0 (fun r _ _ => r = .tup [.int .i64 x3, .bool false])) (C4 : ACalls Go.Proofs.Tryz.prog 14 [.int .i64 x3] [] 0 (fun r _ _ => r = .tup [.int .i64 x4, .bool b4])) :
    ACalls Go.Proofs.Tryz.prog 5 [.int .i64 a, .int .i64 g] [] 0 (fun r _ _ => r = .bool true) := by
  refine pure_body ok5 rfl ?_
  simp only [parV]
  refine LWP_seq ?_
  apply LWP_run
  · simp -implicitDefEqProofs (maxSteps := 1000000) (disch := first | assumption | omega) [m_, o_, g_, stepsS, stepS, gd, opEff, appEff, LArg.ev, app_val, app_new, app_upd, app_kill, putV, ins_e0, ins_e1, get_e0, get_e1, binV, binI, grd, bnd, ldCells, AV.cells, AV.scalar, AV.known, setAt, fillL, chunks, elems, mxI, mnI, del, Nat.add_assoc, nlt_self, nne_self, nne_self', List.take_of_length_le, decT, decF, wrap_i64, eqV, eqS]; rfl
  refine LWP_seq ?_
  refine LWP_reg fun K hK => ?_
  apply rgnS_pre 1
  · simp -implicitDefEqProofs (maxSteps := 1000000) (disch := first | assumption | omega) [m_, o_, g_, stepsS, stepS, gd, opEff, appEff, LArg.ev, app_val, app_new, app_upd, app_kill, putV, ins_e0, ins_e1, get_e0, get_e1, binV, binI, grd, bnd, ldCells, AV.cells, AV.scalar, AV.known, setAt, fillL, chunks, elems, mxI, mnI, del, Nat.add_assoc, nlt_self, nne_self, nne_self', List.take_of_length_le, decT, decF, wrap_i64, eqV, eqS]; rfl
  refine rgnS_call (C1) rfl rfl (by simp [pureL, pureR, AV.pure, eqV, eqS]) (by simp [pureL, pureR, AV.pure, eqV, eqS]) (by simp [gd, get_e0, get_e1, LArg.ev, eqV, eqS]) ?_
  apply rgnS_pre 5
  · simp -implicitDefEqProofs (maxSteps := 1000000) (disch := first | assumption | omega) [m_, o_, g_, stepsS, stepS, gd, opEff, appEff, LArg.ev, app_val, app_new, app_upd, app_kill, putV, ins_e0, ins_e1, get_e0, get_e1, binV, binI, grd, bnd, ldCells, AV.cells, AV.scalar, AV.known, setAt, fillL, chunks, elems, mxI, mnI, del, Nat.add_assoc, nlt_self, nne_self, nne_self', List.take_of_length_le, decT, decF, wrap_i64, eqV, eqS]; rfl
  refine hK _ ?_; clear hK
  refine LWP_seq ?_
  refine LWP_reg fun K hK => ?_
  apply rgnS_pre 1
  · simp -implicitDefEqProofs (maxSteps := 1000000) (disch := first | assumption | omega) [m_, o_, g_, stepsS, stepS, gd, opEff, appEff, LArg.ev, app_val, app_new, app_upd, app_kill, putV, ins_e0, ins_e1, get_e0, get_e1, binV, binI, grd, bnd, ldCells, AV.cells, AV.scalar, AV.known, setAt, fillL, chunks, elems, mxI, mnI, del, Nat.add_assoc, nlt_self, nne_self, nne_self', List.take_of_length_le, decT, decF, wrap_i64, eqV, eqS]; rfl
  refine rgnS_call (C2) rfl rfl (by simp [pureL, pureR, AV.pure, eqV, eqS]) (by simp [pureL, pureR, AV.pure, eqV, eqS]) (by simp [gd, get_e0, get_e1, LArg.ev, eqV, eqS]) ?_
  apply rgnS_pre 5
  · simp -implicitDefEqProofs (maxSteps := 1000000) (disch := first | assumption | omega) [m_, o_, g_, stepsS, stepS, gd, opEff, appEff, LArg.ev, app_val, app_new, app_upd, app_kill, putV, ins_e0, ins_e1, get_e0, get_e1, binV, binI, grd, bnd, ldCells, AV.cells, AV.scalar, AV.known, setAt, fillL, chunks, elems, mxI, mnI, del, Nat.add_assoc, nlt_self, nne_self, nne_self', List.take_of_length_le, decT, decF, wrap_i64, eqV, eqS]; rfl
  refine hK _ ?_; clear hK
  refine LWP_seq ?_
  refine LWP_reg fun K hK => ?_
  apply rgnS_pre 1
  · simp -implicitDefEqProofs (maxSteps := 1000000) (disch := first | assumption | omega) [m_, o_, g_, stepsS, stepS, gd, opEff, appEff, LArg.ev, app_val, app_new, app_upd, app_kill, putV, ins_e0, ins_e1, get_e0, get_e1, binV, binI, grd, bnd, ldCells, AV.cells, AV.scalar, AV.known, setAt, fillL, chunks, elems, mxI, mnI, del, Nat.add_assoc, nlt_self, nne_self, nne_self', List.take_of_length_le, decT, decF, wrap_i64, eqV, eqS]; rfl
  refine rgnS_call (C3) rfl rfl (by simp [pureL, pureR, AV.pure, eqV, eqS]) (by simp [pureL, pureR, AV.pure, eqV, eqS]) (by simp [gd, get_e0, get_e1, LArg.ev, eqV, eqS]) ?_
  apply rgnS_pre 5
  · simp -implicitDefEqProofs (maxSteps := 1000000) (disch := first | assumption | omega) [m_, o_, g_, stepsS, stepS, gd, opEff, appEff, LArg.ev, app_val, app_new, app_upd, app_kill, putV, ins_e0, ins_e1, get_e0, get_e1, binV, binI, grd, bnd, ldCells, AV.cells, AV.scalar, AV.known, setAt, fillL, chunks, elems, mxI, mnI, del, Nat.add_assoc, nlt_self, nne_self, nne_self', List.take_of_length_le, decT, decF, wrap_i64, eqV, eqS]; rfl
  refine hK _ ?_; clear hK
  refine LWP_seq ?_
  refine LWP_reg fun K hK => ?_
  apply rgnS_pre 1
  · simp -implicitDefEqProofs (maxSteps := 1000000) (disch := first | assumption | omega) [m_, o_, g_, stepsS, stepS, gd, opEff, appEff, LArg.ev, app_val, app_new, app_upd, app_kill, putV, ins_e0, ins_e1, get_e0, get_e1, binV, binI, grd, bnd, ldCells, AV.cells, AV.scalar, AV.known, setAt, fillL, chunks, elems, mxI, mnI, del, Nat.add_assoc, nlt_self, nne_self, nne_self', List.take_of_length_le, decT, decF, wrap_i64, eqV, eqS]; rfl
  refine rgnS_call (C4) rfl rfl (by simp [pureL, pureR, AV.pure, eqV, eqS]) (by simp [pureL, pureR, AV.pure, eqV, eqS]) (by simp [gd, get_e0, get_e1, LArg.ev, eqV, eqS]) ?_
  apply rgnS_pre 5
  · simp -implicitDefEqProofs (maxSteps := 1000000) (disch := first | assumption | omega) [m_, o_, g_, stepsS, stepS, gd, opEff, appEff, LArg.ev, app_val, app_new, app_upd, app_kill, putV, ins_e0, ins_e1, get_e0, get_e1, binV, binI, grd, bnd, ldCells, AV.cells, AV.scalar, AV.known, setAt, fillL, chunks, elems, mxI, mnI, del, Nat.add_assoc, nlt_self, nne_self, nne_self', List.take_of_length_le, decT, decF, wrap_i64, eqV, eqS]; rfl
  refine hK _ ?_; clear hK
  refine LWP_seq ?_
  refine LWP_reg fun K hK => ?_
  apply rgnS_pre 9
  · simp -implicitDefEqProofs (maxSteps := 1000000) (disch := first | assumption | omega) [m_, o_, g_, stepsS, stepS, gd, opEff, appEff, LArg.ev, app_val, app_new, app_upd, app_kill, putV, ins_e0, ins_e1, get_e0, get_e1, binV, binI, grd, bnd, ldCells, AV.cells, AV.scalar, AV.known, setAt, fillL, chunks, elems, mxI, mnI, del, Nat.add_assoc, nlt_self, nne_self, nne_self', List.take_of_length_le, decT, decF, wrap_i64, eqV, eqS, h1]; rfl
  apply rgnS_pre 12
  · simp -implicitDefEqProofs (maxSteps := 1000000) (disch := first | assumption | omega) [m_, o_, g_, stepsS, stepS, gd, opEff, appEff, LArg.ev, app_val, app_new, app_upd, app_kill, putV, ins_e0, ins_e1, get_e0, get_e1, binV, binI, grd, bnd, ldCells, AV.cells, AV.scalar, AV.known, setAt, fillL, chunks, elems, mxI, mnI, del, Nat.add_assoc, nlt_self, nne_self, nne_self', List.take_of_length_le, decT, decF, wrap_i64, eqV, eqS, h1]; rfl
  apply rgnS_pre 12
  · simp -implicitDefEqProofs (maxSteps := 1000000) (disch := first | assumption | omega) [m_, o_, g_, stepsS, stepS, gd, opEff, appEff, LArg.ev, app_val, app_new, app_upd, app_kill, putV, ins_e0, ins_e1, get_e0, get_e1, binV, binI, grd, bnd, ldCells, AV.cells, AV.scalar, AV.known, setAt, fillL, chunks, elems, mxI, mnI, del, Nat.add_assoc, nlt_self, nne_self, nne_self', List.take_of_length_le, decT, decF, wrap_i64, eqV, eqS, h1]; rfl
  refine rgnS_call (hbheads) rfl rfl (by simp [pureL, pureR, AV.pure, eqV, eqS, h1]) (by simp [pureL, pureR, AV.pure, eqV, eqS, h1]) (by simp [gd, get_e0, get_e1, LArg.ev, eqV, eqS, h1]) ?_
  apply rgnS_pre 2
  · simp -implicitDefEqProofs (maxSteps := 1000000) (disch := first | assumption | omega) [m_, o_, g_, stepsS, stepS, gd, opEff, appEff, LArg.ev, app_val, app_new, app_upd, app_kill, putV, ins_e0, ins_e1, get_e0, get_e1, binV, binI, grd, bnd, ldCells, AV.cells, AV.scalar, AV.known, setAt, fillL, chunks, elems, mxI, mnI, del, Nat.add_assoc, nlt_self, nne_self, nne_self', List.take_of_length_le, decT, decF, wrap_i64, eqV, eqS, h1]; rfl
  refine hK _ ?_; clear hK
  refine LWP_ret ⟨_, rfl, ?_⟩
  refine wkV_of_eq ?_
  simp only [retV]

theorem accidGlyphs_ok (a g : Int) : ACalls Go.Proofs.Tryz.prog 5 [.int .i64 a, .int .i64 g] [] 0 (fun r _ _ => r = .bool true) := by
  have z : ¬ (21 ≤ (0 : Int) ∧ (0 : Int) ≤ 25) := by omega
  have z2 : glyphR 0 = .tup [.int .i64 (glI 0), .bool true] := by rw [glyphR, if_pos (by omega)]
  have A0 := alter_ok 0
  rw [alterR, if_neg z] at A0
  have G0 := glyph_ok 0
  rw [z2] at G0
  by_cases ha : -2 ≤ a ∧ a ≤ 2
  · have C1 := glyph_ok a
    rw [glyphR, if_pos ha] at C1
    have C2 := alter_ok (glI a)
    rw [alterR, if_pos (gl_rng a)] at C2
    have e2 := al_gl a ha.1 ha.2
    by_cases hg : 21 ≤ g ∧ g ≤ 25
    · have C3 := alter_ok g
      rw [alterR, if_pos hg] at C3
      have C4 := glyph_ok (alI g)
      rw [glyphR, if_pos (al_rng g)] at C4
      exact law_in_in a g _ _ _ _ ha.1 ha.2 e2 (gl_al g hg.1 hg.2) C1 C2 C3 C4
    · have C3 := alter_ok g
      rw [alterR, if_neg hg] at C3
      exact law_in_out a g _ _ _ _ ha.1 ha.2 e2 _ C1 C2 C3 G0
  · have C1 := glyph_ok a
    rw [glyphR, if_neg ha] at C1
    by_cases hg : 21 ≤ g ∧ g ≤ 25
    · have C3 := alter_ok g
      rw [alterR, if_pos hg] at C3
      have C4 := glyph_ok (alI g)
      rw [glyphR, if_pos (al_rng g)] at C4
      by_cases hl : a < -2
      · exact law_lo_in a g _ _ _ _ hl (gl_al g hg.1 hg.2) _ C1 A0 C3 C4
      · exact law_hi_in a g _ _ _ _ (by omega) (gl_al g hg.1 hg.2) _ C1 A0 C3 C4
    · have C3 := alter_ok g
      rw [alterR, if_neg hg] at C3
      by_cases hl : a < -2
      · exact law_lo_out a g _ _ _ _ hl _ _ C1 A0 C3 G0
      · exact law_hi_out a g _ _ _ _ (by omega) _ _ C1 A0 C3 G0
end Go.AM.Ez
