/- A part of a proof about the given program: what its name says. No premise beyond the statements'. -/
import Derived.Test.YtjfmkhihhdhnnaaGreatDoorDzHd
import Derived.Test.YtjfmkhihhdhnnaaGreatDoorFD
set_option linter.unusedSimpArgs false
set_option linter.unusedVariables false
/- The law on keys' signs: the walk. -/
namespace Go.AM.Dz
open Go.AM
theorem beqF {a b : Int} (h : a ≠ b) : (a == b) = false := by simp [h]
theorem beqT {a b : Int} (h : a = b) : (a == b) = true := by simp [h]
/-- A glyph that is put. -/
structure Sp where
  g : Int
  x : Int
  y : Int
def Sp.e (s : Sp) : List AV := [.int .i64 s.g, .int .i64 s.x, .int .i64 s.y, .bool false, .int .i64 (-1), .int .i64 (-1), .int .i64 (-1)]
theorem pureR_sp (l : List Sp) : pureR (l.map Sp.e) = true := by
  induction l with
  | nil => simp [pureR]
  | cons b r ih => simp [pureR, Sp.e, pureL, AV.pure, ih]
theorem mx_neg (b : Int) (h1 : -7 ≤ b) (h2 : b ≤ 7) : (if b < IntKind.i64.wrap (0 - b) then IntKind.i64.wrap (0 - b) else b) = (b.natAbs : Nat) := by
  rw [wrap_i64 (by omega) (by omega)]
  omega

section
attribute [local simp ↓] List.map_nil List.map_cons
attribute [local simp] m_ o_ g_ stepsS stepS gd opEff appEff LArg.ev app_val app_new app_upd app_kill putV ins_e0 ins_e1 get_e0 get_e1 binV binI grd bnd ldCells AV.cells AV.scalar AV.known setAt fillL chunks elems mxI mnI del Nat.add_assoc nlt_self nne_self nne_self' List.take_of_length_le decT decF wrap_i64 stepsD stepD ST.as dEffF LOp.cls softOK LOp.args LOp.rds AV.ids appD_val appD_new appD_upd appD_kill AS.flush delAll
set_option maxHeartbeats 2000000 in
theorem keys_no (f b c y : Int) (l : List Sp) (e : Int) (hC : ACalls Go.Proofs.Tryz.prog 10 [.int .i64 c] [] 0 (fun r _ _ => r = .tup [.int .i64 y, .bool false])) : ACalls Go.Proofs.Tryz.prog 4 [.int .i64 f, .int .i64 b, .int .i64 c] [] 0 (fun r _ _ => r = .bool true) := by
  refine pure_body ok4 rfl ?_
  simp only [parV]
  refine LWP_seq ?_
  apply LWP_run
  · repeat (simp -implicitDefEqProofs (maxSteps := 1000000) (disch := first | assumption | omega) []; try simp only [List.getElem?_cons_zero, Option.getD_some, app_val])
    rfl
  refine LWP_seq ?_
  refine LWP_reg fun K hK => ?_
  apply rgnS_pre 1
  · repeat (simp -implicitDefEqProofs (maxSteps := 1000000) (disch := first | assumption | omega) []; try simp only [List.getElem?_cons_zero, Option.getD_some, app_val])
    rfl
  refine rgnS_call (hC) rfl rfl (by simp [pureL, pureR, AV.pure]) (by simp [pureL, pureR, AV.pure]) (by simp [gd, get_e0, get_e1, LArg.ev]) ?_
  apply rgnS_pre 5
  · repeat (simp -implicitDefEqProofs (maxSteps := 1000000) (disch := first | assumption | omega) []; try simp only [List.getElem?_cons_zero, Option.getD_some, app_val])
    rfl
  refine hK _ ?_; clear hK
  refine LWP_seq ?_
  refine LWP_seq ?_
  refine LWP_reg fun K hK => ?_
  apply rgnS_pre 8
  · repeat (simp -implicitDefEqProofs (maxSteps := 1000000) (disch := first | assumption | omega) []; try simp only [List.getElem?_cons_zero, Option.getD_some, app_val])
    rfl
  apply rgnS_pre 8
  · repeat (simp -implicitDefEqProofs (maxSteps := 1000000) (disch := first | assumption | omega) []; try simp only [List.getElem?_cons_zero, Option.getD_some, app_val])
    rfl
  apply rgnS_pre 2
  · repeat (simp -implicitDefEqProofs (maxSteps := 1000000) (disch := first | assumption | omega) []; try simp only [List.getElem?_cons_zero, Option.getD_some, app_val])
    rfl
  refine hK _ ?_; clear hK
  refine LWP_cond (t := true) (by simp [LArg.ev, get_e0, get_e1]) (fun _ => ?_) (fun h => by cases h)
  refine LWP_seq ?_
  refine LWP_reg fun K hK => ?_
  refine rgnS_call (hdheads) rfl rfl (by simp [pureL, pureR, AV.pure]) (by simp [pureL, pureR, AV.pure]) (by simp [gd, get_e0, get_e1, LArg.ev]) ?_
  apply rgnS_pre 1
  · repeat (simp -implicitDefEqProofs (maxSteps := 1000000) (disch := first | assumption | omega) []; try simp only [List.getElem?_cons_zero, Option.getD_some, app_val])
    rfl
  refine hK _ ?_; clear hK
  -- leaf 0
  refine LWP_ret ⟨_, rfl, ?_⟩
  refine wkV_of_eq ?_
  simp only [retV]
  all_goals
    simp
end

section
attribute [local simp ↓] List.map_nil List.map_cons
attribute [local simp] m_ o_ g_ stepsS stepS gd opEff appEff LArg.ev app_val app_new app_upd app_kill putV ins_e0 ins_e1 get_e0 get_e1 binV binI grd bnd ldCells AV.cells AV.scalar AV.known setAt fillL chunks elems mxI mnI del Nat.add_assoc nlt_self nne_self nne_self' List.take_of_length_le decT decF wrap_i64 stepsD stepD ST.as dEffF LOp.cls softOK LOp.args LOp.rds AV.ids appD_val appD_new appD_upd appD_kill AS.flush delAll
set_option maxHeartbeats 2000000 in
theorem keys_r1 (f b c y : Int) (l : List Sp) (e : Int) (hC : ACalls Go.Proofs.Tryz.prog 10 [.int .i64 c] [] 0 (fun r _ _ => r = .tup [.int .i64 y, .bool true])) (h : f < -7) : ACalls Go.Proofs.Tryz.prog 4 [.int .i64 f, .int .i64 b, .int .i64 c] [] 0 (fun r _ _ => r = .bool true) := by
  refine pure_body ok4 rfl ?_
  simp only [parV]
  refine LWP_seq ?_
  apply LWP_run
  · repeat (simp -implicitDefEqProofs (maxSteps := 1000000) (disch := first | assumption | omega) []; try simp only [List.getElem?_cons_zero, Option.getD_some, app_val])
    rfl
  refine LWP_seq ?_
  refine LWP_reg fun K hK => ?_
  apply rgnS_pre 1
  · repeat (simp -implicitDefEqProofs (maxSteps := 1000000) (disch := first | assumption | omega) []; try simp only [List.getElem?_cons_zero, Option.getD_some, app_val])
    rfl
  refine rgnS_call (hC) rfl rfl (by simp [pureL, pureR, AV.pure]) (by simp [pureL, pureR, AV.pure]) (by simp [gd, get_e0, get_e1, LArg.ev]) ?_
  apply rgnS_pre 5
  · repeat (simp -implicitDefEqProofs (maxSteps := 1000000) (disch := first | assumption | omega) []; try simp only [List.getElem?_cons_zero, Option.getD_some, app_val])
    rfl
  refine hK _ ?_; clear hK
  refine LWP_seq ?_
  refine LWP_seq ?_
  refine LWP_reg fun K hK => ?_
  apply rgnS_pre 8
  · repeat (simp -implicitDefEqProofs (maxSteps := 1000000) (disch := first | assumption | omega) []; try simp only [List.getElem?_cons_zero, Option.getD_some, app_val])
    rfl
  apply rgnS_pre 8
  · repeat (simp -implicitDefEqProofs (maxSteps := 1000000) (disch := first | assumption | omega) []; try simp only [List.getElem?_cons_zero, Option.getD_some, app_val])
    rfl
  apply rgnS_pre 2
  · repeat (simp -implicitDefEqProofs (maxSteps := 1000000) (disch := first | assumption | omega) []; try simp only [List.getElem?_cons_zero, Option.getD_some, app_val])
    rfl
  refine hK _ ?_; clear hK
  refine LWP_cond (t := true) (by simp [LArg.ev, get_e0, get_e1]) (fun _ => ?_) (fun h => by cases h)
  refine LWP_seq ?_
  refine LWP_reg fun K hK => ?_
  refine rgnS_call (hdheads) rfl rfl (by simp [pureL, pureR, AV.pure]) (by simp [pureL, pureR, AV.pure]) (by simp [gd, get_e0, get_e1, LArg.ev]) ?_
  apply rgnS_pre 1
  · repeat (simp -implicitDefEqProofs (maxSteps := 1000000) (disch := first | assumption | omega) []; try simp only [List.getElem?_cons_zero, Option.getD_some, app_val])
    rfl
  refine hK _ ?_; clear hK
  -- leaf 0
  refine LWP_ret ⟨_, rfl, ?_⟩
  refine wkV_of_eq ?_
  simp only [retV]
  all_goals
    simp
end

section
attribute [local simp ↓] List.map_nil List.map_cons
attribute [local simp] m_ o_ g_ stepsS stepS gd opEff appEff LArg.ev app_val app_new app_upd app_kill putV ins_e0 ins_e1 get_e0 get_e1 binV binI grd bnd ldCells AV.cells AV.scalar AV.known setAt fillL chunks elems mxI mnI del Nat.add_assoc nlt_self nne_self nne_self' List.take_of_length_le decT decF wrap_i64 stepsD stepD ST.as dEffF LOp.cls softOK LOp.args LOp.rds AV.ids appD_val appD_new appD_upd appD_kill AS.flush delAll
set_option maxHeartbeats 2000000 in
theorem keys_r2 (f b c y : Int) (l : List Sp) (e : Int) (hC : ACalls Go.Proofs.Tryz.prog 10 [.int .i64 c] [] 0 (fun r _ _ => r = .tup [.int .i64 y, .bool true])) (h0 : -7 ≤ f) (h : 7 < f) : ACalls Go.Proofs.Tryz.prog 4 [.int .i64 f, .int .i64 b, .int .i64 c] [] 0 (fun r _ _ => r = .bool true) := by
  refine pure_body ok4 rfl ?_
  simp only [parV]
  refine LWP_seq ?_
  apply LWP_run
  · repeat (simp -implicitDefEqProofs (maxSteps := 1000000) (disch := first | assumption | omega) []; try simp only [List.getElem?_cons_zero, Option.getD_some, app_val])
    rfl
  refine LWP_seq ?_
  refine LWP_reg fun K hK => ?_
  apply rgnS_pre 1
  · repeat (simp -implicitDefEqProofs (maxSteps := 1000000) (disch := first | assumption | omega) []; try simp only [List.getElem?_cons_zero, Option.getD_some, app_val])
    rfl
  refine rgnS_call (hC) rfl rfl (by simp [pureL, pureR, AV.pure]) (by simp [pureL, pureR, AV.pure]) (by simp [gd, get_e0, get_e1, LArg.ev]) ?_
  apply rgnS_pre 5
  · repeat (simp -implicitDefEqProofs (maxSteps := 1000000) (disch := first | assumption | omega) []; try simp only [List.getElem?_cons_zero, Option.getD_some, app_val])
    rfl
  refine hK _ ?_; clear hK
  refine LWP_seq ?_
  refine LWP_seq ?_
  refine LWP_reg fun K hK => ?_
  apply rgnS_pre 8
  · repeat (simp -implicitDefEqProofs (maxSteps := 1000000) (disch := first | assumption | omega) []; try simp only [List.getElem?_cons_zero, Option.getD_some, app_val])
    rfl
  apply rgnS_pre 8
  · repeat (simp -implicitDefEqProofs (maxSteps := 1000000) (disch := first | assumption | omega) []; try simp only [List.getElem?_cons_zero, Option.getD_some, app_val])
    rfl
  apply rgnS_pre 2
  · repeat (simp -implicitDefEqProofs (maxSteps := 1000000) (disch := first | assumption | omega) []; try simp only [List.getElem?_cons_zero, Option.getD_some, app_val])
    rfl
  refine hK _ ?_; clear hK
  refine LWP_cond (t := true) (by simp [LArg.ev, get_e0, get_e1]) (fun _ => ?_) (fun h => by cases h)
  refine LWP_seq ?_
  refine LWP_reg fun K hK => ?_
  refine rgnS_call (hdheads) rfl rfl (by simp [pureL, pureR, AV.pure]) (by simp [pureL, pureR, AV.pure]) (by simp [gd, get_e0, get_e1, LArg.ev]) ?_
  apply rgnS_pre 1
  · repeat (simp -implicitDefEqProofs (maxSteps := 1000000) (disch := first | assumption | omega) []; try simp only [List.getElem?_cons_zero, Option.getD_some, app_val])
    rfl
  refine hK _ ?_; clear hK
  -- leaf 0
  refine LWP_ret ⟨_, rfl, ?_⟩
  refine wkV_of_eq ?_
  simp only [retV]
  all_goals
    simp
end

section
attribute [local simp ↓] List.map_nil List.map_cons
attribute [local simp] m_ o_ g_ stepsS stepS gd opEff appEff LArg.ev app_val app_new app_upd app_kill putV ins_e0 ins_e1 get_e0 get_e1 binV binI grd bnd ldCells AV.cells AV.scalar AV.known setAt fillL chunks elems mxI mnI del Nat.add_assoc nlt_self nne_self nne_self' List.take_of_length_le decT decF wrap_i64 stepsD stepD ST.as dEffF LOp.cls softOK LOp.args LOp.rds AV.ids appD_val appD_new appD_upd appD_kill AS.flush delAll
set_option maxHeartbeats 2000000 in
theorem keys_r3 (f b c y : Int) (l : List Sp) (e : Int) (hC : ACalls Go.Proofs.Tryz.prog 10 [.int .i64 c] [] 0 (fun r _ _ => r = .tup [.int .i64 y, .bool true])) (h0 : -7 ≤ f) (h1 : f ≤ 7) (h : b < -7) : ACalls Go.Proofs.Tryz.prog 4 [.int .i64 f, .int .i64 b, .int .i64 c] [] 0 (fun r _ _ => r = .bool true) := by
  refine pure_body ok4 rfl ?_
  simp only [parV]
  refine LWP_seq ?_
  apply LWP_run
  · repeat (simp -implicitDefEqProofs (maxSteps := 1000000) (disch := first | assumption | omega) []; try simp only [List.getElem?_cons_zero, Option.getD_some, app_val])
    rfl
  refine LWP_seq ?_
  refine LWP_reg fun K hK => ?_
  apply rgnS_pre 1
  · repeat (simp -implicitDefEqProofs (maxSteps := 1000000) (disch := first | assumption | omega) []; try simp only [List.getElem?_cons_zero, Option.getD_some, app_val])
    rfl
  refine rgnS_call (hC) rfl rfl (by simp [pureL, pureR, AV.pure]) (by simp [pureL, pureR, AV.pure]) (by simp [gd, get_e0, get_e1, LArg.ev]) ?_
  apply rgnS_pre 5
  · repeat (simp -implicitDefEqProofs (maxSteps := 1000000) (disch := first | assumption | omega) []; try simp only [List.getElem?_cons_zero, Option.getD_some, app_val])
    rfl
  refine hK _ ?_; clear hK
  refine LWP_seq ?_
  refine LWP_seq ?_
  refine LWP_reg fun K hK => ?_
  apply rgnS_pre 8
  · repeat (simp -implicitDefEqProofs (maxSteps := 1000000) (disch := first | assumption | omega) []; try simp only [List.getElem?_cons_zero, Option.getD_some, app_val])
    rfl
  apply rgnS_pre 8
  · repeat (simp -implicitDefEqProofs (maxSteps := 1000000) (disch := first | assumption | omega) []; try simp only [List.getElem?_cons_zero, Option.getD_some, app_val])
    rfl
  apply rgnS_pre 2
  · repeat (simp -implicitDefEqProofs (maxSteps := 1000000) (disch := first | assumption | omega) []; try simp only [List.getElem?_cons_zero, Option.getD_some, app_val])
    rfl
  refine hK _ ?_; clear hK
  refine LWP_cond (t := true) (by simp [LArg.ev, get_e0, get_e1]) (fun _ => ?_) (fun h => by cases h)
  refine LWP_seq ?_
  refine LWP_reg fun K hK => ?_
  refine rgnS_call (hdheads) rfl rfl (by simp [pureL, pureR, AV.pure]) (by simp [pureL, pureR, AV.pure]) (by simp [gd, get_e0, get_e1, LArg.ev]) ?_
  apply rgnS_pre 1
  · repeat (simp -implicitDefEqProofs (maxSteps := 1000000) (disch := first | assumption | omega) []; try simp only [List.getElem?_cons_zero, Option.getD_some, app_val])
    rfl
  refine hK _ ?_; clear hK
  -- leaf 0
  refine LWP_ret ⟨_, rfl, ?_⟩
  refine wkV_of_eq ?_
  simp only [retV]
  all_goals
    simp
end

section
attribute [local simp ↓] List.map_nil List.map_cons
attribute [local simp] m_ o_ g_ stepsS stepS gd opEff appEff LArg.ev app_val app_new app_upd app_kill putV ins_e0 ins_e1 get_e0 get_e1 binV binI grd bnd ldCells AV.cells AV.scalar AV.known setAt fillL chunks elems mxI mnI del Nat.add_assoc nlt_self nne_self nne_self' List.take_of_length_le decT decF wrap_i64 stepsD stepD ST.as dEffF LOp.cls softOK LOp.args LOp.rds AV.ids appD_val appD_new appD_upd appD_kill AS.flush delAll
set_option maxHeartbeats 2000000 in
theorem keys_r4 (f b c y : Int) (l : List Sp) (e : Int) (hC : ACalls Go.Proofs.Tryz.prog 10 [.int .i64 c] [] 0 (fun r _ _ => r = .tup [.int .i64 y, .bool true])) (h0 : -7 ≤ f) (h1 : f ≤ 7) (h2 : -7 ≤ b) (h : 7 < b) : ACalls Go.Proofs.Tryz.prog 4 [.int .i64 f, .int .i64 b, .int .i64 c] [] 0 (fun r _ _ => r = .bool true) := by
  refine pure_body ok4 rfl ?_
  simp only [parV]
  refine LWP_seq ?_
  apply LWP_run
  · repeat (simp -implicitDefEqProofs (maxSteps := 1000000) (disch := first | assumption | omega) []; try simp only [List.getElem?_cons_zero, Option.getD_some, app_val])
    rfl
  refine LWP_seq ?_
  refine LWP_reg fun K hK => ?_
  apply rgnS_pre 1
  · repeat (simp -implicitDefEqProofs (maxSteps := 1000000) (disch := first | assumption | omega) []; try simp only [List.getElem?_cons_zero, Option.getD_some, app_val])
    rfl
  refine rgnS_call (hC) rfl rfl (by simp [pureL, pureR, AV.pure]) (by simp [pureL, pureR, AV.pure]) (by simp [gd, get_e0, get_e1, LArg.ev]) ?_
  apply rgnS_pre 5
  · repeat (simp -implicitDefEqProofs (maxSteps := 1000000) (disch := first | assumption | omega) []; try simp only [List.getElem?_cons_zero, Option.getD_some, app_val])
    rfl
  refine hK _ ?_; clear hK
  refine LWP_seq ?_
  refine LWP_seq ?_
  refine LWP_reg fun K hK => ?_
  apply rgnS_pre 8
  · repeat (simp -implicitDefEqProofs (maxSteps := 1000000) (disch := first | assumption | omega) []; try simp only [List.getElem?_cons_zero, Option.getD_some, app_val])
    rfl
  apply rgnS_pre 8
  · repeat (simp -implicitDefEqProofs (maxSteps := 1000000) (disch := first | assumption | omega) []; try simp only [List.getElem?_cons_zero, Option.getD_some, app_val])
    rfl
  apply rgnS_pre 2
  · repeat (simp -implicitDefEqProofs (maxSteps := 1000000) (disch := first | assumption | omega) []; try simp only [List.getElem?_cons_zero, Option.getD_some, app_val])
    rfl
  refine hK _ ?_; clear hK
  refine LWP_cond (t := true) (by simp [LArg.ev, get_e0, get_e1]) (fun _ => ?_) (fun h => by cases h)
  refine LWP_seq ?_
  refine LWP_reg fun K hK => ?_
  refine rgnS_call (hdheads) rfl rfl (by simp [pureL, pureR, AV.pure]) (by simp [pureL, pureR, AV.pure]) (by simp [gd, get_e0, get_e1, LArg.ev]) ?_
  apply rgnS_pre 1
  · repeat (simp -implicitDefEqProofs (maxSteps := 1000000) (disch := first | assumption | omega) []; try simp only [List.getElem?_cons_zero, Option.getD_some, app_val])
    rfl
  refine hK _ ?_; clear hK
  -- leaf 0
  refine LWP_ret ⟨_, rfl, ?_⟩
  refine wkV_of_eq ?_
  simp only [retV]
  all_goals
    simp
end

theorem keys_rng (f b c y : Int) (l : List Sp) (e : Int) (hC : ACalls Go.Proofs.Tryz.prog 10 [.int .i64 c] [] 0 (fun r _ _ => r = .tup [.int .i64 y, .bool true])) (h : f < -7 ∨ 7 < f ∨ b < -7 ∨ 7 < b) : ACalls Go.Proofs.Tryz.prog 4 [.int .i64 f, .int .i64 b, .int .i64 c] [] 0 (fun r _ _ => r = .bool true) := by
  by_cases h1 : f < -7
  · exact keys_r1 f b c y l e hC h1
  · by_cases h2 : 7 < f
    · exact keys_r2 f b c y l e hC (by omega) h2
    · by_cases h3 : b < -7
      · exact keys_r3 f b c y l e hC (by omega) (by omega) h3
      · exact keys_r4 f b c y l e hC (by omega) (by omega) (by omega) (by omega)

section
attribute [local simp ↓] List.map_nil List.map_cons
attribute [local simp] m_ o_ g_ stepsS stepS gd opEff appEff LArg.ev app_val app_new app_upd app_kill putV ins_e0 ins_e1 get_e0 get_e1 binV binI grd bnd ldCells AV.cells AV.scalar AV.known setAt fillL chunks elems mxI mnI del Nat.add_assoc nlt_self nne_self nne_self' List.take_of_length_le decT decF wrap_i64 stepsD stepD ST.as dEffF LOp.cls softOK LOp.args LOp.rds AV.ids appD_val appD_new appD_upd appD_kill AS.flush delAll
set_option maxHeartbeats 2000000 in
theorem keys_pos (f b c y : Int) (l : List Sp) (e : Int) (hC : ACalls Go.Proofs.Tryz.prog 10 [.int .i64 c] [] 0 (fun r _ _ => r = .tup [.int .i64 y, .bool true]))(hKey : ACalls Go.Proofs.Tryz.prog 12 [.int .i64 f, .int .i64 b, .int .i64 c, .int .i64 5] [] 0 (fun r _ _ => r = .tup [.tsl 7 (l.map Sp.e), .int .i64 e]))
  (hA : ACalls Go.Proofs.Tryz.prog 13 [.tsl 7 (l.map Sp.e), .int .i64 5, .int .i64 e] [] 0 (fun r _ _ => r = .bool true)) (h1 : -7 ≤ f) (h2 : f ≤ 7) (h3 : -7 ≤ b) (h4 : b ≤ 7) (he : (e == 5) = false) (hz : ((l.length : Int) == 0) = false) (hgg : ∀ (i : Nat) (h : i < l.length), (l[i]'h).g = 21) (hf : 0 < f) (hn : f = (l.length : Nat)) : ACalls Go.Proofs.Tryz.prog 4 [.int .i64 f, .int .i64 b, .int .i64 c] [] 0 (fun r _ _ => r = .bool true) := by
  refine pure_body ok4 rfl ?_
  simp only [parV]
  subst hn
  refine LWP_seq ?_
  apply LWP_run
  · repeat (simp -implicitDefEqProofs (maxSteps := 1000000) (disch := first | assumption | omega) [Sp.e, eqV, eqS, hgg, he, hz, beqF]; try simp only [List.getElem?_cons_zero, Option.getD_some, app_val])
    rfl
  refine LWP_seq ?_
  refine LWP_reg fun K hK => ?_
  apply rgnS_pre 1
  · repeat (simp -implicitDefEqProofs (maxSteps := 1000000) (disch := first | assumption | omega) [Sp.e, eqV, eqS, hgg, he, hz, beqF]; try simp only [List.getElem?_cons_zero, Option.getD_some, app_val])
    rfl
  refine rgnS_call (hC) rfl rfl (by simp [pureL, pureR, AV.pure, Sp.e, eqV, eqS]) (by simp [pureL, pureR, AV.pure, Sp.e, eqV, eqS]) (by simp [gd, get_e0, get_e1, LArg.ev]) ?_
  apply rgnS_pre 5
  · repeat (simp -implicitDefEqProofs (maxSteps := 1000000) (disch := first | assumption | omega) [Sp.e, eqV, eqS, hgg, he, hz, beqF]; try simp only [List.getElem?_cons_zero, Option.getD_some, app_val])
    rfl
  refine hK _ ?_; clear hK
  refine LWP_seq ?_
  refine LWP_seq ?_
  refine LWP_reg fun K hK => ?_
  apply rgnS_pre 8
  · repeat (simp -implicitDefEqProofs (maxSteps := 1000000) (disch := first | assumption | omega) [Sp.e, eqV, eqS, hgg, he, hz, beqF]; try simp only [List.getElem?_cons_zero, Option.getD_some, app_val])
    rfl
  apply rgnS_pre 8
  · repeat (simp -implicitDefEqProofs (maxSteps := 1000000) (disch := first | assumption | omega) [Sp.e, eqV, eqS, hgg, he, hz, beqF]; try simp only [List.getElem?_cons_zero, Option.getD_some, app_val])
    rfl
  apply rgnS_pre 2
  · repeat (simp -implicitDefEqProofs (maxSteps := 1000000) (disch := first | assumption | omega) [Sp.e, eqV, eqS, hgg, he, hz, beqF]; try simp only [List.getElem?_cons_zero, Option.getD_some, app_val])
    rfl
  refine hK _ ?_; clear hK
  refine LWP_cond (t := false) (by simp [LArg.ev, get_e0, get_e1]) (fun h => by cases h) (fun _ => ?_)
  refine LWP_skip ?_
  refine LWP_seq ?_
  refine LWP_reg fun K hK => ?_
  apply rgnS_pre 3
  · repeat (simp -implicitDefEqProofs (maxSteps := 1000000) (disch := first | assumption | omega) [Sp.e, eqV, eqS, hgg, he, hz, beqF]; try simp only [List.getElem?_cons_zero, Option.getD_some, app_val])
    rfl
  refine rgnS_call (hKey) rfl rfl (by simp [pureL, pureR, AV.pure, Sp.e, eqV, eqS, pureR_sp]) (by simp [pureL, pureR, AV.pure, Sp.e, eqV, eqS, pureR_sp]) (by simp [gd, get_e0, get_e1, LArg.ev]) ?_
  apply rgnS_pre 5
  · repeat (simp -implicitDefEqProofs (maxSteps := 1000000) (disch := first | assumption | omega) [Sp.e, eqV, eqS, hgg, he, hz, beqF]; try simp only [List.getElem?_cons_zero, Option.getD_some, app_val])
    rfl
  refine hK _ ?_; clear hK
  refine LWP_seq ?_
  apply LWP_run
  · repeat (simp -implicitDefEqProofs (maxSteps := 1000000) (disch := first | assumption | omega) [Sp.e, eqV, eqS, hgg, he, hz, beqF]; try simp only [List.getElem?_cons_zero, Option.getD_some, app_val])
    rfl
  refine LWP_seq ?_
  refine LWP_seq ?_
  apply LWP_run
  · repeat (simp -implicitDefEqProofs (maxSteps := 1000000) (disch := first | assumption | omega) [Sp.e, eqV, eqS, hgg, he, hz, beqF]; try simp only [List.getElem?_cons_zero, Option.getD_some, app_val])
    rfl
  refine LWP_cond (t := false) (by simp [LArg.ev, get_e0, get_e1]) (fun h => by cases h) (fun _ => ?_)
  refine LWP_skip ?_
  refine LWP_seq ?_
  refine LWP_seq ?_
  apply LWP_run
  · repeat (simp -implicitDefEqProofs (maxSteps := 1000000) (disch := first | assumption | omega) [Sp.e, eqV, eqS, hgg, he, hz, beqF]; try simp only [List.getElem?_cons_zero, Option.getD_some, app_val])
    rfl
  refine LWP_cond (t := false) (by simp [LArg.ev, get_e0, get_e1]) (fun h => by cases h) (fun _ => ?_)
  refine LWP_skip ?_
  refine LWP_seq ?_
  refine LWP_seq ?_
  apply LWP_run
  · repeat (simp -implicitDefEqProofs (maxSteps := 1000000) (disch := first | assumption | omega) [Sp.e, eqV, eqS, hgg, he, hz, beqF]; try simp only [List.getElem?_cons_zero, Option.getD_some, app_val])
    rfl
  refine LWP_block ?_
  refine LWP_for (fun (i : Nat) => [(9, .tsl 7 (l.map Sp.e)), (10, .int .i64 e), (11, .int .i64 (l.length : Nat)), (12, .int .i64 21), (13, .int .i64 (i : Nat))]) (fun (i : Nat) => []) (fun (i : Nat) n => i ≤ l.length) (fun (i : Nat) => l.length - i) 0 ?_ ?_ ?_ ?_
  · simp (maxSteps := 1000000) (disch := first | assumption | omega) [leV, get_e0, get_e1, wkV.refl, wkV_int, decT, decF, Sp.e, eqV, eqS, hgg, he, hz, beqF]
  · simp [leH, get_e0, get_e1]
  · exact Nat.zero_le _
  rintro i n c1
  try simp only at *
  refine LWP_seq ?_
  refine LWP_seq ?_
  apply LWP_run
  · repeat (simp -implicitDefEqProofs (maxSteps := 1000000) (disch := first | assumption | omega) [Sp.e, eqV, eqS, hgg, he, hz, beqF]; try simp only [List.getElem?_cons_zero, Option.getD_some, app_val])
    rfl
  refine LWP_cond rfl (fun h2 => ?_) (fun h2 => ?_)
  · try simp only [decide_eq_true_eq, decide_eq_false_iff_not, Bool.not_eq_true', Bool.not_eq_false', Bool.not_true, Bool.not_false, beq_iff_eq, bne_iff_ne, beq_eq_false_iff_ne, bne_eq_false_iff_eq, Bool.and_eq_true, Bool.or_eq_false_iff, Int.not_lt, Int.not_le, Nat.not_lt, Nat.not_le, ne_eq, Bool.true_eq_false, Bool.false_eq_true, reduceCtorEq] at h2
    all_goals try (exfalso; omega)
    all_goals
      refine LWP_skip ?_
      refine LWP_seq ?_
      refine LWP_block ?_
      refine LWP_seq ?_
      apply LWP_run
      · repeat (simp -implicitDefEqProofs (maxSteps := 1000000) (disch := first | assumption | omega) [Sp.e, eqV, eqS, hgg, he, hz, beqF, h2]; try simp only [List.getElem?_cons_zero, Option.getD_some, app_val])
        rfl
      refine LWP_cond (t := false) (by simp [LArg.ev, get_e0, get_e1, h2]) (fun h => by cases h) (fun _ => ?_)
      refine LWP_skip ?_
      apply LWP_run
      · repeat (simp -implicitDefEqProofs (maxSteps := 1000000) (disch := first | assumption | omega) [Sp.e, eqV, eqS, hgg, he, hz, beqF, h2]; try simp only [List.getElem?_cons_zero, Option.getD_some, app_val])
        rfl
      -- loop 0, round 0
      refine ⟨i + 1, ?_, ?_, ?_, ?_⟩
      · exact (by omega)
      · omega
      · simp (maxSteps := 1000000) (disch := first | assumption | omega) [leV, get_e0, get_e1, wkV.refl, wkV_int, wrap_i64, decT, decF, Sp.e, eqV, eqS, hgg, he, hz, beqF, h2]
      · simp [leH, get_e0, get_e1, h2]
  · try simp only [decide_eq_true_eq, decide_eq_false_iff_not, Bool.not_eq_true', Bool.not_eq_false', Bool.not_true, Bool.not_false, beq_iff_eq, bne_iff_ne, beq_eq_false_iff_ne, bne_eq_false_iff_eq, Bool.and_eq_true, Bool.or_eq_false_iff, Int.not_lt, Int.not_le, Nat.not_lt, Nat.not_le, ne_eq, Bool.true_eq_false, Bool.false_eq_true, reduceCtorEq] at h2
    all_goals try (exfalso; omega)
    all_goals
      refine LWP_exit ?_
      refine LWP_seq ?_
      refine LWP_reg fun K hK => ?_
      apply rgnS_pre 8
      · repeat (simp -implicitDefEqProofs (maxSteps := 1000000) (disch := first | assumption | omega) [Sp.e, eqV, eqS, hgg, he, hz, beqF, h2]; try simp only [List.getElem?_cons_zero, Option.getD_some, app_val])
        rfl
      apply rgnS_pre 6
      · repeat (simp -implicitDefEqProofs (maxSteps := 1000000) (disch := first | assumption | omega) [Sp.e, eqV, eqS, hgg, he, hz, beqF, h2]; try simp only [List.getElem?_cons_zero, Option.getD_some, app_val])
        rfl
      refine rgnS_call (hA) rfl rfl (by simp [pureL, pureR, AV.pure, Sp.e, eqV, eqS, pureR_sp]) (by simp [pureL, pureR, AV.pure, Sp.e, eqV, eqS, pureR_sp]) (by simp [gd, get_e0, get_e1, LArg.ev, h2]) ?_
      apply rgnS_pre 2
      · repeat (simp -implicitDefEqProofs (maxSteps := 1000000) (disch := first | assumption | omega) [Sp.e, eqV, eqS, hgg, he, hz, beqF, h2]; try simp only [List.getElem?_cons_zero, Option.getD_some, app_val])
        rfl
      refine rgnS_call (hdheads) rfl rfl (by simp [pureL, pureR, AV.pure, Sp.e, eqV, eqS]) (by simp [pureL, pureR, AV.pure, Sp.e, eqV, eqS]) (by simp [gd, get_e0, get_e1, LArg.ev, h2]) ?_
      apply rgnS_pre 2
      · repeat (simp -implicitDefEqProofs (maxSteps := 1000000) (disch := first | assumption | omega) [Sp.e, eqV, eqS, hgg, he, hz, beqF, h2]; try simp only [List.getElem?_cons_zero, Option.getD_some, app_val])
        rfl
      refine hK _ ?_; clear hK
      -- leaf 0
      refine LWP_ret ⟨_, rfl, ?_⟩
      refine wkV_of_eq ?_
      simp only [retV]
      all_goals
        simp
end

section
attribute [local simp ↓] List.map_nil List.map_cons
attribute [local simp] m_ o_ g_ stepsS stepS gd opEff appEff LArg.ev app_val app_new app_upd app_kill putV ins_e0 ins_e1 get_e0 get_e1 binV binI grd bnd ldCells AV.cells AV.scalar AV.known setAt fillL chunks elems mxI mnI del Nat.add_assoc nlt_self nne_self nne_self' List.take_of_length_le decT decF wrap_i64 stepsD stepD ST.as dEffF LOp.cls softOK LOp.args LOp.rds AV.ids appD_val appD_new appD_upd appD_kill AS.flush delAll
set_option maxHeartbeats 2000000 in
theorem keys_neg (f b c y : Int) (l : List Sp) (e : Int) (hC : ACalls Go.Proofs.Tryz.prog 10 [.int .i64 c] [] 0 (fun r _ _ => r = .tup [.int .i64 y, .bool true]))(hKey : ACalls Go.Proofs.Tryz.prog 12 [.int .i64 f, .int .i64 b, .int .i64 c, .int .i64 5] [] 0 (fun r _ _ => r = .tup [.tsl 7 (l.map Sp.e), .int .i64 e]))
  (hA : ACalls Go.Proofs.Tryz.prog 13 [.tsl 7 (l.map Sp.e), .int .i64 5, .int .i64 e] [] 0 (fun r _ _ => r = .bool true)) (h1 : -7 ≤ f) (h2 : f ≤ 7) (h3 : -7 ≤ b) (h4 : b ≤ 7) (he : (e == 5) = false) (hz : ((l.length : Int) == 0) = false) (hgg : ∀ (i : Nat) (h : i < l.length), (l[i]'h).g = 22) (hf : f < 0) (hn : f = -((l.length : Nat) : Int)) : ACalls Go.Proofs.Tryz.prog 4 [.int .i64 f, .int .i64 b, .int .i64 c] [] 0 (fun r _ _ => r = .bool true) := by
  refine pure_body ok4 rfl ?_
  simp only [parV]
  subst hn
  refine LWP_seq ?_
  apply LWP_run
  · repeat (simp -implicitDefEqProofs (maxSteps := 1000000) (disch := first | assumption | omega) [Sp.e, eqV, eqS, hgg, he, hz, beqF]; try simp only [List.getElem?_cons_zero, Option.getD_some, app_val])
    rfl
  refine LWP_seq ?_
  refine LWP_reg fun K hK => ?_
  apply rgnS_pre 1
  · repeat (simp -implicitDefEqProofs (maxSteps := 1000000) (disch := first | assumption | omega) [Sp.e, eqV, eqS, hgg, he, hz, beqF]; try simp only [List.getElem?_cons_zero, Option.getD_some, app_val])
    rfl
  refine rgnS_call (hC) rfl rfl (by simp [pureL, pureR, AV.pure, Sp.e, eqV, eqS]) (by simp [pureL, pureR, AV.pure, Sp.e, eqV, eqS]) (by simp [gd, get_e0, get_e1, LArg.ev]) ?_
  apply rgnS_pre 5
  · repeat (simp -implicitDefEqProofs (maxSteps := 1000000) (disch := first | assumption | omega) [Sp.e, eqV, eqS, hgg, he, hz, beqF]; try simp only [List.getElem?_cons_zero, Option.getD_some, app_val])
    rfl
  refine hK _ ?_; clear hK
  refine LWP_seq ?_
  refine LWP_seq ?_
  refine LWP_reg fun K hK => ?_
  apply rgnS_pre 8
  · repeat (simp -implicitDefEqProofs (maxSteps := 1000000) (disch := first | assumption | omega) [Sp.e, eqV, eqS, hgg, he, hz, beqF]; try simp only [List.getElem?_cons_zero, Option.getD_some, app_val])
    rfl
  apply rgnS_pre 8
  · repeat (simp -implicitDefEqProofs (maxSteps := 1000000) (disch := first | assumption | omega) [Sp.e, eqV, eqS, hgg, he, hz, beqF]; try simp only [List.getElem?_cons_zero, Option.getD_some, app_val])
    rfl
  apply rgnS_pre 2
  · repeat (simp -implicitDefEqProofs (maxSteps := 1000000) (disch := first | assumption | omega) [Sp.e, eqV, eqS, hgg, he, hz, beqF]; try simp only [List.getElem?_cons_zero, Option.getD_some, app_val])
    rfl
  refine hK _ ?_; clear hK
  refine LWP_cond (t := false) (by simp [LArg.ev, get_e0, get_e1]) (fun h => by cases h) (fun _ => ?_)
  refine LWP_skip ?_
  refine LWP_seq ?_
  refine LWP_reg fun K hK => ?_
  apply rgnS_pre 3
  · repeat (simp -implicitDefEqProofs (maxSteps := 1000000) (disch := first | assumption | omega) [Sp.e, eqV, eqS, hgg, he, hz, beqF]; try simp only [List.getElem?_cons_zero, Option.getD_some, app_val])
    rfl
  refine rgnS_call (hKey) rfl rfl (by simp [pureL, pureR, AV.pure, Sp.e, eqV, eqS, pureR_sp]) (by simp [pureL, pureR, AV.pure, Sp.e, eqV, eqS, pureR_sp]) (by simp [gd, get_e0, get_e1, LArg.ev]) ?_
  apply rgnS_pre 5
  · repeat (simp -implicitDefEqProofs (maxSteps := 1000000) (disch := first | assumption | omega) [Sp.e, eqV, eqS, hgg, he, hz, beqF]; try simp only [List.getElem?_cons_zero, Option.getD_some, app_val])
    rfl
  refine hK _ ?_; clear hK
  refine LWP_seq ?_
  apply LWP_run
  · repeat (simp -implicitDefEqProofs (maxSteps := 1000000) (disch := first | assumption | omega) [Sp.e, eqV, eqS, hgg, he, hz, beqF]; try simp only [List.getElem?_cons_zero, Option.getD_some, app_val])
    rfl
  refine LWP_seq ?_
  refine LWP_seq ?_
  apply LWP_run
  · repeat (simp -implicitDefEqProofs (maxSteps := 1000000) (disch := first | assumption | omega) [Sp.e, eqV, eqS, hgg, he, hz, beqF]; try simp only [List.getElem?_cons_zero, Option.getD_some, app_val])
    rfl
  refine LWP_cond (t := true) (by simp [LArg.ev, get_e0, get_e1]) (fun _ => ?_) (fun h => by cases h)
  apply LWP_run
  · repeat (simp -implicitDefEqProofs (maxSteps := 1000000) (disch := first | assumption | omega) [Sp.e, eqV, eqS, hgg, he, hz, beqF]; try simp only [List.getElem?_cons_zero, Option.getD_some, app_val])
    rfl
  refine LWP_seq ?_
  refine LWP_seq ?_
  apply LWP_run
  · repeat (simp -implicitDefEqProofs (maxSteps := 1000000) (disch := first | assumption | omega) [Sp.e, eqV, eqS, hgg, he, hz, beqF]; try simp only [List.getElem?_cons_zero, Option.getD_some, app_val])
    rfl
  refine LWP_cond (t := false) (by simp [LArg.ev, get_e0, get_e1]) (fun h => by cases h) (fun _ => ?_)
  refine LWP_skip ?_
  refine LWP_seq ?_
  refine LWP_seq ?_
  apply LWP_run
  · repeat (simp -implicitDefEqProofs (maxSteps := 1000000) (disch := first | assumption | omega) [Sp.e, eqV, eqS, hgg, he, hz, beqF]; try simp only [List.getElem?_cons_zero, Option.getD_some, app_val])
    rfl
  refine LWP_block ?_
  refine LWP_for (fun (i : Nat) => [(9, .tsl 7 (l.map Sp.e)), (10, .int .i64 e), (11, .int .i64 (l.length : Nat)), (12, .int .i64 22), (13, .int .i64 (i : Nat))]) (fun (i : Nat) => []) (fun (i : Nat) n => i ≤ l.length) (fun (i : Nat) => l.length - i) 0 ?_ ?_ ?_ ?_
  · simp (maxSteps := 1000000) (disch := first | assumption | omega) [leV, get_e0, get_e1, wkV.refl, wkV_int, decT, decF, Sp.e, eqV, eqS, hgg, he, hz, beqF]
  · simp [leH, get_e0, get_e1]
  · exact Nat.zero_le _
  rintro i n c1
  try simp only at *
  refine LWP_seq ?_
  refine LWP_seq ?_
  apply LWP_run
  · repeat (simp -implicitDefEqProofs (maxSteps := 1000000) (disch := first | assumption | omega) [Sp.e, eqV, eqS, hgg, he, hz, beqF]; try simp only [List.getElem?_cons_zero, Option.getD_some, app_val])
    rfl
  refine LWP_cond rfl (fun h2 => ?_) (fun h2 => ?_)
  · try simp only [decide_eq_true_eq, decide_eq_false_iff_not, Bool.not_eq_true', Bool.not_eq_false', Bool.not_true, Bool.not_false, beq_iff_eq, bne_iff_ne, beq_eq_false_iff_ne, bne_eq_false_iff_eq, Bool.and_eq_true, Bool.or_eq_false_iff, Int.not_lt, Int.not_le, Nat.not_lt, Nat.not_le, ne_eq, Bool.true_eq_false, Bool.false_eq_true, reduceCtorEq] at h2
    all_goals try (exfalso; omega)
    all_goals
      refine LWP_skip ?_
      refine LWP_seq ?_
      refine LWP_block ?_
      refine LWP_seq ?_
      apply LWP_run
      · repeat (simp -implicitDefEqProofs (maxSteps := 1000000) (disch := first | assumption | omega) [Sp.e, eqV, eqS, hgg, he, hz, beqF, h2]; try simp only [List.getElem?_cons_zero, Option.getD_some, app_val])
        rfl
      refine LWP_cond (t := false) (by simp [LArg.ev, get_e0, get_e1, h2]) (fun h => by cases h) (fun _ => ?_)
      refine LWP_skip ?_
      apply LWP_run
      · repeat (simp -implicitDefEqProofs (maxSteps := 1000000) (disch := first | assumption | omega) [Sp.e, eqV, eqS, hgg, he, hz, beqF, h2]; try simp only [List.getElem?_cons_zero, Option.getD_some, app_val])
        rfl
      -- loop 0, round 0
      refine ⟨i + 1, ?_, ?_, ?_, ?_⟩
      · exact (by omega)
      · omega
      · simp (maxSteps := 1000000) (disch := first | assumption | omega) [leV, get_e0, get_e1, wkV.refl, wkV_int, wrap_i64, decT, decF, Sp.e, eqV, eqS, hgg, he, hz, beqF, h2]
      · simp [leH, get_e0, get_e1, h2]
  · try simp only [decide_eq_true_eq, decide_eq_false_iff_not, Bool.not_eq_true', Bool.not_eq_false', Bool.not_true, Bool.not_false, beq_iff_eq, bne_iff_ne, beq_eq_false_iff_ne, bne_eq_false_iff_eq, Bool.and_eq_true, Bool.or_eq_false_iff, Int.not_lt, Int.not_le, Nat.not_lt, Nat.not_le, ne_eq, Bool.true_eq_false, Bool.false_eq_true, reduceCtorEq] at h2
    all_goals try (exfalso; omega)
    all_goals
      refine LWP_exit ?_
      refine LWP_seq ?_
      refine LWP_reg fun K hK => ?_
      apply rgnS_pre 8
      · repeat (simp -implicitDefEqProofs (maxSteps := 1000000) (disch := first | assumption | omega) [Sp.e, eqV, eqS, hgg, he, hz, beqF, h2]; try simp only [List.getElem?_cons_zero, Option.getD_some, app_val])
        rfl
      apply rgnS_pre 6
      · repeat (simp -implicitDefEqProofs (maxSteps := 1000000) (disch := first | assumption | omega) [Sp.e, eqV, eqS, hgg, he, hz, beqF, h2]; try simp only [List.getElem?_cons_zero, Option.getD_some, app_val])
        rfl
      refine rgnS_call (hA) rfl rfl (by simp [pureL, pureR, AV.pure, Sp.e, eqV, eqS, pureR_sp]) (by simp [pureL, pureR, AV.pure, Sp.e, eqV, eqS, pureR_sp]) (by simp [gd, get_e0, get_e1, LArg.ev, h2]) ?_
      apply rgnS_pre 2
      · repeat (simp -implicitDefEqProofs (maxSteps := 1000000) (disch := first | assumption | omega) [Sp.e, eqV, eqS, hgg, he, hz, beqF, h2]; try simp only [List.getElem?_cons_zero, Option.getD_some, app_val])
        rfl
      refine rgnS_call (hdheads) rfl rfl (by simp [pureL, pureR, AV.pure, Sp.e, eqV, eqS]) (by simp [pureL, pureR, AV.pure, Sp.e, eqV, eqS]) (by simp [gd, get_e0, get_e1, LArg.ev, h2]) ?_
      apply rgnS_pre 2
      · repeat (simp -implicitDefEqProofs (maxSteps := 1000000) (disch := first | assumption | omega) [Sp.e, eqV, eqS, hgg, he, hz, beqF, h2]; try simp only [List.getElem?_cons_zero, Option.getD_some, app_val])
        rfl
      refine hK _ ?_; clear hK
      -- leaf 0
      refine LWP_ret ⟨_, rfl, ?_⟩
      refine wkV_of_eq ?_
      simp only [retV]
      all_goals
        simp
end

section
attribute [local simp ↓] List.map_nil List.map_cons
attribute [local simp] m_ o_ g_ stepsS stepS gd opEff appEff LArg.ev app_val app_new app_upd app_kill putV ins_e0 ins_e1 get_e0 get_e1 binV binI grd bnd ldCells AV.cells AV.scalar AV.known setAt fillL chunks elems mxI mnI del Nat.add_assoc nlt_self nne_self nne_self' List.take_of_length_le decT decF wrap_i64 stepsD stepD ST.as dEffF LOp.cls softOK LOp.args LOp.rds AV.ids appD_val appD_new appD_upd appD_kill AS.flush delAll
set_option maxHeartbeats 2000000 in
theorem keys_zero (f b c y : Int) (l : List Sp) (e : Int) (hC : ACalls Go.Proofs.Tryz.prog 10 [.int .i64 c] [] 0 (fun r _ _ => r = .tup [.int .i64 y, .bool true]))(hKey : ACalls Go.Proofs.Tryz.prog 12 [.int .i64 f, .int .i64 b, .int .i64 c, .int .i64 5] [] 0 (fun r _ _ => r = .tup [.tsl 7 (l.map Sp.e), .int .i64 e]))
  (hA : ACalls Go.Proofs.Tryz.prog 13 [.tsl 7 (l.map Sp.e), .int .i64 5, .int .i64 e] [] 0 (fun r _ _ => r = .bool true)) (h1 : -7 ≤ f) (h2 : f ≤ 7) (h3 : -7 ≤ b) (h4 : b ≤ 7) (he : (e == 5) = false) (hz : ((l.length : Int) == 0) = false) (hgg : ∀ (i : Nat) (h : i < l.length), (l[i]'h).g = 23) (hf : f = 0) (hn : (b.natAbs : Int) = (l.length : Nat)) (hm : (if b < -b then -b else b) = (l.length : Nat)) : ACalls Go.Proofs.Tryz.prog 4 [.int .i64 f, .int .i64 b, .int .i64 c] [] 0 (fun r _ _ => r = .bool true) := by
  refine pure_body ok4 rfl ?_
  simp only [parV]
  subst hf
  refine LWP_seq ?_
  apply LWP_run
  · repeat (simp -implicitDefEqProofs (maxSteps := 1000000) (disch := first | assumption | omega) [Sp.e, eqV, eqS, hgg, he, hz, hm]; try simp only [List.getElem?_cons_zero, Option.getD_some, app_val])
    rfl
  refine LWP_seq ?_
  refine LWP_reg fun K hK => ?_
  apply rgnS_pre 1
  · repeat (simp -implicitDefEqProofs (maxSteps := 1000000) (disch := first | assumption | omega) [Sp.e, eqV, eqS, hgg, he, hz, hm]; try simp only [List.getElem?_cons_zero, Option.getD_some, app_val])
    rfl
  refine rgnS_call (hC) rfl rfl (by simp [pureL, pureR, AV.pure, Sp.e, eqV, eqS]) (by simp [pureL, pureR, AV.pure, Sp.e, eqV, eqS]) (by simp [gd, get_e0, get_e1, LArg.ev]) ?_
  apply rgnS_pre 5
  · repeat (simp -implicitDefEqProofs (maxSteps := 1000000) (disch := first | assumption | omega) [Sp.e, eqV, eqS, hgg, he, hz, hm]; try simp only [List.getElem?_cons_zero, Option.getD_some, app_val])
    rfl
  refine hK _ ?_; clear hK
  refine LWP_seq ?_
  refine LWP_seq ?_
  refine LWP_reg fun K hK => ?_
  apply rgnS_pre 8
  · repeat (simp -implicitDefEqProofs (maxSteps := 1000000) (disch := first | assumption | omega) [Sp.e, eqV, eqS, hgg, he, hz, hm]; try simp only [List.getElem?_cons_zero, Option.getD_some, app_val])
    rfl
  apply rgnS_pre 8
  · repeat (simp -implicitDefEqProofs (maxSteps := 1000000) (disch := first | assumption | omega) [Sp.e, eqV, eqS, hgg, he, hz, hm]; try simp only [List.getElem?_cons_zero, Option.getD_some, app_val])
    rfl
  apply rgnS_pre 2
  · repeat (simp -implicitDefEqProofs (maxSteps := 1000000) (disch := first | assumption | omega) [Sp.e, eqV, eqS, hgg, he, hz, hm]; try simp only [List.getElem?_cons_zero, Option.getD_some, app_val])
    rfl
  refine hK _ ?_; clear hK
  refine LWP_cond (t := false) (by simp [LArg.ev, get_e0, get_e1]) (fun h => by cases h) (fun _ => ?_)
  refine LWP_skip ?_
  refine LWP_seq ?_
  refine LWP_reg fun K hK => ?_
  apply rgnS_pre 3
  · repeat (simp -implicitDefEqProofs (maxSteps := 1000000) (disch := first | assumption | omega) [Sp.e, eqV, eqS, hgg, he, hz, hm]; try simp only [List.getElem?_cons_zero, Option.getD_some, app_val])
    rfl
  refine rgnS_call (hKey) rfl rfl (by simp [pureL, pureR, AV.pure, Sp.e, eqV, eqS, pureR_sp]) (by simp [pureL, pureR, AV.pure, Sp.e, eqV, eqS, pureR_sp]) (by simp [gd, get_e0, get_e1, LArg.ev]) ?_
  apply rgnS_pre 5
  · repeat (simp -implicitDefEqProofs (maxSteps := 1000000) (disch := first | assumption | omega) [Sp.e, eqV, eqS, hgg, he, hz, hm]; try simp only [List.getElem?_cons_zero, Option.getD_some, app_val])
    rfl
  refine hK _ ?_; clear hK
  refine LWP_seq ?_
  apply LWP_run
  · repeat (simp -implicitDefEqProofs (maxSteps := 1000000) (disch := first | assumption | omega) [Sp.e, eqV, eqS, hgg, he, hz, hm]; try simp only [List.getElem?_cons_zero, Option.getD_some, app_val])
    rfl
  refine LWP_seq ?_
  refine LWP_seq ?_
  apply LWP_run
  · repeat (simp -implicitDefEqProofs (maxSteps := 1000000) (disch := first | assumption | omega) [Sp.e, eqV, eqS, hgg, he, hz, hm]; try simp only [List.getElem?_cons_zero, Option.getD_some, app_val])
    rfl
  refine LWP_cond (t := false) (by simp [LArg.ev, get_e0, get_e1]) (fun h => by cases h) (fun _ => ?_)
  refine LWP_skip ?_
  refine LWP_seq ?_
  refine LWP_seq ?_
  apply LWP_run
  · repeat (simp -implicitDefEqProofs (maxSteps := 1000000) (disch := first | assumption | omega) [Sp.e, eqV, eqS, hgg, he, hz, hm]; try simp only [List.getElem?_cons_zero, Option.getD_some, app_val])
    rfl
  refine LWP_cond (t := true) (by simp [LArg.ev, get_e0, get_e1]) (fun _ => ?_) (fun h => by cases h)
  apply LWP_run
  · repeat (simp -implicitDefEqProofs (maxSteps := 1000000) (disch := first | assumption | omega) [Sp.e, eqV, eqS, hgg, he, hz, hm]; try simp only [List.getElem?_cons_zero, Option.getD_some, app_val])
    rfl
  refine LWP_seq ?_
  refine LWP_seq ?_
  apply LWP_run
  · repeat (simp -implicitDefEqProofs (maxSteps := 1000000) (disch := first | assumption | omega) [Sp.e, eqV, eqS, hgg, he, hz, hm]; try simp only [List.getElem?_cons_zero, Option.getD_some, app_val])
    rfl
  refine LWP_block ?_
  refine LWP_for (fun (i : Nat) => [(9, .tsl 7 (l.map Sp.e)), (10, .int .i64 e), (11, .int .i64 (l.length : Nat)), (12, .int .i64 23), (13, .int .i64 (i : Nat))]) (fun (i : Nat) => []) (fun (i : Nat) n => i ≤ l.length) (fun (i : Nat) => l.length - i) 0 ?_ ?_ ?_ ?_
  · simp (maxSteps := 1000000) (disch := first | assumption | omega) [leV, get_e0, get_e1, wkV.refl, wkV_int, decT, decF, Sp.e, eqV, eqS, hgg, he, hz, hm]
  · simp [leH, get_e0, get_e1]
  · exact Nat.zero_le _
  rintro i n c1
  try simp only at *
  refine LWP_seq ?_
  refine LWP_seq ?_
  apply LWP_run
  · repeat (simp -implicitDefEqProofs (maxSteps := 1000000) (disch := first | assumption | omega) [Sp.e, eqV, eqS, hgg, he, hz, hm]; try simp only [List.getElem?_cons_zero, Option.getD_some, app_val])
    rfl
  refine LWP_cond rfl (fun h2 => ?_) (fun h2 => ?_)
  · try simp only [decide_eq_true_eq, decide_eq_false_iff_not, Bool.not_eq_true', Bool.not_eq_false', Bool.not_true, Bool.not_false, beq_iff_eq, bne_iff_ne, beq_eq_false_iff_ne, bne_eq_false_iff_eq, Bool.and_eq_true, Bool.or_eq_false_iff, Int.not_lt, Int.not_le, Nat.not_lt, Nat.not_le, ne_eq, Bool.true_eq_false, Bool.false_eq_true, reduceCtorEq] at h2
    all_goals try (exfalso; omega)
    all_goals
      refine LWP_skip ?_
      refine LWP_seq ?_
      refine LWP_block ?_
      refine LWP_seq ?_
      apply LWP_run
      · repeat (simp -implicitDefEqProofs (maxSteps := 1000000) (disch := first | assumption | omega) [Sp.e, eqV, eqS, hgg, he, hz, hm, h2]; try simp only [List.getElem?_cons_zero, Option.getD_some, app_val])
        rfl
      refine LWP_cond (t := false) (by simp [LArg.ev, get_e0, get_e1, h2]) (fun h => by cases h) (fun _ => ?_)
      refine LWP_skip ?_
      apply LWP_run
      · repeat (simp -implicitDefEqProofs (maxSteps := 1000000) (disch := first | assumption | omega) [Sp.e, eqV, eqS, hgg, he, hz, hm, h2]; try simp only [List.getElem?_cons_zero, Option.getD_some, app_val])
        rfl
      -- loop 0, round 0
      refine ⟨i + 1, ?_, ?_, ?_, ?_⟩
      · exact (by omega)
      · omega
      · simp (maxSteps := 1000000) (disch := first | assumption | omega) [leV, get_e0, get_e1, wkV.refl, wkV_int, wrap_i64, decT, decF, Sp.e, eqV, eqS, hgg, he, hz, hm, h2]
      · simp [leH, get_e0, get_e1, h2]
  · try simp only [decide_eq_true_eq, decide_eq_false_iff_not, Bool.not_eq_true', Bool.not_eq_false', Bool.not_true, Bool.not_false, beq_iff_eq, bne_iff_ne, beq_eq_false_iff_ne, bne_eq_false_iff_eq, Bool.and_eq_true, Bool.or_eq_false_iff, Int.not_lt, Int.not_le, Nat.not_lt, Nat.not_le, ne_eq, Bool.true_eq_false, Bool.false_eq_true, reduceCtorEq] at h2
    all_goals try (exfalso; omega)
    all_goals
      refine LWP_exit ?_
      refine LWP_seq ?_
      refine LWP_reg fun K hK => ?_
      apply rgnS_pre 8
      · repeat (simp -implicitDefEqProofs (maxSteps := 1000000) (disch := first | assumption | omega) [Sp.e, eqV, eqS, hgg, he, hz, hm, h2]; try simp only [List.getElem?_cons_zero, Option.getD_some, app_val])
        rfl
      apply rgnS_pre 6
      · repeat (simp -implicitDefEqProofs (maxSteps := 1000000) (disch := first | assumption | omega) [Sp.e, eqV, eqS, hgg, he, hz, hm, h2]; try simp only [List.getElem?_cons_zero, Option.getD_some, app_val])
        rfl
      refine rgnS_call (hA) rfl rfl (by simp [pureL, pureR, AV.pure, Sp.e, eqV, eqS, pureR_sp]) (by simp [pureL, pureR, AV.pure, Sp.e, eqV, eqS, pureR_sp]) (by simp [gd, get_e0, get_e1, LArg.ev, h2]) ?_
      apply rgnS_pre 2
      · repeat (simp -implicitDefEqProofs (maxSteps := 1000000) (disch := first | assumption | omega) [Sp.e, eqV, eqS, hgg, he, hz, hm, h2]; try simp only [List.getElem?_cons_zero, Option.getD_some, app_val])
        rfl
      refine rgnS_call (hdheads) rfl rfl (by simp [pureL, pureR, AV.pure, Sp.e, eqV, eqS]) (by simp [pureL, pureR, AV.pure, Sp.e, eqV, eqS]) (by simp [gd, get_e0, get_e1, LArg.ev, h2]) ?_
      apply rgnS_pre 2
      · repeat (simp -implicitDefEqProofs (maxSteps := 1000000) (disch := first | assumption | omega) [Sp.e, eqV, eqS, hgg, he, hz, hm, h2]; try simp only [List.getElem?_cons_zero, Option.getD_some, app_val])
        rfl
      refine hK _ ?_; clear hK
      -- leaf 0
      refine LWP_ret ⟨_, rfl, ?_⟩
      refine wkV_of_eq ?_
      simp only [retV]
      all_goals
        simp
end

end Go.AM.Dz
