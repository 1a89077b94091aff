/- A part of a proof about the given program: what its name says. No premise beyond the statements'. -/
import Derived.Test.YteiapnjcelnfdaaRodWB
import Derived.Test.YteiapnjcelnfdaaRodWD
set_option linter.unusedSimpArgs false
set_option linter.unusedVariables false
namespace Go.AM.Rod
open Go.AM

theorem eq_b (a : Bool) : eqV (.sc .b) (.bool a) (.bool a) = some true := by simp [eqV, eqS]

set_option maxHeartbeats 8000000 in
theorem rodTells_ok (l : List Rd) (xs : List Int) (n : Int) : ACalls Go.Proofs.Try.prog 4 [.tsl 3 (l.map Rd.e), encI xs, .int .i64 n] [] 0 (fun r _ _ => r = .bool true) := by
  refine pure_body ok4 rfl ?_
  simp only [parV]
  refine LWP_seq ?_
  apply LWP_run
  · simp -implicitDefEqProofs [stepsS, stepS, gd, opEff, LArg.ev, app_val, app_new, app_upd, app_kill, putV, ins, get, binV, binI, grd, bnd, ldCells, AV.cells, AV.scalar, AV.known, setAt, fillL, chunks, elems, mxI, mnI, del, Nat.add_assoc, nlt_self, nne_self, nne_self', List.take_of_length_le]; rfl
  refine LWP_seq (LWP_seq ?_)
  by_cases hl : 200 < l.length
  · have hl' : 200 < (l.length : Int) := by omega
    apply LWP_run
    · simp -implicitDefEqProofs [stepsS, stepS, gd, opEff, LArg.ev, app_val, app_new, app_upd, app_kill, putV, ins, get, binV, binI, grd, bnd, ldCells, AV.cells, AV.scalar, AV.known, setAt, fillL, chunks, elems, mxI, mnI, del, Nat.add_assoc, nlt_self, nne_self, nne_self', List.take_of_length_le, hl']; rfl
    refine LWP_cond (t := true) (by simp [LArg.ev, get]) (fun _ => ?_) (fun h => by cases h)
    refine LWP_seq (LWP_reg fun K hK => ?_)
    refine rgnS_call heads_ok rfl rfl (by simp [pureL, AV.pure]) (by simp [AV.pure]) (by simp [gd, get, LArg.ev]) ?_
    apply rgnS_pre 99
    · simp -implicitDefEqProofs [stepsS, stepS, gd, opEff, LArg.ev, app_val, app_new, app_upd, app_kill, putV, ins, get, binV, binI, grd, bnd, ldCells, AV.cells, AV.scalar, AV.known, setAt, fillL, chunks, elems, mxI, mnI, del, Nat.add_assoc, nlt_self, nne_self, nne_self', List.take_of_length_le]; rfl
    refine hK _ ?_; clear hK
    refine LWP_ret ?_
    show ∃ vs, resV _ _ = some vs ∧ wkV (retV vs) _
    refine ⟨_, rfl, ?_⟩
    simp [retV, wkV.refl]
  have hl' : ¬ 200 < (l.length : Int) := by omega
  by_cases hx : 100 < xs.length
  · have hx' : 100 < (xs.length : Int) := by omega
    apply LWP_run
    · simp -implicitDefEqProofs [stepsS, stepS, gd, opEff, LArg.ev, app_val, app_new, app_upd, app_kill, putV, ins, get, binV, binI, grd, bnd, ldCells, AV.cells, AV.scalar, AV.known, setAt, fillL, chunks, elems, mxI, mnI, del, Nat.add_assoc, nlt_self, nne_self, nne_self', List.take_of_length_le, hl', hx', encI]; rfl
    refine LWP_cond (t := true) (by simp [LArg.ev, get]) (fun _ => ?_) (fun h => by cases h)
    refine LWP_seq (LWP_reg fun K hK => ?_)
    refine rgnS_call heads_ok rfl rfl (by simp [pureL, AV.pure]) (by simp [AV.pure]) (by simp [gd, get, LArg.ev]) ?_
    apply rgnS_pre 99
    · simp -implicitDefEqProofs [stepsS, stepS, gd, opEff, LArg.ev, app_val, app_new, app_upd, app_kill, putV, ins, get, binV, binI, grd, bnd, ldCells, AV.cells, AV.scalar, AV.known, setAt, fillL, chunks, elems, mxI, mnI, del, Nat.add_assoc, nlt_self, nne_self, nne_self', List.take_of_length_le]; rfl
    refine hK _ ?_; clear hK
    refine LWP_ret ?_
    show ∃ vs, resV _ _ = some vs ∧ wkV (retV vs) _
    refine ⟨_, rfl, ?_⟩
    simp [retV, wkV.refl]
  have hx' : ¬ 100 < (xs.length : Int) := by omega
  apply LWP_run
  · simp -implicitDefEqProofs [stepsS, stepS, gd, opEff, LArg.ev, app_val, app_new, app_upd, app_kill, putV, ins, get, binV, binI, grd, bnd, ldCells, AV.cells, AV.scalar, AV.known, setAt, fillL, chunks, elems, mxI, mnI, del, Nat.add_assoc, nlt_self, nne_self, nne_self', List.take_of_length_le, hl', hx', encI]; rfl
  refine LWP_cond (t := false) (by simp [LArg.ev, get]) (fun h => by cases h) (fun _ => LWP_skip ?_)
  obtain ⟨k, hk⟩ : ∃ k, k = if 200 < n then 200 else n := ⟨_, rfl⟩
  refine LWP_seq ?_
  apply LWP_run
  · simp -implicitDefEqProofs [stepsS, stepS, gd, opEff, LArg.ev, app_val, app_new, app_upd, app_kill, putV, ins, get, binV, binI, grd, bnd, ldCells, AV.cells, AV.scalar, AV.known, setAt, fillL, chunks, elems, mxI, mnI, del, Nat.add_assoc, nlt_self, nne_self, nne_self', List.take_of_length_le]; rfl
  rw [← hk]
  obtain ⟨a, ha⟩ : ∃ a, a = (bif chkL l k then leastV l k.toNat else ([], 2)) := ⟨_, rfl⟩
  have hal : a.1.length < 2 ^ 60 := by
    rw [ha]
    cases hc : chkL l k with
    | false => simp
    | true =>
      have hn0 : 0 ≤ k ∧ k ≤ 4096 := by simp [chkL, wi] at hc; omega
      cases hs : leastSt l k.toNat (k.toNat - 1) with
      | none => simp only [leastV, hs, cond_true]; cases chkL l (k.toNat : Int) <;> simp
      | some ys =>
        have := leastSt_len _ _ _ _ hs
        simp only [leastV, hs, cond_true]
        cases chkL l (k.toNat : Int) <;> simp <;> omega
  refine LWP_seq (LWP_reg fun K hK => ?_)
  apply rgnS_pre 2
  · simp -implicitDefEqProofs [stepsS, stepS, gd, opEff, LArg.ev, app_val, app_new, app_upd, app_kill, putV, ins, get, binV, binI, grd, bnd, ldCells, AV.cells, AV.scalar, AV.known, setAt, fillL, chunks, elems, mxI, mnI, del, Nat.add_assoc, nlt_self, nne_self, nne_self', List.take_of_length_le]; rfl
  refine rgnS_call (least_ok l k (by omega)) rfl rfl (by simp [pureL, AV.pure, pure_rd, placesA, encI, pure_int, pureL]) (by simp [AV.pure, pure_rd, placesA, encI, pure_int, pureL]) (by simp [gd, get, LArg.ev]) ?_
  rw [← ha]
  apply rgnS_pre 99
  · simp -implicitDefEqProofs [stepsS, stepS, gd, opEff, LArg.ev, app_val, app_new, app_upd, app_kill, putV, ins, get, binV, binI, grd, bnd, ldCells, AV.cells, AV.scalar, AV.known, setAt, fillL, chunks, elems, mxI, mnI, del, Nat.add_assoc, nlt_self, nne_self, nne_self', List.take_of_length_le, placesA, encI]; rfl
  refine hK _ ?_; clear hK
  refine LWP_seq (LWP_reg fun K hK => ?_)
  apply rgnS_pre 2
  · simp -implicitDefEqProofs [stepsS, stepS, gd, opEff, LArg.ev, app_val, app_new, app_upd, app_kill, putV, ins, get, binV, binI, grd, bnd, ldCells, AV.cells, AV.scalar, AV.known, setAt, fillL, chunks, elems, mxI, mnI, del, Nat.add_assoc, nlt_self, nne_self, nne_self', List.take_of_length_le]; rfl
  refine rgnS_call (rleast_ok l k (by omega)) rfl rfl (by simp [pureL, AV.pure, pure_rd, placesA, encI, pure_int, pureL]) (by simp [AV.pure, pure_rd, placesA, encI, pure_int, pureL]) (by simp [gd, get, LArg.ev]) ?_
  rw [← ha]
  apply rgnS_pre 99
  · simp -implicitDefEqProofs [stepsS, stepS, gd, opEff, LArg.ev, app_val, app_new, app_upd, app_kill, putV, ins, get, binV, binI, grd, bnd, ldCells, AV.cells, AV.scalar, AV.known, setAt, fillL, chunks, elems, mxI, mnI, del, Nat.add_assoc, nlt_self, nne_self, nne_self', List.take_of_length_le, placesA, encI]; rfl
  refine hK _ ?_; clear hK
  obtain ⟨e, he⟩ : ∃ e, e = a.2 := ⟨_, rfl⟩
  obtain ⟨ys, hys⟩ : ∃ e, e = a.1 := ⟨_, rfl⟩
  rw [← he, ← hys]
  rw [← hys] at hal
  have e1 : (e == e) = true := by simp
  refine LWP_seq (LWP_reg fun K hK => ?_)
  apply rgnS_pre 2
  · simp -implicitDefEqProofs [stepsS, stepS, gd, opEff, LArg.ev, app_val, app_new, app_upd, app_kill, putV, ins, get, binV, binI, grd, bnd, ldCells, AV.cells, AV.scalar, AV.known, setAt, fillL, chunks, elems, mxI, mnI, del, Nat.add_assoc, nlt_self, nne_self, nne_self', List.take_of_length_le]; rfl
  refine rgnS_call (numbers_ok ys hal) rfl rfl (by simp [pureL, AV.pure, encI, pure_int]) (by simp [AV.pure, encI, pure_int]) (by simp [gd, get, LArg.ev]) ?_
  apply rgnS_pre 8
  · simp -implicitDefEqProofs [stepsS, stepS, gd, opEff, LArg.ev, app_val, app_new, app_upd, app_kill, putV, ins, get, binV, binI, grd, bnd, ldCells, AV.cells, AV.scalar, AV.known, setAt, fillL, chunks, elems, mxI, mnI, del, Nat.add_assoc, nlt_self, nne_self, nne_self', List.take_of_length_le]; rfl
  refine rgnS_call (check_ok l n (by omega)) rfl rfl (by simp [pureL, AV.pure, pure_rd]) (by simp [AV.pure, pure_rd]) (by simp [gd, get, LArg.ev]) ?_
  apply rgnS_pre 2
  · simp -implicitDefEqProofs [stepsS, stepS, gd, opEff, LArg.ev, app_val, app_new, app_upd, app_kill, putV, ins, get, binV, binI, grd, bnd, ldCells, AV.cells, AV.scalar, AV.known, setAt, fillL, chunks, elems, mxI, mnI, del, Nat.add_assoc, nlt_self, nne_self, nne_self', List.take_of_length_le]; rfl
  refine rgnS_call (rcheck_ok l n (by omega)) rfl rfl (by simp [pureL, AV.pure, pure_rd]) (by simp [AV.pure, pure_rd]) (by simp [gd, get, LArg.ev]) ?_
  apply rgnS_pre 5
  · simp -implicitDefEqProofs [stepsS, stepS, gd, opEff, LArg.ev, app_val, app_new, app_upd, app_kill, putV, ins, get, binV, binI, grd, bnd, ldCells, AV.cells, AV.scalar, AV.known, setAt, fillL, chunks, elems, mxI, mnI, del, Nat.add_assoc, nlt_self, nne_self, nne_self', List.take_of_length_le, eq_b]; rfl
  refine rgnS_call (holds_ok l xs (by omega) (by omega)) rfl rfl (by simp [pureL, AV.pure, pure_rd, encI, pure_int]) (by simp [AV.pure, pure_rd, encI, pure_int]) (by simp [gd, get, LArg.ev]) ?_
  apply rgnS_pre 2
  · simp -implicitDefEqProofs [stepsS, stepS, gd, opEff, LArg.ev, app_val, app_new, app_upd, app_kill, putV, ins, get, binV, binI, grd, bnd, ldCells, AV.cells, AV.scalar, AV.known, setAt, fillL, chunks, elems, mxI, mnI, del, Nat.add_assoc, nlt_self, nne_self, nne_self', List.take_of_length_le]; rfl
  refine rgnS_call (rholds_ok l xs (by omega) (by omega)) rfl rfl (by simp [pureL, AV.pure, pure_rd, encI, pure_int]) (by simp [AV.pure, pure_rd, encI, pure_int]) (by simp [gd, get, LArg.ev]) ?_
  apply rgnS_pre 4
  · simp -implicitDefEqProofs [stepsS, stepS, gd, opEff, LArg.ev, app_val, app_new, app_upd, app_kill, putV, ins, get, binV, binI, grd, bnd, ldCells, AV.cells, AV.scalar, AV.known, setAt, fillL, chunks, elems, mxI, mnI, del, Nat.add_assoc, nlt_self, nne_self, nne_self', List.take_of_length_le, eq_b]; rfl
  refine rgnS_call (sure_ok l (by omega)) rfl rfl (by simp [pureL, AV.pure, pure_rd]) (by simp [AV.pure, pure_rd]) (by simp [gd, get, LArg.ev]) ?_
  apply rgnS_pre 1
  · simp -implicitDefEqProofs [stepsS, stepS, gd, opEff, LArg.ev, app_val, app_new, app_upd, app_kill, putV, ins, get, binV, binI, grd, bnd, ldCells, AV.cells, AV.scalar, AV.known, setAt, fillL, chunks, elems, mxI, mnI, del, Nat.add_assoc, nlt_self, nne_self, nne_self', List.take_of_length_le]; rfl
  refine rgnS_call (rsure_ok l (by omega)) rfl rfl (by simp [pureL, AV.pure, pure_rd]) (by simp [AV.pure, pure_rd]) (by simp [gd, get, LArg.ev]) ?_
  rw [rsur_eq]
  apply rgnS_pre 0
  · simp -implicitDefEqProofs [stepsS, stepS, gd, opEff, LArg.ev, app_val, app_new, app_upd, app_kill, putV, ins, get, binV, binI, grd, bnd, ldCells, AV.cells, AV.scalar, AV.known, setAt, fillL, chunks, elems, mxI, mnI, del, Nat.add_assoc, nlt_self, nne_self, nne_self', List.take_of_length_le]; rfl
  have hsl := sureL_len l
  have hsm : sameL (sureL l) (sureL l) = true := (sameL_iff _ _).2 rfl
  refine rgnS_call (same_ok (sureL l) (sureL l) (by omega)) rfl rfl (by simp [pureL, AV.pure, pure_rd]) (by simp [AV.pure, pure_rd]) (by simp [gd, get, LArg.ev]) ?_
  rw [hsm]
  apply rgnS_pre 2
  · simp -implicitDefEqProofs [stepsS, stepS, gd, opEff, LArg.ev, app_val, app_new, app_upd, app_kill, putV, ins, get, binV, binI, grd, bnd, ldCells, AV.cells, AV.scalar, AV.known, setAt, fillL, chunks, elems, mxI, mnI, del, Nat.add_assoc, nlt_self, nne_self, nne_self', List.take_of_length_le]; rfl
  refine rgnS_call heads_ok rfl rfl (by simp [pureL, AV.pure]) (by simp [AV.pure]) (by simp [gd, get, LArg.ev]) ?_
  apply rgnS_pre 99
  · simp -implicitDefEqProofs [stepsS, stepS, gd, opEff, LArg.ev, app_val, app_new, app_upd, app_kill, putV, ins, get, binV, binI, grd, bnd, ldCells, AV.cells, AV.scalar, AV.known, setAt, fillL, chunks, elems, mxI, mnI, del, Nat.add_assoc, nlt_self, nne_self, nne_self', List.take_of_length_le]; rfl
  refine hK _ ?_; clear hK
  refine LWP_ret ?_
  show ∃ vs, resV _ _ = some vs ∧ wkV (retV vs) _
  refine ⟨_, rfl, ?_⟩
  simp [retV, wkV.refl]
end Go.AM.Rod
