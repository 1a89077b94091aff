/- A part of a proof about the given program: what its name says. No premise beyond the statements'. -/
import Derived.Test.YteiapnjcelnfdaaRodT
set_option linter.unusedSimpArgs false
set_option linter.unusedVariables false
namespace Go.AM.Rod
open Go.AM

set_option maxHeartbeats 4000000 in
theorem rodSure_ok (l : List Rd) (xs : List Int) : ACalls Go.Proofs.Try.prog 6 [.tsl 3 (l.map Rd.e), encI xs] [] 0 (fun r _ _ => r = .bool true) := by
  refine pure_body ok6 rfl ?_
  simp only [parV]
  refine LWP_seq ?_
  apply LWP_run
  · simp -implicitDefEqProofs [stepsS, stepS, gd, opEff, LArg.ev, app_val, app_new, app_upd, app_kill, putV, ins, get, binV, binI, grd, bnd, ldCells, AV.cells, AV.scalar, AV.known, setAt, fillL, chunks, elems, mxI, mnI, del, Nat.add_assoc, nlt_self, nne_self, nne_self', List.take_of_length_le]; rfl
  refine LWP_seq (LWP_seq ?_)
  by_cases hl : 200 < l.length
  · have hl' : 200 < (l.length : Int) := by omega
    apply LWP_run
    · simp -implicitDefEqProofs [stepsS, stepS, gd, opEff, LArg.ev, app_val, app_new, app_upd, app_kill, putV, ins, get, binV, binI, grd, bnd, ldCells, AV.cells, AV.scalar, AV.known, setAt, fillL, chunks, elems, mxI, mnI, del, Nat.add_assoc, nlt_self, nne_self, nne_self', List.take_of_length_le, hl']; rfl
    refine LWP_cond (t := true) (by simp [LArg.ev, get]) (fun _ => ?_) (fun h => by cases h)
    refine LWP_seq (LWP_reg fun K hK => ?_)
    refine rgnS_call heads_ok rfl rfl (by simp [pureL, AV.pure]) (by simp [AV.pure]) (by simp [gd, get, LArg.ev]) ?_
    apply rgnS_pre 99
    · simp -implicitDefEqProofs [stepsS, stepS, gd, opEff, LArg.ev, app_val, app_new, app_upd, app_kill, putV, ins, get, binV, binI, grd, bnd, ldCells, AV.cells, AV.scalar, AV.known, setAt, fillL, chunks, elems, mxI, mnI, del, Nat.add_assoc, nlt_self, nne_self, nne_self', List.take_of_length_le]; rfl
    refine hK _ ?_; clear hK
    refine LWP_ret ?_
    show ∃ vs, resV _ _ = some vs ∧ wkV (retV vs) _
    refine ⟨_, rfl, ?_⟩
    simp [retV, wkV.refl]
  have hl' : ¬ 200 < (l.length : Int) := by omega
  by_cases hx : 100 < xs.length
  · have hx' : 100 < (xs.length : Int) := by omega
    apply LWP_run
    · simp -implicitDefEqProofs [stepsS, stepS, gd, opEff, LArg.ev, app_val, app_new, app_upd, app_kill, putV, ins, get, binV, binI, grd, bnd, ldCells, AV.cells, AV.scalar, AV.known, setAt, fillL, chunks, elems, mxI, mnI, del, Nat.add_assoc, nlt_self, nne_self, nne_self', List.take_of_length_le, hl', hx', encI]; rfl
    refine LWP_cond (t := true) (by simp [LArg.ev, get]) (fun _ => ?_) (fun h => by cases h)
    refine LWP_seq (LWP_reg fun K hK => ?_)
    refine rgnS_call heads_ok rfl rfl (by simp [pureL, AV.pure]) (by simp [AV.pure]) (by simp [gd, get, LArg.ev]) ?_
    apply rgnS_pre 99
    · simp -implicitDefEqProofs [stepsS, stepS, gd, opEff, LArg.ev, app_val, app_new, app_upd, app_kill, putV, ins, get, binV, binI, grd, bnd, ldCells, AV.cells, AV.scalar, AV.known, setAt, fillL, chunks, elems, mxI, mnI, del, Nat.add_assoc, nlt_self, nne_self, nne_self', List.take_of_length_le]; rfl
    refine hK _ ?_; clear hK
    refine LWP_ret ?_
    show ∃ vs, resV _ _ = some vs ∧ wkV (retV vs) _
    refine ⟨_, rfl, ?_⟩
    simp [retV, wkV.refl]
  have hx' : ¬ 100 < (xs.length : Int) := by omega
  refine LWP_reg fun K hK => ?_
  apply rgnS_pre 12
  · simp -implicitDefEqProofs [stepsS, stepS, gd, opEff, LArg.ev, app_val, app_new, app_upd, app_kill, putV, ins, get, binV, binI, grd, bnd, ldCells, AV.cells, AV.scalar, AV.known, setAt, fillL, chunks, elems, mxI, mnI, del, Nat.add_assoc, nlt_self, nne_self, nne_self', List.take_of_length_le, hl', hx', encI]; rfl
  refine rgnS_call (check_ok l xs.length (by omega)) rfl rfl (by simp [pureL, AV.pure, pure_rd]) (by simp [AV.pure, pure_rd]) (by simp [gd, get, LArg.ev]) ?_
  apply rgnS_pre 99
  · simp -implicitDefEqProofs [stepsS, stepS, gd, opEff, LArg.ev, app_val, app_new, app_upd, app_kill, putV, ins, get, binV, binI, grd, bnd, ldCells, AV.cells, AV.scalar, AV.known, setAt, fillL, chunks, elems, mxI, mnI, del, Nat.add_assoc, nlt_self, nne_self, nne_self', List.take_of_length_le]; rfl
  refine hK _ ?_; clear hK
  refine LWP_cond (t := !chkL l xs.length) (by simp [LArg.ev, get]) (fun _ => ?_) (fun h => LWP_skip ?_)
  · refine LWP_seq (LWP_reg fun K hK => ?_)
    refine rgnS_call heads_ok rfl rfl (by simp [pureL, AV.pure]) (by simp [AV.pure]) (by simp [gd, get, LArg.ev]) ?_
    apply rgnS_pre 99
    · simp -implicitDefEqProofs [stepsS, stepS, gd, opEff, LArg.ev, app_val, app_new, app_upd, app_kill, putV, ins, get, binV, binI, grd, bnd, ldCells, AV.cells, AV.scalar, AV.known, setAt, fillL, chunks, elems, mxI, mnI, del, Nat.add_assoc, nlt_self, nne_self, nne_self', List.take_of_length_le]; rfl
    refine hK _ ?_; clear hK
    refine LWP_ret ?_
    show ∃ vs, resV _ _ = some vs ∧ wkV (retV vs) _
    refine ⟨_, rfl, ?_⟩
    simp [retV, wkV.refl]
  have hc : chkL l xs.length = true := by simpa using h
  obtain ⟨s, hs⟩ : ∃ s, s = sureL l := ⟨_, rfl⟩
  have hsl : s.length ≤ l.length := by rw [hs]; exact sureL_len l
  refine LWP_seq (LWP_reg fun K hK => ?_)
  apply rgnS_pre 1
  · simp -implicitDefEqProofs [stepsS, stepS, gd, opEff, LArg.ev, app_val, app_new, app_upd, app_kill, putV, ins, get, binV, binI, grd, bnd, ldCells, AV.cells, AV.scalar, AV.known, setAt, fillL, chunks, elems, mxI, mnI, del, Nat.add_assoc, nlt_self, nne_self, nne_self', List.take_of_length_le]; rfl
  refine rgnS_call (sure_ok l (by omega)) rfl rfl (by simp [pureL, AV.pure, pure_rd]) (by simp [AV.pure, pure_rd]) (by simp [gd, get, LArg.ev]) ?_
  rw [← hs]
  apply rgnS_pre 99
  · simp -implicitDefEqProofs [stepsS, stepS, gd, opEff, LArg.ev, app_val, app_new, app_upd, app_kill, putV, ins, get, binV, binI, grd, bnd, ldCells, AV.cells, AV.scalar, AV.known, setAt, fillL, chunks, elems, mxI, mnI, del, Nat.add_assoc, nlt_self, nne_self, nne_self', List.take_of_length_le]; rfl
  refine hK _ ?_; clear hK
  refine LWP_cut (fun q : Nat => ⟨[(0, .tsl 3 (l.map Rd.e)), (1, encI xs), (5, .tsl 3 (s.map Rd.e))], [], q⟩) (fun _ => True) ?_ ?_
  · refine LWP_seq ?_
    apply LWP_run
    · simp -implicitDefEqProofs [stepsS, stepS, gd, opEff, LArg.ev, app_val, app_new, app_upd, app_kill, putV, ins, get, binV, binI, grd, bnd, ldCells, AV.cells, AV.scalar, AV.known, setAt, fillL, chunks, elems, mxI, mnI, del, Nat.add_assoc, nlt_self, nne_self, nne_self', List.take_of_length_le]; rfl
    refine LWP_block (LWP_inv (fun q : Nat × Nat => ⟨[(0, .tsl 3 (l.map Rd.e)), (1, encI xs), (5, .tsl 3 (s.map Rd.e)), (6, .int .i64 q.1)], [], q.2⟩) (fun q => s.length - q.1) (fun q => 1 ≤ q.1) (1, 0) ?_ (Nat.le_refl _) ?_)
    · refine .mk2 ?_ ?_ ?_
      · simp [leV, get, wkV.refl, encI]
      · simp [leH, get, encI] <;> rfl
      · simp
    rintro ⟨i, nx⟩ h1
    simp only at h1 ⊢
    refine LWP_seq (LWP_seq ?_)
    apply LWP_run
    · simp -implicitDefEqProofs [stepsS, stepS, gd, opEff, LArg.ev, app_val, app_new, app_upd, app_kill, putV, ins, get, binV, binI, grd, bnd, ldCells, AV.cells, AV.scalar, AV.known, setAt, fillL, chunks, elems, mxI, mnI, del, Nat.add_assoc, nlt_self, nne_self, nne_self', List.take_of_length_le]; rfl
    refine LWP_cond (t := decide (i < s.length)) (by simp [LArg.ev, get]) (fun hi => LWP_skip ?_) (fun hi => LWP_exit ?_)
    · have hi' : i < s.length := by simpa using hi
      obtain ⟨j, rfl⟩ : ∃ j, i = j + 1 := ⟨i - 1, by omega⟩
      have hlt : s[j].f < s[j + 1].f ∨ (s[j].f = s[j + 1].f ∧ s[j].t < s[j + 1].t) := by
        subst hs; exact sureL_lt hi'
      obtain ⟨x, hx1⟩ : ∃ x, x = s[j] := ⟨_, rfl⟩
      obtain ⟨y, hy1⟩ : ∃ x, x = s[j + 1] := ⟨_, rfl⟩
      rw [← hx1, ← hy1] at hlt
      have hx2 := hx1.symm
      have hy2 := hy1.symm
      have e1 : ((j : Int) + 1).toNat = j + 1 := by omega
      have e2 : 0 ≤ (j : Int) + 1 := by omega
      have e3 : (j : Int) + 1 < (s.length : Int) := by omega
      have e4 : j < s.length := by omega
      have e5 := wrap_nat (n := j) (by omega)
      have e6 : ¬ y.f < x.f := by omega
      refine LWP_seq (LWP_block (LWP_seq ?_))
      by_cases hf : y.f = x.f
      · have e7 : ¬ y.t ≤ x.t := by omega
        apply LWP_runD
        · simp -implicitDefEqProofs [stepsD, stepD, ST.as, dEffF, LOp.cls, softOK, LOp.args, AV.ids, gd, opEff, LArg.ev, appD_val, appD_new, appD_upd, appD_kill, AS.flush, delAll, putV, ins, get, binV, binI, grd, bnd, ldCells, AV.cells, AV.scalar, AV.known, setAt, fillL, chunks, elems, mxI, mnI, del, Nat.add_assoc, nlt_self, nne_self, nne_self', List.take_of_length_le, e1, e2, e3, e4, e5, hi', Rd.e, hx2, hy2, e6, hf, e7]; rfl
        · simp [AS.fin, delAll, del, Nat.add_assoc]; rfl
        refine LWP_cond (t := false) (by simp [LArg.ev, get]) (fun h => by cases h) (fun _ => LWP_skip ?_)
        apply LWP_run
        · simp -implicitDefEqProofs [stepsS, stepS, gd, opEff, LArg.ev, app_val, app_new, app_upd, app_kill, putV, ins, get, binV, binI, grd, bnd, ldCells, AV.cells, AV.scalar, AV.known, setAt, fillL, chunks, elems, mxI, mnI, del, Nat.add_assoc, nlt_self, nne_self, nne_self', List.take_of_length_le]; rfl
        refine ⟨(j + 2, nx + 40), by simp, by simp only; omega, ?_⟩
        refine .mk2 ?_ ?_ ?_
        · simp [leV, get, wkV.refl, encI, show IntKind.i64.wrap ((j : Int) + 1 + 1) = (j : Int) + 2 by rw [wrap_i64 (by omega) (by omega)]; omega]
        · simp [leH, get, encI, show IntKind.i64.wrap ((j : Int) + 1 + 1) = (j : Int) + 2 by rw [wrap_i64 (by omega) (by omega)]; omega] <;> rfl
        · simp
      · have hf' : (y.f == x.f) = false := beq_false_of_ne hf
        apply LWP_runD
        · simp -implicitDefEqProofs [stepsD, stepD, ST.as, dEffF, LOp.cls, softOK, LOp.args, AV.ids, gd, opEff, LArg.ev, appD_val, appD_new, appD_upd, appD_kill, AS.flush, delAll, putV, ins, get, binV, binI, grd, bnd, ldCells, AV.cells, AV.scalar, AV.known, setAt, fillL, chunks, elems, mxI, mnI, del, Nat.add_assoc, nlt_self, nne_self, nne_self', List.take_of_length_le, e1, e2, e3, e4, e5, hi', Rd.e, hx2, hy2, e6, hf']; rfl
        · simp [AS.fin, delAll, del, Nat.add_assoc]; rfl
        refine LWP_cond (t := false) (by simp [LArg.ev, get]) (fun h => by cases h) (fun _ => LWP_skip ?_)
        apply LWP_run
        · simp -implicitDefEqProofs [stepsS, stepS, gd, opEff, LArg.ev, app_val, app_new, app_upd, app_kill, putV, ins, get, binV, binI, grd, bnd, ldCells, AV.cells, AV.scalar, AV.known, setAt, fillL, chunks, elems, mxI, mnI, del, Nat.add_assoc, nlt_self, nne_self, nne_self', List.take_of_length_le]; rfl
        refine ⟨(j + 2, nx + 40), by simp, by simp only; omega, ?_⟩
        refine .mk2 ?_ ?_ ?_
        · simp [leV, get, wkV.refl, encI, show IntKind.i64.wrap ((j : Int) + 1 + 1) = (j : Int) + 2 by rw [wrap_i64 (by omega) (by omega)]; omega]
        · simp [leH, get, encI, show IntKind.i64.wrap ((j : Int) + 1 + 1) = (j : Int) + 2 by rw [wrap_i64 (by omega) (by omega)]; omega] <;> rfl
        · simp
    · refine ⟨nx, trivial, ?_⟩
      refine .mk2 ?_ ?_ ?_
      · simp [leV, get, wkV.refl, encI]
      · simp [leH, get, encI] <;> rfl
      · simp
  · rintro nx _
    have hh : holdsL s xs = holdsL l xs := by rw [hs]; exact sure_holds hc
    obtain ⟨hv, hhv⟩ : ∃ v, v = holdsL l xs := ⟨_, rfl⟩
    have hsl' : (s.length : Int) ≤ (l.length : Int) := by omega
    refine LWP_seq (LWP_reg fun K hK => ?_)
    apply rgnS_pre 8
    · simp -implicitDefEqProofs [stepsS, stepS, gd, opEff, LArg.ev, app_val, app_new, app_upd, app_kill, putV, ins, get, binV, binI, grd, bnd, ldCells, AV.cells, AV.scalar, AV.known, setAt, fillL, chunks, elems, mxI, mnI, del, Nat.add_assoc, nlt_self, nne_self, nne_self', List.take_of_length_le, hsl', encI]; rfl
    refine rgnS_call (holds_ok s xs (by omega) (by omega)) rfl rfl (by simp [pureL, AV.pure, pure_rd, encI, pure_int]) (by simp [AV.pure, pure_rd, encI, pure_int]) (by simp [gd, get, LArg.ev]) ?_
    rw [hh, ← hhv]
    apply rgnS_pre 2
    · simp -implicitDefEqProofs [stepsS, stepS, gd, opEff, LArg.ev, app_val, app_new, app_upd, app_kill, putV, ins, get, binV, binI, grd, bnd, ldCells, AV.cells, AV.scalar, AV.known, setAt, fillL, chunks, elems, mxI, mnI, del, Nat.add_assoc, nlt_self, nne_self, nne_self', List.take_of_length_le]; rfl
    refine rgnS_call (holds_ok l xs (by omega) (by omega)) rfl rfl (by simp [pureL, AV.pure, pure_rd, encI, pure_int]) (by simp [AV.pure, pure_rd, encI, pure_int]) (by simp [gd, get, LArg.ev]) ?_
    rw [← hhv]
    apply rgnS_pre 3
    · simp -implicitDefEqProofs [stepsS, stepS, gd, opEff, LArg.ev, app_val, app_new, app_upd, app_kill, putV, ins, get, binV, binI, grd, bnd, ldCells, AV.cells, AV.scalar, AV.known, setAt, fillL, chunks, elems, mxI, mnI, del, Nat.add_assoc, nlt_self, nne_self, nne_self', List.take_of_length_le, eqV, eqS]; rfl
    refine rgnS_call heads_ok rfl rfl (by simp [pureL, AV.pure]) (by simp [AV.pure]) (by simp [gd, get, LArg.ev]) ?_
    apply rgnS_pre 99
    · simp -implicitDefEqProofs [stepsS, stepS, gd, opEff, LArg.ev, app_val, app_new, app_upd, app_kill, putV, ins, get, binV, binI, grd, bnd, ldCells, AV.cells, AV.scalar, AV.known, setAt, fillL, chunks, elems, mxI, mnI, del, Nat.add_assoc, nlt_self, nne_self, nne_self', List.take_of_length_le]; rfl
    refine hK _ ?_; clear hK
    refine LWP_ret ?_
    show ∃ vs, resV _ _ = some vs ∧ wkV (retV vs) _
    refine ⟨_, rfl, ?_⟩
    simp [retV, wkV.refl]
end Go.AM.Rod
