/- A part of a proof about the given program: what its name says. No premise beyond the statements'. -/
import Derived.Test.YteiapnjcelnfdaaRodT
set_option linter.unusedSimpArgs false
set_option linter.unusedVariables false
namespace Go.AM.Rod
open Go.AM

theorem rrod_ok (r : Rd) (n : Int) : ACalls Go.Proofs.Try.prog 27 [.agg r.e, .int .i64 n] [] 0 (fun x _ _ => x = .bool (okRd n r)) := by
  refine pure_body ok27 rfl ?_
  simp only [parV, Rd.e]
  refine LWP_seq ?_
  apply LWP_run
  · simp -implicitDefEqProofs [stepsS, stepS, gd, opEff, LArg.ev, app_val, app_new, app_upd, app_kill, putV, ins, get, binV, binI, grd, bnd, ldCells, AV.cells, AV.scalar, AV.known, setAt, fillL, chunks, elems, mxI, mnI, del, Nat.add_assoc, nlt_self, nne_self, nne_self', List.take_of_length_le]; rfl
  refine LWP_seq ?_
  have e0 : okRd n r = (decide (0 ≤ r.f) && (decide (r.f < r.t) && (decide (r.t < n) && (decide (1 ≤ r.d) && decide (r.d ≤ 1073741824))))) := by
    exact Bool.eq_iff_iff.2 (by simp [okRd, wi])
  rw [e0]
  by_cases h1 : 0 ≤ r.f
  · by_cases h2 : r.f < r.t
    · by_cases h3 : r.t < n
      · by_cases h4 : 1 ≤ r.d
        · apply LWP_run
          · simp -implicitDefEqProofs [stepsS, stepS, gd, opEff, LArg.ev, app_val, app_new, app_upd, app_kill, putV, ins, get, binV, binI, grd, bnd, ldCells, AV.cells, AV.scalar, AV.known, setAt, fillL, chunks, elems, mxI, mnI, del, Nat.add_assoc, nlt_self, nne_self, nne_self', List.take_of_length_le, h1, h2, h3, h4]; rfl
          refine LWP_ret ?_
          show ∃ vs, resV _ _ = some vs ∧ wkV (retV vs) _
          refine ⟨_, rfl, ?_⟩
          simp [retV, wkV.refl, h1, h2, h3, h4]
        · apply LWP_run
          · simp -implicitDefEqProofs [stepsS, stepS, gd, opEff, LArg.ev, app_val, app_new, app_upd, app_kill, putV, ins, get, binV, binI, grd, bnd, ldCells, AV.cells, AV.scalar, AV.known, setAt, fillL, chunks, elems, mxI, mnI, del, Nat.add_assoc, nlt_self, nne_self, nne_self', List.take_of_length_le, h1, h2, h3, h4]; rfl
          refine LWP_ret ?_
          show ∃ vs, resV _ _ = some vs ∧ wkV (retV vs) _
          refine ⟨_, rfl, ?_⟩
          simp [retV, wkV.refl, h1, h2, h3, h4]
      · apply LWP_run
        · simp -implicitDefEqProofs [stepsS, stepS, gd, opEff, LArg.ev, app_val, app_new, app_upd, app_kill, putV, ins, get, binV, binI, grd, bnd, ldCells, AV.cells, AV.scalar, AV.known, setAt, fillL, chunks, elems, mxI, mnI, del, Nat.add_assoc, nlt_self, nne_self, nne_self', List.take_of_length_le, h1, h2, h3]; rfl
        refine LWP_ret ?_
        show ∃ vs, resV _ _ = some vs ∧ wkV (retV vs) _
        refine ⟨_, rfl, ?_⟩
        simp [retV, wkV.refl, h1, h2, h3]
    · apply LWP_run
      · simp -implicitDefEqProofs [stepsS, stepS, gd, opEff, LArg.ev, app_val, app_new, app_upd, app_kill, putV, ins, get, binV, binI, grd, bnd, ldCells, AV.cells, AV.scalar, AV.known, setAt, fillL, chunks, elems, mxI, mnI, del, Nat.add_assoc, nlt_self, nne_self, nne_self', List.take_of_length_le, h1, h2]; rfl
      refine LWP_ret ?_
      show ∃ vs, resV _ _ = some vs ∧ wkV (retV vs) _
      refine ⟨_, rfl, ?_⟩
      simp [retV, wkV.refl, h1, h2]
  · apply LWP_run
    · simp -implicitDefEqProofs [stepsS, stepS, gd, opEff, LArg.ev, app_val, app_new, app_upd, app_kill, putV, ins, get, binV, binI, grd, bnd, ldCells, AV.cells, AV.scalar, AV.known, setAt, fillL, chunks, elems, mxI, mnI, del, Nat.add_assoc, nlt_self, nne_self, nne_self', List.take_of_length_le, h1]; rfl
    refine LWP_ret ?_
    show ∃ vs, resV _ _ = some vs ∧ wkV (retV vs) _
    refine ⟨_, rfl, ?_⟩
    simp [retV, wkV.refl, h1]

theorem rcheck_ok (l : List Rd) (n : Int) (hl : l.length < 2 ^ 60) : ACalls Go.Proofs.Try.prog 17 [.tsl 3 (l.map Rd.e), .int .i64 n] [] 0 (fun r _ _ => r = .bool (chkL l n)) := by
  refine pure_body ok17 rfl ?_
  simp only [parV]
  refine LWP_seq ?_
  apply LWP_run
  · simp -implicitDefEqProofs [stepsS, stepS, gd, opEff, LArg.ev, app_val, app_new, app_upd, app_kill, putV, ins, get, binV, binI, grd, bnd, ldCells, AV.cells, AV.scalar, AV.known, setAt, fillL, chunks, elems, mxI, mnI, del, Nat.add_assoc, nlt_self, nne_self, nne_self', List.take_of_length_le]; rfl
  refine LWP_seq (LWP_seq ?_)
  by_cases h1 : n < 0
  · apply LWP_run
    · simp -implicitDefEqProofs [stepsS, stepS, gd, opEff, LArg.ev, app_val, app_new, app_upd, app_kill, putV, ins, get, binV, binI, grd, bnd, ldCells, AV.cells, AV.scalar, AV.known, setAt, fillL, chunks, elems, mxI, mnI, del, Nat.add_assoc, nlt_self, nne_self, nne_self', List.take_of_length_le, h1]; rfl
    refine LWP_cond (t := true) (by simp [LArg.ev, get]) (fun _ => ?_) (fun h => by cases h)
    refine LWP_seq ?_
    apply LWP_run
    · simp -implicitDefEqProofs [stepsS, stepS, gd, opEff, LArg.ev, app_val, app_new, app_upd, app_kill, putV, ins, get, binV, binI, grd, bnd, ldCells, AV.cells, AV.scalar, AV.known, setAt, fillL, chunks, elems, mxI, mnI, del, Nat.add_assoc, nlt_self, nne_self, nne_self', List.take_of_length_le]; rfl
    have e0 : chkL l n = false := by simp [chkL, wi]; omega
    refine LWP_ret ?_
    show ∃ vs, resV _ _ = some vs ∧ wkV (retV vs) _
    refine ⟨_, rfl, ?_⟩
    simp [retV, wkV.refl, e0]
  by_cases h2 : 4096 < n
  · apply LWP_run
    · simp -implicitDefEqProofs [stepsS, stepS, gd, opEff, LArg.ev, app_val, app_new, app_upd, app_kill, putV, ins, get, binV, binI, grd, bnd, ldCells, AV.cells, AV.scalar, AV.known, setAt, fillL, chunks, elems, mxI, mnI, del, Nat.add_assoc, nlt_self, nne_self, nne_self', List.take_of_length_le, h1, h2]; rfl
    refine LWP_cond (t := true) (by simp [LArg.ev, get]) (fun _ => ?_) (fun h => by cases h)
    refine LWP_seq ?_
    apply LWP_run
    · simp -implicitDefEqProofs [stepsS, stepS, gd, opEff, LArg.ev, app_val, app_new, app_upd, app_kill, putV, ins, get, binV, binI, grd, bnd, ldCells, AV.cells, AV.scalar, AV.known, setAt, fillL, chunks, elems, mxI, mnI, del, Nat.add_assoc, nlt_self, nne_self, nne_self', List.take_of_length_le]; rfl
    have e0 : chkL l n = false := by simp [chkL, wi]; omega
    refine LWP_ret ?_
    show ∃ vs, resV _ _ = some vs ∧ wkV (retV vs) _
    refine ⟨_, rfl, ?_⟩
    simp [retV, wkV.refl, e0]
  by_cases h3 : 400000 < l.length
  · have h3' : 400000 < (l.length : Int) := by omega
    apply LWP_run
    · simp -implicitDefEqProofs [stepsS, stepS, gd, opEff, LArg.ev, app_val, app_new, app_upd, app_kill, putV, ins, get, binV, binI, grd, bnd, ldCells, AV.cells, AV.scalar, AV.known, setAt, fillL, chunks, elems, mxI, mnI, del, Nat.add_assoc, nlt_self, nne_self, nne_self', List.take_of_length_le, h1, h2, h3']; rfl
    refine LWP_cond (t := true) (by simp [LArg.ev, get]) (fun _ => ?_) (fun h => by cases h)
    refine LWP_seq ?_
    apply LWP_run
    · simp -implicitDefEqProofs [stepsS, stepS, gd, opEff, LArg.ev, app_val, app_new, app_upd, app_kill, putV, ins, get, binV, binI, grd, bnd, ldCells, AV.cells, AV.scalar, AV.known, setAt, fillL, chunks, elems, mxI, mnI, del, Nat.add_assoc, nlt_self, nne_self, nne_self', List.take_of_length_le]; rfl
    have e0 : chkL l n = false := by simp [chkL, wi]; omega
    refine LWP_ret ?_
    show ∃ vs, resV _ _ = some vs ∧ wkV (retV vs) _
    refine ⟨_, rfl, ?_⟩
    simp [retV, wkV.refl, e0]
  have h3' : ¬ 400000 < (l.length : Int) := by omega
  have hc0 : chkL l n = l.all (okRd n) := by
    have e1 : (0 ≤ n) := by omega
    have e2 : n ≤ 4096 := by omega
    have e3 : l.length ≤ 400000 := by omega
    simp [chkL, wi, e1, e2, e3]
  rw [hc0]
  apply LWP_run
  · simp -implicitDefEqProofs [stepsS, stepS, gd, opEff, LArg.ev, app_val, app_new, app_upd, app_kill, putV, ins, get, binV, binI, grd, bnd, ldCells, AV.cells, AV.scalar, AV.known, setAt, fillL, chunks, elems, mxI, mnI, del, Nat.add_assoc, nlt_self, nne_self, nne_self', List.take_of_length_le, h1, h2, h3']; rfl
  refine LWP_cond (t := false) (by simp [LArg.ev, get]) (fun h => by cases h) (fun _ => LWP_skip ?_)
  refine LWP_seq (LWP_seq ?_)
  apply LWP_run
  · simp -implicitDefEqProofs [stepsS, stepS, gd, opEff, LArg.ev, app_val, app_new, app_upd, app_kill, putV, ins, get, binV, binI, grd, bnd, ldCells, AV.cells, AV.scalar, AV.known, setAt, fillL, chunks, elems, mxI, mnI, del, Nat.add_assoc, nlt_self, nne_self, nne_self', List.take_of_length_le]; rfl
  refine LWP_block (LWP_inv (fun i : Nat => ⟨[(0, .tsl 3 (l.map Rd.e)), (1, .int .i64 n), (5, .int .i64 i)], [], 0⟩) (fun i => l.length - i) (fun i => i ≤ l.length ∧ (l.take i).all (okRd n) = true) 0 ?_ ⟨Nat.zero_le _, by simp⟩ ?_)
  · refine .mk2 ?_ ?_ ?_
    · simp [leV, get, wkV.refl]
    · simp [leH, get] <;> rfl
    · simp
  rintro i ⟨h4, h5⟩
  refine LWP_seq (LWP_seq ?_)
  apply LWP_run
  · simp -implicitDefEqProofs [stepsS, stepS, gd, opEff, LArg.ev, app_val, app_new, app_upd, app_kill, putV, ins, get, binV, binI, grd, bnd, ldCells, AV.cells, AV.scalar, AV.known, setAt, fillL, chunks, elems, mxI, mnI, del, Nat.add_assoc, nlt_self, nne_self, nne_self', List.take_of_length_le]; rfl
  refine LWP_cond (t := decide (i < l.length)) (by simp [LArg.ev, get]) (fun hc => LWP_skip ?_) (fun hc => LWP_exit ?_)
  · have hc' : i < l.length := by simpa using hc
    obtain ⟨r, hr⟩ : ∃ r, r = l[i] := ⟨_, rfl⟩
    have hr' := hr.symm
    refine LWP_seq (LWP_block (LWP_seq (LWP_reg fun K hK => ?_)))
    apply rgnS_pre 5
    · simp -implicitDefEqProofs [stepsS, stepS, gd, opEff, LArg.ev, app_val, app_new, app_upd, app_kill, putV, ins, get, binV, binI, grd, bnd, ldCells, AV.cells, AV.scalar, AV.known, setAt, fillL, chunks, elems, mxI, mnI, del, Nat.add_assoc, nlt_self, nne_self, nne_self', List.take_of_length_le, hc', hr', Rd.e]; rfl
    refine rgnS_call (rrod_ok r n) rfl rfl (by simp [pureL, AV.pure, Rd.e]) (by simp [AV.pure, Rd.e]) (by simp [gd, get, LArg.ev]) ?_
    apply rgnS_pre 99
    · simp -implicitDefEqProofs [stepsS, stepS, gd, opEff, LArg.ev, app_val, app_new, app_upd, app_kill, putV, ins, get, binV, binI, grd, bnd, ldCells, AV.cells, AV.scalar, AV.known, setAt, fillL, chunks, elems, mxI, mnI, del, Nat.add_assoc, nlt_self, nne_self, nne_self', List.take_of_length_le]; rfl
    refine hK _ ?_; clear hK
    refine LWP_cond (t := !okRd n r) (by simp [LArg.ev, get]) (fun hb => ?_) (fun hb => LWP_skip ?_)
    · refine LWP_seq ?_
      apply LWP_run
      · simp -implicitDefEqProofs [stepsS, stepS, gd, opEff, LArg.ev, app_val, app_new, app_upd, app_kill, putV, ins, get, binV, binI, grd, bnd, ldCells, AV.cells, AV.scalar, AV.known, setAt, fillL, chunks, elems, mxI, mnI, del, Nat.add_assoc, nlt_self, nne_self, nne_self', List.take_of_length_le]; rfl
      have : l.all (okRd n) = false := all_ff hc' (by rw [hr']; simpa using hb)
      refine LWP_ret ?_
      show ∃ vs, resV _ _ = some vs ∧ wkV (retV vs) _
      refine ⟨_, rfl, ?_⟩
      simp [retV, wkV.refl, this]
    · apply LWP_run
      · simp -implicitDefEqProofs [stepsS, stepS, gd, opEff, LArg.ev, app_val, app_new, app_upd, app_kill, putV, ins, get, binV, binI, grd, bnd, ldCells, AV.cells, AV.scalar, AV.known, setAt, fillL, chunks, elems, mxI, mnI, del, Nat.add_assoc, nlt_self, nne_self, nne_self', List.take_of_length_le]; rfl
      refine ⟨i + 1, ⟨hc', take_all hc' h5 (by rw [hr']; simpa using hb)⟩, by omega, ?_⟩
      refine .mk2 ?_ ?_ ?_
      · simp [leV, get, wkV.refl, wrap_succ (n := i) (by omega)]
      · simp [leH, get, wrap_succ (n := i) (by omega)] <;> rfl
      · simp
  · have hc' : ¬ i < l.length := by simpa using hc
    have := take_all_end hc' h5
    refine LWP_seq ?_
    apply LWP_run
    · simp -implicitDefEqProofs [stepsS, stepS, gd, opEff, LArg.ev, app_val, app_new, app_upd, app_kill, putV, ins, get, binV, binI, grd, bnd, ldCells, AV.cells, AV.scalar, AV.known, setAt, fillL, chunks, elems, mxI, mnI, del, Nat.add_assoc, nlt_self, nne_self, nne_self', List.take_of_length_le]; rfl
    refine LWP_ret ?_
    show ∃ vs, resV _ _ = some vs ∧ wkV (retV vs) _
    refine ⟨_, rfl, ?_⟩
    simp [retV, wkV.refl, this]

theorem rholds_ok (l : List Rd) (xs : List Int) (hl : l.length < 2 ^ 60) (hx : xs.length < 2 ^ 60) : ACalls Go.Proofs.Try.prog 19 [.tsl 3 (l.map Rd.e), encI xs] [] 0 (fun x _ _ => x = .bool (holdsL l xs)) := by
  refine pure_body ok19 rfl ?_
  simp only [parV]
  refine LWP_seq ?_
  apply LWP_run
  · simp -implicitDefEqProofs [stepsS, stepS, gd, opEff, LArg.ev, app_val, app_new, app_upd, app_kill, putV, ins, get, binV, binI, grd, bnd, ldCells, AV.cells, AV.scalar, AV.known, setAt, fillL, chunks, elems, mxI, mnI, del, Nat.add_assoc, nlt_self, nne_self, nne_self', List.take_of_length_le]; rfl
  refine LWP_seq (LWP_seq (LWP_reg fun K hK => ?_))
  apply rgnS_pre 3
  · simp -implicitDefEqProofs [stepsS, stepS, gd, opEff, LArg.ev, app_val, app_new, app_upd, app_kill, putV, ins, get, binV, binI, grd, bnd, ldCells, AV.cells, AV.scalar, AV.known, setAt, fillL, chunks, elems, mxI, mnI, del, Nat.add_assoc, nlt_self, nne_self, nne_self', List.take_of_length_le, encI]; rfl
  refine rgnS_call (rcheck_ok l xs.length hl) rfl rfl (by simp [pureL, AV.pure, pure_rd]) (by simp [AV.pure, pure_rd]) (by simp [gd, get, LArg.ev]) ?_
  apply rgnS_pre 99
  · simp -implicitDefEqProofs [stepsS, stepS, gd, opEff, LArg.ev, app_val, app_new, app_upd, app_kill, putV, ins, get, binV, binI, grd, bnd, ldCells, AV.cells, AV.scalar, AV.known, setAt, fillL, chunks, elems, mxI, mnI, del, Nat.add_assoc, nlt_self, nne_self, nne_self', List.take_of_length_le]; rfl
  refine hK _ ?_; clear hK
  refine LWP_cond (t := !chkL l xs.length) (by simp [LArg.ev, get]) (fun h => ?_) (fun h => LWP_skip ?_)
  · have hc : chkL l xs.length = false := by simpa using h
    refine LWP_seq ?_
    apply LWP_run
    · simp -implicitDefEqProofs [stepsS, stepS, gd, opEff, LArg.ev, app_val, app_new, app_upd, app_kill, putV, ins, get, binV, binI, grd, bnd, ldCells, AV.cells, AV.scalar, AV.known, setAt, fillL, chunks, elems, mxI, mnI, del, Nat.add_assoc, nlt_self, nne_self, nne_self', List.take_of_length_le]; rfl
    refine LWP_ret ?_
    show ∃ vs, resV _ _ = some vs ∧ wkV (retV vs) _
    refine ⟨_, rfl, ?_⟩
    simp [retV, wkV.refl, holdsL, hc]
  have hck : chkL l xs.length = true := by simpa using h
  have hrg := chk_rng hck
  refine LWP_cut (fun q : Nat => ⟨[(0, .tsl 3 (l.map Rd.e)), (1, encI xs)], [], q⟩) (fun _ => xs.any outI = false) ?_ ?_
  · refine LWP_seq ?_
    apply LWP_run
    · simp -implicitDefEqProofs [stepsS, stepS, gd, opEff, LArg.ev, app_val, app_new, app_upd, app_kill, putV, ins, get, binV, binI, grd, bnd, ldCells, AV.cells, AV.scalar, AV.known, setAt, fillL, chunks, elems, mxI, mnI, del, Nat.add_assoc, nlt_self, nne_self, nne_self', List.take_of_length_le]; rfl
    refine LWP_block (LWP_inv (fun q : Nat × Nat => ⟨[(0, .tsl 3 (l.map Rd.e)), (1, encI xs), (5, .int .i64 q.1)], [], q.2⟩) (fun q => xs.length - q.1) (fun q => q.1 ≤ xs.length ∧ (xs.take q.1).all (fun x => !outI x) = true) (0, 0) ?_ ⟨Nat.zero_le _, by simp⟩ ?_)
    · refine .mk2 ?_ ?_ ?_
      · simp [leV, get, wkV.refl, encI]
      · simp [leH, get, encI] <;> rfl
      · simp
    rintro ⟨i, nx⟩ ⟨h4, h5⟩
    simp only at h4 h5 ⊢
    refine LWP_seq (LWP_seq ?_)
    apply LWP_run
    · simp -implicitDefEqProofs [stepsS, stepS, gd, opEff, LArg.ev, app_val, app_new, app_upd, app_kill, putV, ins, get, binV, binI, grd, bnd, ldCells, AV.cells, AV.scalar, AV.known, setAt, fillL, chunks, elems, mxI, mnI, del, Nat.add_assoc, nlt_self, nne_self, nne_self', List.take_of_length_le, encI]; rfl
    refine LWP_cond (t := decide (i < xs.length)) (by simp [LArg.ev, get]) (fun hc => LWP_skip ?_) (fun hc => LWP_exit ?_)
    · have hc' : i < xs.length := by simpa using hc
      obtain ⟨x, hr⟩ : ∃ r, r = xs[i] := ⟨_, rfl⟩
      have hr' := hr.symm
      refine LWP_seq (LWP_block (LWP_seq ?_))
      by_cases g1 : x < -1125899906842624
      · apply LWP_run
        · simp -implicitDefEqProofs [stepsS, stepS, gd, opEff, LArg.ev, app_val, app_new, app_upd, app_kill, putV, ins, get, binV, binI, grd, bnd, ldCells, AV.cells, AV.scalar, AV.known, setAt, fillL, chunks, elems, mxI, mnI, del, Nat.add_assoc, nlt_self, nne_self, nne_self', List.take_of_length_le, encI, enc1, hc', hr', g1]; rfl
        refine LWP_cond (t := true) (by simp [LArg.ev, get]) (fun _ => ?_) (fun h => by cases h)
        refine LWP_seq ?_
        apply LWP_run
        · simp -implicitDefEqProofs [stepsS, stepS, gd, opEff, LArg.ev, app_val, app_new, app_upd, app_kill, putV, ins, get, binV, binI, grd, bnd, ldCells, AV.cells, AV.scalar, AV.known, setAt, fillL, chunks, elems, mxI, mnI, del, Nat.add_assoc, nlt_self, nne_self, nne_self', List.take_of_length_le]; rfl
        have hax : xs.any outI = true := List.any_eq_true.2 ⟨x, by rw [hr]; simp, by simp [outI, wi]; omega⟩
        refine LWP_ret ?_
        show ∃ vs, resV _ _ = some vs ∧ wkV (retV vs) _
        refine ⟨_, rfl, ?_⟩
        simp [retV, wkV.refl, holdsL, hax]
      · apply LWP_run
        · simp -implicitDefEqProofs [stepsS, stepS, gd, opEff, LArg.ev, app_val, app_new, app_upd, app_kill, putV, ins, get, binV, binI, grd, bnd, ldCells, AV.cells, AV.scalar, AV.known, setAt, fillL, chunks, elems, mxI, mnI, del, Nat.add_assoc, nlt_self, nne_self, nne_self', List.take_of_length_le, encI, enc1, hc', hr', g1]; rfl
        refine LWP_cond (t := decide (1125899906842624 < x)) (by simp [LArg.ev, get]) (fun hb => ?_) (fun hb => LWP_skip ?_)
        · have g2 : 1125899906842624 < x := by simpa using hb
          refine LWP_seq ?_
          apply LWP_run
          · simp -implicitDefEqProofs [stepsS, stepS, gd, opEff, LArg.ev, app_val, app_new, app_upd, app_kill, putV, ins, get, binV, binI, grd, bnd, ldCells, AV.cells, AV.scalar, AV.known, setAt, fillL, chunks, elems, mxI, mnI, del, Nat.add_assoc, nlt_self, nne_self, nne_self', List.take_of_length_le]; rfl
          have hax : xs.any outI = true := List.any_eq_true.2 ⟨x, by rw [hr]; simp, by simp [outI, wi]; omega⟩
          refine LWP_ret ?_
          show ∃ vs, resV _ _ = some vs ∧ wkV (retV vs) _
          refine ⟨_, rfl, ?_⟩
          simp [retV, wkV.refl, holdsL, hax]
        · have g2 : ¬ 1125899906842624 < x := by simpa using hb
          apply LWP_run
          · simp -implicitDefEqProofs [stepsS, stepS, gd, opEff, LArg.ev, app_val, app_new, app_upd, app_kill, putV, ins, get, binV, binI, grd, bnd, ldCells, AV.cells, AV.scalar, AV.known, setAt, fillL, chunks, elems, mxI, mnI, del, Nat.add_assoc, nlt_self, nne_self, nne_self', List.take_of_length_le]; rfl
          refine ⟨(i + 1, nx), ⟨hc', take_all hc' h5 (by rw [hr']; simp [outI, wi]; omega)⟩, by simp only; omega, ?_⟩
          refine .mk2 ?_ ?_ ?_
          · simp [leV, get, wkV.refl, encI, wrap_succ (n := i) (by omega)]
          · simp [leH, get, encI, wrap_succ (n := i) (by omega)] <;> rfl
          · simp
    · have hc' : ¬ i < xs.length := by simpa using hc
      have := take_all_end hc' h5
      refine ⟨nx, ?_, ?_⟩
      · rw [List.any_eq_false]
        intro x hx
        have := List.all_eq_true.1 this x hx
        simpa using this
      · refine .mk2 ?_ ?_ ?_
        · simp [leV, get, wkV.refl, encI]
        · simp [leH, get, encI] <;> rfl
        · simp
  · rintro nx hax
    refine LWP_seq (LWP_seq ?_)
    apply LWP_run
    · simp -implicitDefEqProofs [stepsS, stepS, gd, opEff, LArg.ev, app_val, app_new, app_upd, app_kill, putV, ins, get, binV, binI, grd, bnd, ldCells, AV.cells, AV.scalar, AV.known, setAt, fillL, chunks, elems, mxI, mnI, del, Nat.add_assoc, nlt_self, nne_self, nne_self', List.take_of_length_le]; rfl
    refine LWP_block (LWP_inv (fun q : Nat × Nat => ⟨[(0, .tsl 3 (l.map Rd.e)), (1, encI xs), (6, .int .i64 q.1)], [], q.2⟩) (fun q => l.length - q.1) (fun q => q.1 ≤ l.length ∧ (l.take q.1).all (fun x => !shortR xs x) = true) (0, nx) ?_ ⟨Nat.zero_le _, by simp⟩ ?_)
    · refine .mk2 ?_ ?_ ?_
      · simp [leV, get, wkV.refl, encI]
      · simp [leH, get, encI] <;> rfl
      · simp
    rintro ⟨i, ny⟩ ⟨h4, h5⟩
    simp only at h4 h5 ⊢
    refine LWP_seq (LWP_seq ?_)
    apply LWP_run
    · simp -implicitDefEqProofs [stepsS, stepS, gd, opEff, LArg.ev, app_val, app_new, app_upd, app_kill, putV, ins, get, binV, binI, grd, bnd, ldCells, AV.cells, AV.scalar, AV.known, setAt, fillL, chunks, elems, mxI, mnI, del, Nat.add_assoc, nlt_self, nne_self, nne_self', List.take_of_length_le, encI]; rfl
    refine LWP_cond (t := decide (i < l.length)) (by simp [LArg.ev, get]) (fun hc => LWP_skip ?_) (fun hc => LWP_exit ?_)
    · have hc' : i < l.length := by simpa using hc
      obtain ⟨r, hr⟩ : ∃ r, r = l[i] := ⟨_, rfl⟩
      have hr' := hr.symm
      obtain ⟨r1, r2, r3⟩ := hrg r (by rw [hr]; simp)
      have e1 : r.t.toNat < xs.length := by omega
      have e2 : r.f.toNat < xs.length := by omega
      have e3 : 0 ≤ r.t := by omega
      have e4 : r.f < (xs.length : Int) := by omega
      have hsh : shortR xs r = decide (IntKind.i64.wrap (xs[r.t.toNat] - xs[r.f.toNat]) < r.d) := by simp [shortR, e1, e2]
      refine LWP_seq (LWP_block (LWP_seq ?_))
      apply LWP_runD
      · simp -implicitDefEqProofs [stepsD, stepD, ST.as, dEffF, LOp.cls, softOK, LOp.args, AV.ids, gd, opEff, LArg.ev, appD_val, appD_new, appD_upd, appD_kill, AS.flush, delAll, putV, ins, get, binV, binI, grd, bnd, ldCells, AV.cells, AV.scalar, AV.known, setAt, fillL, chunks, elems, mxI, mnI, del, Nat.add_assoc, nlt_self, nne_self, nne_self', List.take_of_length_le, encI, enc1, hc', hr', Rd.e, r1, r3, e1, e2, e3, e4]; rfl
      · simp [AS.fin, delAll, del, Nat.add_assoc]; rfl
      refine LWP_cond (t := shortR xs r) (by simp [LArg.ev, get, hsh]) (fun hb => ?_) (fun hb => LWP_skip ?_)
      · refine LWP_seq ?_
        apply LWP_run
        · simp -implicitDefEqProofs [stepsS, stepS, gd, opEff, LArg.ev, app_val, app_new, app_upd, app_kill, putV, ins, get, binV, binI, grd, bnd, ldCells, AV.cells, AV.scalar, AV.known, setAt, fillL, chunks, elems, mxI, mnI, del, Nat.add_assoc, nlt_self, nne_self, nne_self', List.take_of_length_le]; rfl
        have hal : l.any (shortR xs) = true := List.any_eq_true.2 ⟨r, by rw [hr]; simp, hb⟩
        refine LWP_ret ?_
        show ∃ vs, resV _ _ = some vs ∧ wkV (retV vs) _
        refine ⟨_, rfl, ?_⟩
        simp [retV, wkV.refl, holdsL, hal]
      · apply LWP_run
        · simp -implicitDefEqProofs [stepsS, stepS, gd, opEff, LArg.ev, app_val, app_new, app_upd, app_kill, putV, ins, get, binV, binI, grd, bnd, ldCells, AV.cells, AV.scalar, AV.known, setAt, fillL, chunks, elems, mxI, mnI, del, Nat.add_assoc, nlt_self, nne_self, nne_self', List.take_of_length_le]; rfl
        refine ⟨(i + 1, _), ⟨hc', take_all hc' h5 (by rw [hr', hb]; rfl)⟩, by simp only; omega, .mk' ?_ (fun _ _ h => h) rfl⟩
        simp [leV, get, wkV.refl, encI, wrap_succ (n := i) (by omega)]
    · have hc' : ¬ i < l.length := by simpa using hc
      have hta := take_all_end hc' h5
      have hal : l.any (shortR xs) = false := by
        rw [List.any_eq_false]
        intro x hx
        have := List.all_eq_true.1 hta x hx
        simpa using this
      refine LWP_seq ?_
      apply LWP_run
      · simp -implicitDefEqProofs [stepsS, stepS, gd, opEff, LArg.ev, app_val, app_new, app_upd, app_kill, putV, ins, get, binV, binI, grd, bnd, ldCells, AV.cells, AV.scalar, AV.known, setAt, fillL, chunks, elems, mxI, mnI, del, Nat.add_assoc, nlt_self, nne_self, nne_self', List.take_of_length_le]; rfl
      have e0 : holdsL l xs = true := by simp only [holdsL, hck, hax, hal]; rfl
      refine LWP_ret ?_
      show ∃ vs, resV _ _ = some vs ∧ wkV (retV vs) _
      refine ⟨_, rfl, ?_⟩
      simp [retV, wkV.refl, e0]

theorem numbers_ok (xs : List Int) (hl : xs.length < 2 ^ 60) : ACalls Go.Proofs.Try.prog 16 [encI xs, encI xs] [] 0 (fun r _ _ => r = .bool true) := by
  refine pure_body ok16 rfl ?_
  simp only [parV]
  refine LWP_seq ?_
  apply LWP_run
  · simp -implicitDefEqProofs [stepsS, stepS, gd, opEff, LArg.ev, app_val, app_new, app_upd, app_kill, putV, ins, get, binV, binI, grd, bnd, ldCells, AV.cells, AV.scalar, AV.known, setAt, fillL, chunks, elems, mxI, mnI, del, Nat.add_assoc, nlt_self, nne_self, nne_self', List.take_of_length_le]; rfl
  refine LWP_seq (LWP_seq ?_)
  apply LWP_run
  · simp -implicitDefEqProofs [stepsS, stepS, gd, opEff, LArg.ev, app_val, app_new, app_upd, app_kill, putV, ins, get, binV, binI, grd, bnd, ldCells, AV.cells, AV.scalar, AV.known, setAt, fillL, chunks, elems, mxI, mnI, del, Nat.add_assoc, nlt_self, nne_self, nne_self', List.take_of_length_le, encI]; rfl
  refine LWP_cond (t := false) (by simp [LArg.ev, get]) (fun h => by cases h) (fun _ => LWP_skip ?_)
  refine LWP_seq (LWP_seq ?_)
  apply LWP_run
  · simp -implicitDefEqProofs [stepsS, stepS, gd, opEff, LArg.ev, app_val, app_new, app_upd, app_kill, putV, ins, get, binV, binI, grd, bnd, ldCells, AV.cells, AV.scalar, AV.known, setAt, fillL, chunks, elems, mxI, mnI, del, Nat.add_assoc, nlt_self, nne_self, nne_self', List.take_of_length_le]; rfl
  refine LWP_block (LWP_inv (fun q : Nat × Nat => ⟨[(0, encI xs), (1, encI xs), (5, .int .i64 q.1)], [], q.2⟩) (fun q => xs.length - q.1) (fun q => q.1 ≤ xs.length) (0, 0) ?_ (Nat.zero_le _) ?_)
  · refine .mk2 ?_ ?_ ?_
    · simp [leV, get, wkV.refl, encI]
    · simp [leH, get, encI] <;> rfl
    · simp
  rintro ⟨i, nx⟩ h4
  simp only at h4 ⊢
  refine LWP_seq (LWP_seq ?_)
  apply LWP_run
  · simp -implicitDefEqProofs [stepsS, stepS, gd, opEff, LArg.ev, app_val, app_new, app_upd, app_kill, putV, ins, get, binV, binI, grd, bnd, ldCells, AV.cells, AV.scalar, AV.known, setAt, fillL, chunks, elems, mxI, mnI, del, Nat.add_assoc, nlt_self, nne_self, nne_self', List.take_of_length_le, encI]; rfl
  refine LWP_cond (t := decide (i < xs.length)) (by simp [LArg.ev, get]) (fun hc => LWP_skip ?_) (fun hc => LWP_exit ?_)
  · have hc' : i < xs.length := by simpa using hc
    refine LWP_seq (LWP_block (LWP_seq ?_))
    apply LWP_runD
    · simp -implicitDefEqProofs [stepsD, stepD, ST.as, dEffF, LOp.cls, softOK, LOp.args, AV.ids, gd, opEff, LArg.ev, appD_val, appD_new, appD_upd, appD_kill, AS.flush, delAll, putV, ins, get, binV, binI, grd, bnd, ldCells, AV.cells, AV.scalar, AV.known, setAt, fillL, chunks, elems, mxI, mnI, del, Nat.add_assoc, nlt_self, nne_self, nne_self', List.take_of_length_le, encI, enc1, hc']; rfl
    · simp [AS.fin, delAll, del, Nat.add_assoc]; rfl
    refine LWP_cond (t := false) (by simp [LArg.ev, get]) (fun h => by cases h) (fun _ => LWP_skip ?_)
    apply LWP_run
    · simp -implicitDefEqProofs [stepsS, stepS, gd, opEff, LArg.ev, app_val, app_new, app_upd, app_kill, putV, ins, get, binV, binI, grd, bnd, ldCells, AV.cells, AV.scalar, AV.known, setAt, fillL, chunks, elems, mxI, mnI, del, Nat.add_assoc, nlt_self, nne_self, nne_self', List.take_of_length_le]; rfl
    refine ⟨(i + 1, _), hc', by simp only; omega, .mk' ?_ (fun _ _ h => h) rfl⟩
    simp [leV, get, wkV.refl, encI, wrap_succ (n := i) (by omega)]
  · refine LWP_seq ?_
    apply LWP_run
    · simp -implicitDefEqProofs [stepsS, stepS, gd, opEff, LArg.ev, app_val, app_new, app_upd, app_kill, putV, ins, get, binV, binI, grd, bnd, ldCells, AV.cells, AV.scalar, AV.known, setAt, fillL, chunks, elems, mxI, mnI, del, Nat.add_assoc, nlt_self, nne_self, nne_self', List.take_of_length_le]; rfl
    refine LWP_ret ?_
    show ∃ vs, resV _ _ = some vs ∧ wkV (retV vs) _
    refine ⟨_, rfl, ?_⟩
    simp [retV, wkV.refl]
end Go.AM.Rod
