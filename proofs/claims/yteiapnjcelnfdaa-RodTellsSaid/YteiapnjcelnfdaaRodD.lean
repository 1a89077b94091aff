/- A part of a proof about the given program: what its name says. No premise beyond the statements'. -/
import Derived.Test.YteiapnjcelnfdaaRodB
set_option linter.unusedSimpArgs false
set_option linter.unusedVariables false
namespace Go.AM.Rod
open Go.AM

theorem extent_ok (x : Ext) : ACalls Go.Proofs.Try.prog 37 [.agg x.e] [] 0 (fun r _ _ => r = .bool (okE x)) := by
  refine pure_body ok37 rfl ?_
  simp only [parV]
  refine LWP_seq ?_
  apply LWP_run
  · simp -implicitDefEqProofs [stepsS, stepS, gd, opEff, LArg.ev, app_val, app_new, app_upd, app_kill, putV, ins, get, binV, binI, grd, bnd, ldCells, AV.cells, AV.scalar, AV.known, setAt, fillL, chunks, elems, mxI, mnI, del, Nat.add_assoc, nlt_self, nne_self, nne_self', List.take_of_length_le, Ext.e]; rfl
  refine LWP_seq ?_
  by_cases h1 : -1073741824 ≤ x.l
  · by_cases h2 : x.l ≤ 1073741824
    · by_cases h3 : -1073741824 ≤ x.r
      · apply LWP_run
        · simp -implicitDefEqProofs [stepsS, stepS, gd, opEff, LArg.ev, app_val, app_new, app_upd, app_kill, putV, ins, get, binV, binI, grd, bnd, ldCells, AV.cells, AV.scalar, AV.known, setAt, fillL, chunks, elems, mxI, mnI, del, Nat.add_assoc, nlt_self, nne_self, nne_self', List.take_of_length_le, h1, h2, h3]; rfl
        refine LWP_ret ?_
        show ∃ vs, resV _ _ = some vs ∧ wkV (retV vs) _
        refine ⟨_, rfl, ?_⟩
        simp [retV, wkV.refl, okE, wi, h1, h2, h3]
      · apply LWP_run
        · simp -implicitDefEqProofs [stepsS, stepS, gd, opEff, LArg.ev, app_val, app_new, app_upd, app_kill, putV, ins, get, binV, binI, grd, bnd, ldCells, AV.cells, AV.scalar, AV.known, setAt, fillL, chunks, elems, mxI, mnI, del, Nat.add_assoc, nlt_self, nne_self, nne_self', List.take_of_length_le, h1, h2, h3]; rfl
        refine LWP_ret ?_
        show ∃ vs, resV _ _ = some vs ∧ wkV (retV vs) _
        refine ⟨_, rfl, ?_⟩
        simp [retV, wkV.refl, okE, wi, h1, h2, h3]
    · apply LWP_run
      · simp -implicitDefEqProofs [stepsS, stepS, gd, opEff, LArg.ev, app_val, app_new, app_upd, app_kill, putV, ins, get, binV, binI, grd, bnd, ldCells, AV.cells, AV.scalar, AV.known, setAt, fillL, chunks, elems, mxI, mnI, del, Nat.add_assoc, nlt_self, nne_self, nne_self', List.take_of_length_le, h1, h2]; rfl
      refine LWP_ret ?_
      show ∃ vs, resV _ _ = some vs ∧ wkV (retV vs) _
      refine ⟨_, rfl, ?_⟩
      simp [retV, wkV.refl, okE, wi, h1, h2]
  · apply LWP_run
    · simp -implicitDefEqProofs [stepsS, stepS, gd, opEff, LArg.ev, app_val, app_new, app_upd, app_kill, putV, ins, get, binV, binI, grd, bnd, ldCells, AV.cells, AV.scalar, AV.known, setAt, fillL, chunks, elems, mxI, mnI, del, Nat.add_assoc, nlt_self, nne_self, nne_self', List.take_of_length_le, h1]; rfl
    refine LWP_ret ?_
    show ∃ vs, resV _ _ = some vs ∧ wkV (retV vs) _
    refine ⟨_, rfl, ?_⟩
    simp [retV, wkV.refl, okE, wi, h1]

theorem rfits_ok (rs : List (List Ext)) (hl : rs.length < 2 ^ 60) (hl2 : ∀ r ∈ rs, r.length < 2 ^ 60) : ACalls Go.Proofs.Try.prog 25 [encR rs] [] 0 (fun r _ _ => r = .bool (fitsL rs)) := by
  refine pure_body ok25 rfl ?_
  simp only [parV]
  refine LWP_seq ?_
  apply LWP_run
  · simp -implicitDefEqProofs [stepsS, stepS, gd, opEff, LArg.ev, app_val, app_new, app_upd, app_kill, putV, ins, get, binV, binI, grd, bnd, ldCells, AV.cells, AV.scalar, AV.known, setAt, fillL, chunks, elems, mxI, mnI, del, Nat.add_assoc, nlt_self, nne_self, nne_self', List.take_of_length_le]; rfl
  refine LWP_seq (LWP_seq ?_)
  apply LWP_run
  · simp -implicitDefEqProofs [stepsS, stepS, gd, opEff, LArg.ev, app_val, app_new, app_upd, app_kill, putV, ins, get, binV, binI, grd, bnd, ldCells, AV.cells, AV.scalar, AV.known, setAt, fillL, chunks, elems, mxI, mnI, del, Nat.add_assoc, nlt_self, nne_self, nne_self', List.take_of_length_le, encR]; rfl
  refine LWP_cond (t := decide (100 < rs.length)) (by simp [LArg.ev, get]; omega) (fun h => ?_) (fun h => LWP_skip ?_)
  · refine LWP_seq ?_
    apply LWP_run
    · simp -implicitDefEqProofs [stepsS, stepS, gd, opEff, LArg.ev, app_val, app_new, app_upd, app_kill, putV, ins, get, binV, binI, grd, bnd, ldCells, AV.cells, AV.scalar, AV.known, setAt, fillL, chunks, elems, mxI, mnI, del, Nat.add_assoc, nlt_self, nne_self, nne_self', List.take_of_length_le]; rfl
    have hb : fitsL rs = false := by simp only [fitsL, Bool.and_eq_false_iff]; exact .inl (by simpa using h)
    rw [hb]
    refine LWP_ret ?_
    show ∃ vs, resV _ _ = some vs ∧ wkV (retV vs) _
    refine ⟨_, rfl, ?_⟩
    simp [retV, wkV.refl]
  have hlen : rs.length ≤ 100 := by simpa using h
  refine LWP_seq (LWP_seq ?_)
  apply LWP_run
  · simp -implicitDefEqProofs [stepsS, stepS, gd, opEff, LArg.ev, app_val, app_new, app_upd, app_kill, putV, ins, get, binV, binI, grd, bnd, ldCells, AV.cells, AV.scalar, AV.known, setAt, fillL, chunks, elems, mxI, mnI, del, Nat.add_assoc, nlt_self, nne_self, nne_self', List.take_of_length_le, encR]; rfl
  refine LWP_block (LWP_inv (fun q : Nat × Nat => ⟨[(0, encR rs), (3, .int .i64 q.1)], [], q.2⟩) (fun q => rs.length - q.1) (fun q => q.1 ≤ rs.length ∧ (rs.take q.1).all (fitsR (rs.getD 0 []).length) = true) (0, 0) ?_ ⟨Nat.zero_le _, by simp⟩ ?_)
  · refine .mk2 ?_ ?_ ?_
    · simp [leV, get, wkV.refl, encR]
    · simp [leH, get, encR] <;> rfl
    · simp
  rintro ⟨i, nx⟩ ⟨h1, h2⟩
  simp only at h1 h2 ⊢
  refine LWP_seq (LWP_seq ?_)
  apply LWP_run
  · simp -implicitDefEqProofs [stepsS, stepS, gd, opEff, LArg.ev, app_val, app_new, app_upd, app_kill, putV, ins, get, binV, binI, grd, bnd, ldCells, AV.cells, AV.scalar, AV.known, setAt, fillL, chunks, elems, mxI, mnI, del, Nat.add_assoc, nlt_self, nne_self, nne_self', List.take_of_length_le, encR]; rfl
  refine LWP_cond (t := decide (i < rs.length)) (by simp [LArg.ev, get]) (fun hc => LWP_skip ?_) (fun hc => LWP_exit ?_)
  · simp only [decide_eq_true_eq] at hc
    have hr : rs[i].length < 2 ^ 60 := hl2 _ (by simp)
    refine LWP_seq (LWP_block (LWP_seq (LWP_seq ?_)))
    by_cases hd : rs[i].length ≤ 4096
    · have hd' : ¬ 4096 < (rs[i].length : Int) := by omega
      have h0 : 0 < rs.length := by omega
      apply LWP_runD
      · simp -implicitDefEqProofs [stepsD, stepD, ST.as, dEffF, LOp.cls, softOK, LOp.args, AV.ids, gd, opEff, LArg.ev, appD_val, appD_new, appD_upd, appD_kill, AS.flush, delAll, putV, ins, get, binV, binI, grd, bnd, ldCells, AV.cells, AV.scalar, AV.known, setAt, fillL, chunks, elems, mxI, mnI, del, Nat.add_assoc, nlt_self, nne_self, nne_self', List.take_of_length_le, encR, hc, hd', h0]; rfl
      · simp [AS.fin, delAll, del, Nat.add_assoc]; rfl
      refine LWP_cond (t := (rs[i].length : Int) != (rs[0].length : Int)) (by simp [LArg.ev, get]) (fun he => ?_) (fun he => LWP_skip ?_)
      · refine LWP_seq ?_
        apply LWP_run
        · simp -implicitDefEqProofs [stepsS, stepS, gd, opEff, LArg.ev, app_val, app_new, app_upd, app_kill, putV, ins, get, binV, binI, grd, bnd, ldCells, AV.cells, AV.scalar, AV.known, setAt, fillL, chunks, elems, mxI, mnI, del, Nat.add_assoc, nlt_self, nne_self, nne_self', List.take_of_length_le]; rfl
        have hb : fitsL rs = false := by
          simp only [fitsL, Bool.and_eq_false_iff]
          exact .inr (all_ff hc (by simp only [fitsR, Bool.and_eq_false_iff]; exact .inr (.inl (by simp at he; simp [h0]; omega))))
        rw [hb]
        refine LWP_ret ?_
        show ∃ vs, resV _ _ = some vs ∧ wkV (retV vs) _
        refine ⟨_, rfl, ?_⟩
        simp [retV, wkV.refl]
      have he' : rs[i].length = rs[0].length := by simp at he; omega
      refine LWP_seq ?_
      apply LWP_run
      · simp -implicitDefEqProofs [stepsS, stepS, gd, opEff, LArg.ev, app_val, app_new, app_upd, app_kill, putV, ins, get, binV, binI, grd, bnd, ldCells, AV.cells, AV.scalar, AV.known, setAt, fillL, chunks, elems, mxI, mnI, del, Nat.add_assoc, nlt_self, nne_self, nne_self', List.take_of_length_le]; rfl
      refine LWP_block (LWP_inv (fun q : Nat × Nat => ⟨[(0, encR rs), (3, .int .i64 i), (4, .int .i64 q.1)], [], q.2⟩) (fun q => rs[i].length - q.1) (fun q => q.1 ≤ rs[i].length ∧ (rs[i].take q.1).all okE = true) (0, nx + 18) ?_ ⟨Nat.zero_le _, by simp⟩ ?_)
      · refine .mk2 ?_ ?_ ?_
        · simp [leV, get, wkV.refl, encR]
        · simp [leH, get, encR] <;> rfl
        · simp
      rintro ⟨j, ny⟩ ⟨g1, g2⟩
      simp only at g1 g2 ⊢
      refine LWP_seq (LWP_seq ?_)
      apply LWP_run
      · simp -implicitDefEqProofs [stepsS, stepS, gd, opEff, LArg.ev, app_val, app_new, app_upd, app_kill, putV, ins, get, binV, binI, grd, bnd, ldCells, AV.cells, AV.scalar, AV.known, setAt, fillL, chunks, elems, mxI, mnI, del, Nat.add_assoc, nlt_self, nne_self, nne_self', List.take_of_length_le, encR, hc]; rfl
      refine LWP_cond (t := decide (j < rs[i].length)) (by simp [LArg.ev, get]) (fun gc => LWP_skip ?_) (fun gc => LWP_exit ?_)
      · simp only [decide_eq_true_eq] at gc
        refine LWP_seq (LWP_block (LWP_seq (LWP_reg fun K hK => ?_)))
        apply rgnS_pre 7
        · simp -implicitDefEqProofs [stepsS, stepS, gd, opEff, LArg.ev, app_val, app_new, app_upd, app_kill, putV, ins, get, binV, binI, grd, bnd, ldCells, AV.cells, AV.scalar, AV.known, setAt, fillL, chunks, elems, mxI, mnI, del, Nat.add_assoc, nlt_self, nne_self, nne_self', List.take_of_length_le, encR, hc, gc, Ext.e]; rfl
        refine rgnS_call (extent_ok rs[i][j]) rfl rfl (by simp [pureL, AV.pure, Ext.e]) (by simp [AV.pure, Ext.e]) (by simp [gd, get, LArg.ev]) ?_
        apply rgnS_pre 99
        · simp -implicitDefEqProofs [stepsS, stepS, gd, opEff, LArg.ev, app_val, app_new, app_upd, app_kill, putV, ins, get, binV, binI, grd, bnd, ldCells, AV.cells, AV.scalar, AV.known, setAt, fillL, chunks, elems, mxI, mnI, del, Nat.add_assoc, nlt_self, nne_self, nne_self', List.take_of_length_le]; rfl
        refine hK _ ?_; clear hK
        refine LWP_cond (t := !okE rs[i][j]) (by simp [LArg.ev, get]) (fun hx => ?_) (fun hx => LWP_skip ?_)
        · refine LWP_seq ?_
          apply LWP_run
          · simp -implicitDefEqProofs [stepsS, stepS, gd, opEff, LArg.ev, app_val, app_new, app_upd, app_kill, putV, ins, get, binV, binI, grd, bnd, ldCells, AV.cells, AV.scalar, AV.known, setAt, fillL, chunks, elems, mxI, mnI, del, Nat.add_assoc, nlt_self, nne_self, nne_self', List.take_of_length_le]; rfl
          have hb : fitsL rs = false := by
            simp only [fitsL, Bool.and_eq_false_iff]
            exact .inr (all_ff hc (by simp only [fitsR, Bool.and_eq_false_iff]; exact .inr (.inr (all_ff gc (by simpa using hx)))))
          rw [hb]
          refine LWP_ret ?_
          show ∃ vs, resV _ _ = some vs ∧ wkV (retV vs) _
          refine ⟨_, rfl, ?_⟩
          simp [retV, wkV.refl]
        · apply LWP_run
          · simp -implicitDefEqProofs [stepsS, stepS, gd, opEff, LArg.ev, app_val, app_new, app_upd, app_kill, putV, ins, get, binV, binI, grd, bnd, ldCells, AV.cells, AV.scalar, AV.known, setAt, fillL, chunks, elems, mxI, mnI, del, Nat.add_assoc, nlt_self, nne_self, nne_self', List.take_of_length_le]; rfl
          refine ⟨(j + 1, ny), ⟨gc, take_all gc g2 (by simpa using hx)⟩, by simp only; omega, ?_⟩
          refine .mk2 ?_ ?_ ?_
          · simp [leV, get, wkV.refl, encR, wrap_succ (n := j) (by omega)]
          · simp [leH, get, encR, wrap_succ (n := j) (by omega)] <;> rfl
          · simp
      · have gc' : ¬ j < rs[i].length := by simpa using gc
        apply LWP_run
        · simp -implicitDefEqProofs [stepsS, stepS, gd, opEff, LArg.ev, app_val, app_new, app_upd, app_kill, putV, ins, get, binV, binI, grd, bnd, ldCells, AV.cells, AV.scalar, AV.known, setAt, fillL, chunks, elems, mxI, mnI, del, Nat.add_assoc, nlt_self, nne_self, nne_self', List.take_of_length_le]; rfl
        refine ⟨(i + 1, ny), ⟨hc, take_all hc h2 (by simp [fitsR, he', h0]; exact ⟨by omega, by simpa using take_all_end gc' g2⟩)⟩, by simp only; omega, ?_⟩
        refine .mk2 ?_ ?_ ?_
        · simp [leV, get, wkV.refl, encR, wrap_succ (n := i) (by omega)]
        · simp [leH, get, encR, wrap_succ (n := i) (by omega)] <;> rfl
        · simp
    · have hd' : 4096 < (rs[i].length : Int) := by omega
      apply LWP_runD
      · simp -implicitDefEqProofs [stepsD, stepD, ST.as, dEffF, LOp.cls, softOK, LOp.args, AV.ids, gd, opEff, LArg.ev, appD_val, appD_new, appD_upd, appD_kill, AS.flush, delAll, putV, ins, get, binV, binI, grd, bnd, ldCells, AV.cells, AV.scalar, AV.known, setAt, fillL, chunks, elems, mxI, mnI, del, Nat.add_assoc, nlt_self, nne_self, nne_self', List.take_of_length_le, encR, hc, hd']; rfl
      · simp [AS.fin, delAll, del, Nat.add_assoc]; rfl
      refine LWP_cond (t := true) (by simp [LArg.ev, get]) (fun _ => ?_) (fun hx => by cases hx)
      refine LWP_seq ?_
      apply LWP_run
      · simp -implicitDefEqProofs [stepsS, stepS, gd, opEff, LArg.ev, app_val, app_new, app_upd, app_kill, putV, ins, get, binV, binI, grd, bnd, ldCells, AV.cells, AV.scalar, AV.known, setAt, fillL, chunks, elems, mxI, mnI, del, Nat.add_assoc, nlt_self, nne_self, nne_self', List.take_of_length_le]; rfl
      have hb : fitsL rs = false := by
        simp only [fitsL, Bool.and_eq_false_iff]
        exact .inr (all_ff hc (by simp only [fitsR, Bool.and_eq_false_iff]; exact .inl (by simpa using hd)))
      rw [hb]
      refine LWP_ret ?_
      show ∃ vs, resV _ _ = some vs ∧ wkV (retV vs) _
      refine ⟨_, rfl, ?_⟩
      simp [retV, wkV.refl]
  · have hc' : ¬ i < rs.length := by simpa using hc
    refine LWP_seq ?_
    apply LWP_run
    · simp -implicitDefEqProofs [stepsS, stepS, gd, opEff, LArg.ev, app_val, app_new, app_upd, app_kill, putV, ins, get, binV, binI, grd, bnd, ldCells, AV.cells, AV.scalar, AV.known, setAt, fillL, chunks, elems, mxI, mnI, del, Nat.add_assoc, nlt_self, nne_self, nne_self', List.take_of_length_le]; rfl
    have hb : fitsL rs = true := by
      simp only [fitsL, Bool.and_eq_true, decide_eq_true_eq]
      exact ⟨hlen, take_all_end hc' h2⟩
    rw [hb]
    refine LWP_ret ?_
    show ∃ vs, resV _ _ = some vs ∧ wkV (retV vs) _
    refine ⟨_, rfl, ?_⟩
    simp [retV, wkV.refl]
end Go.AM.Rod
