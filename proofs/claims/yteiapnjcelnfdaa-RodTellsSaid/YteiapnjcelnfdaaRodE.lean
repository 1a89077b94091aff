/- A part of a proof about the given program: what its name says. No premise beyond the statements'. -/
import Derived.Test.YteiapnjcelnfdaaRodC
import Derived.Test.YteiapnjcelnfdaaRodD
set_option linter.unusedSimpArgs false
set_option linter.unusedVariables false
namespace Go.AM.Rod
open Go.AM

theorem cl_ref (d : Int) : (if 1 < (if 1073741824 < d then 1073741824 else d) then (if 1073741824 < d then 1073741824 else d) else 1) = cl d := by
  unfold cl
  repeat' split
  all_goals omega

theorem rrods_ok (rs : List (List Ext)) (pad : Int) (hl : rs.length < 2 ^ 60) (hl2 : ∀ r ∈ rs, r.length < 2 ^ 60) : ACalls Go.Proofs.Try.prog 11 [encR rs, .int .i64 pad] [] 0 (fun x _ _ => x = rodsA (rodsV pad rs)) := by
  refine pure_body ok11 rfl ?_
  simp only [parV]
  refine LWP_seq ?_
  apply LWP_run
  · simp -implicitDefEqProofs [stepsS, stepS, gd, opEff, LArg.ev, app_val, app_new, app_upd, app_kill, putV, ins, get, binV, binI, grd, bnd, ldCells, AV.cells, AV.scalar, AV.known, setAt, fillL, chunks, elems, mxI, mnI, del, Nat.add_assoc, nlt_self, nne_self, nne_self', List.take_of_length_le]; rfl
  refine LWP_seq (LWP_seq (LWP_reg fun K hK => ?_))
  apply rgnS_pre 1
  · simp -implicitDefEqProofs [stepsS, stepS, gd, opEff, LArg.ev, app_val, app_new, app_upd, app_kill, putV, ins, get, binV, binI, grd, bnd, ldCells, AV.cells, AV.scalar, AV.known, setAt, fillL, chunks, elems, mxI, mnI, del, Nat.add_assoc, nlt_self, nne_self, nne_self', List.take_of_length_le]; rfl
  refine rgnS_call (rfits_ok rs hl hl2) rfl rfl (by simp [pureL, AV.pure, pure_encR]) (by simp [AV.pure, pure_encR]) (by simp [gd, get, LArg.ev]) ?_
  have bad : rodsV pad rs = ([], 2) → wkV (.tup [.nils, .int .i64 2]) (rodsA (rodsV pad rs)) := fun hv => by
    rw [hv]; exact wkV.tup2 (.nils 3) (.refl _)
  by_cases hf : fitsL rs = true
  · by_cases hp1 : pad < 0
    · apply rgnS_pre 99
      · simp -implicitDefEqProofs [stepsS, stepS, gd, opEff, LArg.ev, app_val, app_new, app_upd, app_kill, putV, ins, get, binV, binI, grd, bnd, ldCells, AV.cells, AV.scalar, AV.known, setAt, fillL, chunks, elems, mxI, mnI, del, Nat.add_assoc, nlt_self, nne_self, nne_self', List.take_of_length_le, hf, hp1]; rfl
      refine hK _ ?_; clear hK
      refine LWP_cond (t := true) (by simp [LArg.ev, get]) (fun _ => ?_) (fun hw => by cases hw)
      refine LWP_seq ?_
      apply LWP_run
      · simp -implicitDefEqProofs [stepsS, stepS, gd, opEff, LArg.ev, app_val, app_new, app_upd, app_kill, putV, ins, get, binV, binI, grd, bnd, ldCells, AV.cells, AV.scalar, AV.known, setAt, fillL, chunks, elems, mxI, mnI, del, Nat.add_assoc, nlt_self, nne_self, nne_self', List.take_of_length_le]; rfl
      refine LWP_ret ?_
      show ∃ vs, resV _ _ = some vs ∧ wkV (retV vs) _
      exact ⟨_, rfl, bad (by simp [rodsV, wi, show ¬ 0 ≤ pad by omega])⟩
    · by_cases hp2 : 1048576 < pad
      · apply rgnS_pre 99
        · simp -implicitDefEqProofs [stepsS, stepS, gd, opEff, LArg.ev, app_val, app_new, app_upd, app_kill, putV, ins, get, binV, binI, grd, bnd, ldCells, AV.cells, AV.scalar, AV.known, setAt, fillL, chunks, elems, mxI, mnI, del, Nat.add_assoc, nlt_self, nne_self, nne_self', List.take_of_length_le, hf, hp1, hp2]; rfl
        refine hK _ ?_; clear hK
        refine LWP_cond (t := true) (by simp [LArg.ev, get]) (fun _ => ?_) (fun hw => by cases hw)
        refine LWP_seq ?_
        apply LWP_run
        · simp -implicitDefEqProofs [stepsS, stepS, gd, opEff, LArg.ev, app_val, app_new, app_upd, app_kill, putV, ins, get, binV, binI, grd, bnd, ldCells, AV.cells, AV.scalar, AV.known, setAt, fillL, chunks, elems, mxI, mnI, del, Nat.add_assoc, nlt_self, nne_self, nne_self', List.take_of_length_le]; rfl
        refine LWP_ret ?_
        show ∃ vs, resV _ _ = some vs ∧ wkV (retV vs) _
        exact ⟨_, rfl, bad (by simp [rodsV, wi, show ¬ pad ≤ 1048576 by omega])⟩
      · apply rgnS_pre 99
        · simp -implicitDefEqProofs [stepsS, stepS, gd, opEff, LArg.ev, app_val, app_new, app_upd, app_kill, putV, ins, get, binV, binI, grd, bnd, ldCells, AV.cells, AV.scalar, AV.known, setAt, fillL, chunks, elems, mxI, mnI, del, Nat.add_assoc, nlt_self, nne_self, nne_self', List.take_of_length_le, hf, hp1, hp2]; rfl
        refine hK _ ?_; clear hK
        refine LWP_cond (t := false) (by simp [LArg.ev, get]) (fun hw => by cases hw) (fun _ => LWP_skip ?_)
        have hv : rodsV pad rs = (accL pad rs rs.length, 0) := by simp [rodsV, wi, hf, show 0 ≤ pad by omega, show pad ≤ 1048576 by omega]
        rw [hv]
        obtain ⟨m1, m2⟩ := fits_len hf
        refine LWP_seq ?_
        apply LWP_run
        · simp -implicitDefEqProofs [stepsS, stepS, gd, opEff, LArg.ev, app_val, app_new, app_upd, app_kill, putV, ins, get, binV, binI, grd, bnd, ldCells, AV.cells, AV.scalar, AV.known, setAt, fillL, chunks, elems, mxI, mnI, del, Nat.add_assoc, nlt_self, nne_self, nne_self', List.take_of_length_le]; rfl
        refine LWP_seq (LWP_seq ?_)
        apply LWP_run
        · simp -implicitDefEqProofs [stepsS, stepS, gd, opEff, LArg.ev, app_val, app_new, app_upd, app_kill, putV, ins, get, binV, binI, grd, bnd, ldCells, AV.cells, AV.scalar, AV.known, setAt, fillL, chunks, elems, mxI, mnI, del, Nat.add_assoc, nlt_self, nne_self, nne_self', List.take_of_length_le]; rfl
        refine LWP_block (LWP_inv (fun q : Nat × Nat × Nat => ⟨[(0, encR rs), (1, .int .i64 pad), (6, .sl 3 q.2.1 0 (accL pad rs q.1).length), (7, .int .i64 q.1)], [(q.2.1, .rows 3 ((accL pad rs q.1).map Rd.e))], q.2.2⟩) (fun q => rs.length - q.1) (fun q => q.1 ≤ rs.length ∧ q.2.1 < q.2.2) (0, 0, 1) ?_ ⟨Nat.zero_le _, by simp⟩ ?_)
        · refine .mk2 ?_ ?_ ?_
          · simp [leV, get, wkV.refl, accL, encR]
          · simp [leH, get, accL, encR] <;> rfl
          · simp
        rintro ⟨i, b, nx⟩ ⟨h1, hb⟩
        simp only at h1 hb ⊢
        have k1 := accL_len (pad := pad) m2 i h1
        refine LWP_seq (LWP_seq ?_)
        apply LWP_run
        · simp -implicitDefEqProofs [stepsS, stepS, gd, opEff, LArg.ev, app_val, app_new, app_upd, app_kill, putV, ins, get, binV, binI, grd, bnd, ldCells, AV.cells, AV.scalar, AV.known, setAt, fillL, chunks, elems, mxI, mnI, del, Nat.add_assoc, nlt_self, nne_self, nne_self', List.take_of_length_le, encR]; rfl
        refine LWP_cond (t := decide (i < rs.length)) (by simp [LArg.ev, get]) (fun hc => LWP_skip ?_) (fun hc => LWP_exit ?_)
        · simp only [decide_eq_true_eq] at hc
          have hr := m2 rs[i] (by simp)
          refine LWP_seq (LWP_block (LWP_seq ?_))
          apply LWP_run
          · simp -implicitDefEqProofs [stepsS, stepS, gd, opEff, LArg.ev, app_val, app_new, app_upd, app_kill, putV, ins, get, binV, binI, grd, bnd, ldCells, AV.cells, AV.scalar, AV.known, setAt, fillL, chunks, elems, mxI, mnI, del, Nat.add_assoc, nlt_self, nne_self, nne_self', List.take_of_length_le]; rfl
          refine LWP_seq ?_
          apply LWP_run
          · simp -implicitDefEqProofs [stepsS, stepS, gd, opEff, LArg.ev, app_val, app_new, app_upd, app_kill, putV, ins, get, binV, binI, grd, bnd, ldCells, AV.cells, AV.scalar, AV.known, setAt, fillL, chunks, elems, mxI, mnI, del, Nat.add_assoc, nlt_self, nne_self, nne_self', List.take_of_length_le]; rfl
          refine LWP_block (LWP_inv (fun q : Nat × Nat × Nat => ⟨[(0, encR rs), (1, .int .i64 pad), (6, .sl 3 q.2.1 0 (accL pad rs i ++ (rowSt pad rs[i] q.1).2).length), (7, .int .i64 i), (8, .int .i64 (rowSt pad rs[i] q.1).1), (9, .int .i64 q.1)], [(q.2.1, .rows 3 ((accL pad rs i ++ (rowSt pad rs[i] q.1).2).map Rd.e))], q.2.2⟩) (fun q => rs[i].length - q.1) (fun q => q.1 ≤ rs[i].length ∧ q.2.1 < q.2.2) (0, b, nx) ?_ ⟨Nat.zero_le _, hb⟩ ?_)
          · refine .mk2 ?_ ?_ ?_
            · simp [leV, get, wkV.refl, rowSt, encR]
            · simp [leH, get, rowSt, encR] <;> rfl
            · simp
          rintro ⟨j, c, ny⟩ ⟨g1, gb⟩
          simp only at g1 gb ⊢
          have hb1 : ¬ ny < c := by omega
          have hb2 : ¬ ny = c := by omega
          have hb3 : ¬ c = ny := by omega
          obtain ⟨j1, j2, j3⟩ := rowSt_len pad rs[i] j
          refine LWP_seq (LWP_seq ?_)
          apply LWP_run
          · simp -implicitDefEqProofs [stepsS, stepS, gd, opEff, LArg.ev, app_val, app_new, app_upd, app_kill, putV, ins, get, binV, binI, grd, bnd, ldCells, AV.cells, AV.scalar, AV.known, setAt, fillL, chunks, elems, mxI, mnI, del, Nat.add_assoc, nlt_self, nne_self, nne_self', List.take_of_length_le, encR, hc]; rfl
          refine LWP_cond (t := decide (j < rs[i].length)) (by simp [LArg.ev, get]) (fun gc => LWP_skip ?_) (fun gc => LWP_exit ?_)
          · simp only [decide_eq_true_eq] at gc
            refine LWP_seq (LWP_block (LWP_seq (LWP_seq ?_)))
            apply LWP_run
            · simp -implicitDefEqProofs [stepsS, stepS, gd, opEff, LArg.ev, app_val, app_new, app_upd, app_kill, putV, ins, get, binV, binI, grd, bnd, ldCells, AV.cells, AV.scalar, AV.known, setAt, fillL, chunks, elems, mxI, mnI, del, Nat.add_assoc, nlt_self, nne_self, nne_self', List.take_of_length_le, encR, hc, gc, Ext.e]; rfl
            refine LWP_cond (t := !rs[i][j].on) (by simp [LArg.ev, get]) (fun he => LWP_exit ?_) (fun he => LWP_skip ?_)
            · apply LWP_run
              · simp -implicitDefEqProofs [stepsS, stepS, gd, opEff, LArg.ev, app_val, app_new, app_upd, app_kill, putV, ins, get, binV, binI, grd, bnd, ldCells, AV.cells, AV.scalar, AV.known, setAt, fillL, chunks, elems, mxI, mnI, del, Nat.add_assoc, nlt_self, nne_self, nne_self', List.take_of_length_le]; rfl
              have he' : rs[i][j].on = false := by simpa using he
              have hs : rowSt pad rs[i] (j + 1) = rowSt pad rs[i] j := by simp [rowSt, gc, he']
              refine ⟨(j + 1, c, ny), ⟨gc, by simp only; omega⟩, by simp only; omega, ?_⟩
              refine .mk2 ?_ ?_ ?_
              · simp [leV, get, wkV.refl, encR, wrap_succ (n := j) (by omega), hs]
              · simp [leH, get, encR, wrap_succ (n := j) (by omega), hs] <;> rfl
              · simp
            · have he' : rs[i][j].on = true := by simpa using he
              refine LWP_seq (LWP_seq ?_)
              apply LWP_run
              · simp -implicitDefEqProofs [stepsS, stepS, gd, opEff, LArg.ev, app_val, app_new, app_upd, app_kill, putV, ins, get, binV, binI, grd, bnd, ldCells, AV.cells, AV.scalar, AV.known, setAt, fillL, chunks, elems, mxI, mnI, del, Nat.add_assoc, nlt_self, nne_self, nne_self', List.take_of_length_le]; rfl
              refine LWP_cond (t := decide (0 ≤ (rowSt pad rs[i] j).1)) (by simp [LArg.ev, get]) (fun hp => ?_) (fun hp => LWP_skip ?_)
              · have hp' : 0 ≤ (rowSt pad rs[i] j).1 := by simpa using hp
                have hp2 : ((rowSt pad rs[i] j).1.toNat) < rs[i].length := by omega
                have hp3 : (rowSt pad rs[i] j).1 < (rs[i].length : Int) := by omega
                refine LWP_seq ?_
                apply LWP_runD
                · simp -implicitDefEqProofs [stepsD, stepD, ST.as, dEffF, LOp.cls, softOK, LOp.args, AV.ids, gd, opEff, LArg.ev, appD_val, appD_new, appD_upd, appD_kill, AS.flush, delAll, putV, ins, get, binV, binI, grd, bnd, ldCells, AV.cells, AV.scalar, AV.known, setAt, fillL, chunks, elems, mxI, mnI, del, Nat.add_assoc, nlt_self, nne_self, nne_self', List.take_of_length_le, encR, hc, gc, hp', hp3, hp2, Ext.e, hb1, hb2, hb3]; rfl
                · simp [AS.fin, delAll, del, Nat.add_assoc]; rfl
                have hq : ((accL pad rs i).length + ((rowSt pad rs[i] j).2.length + 1)) * 24 ≤ 17592186044416 := by
                  have : i * 4096 ≤ 100 * 4096 := Nat.mul_le_mul_right _ (by omega)
                  omega
                apply LWP_run
                · simp -implicitDefEqProofs [stepsS, stepS, gd, opEff, LArg.ev, app_val, app_new, app_upd, app_kill, putV, ins, get, binV, binI, grd, bnd, ldCells, AV.cells, AV.scalar, AV.known, setAt, fillL, chunks, elems, mxI, mnI, del, Nat.add_assoc, nlt_self, nne_self, nne_self', List.take_of_length_le, hb1, hb2, hb3, hq, Rd.e]; rfl
                apply LWP_run
                · simp -implicitDefEqProofs [stepsS, stepS, gd, opEff, LArg.ev, app_val, app_new, app_upd, app_kill, putV, ins, get, binV, binI, grd, bnd, ldCells, AV.cells, AV.scalar, AV.known, setAt, fillL, chunks, elems, mxI, mnI, del, Nat.add_assoc, nlt_self, nne_self, nne_self', List.take_of_length_le]; rfl
                apply LWP_run
                · simp -implicitDefEqProofs [stepsS, stepS, gd, opEff, LArg.ev, app_val, app_new, app_upd, app_kill, putV, ins, get, binV, binI, grd, bnd, ldCells, AV.cells, AV.scalar, AV.known, setAt, fillL, chunks, elems, mxI, mnI, del, Nat.add_assoc, nlt_self, nne_self, nne_self', List.take_of_length_le]; rfl
                have hs : rowSt pad rs[i] (j + 1) = ((j : Int), (rowSt pad rs[i] j).2 ++ [⟨(rowSt pad rs[i] j).1, j, cl (dOf rs[i][(rowSt pad rs[i] j).1.toNat].r rs[i][j].l pad)⟩]) := by simp [rowSt, gc, he', hp', hp2]
                refine ⟨(j + 1, ny + 20, ny + 21), ⟨gc, by simp only; omega⟩, by simp only; omega, ?_⟩
                refine .mk2 ?_ ?_ ?_
                · simp [leV, get, wkV.refl, encR, wrap_succ (n := j) (by omega), hs, Rd.e, ← cl_ref, dOf, List.take_of_length_le]
                · simp [leH, get, encR, wrap_succ (n := j) (by omega), hs, Rd.e, ← cl_ref, dOf, List.take_of_length_le] <;> rfl
                · simp
              · have hp' : ¬ 0 ≤ (rowSt pad rs[i] j).1 := by simpa using hp
                apply LWP_run
                · simp -implicitDefEqProofs [stepsS, stepS, gd, opEff, LArg.ev, app_val, app_new, app_upd, app_kill, putV, ins, get, binV, binI, grd, bnd, ldCells, AV.cells, AV.scalar, AV.known, setAt, fillL, chunks, elems, mxI, mnI, del, Nat.add_assoc, nlt_self, nne_self, nne_self', List.take_of_length_le]; rfl
                apply LWP_run
                · simp -implicitDefEqProofs [stepsS, stepS, gd, opEff, LArg.ev, app_val, app_new, app_upd, app_kill, putV, ins, get, binV, binI, grd, bnd, ldCells, AV.cells, AV.scalar, AV.known, setAt, fillL, chunks, elems, mxI, mnI, del, Nat.add_assoc, nlt_self, nne_self, nne_self', List.take_of_length_le]; rfl
                have hs : rowSt pad rs[i] (j + 1) = ((j : Int), (rowSt pad rs[i] j).2) := by simp [rowSt, gc, he', hp']
                refine ⟨(j + 1, c, ny), ⟨gc, by simp only; omega⟩, by simp only; omega, ?_⟩
                refine .mk2 ?_ ?_ ?_
                · simp [leV, get, wkV.refl, encR, wrap_succ (n := j) (by omega), hs]
                · simp [leH, get, encR, wrap_succ (n := j) (by omega), hs] <;> rfl
                · simp
          · have gc' : j = rs[i].length := by have : ¬ j < rs[i].length := by simpa using gc
                                              omega
            subst gc'
            apply LWP_run
            · simp -implicitDefEqProofs [stepsS, stepS, gd, opEff, LArg.ev, app_val, app_new, app_upd, app_kill, putV, ins, get, binV, binI, grd, bnd, ldCells, AV.cells, AV.scalar, AV.known, setAt, fillL, chunks, elems, mxI, mnI, del, Nat.add_assoc, nlt_self, nne_self, nne_self', List.take_of_length_le]; rfl
            refine ⟨(i + 1, c, ny), ⟨hc, by simp only; omega⟩, by simp only; omega, ?_⟩
            refine .mk2 ?_ ?_ ?_
            · simp [leV, get, wkV.refl, encR, wrap_succ (n := i) (by omega), accL_succ hc, rowL]
            · simp [leH, get, encR, wrap_succ (n := i) (by omega), accL_succ hc, rowL] <;> rfl
            · simp
        · have hc' : i = rs.length := by have : ¬ i < rs.length := by simpa using hc
                                         omega
          subst hc'
          refine LWP_seq ?_
          apply LWP_run
          · simp -implicitDefEqProofs [stepsS, stepS, gd, opEff, LArg.ev, app_val, app_new, app_upd, app_kill, putV, ins, get, binV, binI, grd, bnd, ldCells, AV.cells, AV.scalar, AV.known, setAt, fillL, chunks, elems, mxI, mnI, del, Nat.add_assoc, nlt_self, nne_self, nne_self', List.take_of_length_le]; rfl
          refine LWP_frz b (sz := 3) (es := (accL pad rs rs.length).map Rd.e) (by simp [get]) ?_
          refine LWP_ret ?_
          show ∃ vs, resV _ _ = some vs ∧ wkV (retV vs) _
          refine ⟨_, rfl, ?_⟩
          simp [retV, wkV.refl, ST.frz, mapS, frzV, rodsA, List.take_of_length_le]
  · have hf' : fitsL rs = false := by simpa using hf
    apply rgnS_pre 99
    · simp -implicitDefEqProofs [stepsS, stepS, gd, opEff, LArg.ev, app_val, app_new, app_upd, app_kill, putV, ins, get, binV, binI, grd, bnd, ldCells, AV.cells, AV.scalar, AV.known, setAt, fillL, chunks, elems, mxI, mnI, del, Nat.add_assoc, nlt_self, nne_self, nne_self', List.take_of_length_le, hf']; rfl
    refine hK _ ?_; clear hK
    refine LWP_cond (t := true) (by simp [LArg.ev, get]) (fun _ => ?_) (fun hw => by cases hw)
    refine LWP_seq ?_
    apply LWP_run
    · simp -implicitDefEqProofs [stepsS, stepS, gd, opEff, LArg.ev, app_val, app_new, app_upd, app_kill, putV, ins, get, binV, binI, grd, bnd, ldCells, AV.cells, AV.scalar, AV.known, setAt, fillL, chunks, elems, mxI, mnI, del, Nat.add_assoc, nlt_self, nne_self, nne_self', List.take_of_length_le]; rfl
    refine LWP_ret ?_
    show ∃ vs, resV _ _ = some vs ∧ wkV (retV vs) _
    exact ⟨_, rfl, bad (by simp [rodsV, hf'])⟩
end Go.AM.Rod
