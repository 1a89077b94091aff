/- A part of a proof about the given program: what its name says. No premise beyond the statements'. -/
import Derived.Test.YteiapnjcelnfdaaRodB
set_option linter.unusedSimpArgs false
set_option linter.unusedVariables false
namespace Go.AM.Rod
open Go.AM

def accL (pad : Int) (rs : List (List Ext)) (i : Nat) : List Rd := ((rs.take i).map (rowL pad)).flatten

theorem accL_succ {pad : Int} {rs : List (List Ext)} {i : Nat} (h : i < rs.length) : accL pad rs (i + 1) = accL pad rs i ++ rowL pad rs[i] := by
  simp only [accL]
  rw [List.take_succ_eq_append_getElem h, List.map_append, List.flatten_append]
  simp only [List.map_cons, List.map_nil, List.flatten_cons, List.flatten_nil, List.append_nil]
theorem accL_len {pad : Int} {rs : List (List Ext)} {M : Nat} (hM : ∀ r ∈ rs, r.length ≤ M) : ∀ i, i ≤ rs.length → (accL pad rs i).length ≤ i * M
  | 0, _ => by simp [accL]
  | i + 1, h => by
    rw [accL_succ (by omega), List.length_append]
    have h1 := accL_len (pad := pad) hM i (by omega)
    have h2 := (rowSt_len pad rs[i] rs[i].length).1
    have h3 := hM rs[i] (by simp)
    have h4 : (rowL pad rs[i]).length ≤ rs[i].length := h2
    have h5 : (i + 1) * M = i * M + M := by rw [Nat.add_mul]; omega
    omega

theorem fits_len {rs : List (List Ext)} (h : fitsL rs = true) : rs.length ≤ 100 ∧ ∀ r ∈ rs, r.length ≤ 4096 := by
  simp only [fitsL, Bool.and_eq_true, decide_eq_true_eq, List.all_eq_true] at h
  refine ⟨h.1, fun r hr => ?_⟩
  have := h.2 r hr
  simp only [fitsR, Bool.and_eq_true, decide_eq_true_eq] at this
  exact this.1

def rodsV (pad : Int) (rs : List (List Ext)) : List Rd × Int := bif fitsL rs && wi pad 0 1048576 then (accL pad rs rs.length, 0) else ([], 2)

def rodsA (p : List Rd × Int) : AV := .tup [.tsl 3 (p.1.map Rd.e), .int .i64 p.2]

theorem pure_encR (rs : List (List Ext)) : (encR rs).pure = true := by simp [encR, AV.pure, pure_rows]

theorem rods_ok (rs : List (List Ext)) (pad : Int) (hl : rs.length < 2 ^ 60) (hl2 : ∀ r ∈ rs, r.length < 2 ^ 60) : ACalls Go.Proofs.Try.prog 10 [encR rs, .int .i64 pad] [] 0 (fun x _ _ => x = rodsA (rodsV pad rs)) := by
  refine pure_body ok10 rfl ?_
  simp only [parV]
  refine LWP_seq ?_
  apply LWP_run
  · simp -implicitDefEqProofs [stepsS, stepS, gd, opEff, LArg.ev, app_val, app_new, app_upd, app_kill, putV, ins, get, binV, binI, grd, bnd, ldCells, AV.cells, AV.scalar, AV.known, setAt, fillL, chunks, elems, mxI, mnI, del, Nat.add_assoc, nlt_self, nne_self, nne_self', List.take_of_length_le]; rfl
  refine LWP_seq (LWP_seq (LWP_reg fun K hK => ?_))
  apply rgnS_pre 1
  · simp -implicitDefEqProofs [stepsS, stepS, gd, opEff, LArg.ev, app_val, app_new, app_upd, app_kill, putV, ins, get, binV, binI, grd, bnd, ldCells, AV.cells, AV.scalar, AV.known, setAt, fillL, chunks, elems, mxI, mnI, del, Nat.add_assoc, nlt_self, nne_self, nne_self', List.take_of_length_le]; rfl
  refine rgnS_call (fits_ok rs hl hl2) rfl rfl (by simp [pureL, AV.pure, pure_encR]) (by simp [AV.pure, pure_encR]) (by simp [gd, get, LArg.ev]) ?_
  by_cases hf : fitsL rs = true
  · apply rgnS_pre 3
    · simp -implicitDefEqProofs [stepsS, stepS, gd, opEff, LArg.ev, app_val, app_new, app_upd, app_kill, putV, ins, get, binV, binI, grd, bnd, ldCells, AV.cells, AV.scalar, AV.known, setAt, fillL, chunks, elems, mxI, mnI, del, Nat.add_assoc, nlt_self, nne_self, nne_self', List.take_of_length_le, hf]; rfl
    refine rgnS_call (within_ok _ _ _) rfl rfl (by simp [pureL, AV.pure]) (by simp [AV.pure]) (by simp [gd, get, LArg.ev]) ?_
    apply rgnS_pre 99
    · simp -implicitDefEqProofs [stepsS, stepS, gd, opEff, LArg.ev, app_val, app_new, app_upd, app_kill, putV, ins, get, binV, binI, grd, bnd, ldCells, AV.cells, AV.scalar, AV.known, setAt, fillL, chunks, elems, mxI, mnI, del, Nat.add_assoc, nlt_self, nne_self, nne_self', List.take_of_length_le]; rfl
    refine hK _ ?_; clear hK
    refine LWP_cond (t := !wi pad 0 1048576) (by simp [LArg.ev, get]) (fun hw => ?_) (fun hw => LWP_skip ?_)
    · refine LWP_seq ?_
      apply LWP_run
      · simp -implicitDefEqProofs [stepsS, stepS, gd, opEff, LArg.ev, app_val, app_new, app_upd, app_kill, putV, ins, get, binV, binI, grd, bnd, ldCells, AV.cells, AV.scalar, AV.known, setAt, fillL, chunks, elems, mxI, mnI, del, Nat.add_assoc, nlt_self, nne_self, nne_self', List.take_of_length_le]; rfl
      have hv : rodsV pad rs = ([], 2) := by simp at hw; simp [rodsV, hw]
      rw [hv]
      refine LWP_ret ?_
      show ∃ vs, resV _ _ = some vs ∧ wkV (retV vs) _
      exact ⟨_, rfl, wkV.tup2 (.nils 3) (.refl _)⟩
    · have hv : rodsV pad rs = (accL pad rs rs.length, 0) := by simp at hw; simp [rodsV, hw, hf]
      rw [hv]
      obtain ⟨m1, m2⟩ := fits_len hf
      refine LWP_seq ?_
      apply LWP_run
      · simp -implicitDefEqProofs [stepsS, stepS, gd, opEff, LArg.ev, app_val, app_new, app_upd, app_kill, putV, ins, get, binV, binI, grd, bnd, ldCells, AV.cells, AV.scalar, AV.known, setAt, fillL, chunks, elems, mxI, mnI, del, Nat.add_assoc, nlt_self, nne_self, nne_self', List.take_of_length_le]; rfl
      refine LWP_seq (LWP_seq ?_)
      apply LWP_run
      · simp -implicitDefEqProofs [stepsS, stepS, gd, opEff, LArg.ev, app_val, app_new, app_upd, app_kill, putV, ins, get, binV, binI, grd, bnd, ldCells, AV.cells, AV.scalar, AV.known, setAt, fillL, chunks, elems, mxI, mnI, del, Nat.add_assoc, nlt_self, nne_self, nne_self', List.take_of_length_le, encR]; rfl
      refine LWP_block (LWP_inv (fun q : Nat × Nat × Nat => ⟨[(0, encR rs), (1, .int .i64 pad), (6, .sl 3 q.2.1 0 (accL pad rs q.1).length), (17, encR rs), (18, .int .i64 rs.length), (19, .int .i64 q.1)], [(q.2.1, .rows 3 ((accL pad rs q.1).map Rd.e))], q.2.2⟩) (fun q => rs.length - q.1) (fun q => q.1 ≤ rs.length ∧ q.2.1 < q.2.2) (0, 0, 1) ?_ ⟨Nat.zero_le _, by simp⟩ ?_)
      · refine .mk2 ?_ ?_ ?_
        · simp [leV, get, wkV.refl, accL, encR]
        · simp [leH, get, accL, encR] <;> rfl
        · simp
      rintro ⟨i, b, nx⟩ ⟨h1, hb⟩
      simp only at h1 hb ⊢
      have hb1 : ¬ nx < b := by omega
      have hb2 : ¬ nx = b := by omega
      have hb3 : ¬ b = nx := by omega
      have k1 := accL_len (pad := pad) m2 i h1
      refine LWP_seq ?_
      apply LWP_run
      · simp -implicitDefEqProofs [stepsS, stepS, gd, opEff, LArg.ev, app_val, app_new, app_upd, app_kill, putV, ins, get, binV, binI, grd, bnd, ldCells, AV.cells, AV.scalar, AV.known, setAt, fillL, chunks, elems, mxI, mnI, del, Nat.add_assoc, nlt_self, nne_self, nne_self', List.take_of_length_le]; rfl
      refine LWP_seq (LWP_cond (t := decide (i < rs.length)) (by simp [LArg.ev, get]) (fun hc => LWP_skip ?_) (fun hc => LWP_exit ?_))
      · simp only [decide_eq_true_eq] at hc
        have hr := m2 rs[i] (by simp)
        refine LWP_seq (LWP_block (LWP_seq ?_))
        apply LWP_run
        · simp -implicitDefEqProofs [stepsS, stepS, gd, opEff, LArg.ev, app_val, app_new, app_upd, app_kill, putV, ins, get, binV, binI, grd, bnd, ldCells, AV.cells, AV.scalar, AV.known, setAt, fillL, chunks, elems, mxI, mnI, del, Nat.add_assoc, nlt_self, nne_self, nne_self', List.take_of_length_le, encR, hc, hb1, hb2, hb3]; rfl
        refine LWP_reg fun K hK => ?_
        apply rgnS_pre 3
        · simp -implicitDefEqProofs [stepsS, stepS, gd, opEff, LArg.ev, app_val, app_new, app_upd, app_kill, putV, ins, get, binV, binI, grd, bnd, ldCells, AV.cells, AV.scalar, AV.known, setAt, fillL, chunks, elems, mxI, mnI, del, Nat.add_assoc, nlt_self, nne_self, nne_self', List.take_of_length_le]; rfl
        refine rgnS_call (row_ok rs[i] pad (by omega)) rfl rfl (by simp [pureL, AV.pure, pure_ext, pure_rd]) (by simp [AV.pure, pure_ext, pure_rd]) (by simp [gd, get, LArg.ev]) ?_
        have k2 := (rowSt_len pad rs[i] rs[i].length).1
        have k3 : (rowL pad rs[i]).length ≤ rs[i].length := k2
        have hq : ((accL pad rs i).length + (rowL pad rs[i]).length) * 24 ≤ 17592186044416 := by
          have : i * 4096 ≤ 100 * 4096 := Nat.mul_le_mul_right _ (by omega)
          omega
        apply rgnS_pre 99
        · simp -implicitDefEqProofs [stepsS, stepS, gd, opEff, LArg.ev, app_val, app_new, app_upd, app_kill, putV, ins, get, binV, binI, grd, bnd, ldCells, AV.cells, AV.scalar, AV.known, setAt, fillL, chunks, elems, mxI, mnI, del, Nat.add_assoc, nlt_self, nne_self, nne_self', List.take_of_length_le, hq, hb1, hb2, hb3]; rfl
        refine hK _ ?_; clear hK
        apply LWP_run
        · simp -implicitDefEqProofs [stepsS, stepS, gd, opEff, LArg.ev, app_val, app_new, app_upd, app_kill, putV, ins, get, binV, binI, grd, bnd, ldCells, AV.cells, AV.scalar, AV.known, setAt, fillL, chunks, elems, mxI, mnI, del, Nat.add_assoc, nlt_self, nne_self, nne_self', List.take_of_length_le]; rfl
        refine ⟨(i + 1, nx, nx + 1), ⟨hc, by simp only; omega⟩, by simp only; omega, ?_⟩
        refine .mk2 ?_ ?_ ?_
        · simp [leV, get, wkV.refl, wrap_succ (n := i) (by omega), accL_succ hc, encR, List.take_of_length_le]
        · simp [leH, get, wrap_succ (n := i) (by omega), accL_succ hc, encR, List.take_of_length_le] <;> rfl
        · simp
      · have hc' : i = rs.length := by have : ¬ i < rs.length := by simpa using hc
                                       omega
        subst hc'
        refine LWP_seq ?_
        apply LWP_run
        · simp -implicitDefEqProofs [stepsS, stepS, gd, opEff, LArg.ev, app_val, app_new, app_upd, app_kill, putV, ins, get, binV, binI, grd, bnd, ldCells, AV.cells, AV.scalar, AV.known, setAt, fillL, chunks, elems, mxI, mnI, del, Nat.add_assoc, nlt_self, nne_self, nne_self', List.take_of_length_le]; rfl
        refine LWP_frz b (sz := 3) (es := (accL pad rs rs.length).map Rd.e) (by simp [get]) ?_
        refine LWP_ret ?_
        show ∃ vs, resV _ _ = some vs ∧ wkV (retV vs) _
        refine ⟨_, rfl, ?_⟩
        simp [retV, wkV.refl, ST.frz, mapS, frzV, rodsA, List.take_of_length_le]
  · have hf' : fitsL rs = false := by simpa using hf
    apply rgnS_pre 99
    · simp -implicitDefEqProofs [stepsS, stepS, gd, opEff, LArg.ev, app_val, app_new, app_upd, app_kill, putV, ins, get, binV, binI, grd, bnd, ldCells, AV.cells, AV.scalar, AV.known, setAt, fillL, chunks, elems, mxI, mnI, del, Nat.add_assoc, nlt_self, nne_self, nne_self', List.take_of_length_le, hf']; rfl
    refine hK _ ?_; clear hK
    refine LWP_cond (t := true) (by simp [LArg.ev, get]) (fun _ => ?_) (fun hw => by cases hw)
    refine LWP_seq ?_
    apply LWP_run
    · simp -implicitDefEqProofs [stepsS, stepS, gd, opEff, LArg.ev, app_val, app_new, app_upd, app_kill, putV, ins, get, binV, binI, grd, bnd, ldCells, AV.cells, AV.scalar, AV.known, setAt, fillL, chunks, elems, mxI, mnI, del, Nat.add_assoc, nlt_self, nne_self, nne_self', List.take_of_length_le]; rfl
    have hv : rodsV pad rs = ([], 2) := by simp [rodsV, hf']
    rw [hv]
    refine LWP_ret ?_
    show ∃ vs, resV _ _ = some vs ∧ wkV (retV vs) _
    exact ⟨_, rfl, wkV.tup2 (.nils 3) (.refl _)⟩
end Go.AM.Rod
