/- A part of a proof about the given program: what its name says. No premise beyond the statements'. -/
import Derived.Test.YteiapnjcelnfdaaRodF
set_option linter.unusedSimpArgs false
set_option linter.unusedVariables false
namespace Go.AM.Rod
open Go.AM

set_option maxRecDepth 100000 in
theorem heads_run : (callX tbl (exec tbl 500) 9 [] ⟨[], [], 0⟩).map (fun p => p.1) = some (.bool true) := by kernel_rfl

theorem heads_ok : ACalls Go.Proofs.Try.prog 9 [] [] 0 (fun r _ _ => r = .bool true) := by
  have h := heads_run
  simp only [Option.map_eq_some_iff] at h
  obtain ⟨⟨r, S'⟩, h1, h2⟩ := h
  simp only at h2
  subst h2
  exact (ACalls_of_exec tbl_ok h1).mono fun r H n h => h.1

theorem few_len {rs : List (List Ext)} (h : fewL rs = true) : rs.length ≤ 20 ∧ ∀ r ∈ rs, r.length ≤ 60 := by
  simp only [fewL, Bool.and_eq_true, decide_eq_true_eq, List.all_eq_true] at h
  exact h

theorem cl_rng (d : Int) : wi (cl d) 1 1073741824 = true := by
  simp only [wi, Bool.and_eq_true, decide_eq_true_eq]
  by_cases h1 : d < 1073741824 <;> by_cases h2 : 1 < d <;> simp [cl, h1, h2] <;> omega

theorem rowSt_rods (pad : Int) (r : List Ext) : ∀ i, ∀ x ∈ (rowSt pad r i).2, 0 ≤ x.f ∧ x.f < x.t ∧ x.t < i ∧ wi x.d 1 1073741824 = true
  | 0 => by simp [rowSt]
  | i + 1 => by
    have ih := rowSt_rods pad r i
    have hl := rowSt_len pad r i
    intro x hx
    simp only [rowSt] at hx
    split at hx
    · simp only at hx
      split at hx
      · rcases List.mem_append.1 hx with h | h
        · have := ih x h; exact ⟨this.1, this.2.1, by omega, this.2.2.2⟩
        · simp only [List.mem_singleton] at h
          subst h
          exact ⟨by simp only; omega, by simp only; omega, by simp only; omega, cl_rng _⟩
      · have := ih x hx; exact ⟨this.1, this.2.1, by omega, this.2.2.2⟩
    · have := ih x hx; exact ⟨this.1, this.2.1, by omega, this.2.2.2⟩

theorem accL_rods (pad : Int) (rs : List (List Ext)) (i : Nat) {n : Nat} (hn : ∀ r ∈ rs, r.length = n) : ∀ x ∈ accL pad rs i, 0 ≤ x.f ∧ x.f < x.t ∧ x.t < n ∧ wi x.d 1 1073741824 = true := by
  intro x hx
  simp only [accL, List.mem_flatten, List.mem_map] at hx
  obtain ⟨l, ⟨r, hr, rfl⟩, hx⟩ := hx
  have h := rowSt_rods pad r r.length x hx
  have := hn r (List.mem_of_mem_take hr)
  rw [this] at h
  exact h

theorem chk_rods {pad : Int} {rs : List (List Ext)} (hf : fewL rs = true) (h0 : 0 < rs.length) (hv : (rodsV pad rs).2 = 0) : chkL (rodsV pad rs).1 rs[0].length = true := by
  obtain ⟨m1, m2⟩ := few_len hf
  have hfit : fitsL rs = true := by
    cases hc : fitsL rs with
    | true => rfl
    | false => simp [rodsV, hc] at hv
  have hw : wi pad 0 1048576 = true := by
    cases hc : wi pad 0 1048576 with
    | true => rfl
    | false => simp [rodsV, hc] at hv
  have he : (rodsV pad rs).1 = accL pad rs rs.length := by simp [rodsV, hfit, hw]
  have hn : ∀ r ∈ rs, r.length = rs[0].length := fun r hr => by
    simp only [fitsL, Bool.and_eq_true, decide_eq_true_eq, List.all_eq_true] at hfit
    have := hfit.2 r hr
    simp only [fitsR, Bool.and_eq_true, decide_eq_true_eq] at this
    rw [this.2.1]
    simp [h0]
  have hl := accL_len (pad := pad) m2 rs.length (Nat.le_refl _)
  have h60 := m2 rs[0] (by simp)
  rw [he]
  simp only [chkL, Bool.and_eq_true, decide_eq_true_eq, List.all_eq_true]
  refine ⟨by simp [wi]; omega, ?_, fun x hx => ?_⟩
  · have : rs.length * 60 ≤ 20 * 60 := Nat.mul_le_mul_right _ m1
    omega
  · obtain ⟨k1, k2, k3, k4⟩ := accL_rods pad rs rs.length hn x hx
    simp [okRd, k4]
    omega

theorem rodRods_ok (rs : List (List Ext)) (pad : Int) : ACalls Go.Proofs.Try.prog 3 [encR rs, .int .i64 pad] [] 0 (fun r _ _ => r = .bool true) := by
  refine pure_body ok3 rfl ?_
  simp only [parV]
  refine LWP_seq ?_
  apply LWP_run
  · simp -implicitDefEqProofs [stepsS, stepS, gd, opEff, LArg.ev, app_val, app_new, app_upd, app_kill, putV, ins, get, binV, binI, grd, bnd, ldCells, AV.cells, AV.scalar, AV.known, setAt, fillL, chunks, elems, mxI, mnI, del, Nat.add_assoc, nlt_self, nne_self, nne_self', List.take_of_length_le]; rfl
  refine LWP_seq (LWP_seq (LWP_reg fun K hK => ?_))
  apply rgnS_pre 1
  · simp -implicitDefEqProofs [stepsS, stepS, gd, opEff, LArg.ev, app_val, app_new, app_upd, app_kill, putV, ins, get, binV, binI, grd, bnd, ldCells, AV.cells, AV.scalar, AV.known, setAt, fillL, chunks, elems, mxI, mnI, del, Nat.add_assoc, nlt_self, nne_self, nne_self', List.take_of_length_le]; rfl
  refine rgnS_call (few_ok rs) rfl rfl (by simp [pureL, AV.pure, pure_encR]) (by simp [AV.pure, pure_encR]) (by simp [gd, get, LArg.ev]) ?_
  apply rgnS_pre 99
  · simp -implicitDefEqProofs [stepsS, stepS, gd, opEff, LArg.ev, app_val, app_new, app_upd, app_kill, putV, ins, get, binV, binI, grd, bnd, ldCells, AV.cells, AV.scalar, AV.known, setAt, fillL, chunks, elems, mxI, mnI, del, Nat.add_assoc, nlt_self, nne_self, nne_self', List.take_of_length_le]; rfl
  refine hK _ ?_; clear hK
  refine LWP_cond (t := !fewL rs) (by simp [LArg.ev, get]) (fun h => ?_) (fun h => LWP_skip ?_)
  · refine LWP_seq (LWP_reg fun K hK => ?_)
    refine rgnS_call heads_ok rfl rfl (by simp [pureL, AV.pure]) (by simp [AV.pure]) (by simp [gd, get, LArg.ev]) ?_
    apply rgnS_pre 99
    · simp -implicitDefEqProofs [stepsS, stepS, gd, opEff, LArg.ev, app_val, app_new, app_upd, app_kill, putV, ins, get, binV, binI, grd, bnd, ldCells, AV.cells, AV.scalar, AV.known, setAt, fillL, chunks, elems, mxI, mnI, del, Nat.add_assoc, nlt_self, nne_self, nne_self', List.take_of_length_le]; rfl
    refine hK _ ?_; clear hK
    refine LWP_ret ?_
    show ∃ vs, resV _ _ = some vs ∧ wkV (retV vs) _
    refine ⟨_, rfl, ?_⟩
    simp [retV, wkV.refl]
  have hf : fewL rs = true := by simpa using h
  obtain ⟨m1, m2⟩ := few_len hf
  have hl : rs.length < 2 ^ 60 := by omega
  have hl2 : ∀ r ∈ rs, r.length < 2 ^ 60 := fun r hr => by have := m2 r hr; omega
  have hlen : (rodsV pad rs).1.length < 2 ^ 60 := by
    have h1 := accL_len (pad := pad) m2 rs.length (Nat.le_refl _)
    have h2 : rs.length * 60 ≤ 20 * 60 := Nat.mul_le_mul_right _ m1
    simp only [rodsV]
    cases (fitsL rs && wi pad 0 1048576) with
    | true => simp only [cond_true]; omega
    | false => simp
  refine LWP_seq (LWP_reg fun K hK => ?_)
  apply rgnS_pre 2
  · simp -implicitDefEqProofs [stepsS, stepS, gd, opEff, LArg.ev, app_val, app_new, app_upd, app_kill, putV, ins, get, binV, binI, grd, bnd, ldCells, AV.cells, AV.scalar, AV.known, setAt, fillL, chunks, elems, mxI, mnI, del, Nat.add_assoc, nlt_self, nne_self, nne_self', List.take_of_length_le]; rfl
  refine rgnS_call (rods_ok rs pad hl hl2) rfl rfl (by simp [pureL, AV.pure, pure_encR, rodsA, pureL, pure_rd]) (by simp [AV.pure, pure_encR, rodsA, pureL, pure_rd]) (by simp [gd, get, LArg.ev]) ?_
  apply rgnS_pre 99
  · simp -implicitDefEqProofs [stepsS, stepS, gd, opEff, LArg.ev, app_val, app_new, app_upd, app_kill, putV, ins, get, binV, binI, grd, bnd, ldCells, AV.cells, AV.scalar, AV.known, setAt, fillL, chunks, elems, mxI, mnI, del, Nat.add_assoc, nlt_self, nne_self, nne_self', List.take_of_length_le, rodsA]; rfl
  refine hK _ ?_; clear hK
  refine LWP_seq (LWP_reg fun K hK => ?_)
  apply rgnS_pre 2
  · simp -implicitDefEqProofs [stepsS, stepS, gd, opEff, LArg.ev, app_val, app_new, app_upd, app_kill, putV, ins, get, binV, binI, grd, bnd, ldCells, AV.cells, AV.scalar, AV.known, setAt, fillL, chunks, elems, mxI, mnI, del, Nat.add_assoc, nlt_self, nne_self, nne_self', List.take_of_length_le]; rfl
  refine rgnS_call (rrods_ok rs pad hl hl2) rfl rfl (by simp [pureL, AV.pure, pure_encR, rodsA, pureL, pure_rd]) (by simp [AV.pure, pure_encR, rodsA, pureL, pure_rd]) (by simp [gd, get, LArg.ev]) ?_
  apply rgnS_pre 99
  · simp -implicitDefEqProofs [stepsS, stepS, gd, opEff, LArg.ev, app_val, app_new, app_upd, app_kill, putV, ins, get, binV, binI, grd, bnd, ldCells, AV.cells, AV.scalar, AV.known, setAt, fillL, chunks, elems, mxI, mnI, del, Nat.add_assoc, nlt_self, nne_self, nne_self', List.take_of_length_le, rodsA]; rfl
  refine hK _ ?_; clear hK
  refine LWP_seq (LWP_reg fun K hK => ?_)
  apply rgnS_pre 2
  · simp -implicitDefEqProofs [stepsS, stepS, gd, opEff, LArg.ev, app_val, app_new, app_upd, app_kill, putV, ins, get, binV, binI, grd, bnd, ldCells, AV.cells, AV.scalar, AV.known, setAt, fillL, chunks, elems, mxI, mnI, del, Nat.add_assoc, nlt_self, nne_self, nne_self', List.take_of_length_le]; rfl
  refine rgnS_call (same_ok _ _ hlen) rfl rfl (by simp [pureL, AV.pure, pure_rd]) (by simp [AV.pure, pure_rd]) (by simp [gd, get, LArg.ev]) ?_
  have hs : sameL (rodsV pad rs).1 (rodsV pad rs).1 = true := (sameL_iff _ _).2 rfl
  by_cases h2 : (rodsV pad rs).2 = 0
  · by_cases h0 : 0 < rs.length
    · have hz : ((rs.length : Int) == 0) = false := beq_false_of_ne (by omega)
      apply rgnS_pre 19
      · simp -implicitDefEqProofs [stepsS, stepS, gd, opEff, LArg.ev, app_val, app_new, app_upd, app_kill, putV, ins, get, binV, binI, grd, bnd, ldCells, AV.cells, AV.scalar, AV.known, setAt, fillL, chunks, elems, mxI, mnI, del, Nat.add_assoc, nlt_self, nne_self, nne_self', List.take_of_length_le, hs, h2, h0, encR, hz]; rfl
      refine rgnS_call (check_ok _ _ hlen) rfl rfl (by simp [pureL, AV.pure, pure_rd]) (by simp [AV.pure, pure_rd]) (by simp [gd, get, LArg.ev]) ?_
      apply rgnS_pre 3
      · simp -implicitDefEqProofs [stepsS, stepS, gd, opEff, LArg.ev, app_val, app_new, app_upd, app_kill, putV, ins, get, binV, binI, grd, bnd, ldCells, AV.cells, AV.scalar, AV.known, setAt, fillL, chunks, elems, mxI, mnI, del, Nat.add_assoc, nlt_self, nne_self, nne_self', List.take_of_length_le, chk_rods hf h0 h2]; rfl
      refine rgnS_call heads_ok rfl rfl (by simp [pureL, AV.pure]) (by simp [AV.pure]) (by simp [gd, get, LArg.ev]) ?_
      apply rgnS_pre 99
      · simp -implicitDefEqProofs [stepsS, stepS, gd, opEff, LArg.ev, app_val, app_new, app_upd, app_kill, putV, ins, get, binV, binI, grd, bnd, ldCells, AV.cells, AV.scalar, AV.known, setAt, fillL, chunks, elems, mxI, mnI, del, Nat.add_assoc, nlt_self, nne_self, nne_self', List.take_of_length_le]; rfl
      refine hK _ ?_; clear hK
      refine LWP_ret ?_
      show ∃ vs, resV _ _ = some vs ∧ wkV (retV vs) _
      refine ⟨_, rfl, ?_⟩
      simp [retV, wkV.refl]
    · have h00 : rs = [] := by cases rs with
        | nil => rfl
        | cons a l => simp at h0
      subst h00
      apply rgnS_pre 23
      · simp -implicitDefEqProofs [stepsS, stepS, gd, opEff, LArg.ev, app_val, app_new, app_upd, app_kill, putV, ins, get, binV, binI, grd, bnd, ldCells, AV.cells, AV.scalar, AV.known, setAt, fillL, chunks, elems, mxI, mnI, del, Nat.add_assoc, nlt_self, nne_self, nne_self', List.take_of_length_le, hs, h2, encR]; rfl
      refine rgnS_call heads_ok rfl rfl (by simp [pureL, AV.pure]) (by simp [AV.pure]) (by simp [gd, get, LArg.ev]) ?_
      apply rgnS_pre 99
      · simp -implicitDefEqProofs [stepsS, stepS, gd, opEff, LArg.ev, app_val, app_new, app_upd, app_kill, putV, ins, get, binV, binI, grd, bnd, ldCells, AV.cells, AV.scalar, AV.known, setAt, fillL, chunks, elems, mxI, mnI, del, Nat.add_assoc, nlt_self, nne_self, nne_self', List.take_of_length_le]; rfl
      refine hK _ ?_; clear hK
      refine LWP_ret ?_
      show ∃ vs, resV _ _ = some vs ∧ wkV (retV vs) _
      refine ⟨_, rfl, ?_⟩
      simp [retV, wkV.refl]
  · have hz : ((rodsV pad rs).2 != 0) = true := bne_iff_ne.2 h2
    apply rgnS_pre 23
    · simp -implicitDefEqProofs [stepsS, stepS, gd, opEff, LArg.ev, app_val, app_new, app_upd, app_kill, putV, ins, get, binV, binI, grd, bnd, ldCells, AV.cells, AV.scalar, AV.known, setAt, fillL, chunks, elems, mxI, mnI, del, Nat.add_assoc, nlt_self, nne_self, nne_self', List.take_of_length_le, hs, hz]; rfl
    refine rgnS_call heads_ok rfl rfl (by simp [pureL, AV.pure]) (by simp [AV.pure]) (by simp [gd, get, LArg.ev]) ?_
    apply rgnS_pre 99
    · simp -implicitDefEqProofs [stepsS, stepS, gd, opEff, LArg.ev, app_val, app_new, app_upd, app_kill, putV, ins, get, binV, binI, grd, bnd, ldCells, AV.cells, AV.scalar, AV.known, setAt, fillL, chunks, elems, mxI, mnI, del, Nat.add_assoc, nlt_self, nne_self, nne_self', List.take_of_length_le]; rfl
    refine hK _ ?_; clear hK
    refine LWP_ret ?_
    show ∃ vs, resV _ _ = some vs ∧ wkV (retV vs) _
    refine ⟨_, rfl, ?_⟩
    simp [retV, wkV.refl]
end Go.AM.Rod
