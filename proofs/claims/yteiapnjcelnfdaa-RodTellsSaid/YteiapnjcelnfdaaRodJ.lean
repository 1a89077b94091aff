/- A part of a proof about the given program: what its name says. No premise beyond the statements'. -/
import Derived.Test.YteiapnjcelnfdaaRodI
set_option linter.unusedSimpArgs false
set_option linter.unusedVariables false
namespace Go.AM.Rod
open Go.AM

/-- A rod that is laid stays. -/
theorem rowSt_mono (pad : Int) (r : List Ext) {x : Rd} : ∀ (i j : Nat), i ≤ j → x ∈ (rowSt pad r i).2 → x ∈ (rowSt pad r j).2
  | i, 0, h, hx => by have : i = 0 := by omega
                      subst this; exact hx
  | i, j + 1, h, hx => by
    by_cases hij : i = j + 1
    · subst hij; exact hx
    · have ih := rowSt_mono pad r i j (by omega) hx
      simp only [rowSt]
      split
      · simp only
        split
        · exact List.mem_append_left _ ih
        · exact ih
      · exact ih

/-- The rod that a column lays. -/
theorem rowSt_has {pad : Int} {r : List Ext} {i : Nat} (hi : i < r.length) (hon : r[i].on = true) (h0 : 0 ≤ (rowSt pad r i).1) :
    (⟨(rowSt pad r i).1, i, cl (dOf (r.getD (rowSt pad r i).1.toNat ⟨false, 0, 0⟩).r r[i].l pad)⟩ : Rd) ∈ rowL pad r := by
  refine rowSt_mono pad r (i + 1) r.length hi ?_
  simp [rowSt, hi, hon, h0]

theorem accL_has {pad : Int} {rs : List (List Ext)} {i : Nat} (hi : i < rs.length) {x : Rd} (hx : x ∈ rowL pad rs[i]) : x ∈ accL pad rs rs.length := by
  simp only [accL, List.mem_flatten, List.mem_map]
  exact ⟨_, ⟨rs[i], by simp, rfl⟩, hx⟩

theorem cl_le {d : Int} (h : d ≤ 1073741824) : d ≤ cl d := by
  by_cases h1 : d < 1073741824 <;> by_cases h2 : 1 < d <;> simp [cl, h1, h2] <;> omega

theorem okE_rng {x : Ext} (h : okE x = true) : -1073741824 ≤ x.l ∧ x.l ≤ 1073741824 ∧ -1073741824 ≤ x.r ∧ x.r ≤ 1073741824 := by
  simp [okE, wi] at h
  omega

theorem fits_okE {rs : List (List Ext)} (h : fitsL rs = true) : ∀ r ∈ rs, ∀ x ∈ r, okE x = true := by
  simp only [fitsL, Bool.and_eq_true, decide_eq_true_eq, List.all_eq_true] at h
  intro r hr x hx
  have := h.2 r hr
  simp only [fitsR, Bool.and_eq_true, decide_eq_true_eq, List.all_eq_true] at this
  exact this.2.2 x hx

/-- Where rods hold, what stands in one row does not meet. -/
theorem apart_law {rs : List (List Ext)} {pad : Int} {xs : List Int} (hfit : fitsL rs = true) (hp : wi pad 0 1048576 = true) (hh : holdsL (accL pad rs rs.length) xs = true) {i k : Nat} (hi : i < rs.length) (hk : k < rs[i].length)
    (hon : rs[i][k].on = true) (h0 : 0 ≤ (rowSt pad rs[i] k).1) (hlen : xs.length = rs[i].length) {a : Nat} (ha : a = (rowSt pad rs[i] k).1.toNat) (hlt : a < rs[i].length)
    (hd : rs[i][a].r - rs[i][k].l + pad ≤ 1073741824) :
    pad ≤ xs.getD k 0 + rs[i][k].l - xs.getD a 0 - rs[i][a].r := by
  have hm := accL_has hi (rowSt_has hk hon h0)
  simp only [holdsL, Bool.and_eq_true] at hh
  obtain ⟨hc, h1, h2⟩ := hh
  rw [Bool.not_eq_true'] at h1 h2
  have h3 := List.any_eq_false.1 h2 _ hm
  rw [Bool.not_eq_true] at h3
  have ho : ∀ y ∈ xs, -1125899906842624 ≤ y ∧ y ≤ 1125899906842624 := fun y hy => by
    have := List.any_eq_false.1 h1 y hy
    simp [outI, wi] at this
    omega
  have e1 := okE_rng (fits_okE hfit rs[i] (by simp) rs[i][k] (by simp))
  have e2 := okE_rng (fits_okE hfit rs[i] (by simp) rs[i][a] (by simp))
  have hp' : 0 ≤ pad ∧ pad ≤ 1048576 := by simpa [wi] using hp
  have hxk : xs.getD k 0 = xs[k]'(by omega) := by simp [show k < xs.length by omega]
  have hxa : xs.getD a 0 = xs[a]'(by omega) := by simp [show a < xs.length by omega]
  have o1 := ho (xs[k]'(by omega)) (by simp)
  have o2 := ho (xs[a]'(by omega)) (by simp)
  have hdo : dOf rs[i][a].r rs[i][k].l pad = rs[i][a].r - rs[i][k].l + pad := by
    unfold dOf
    rw [wrap_i64 (n := rs[i][a].r - rs[i][k].l) (by omega) (by omega), wrap_i64 (by omega) (by omega)]
  have hga : (rs[i].getD (rowSt pad rs[i] k).1.toNat ⟨false, 0, 0⟩) = rs[i][a] := by subst ha; simp [hlt]
  rw [hga, hdo] at h3
  have hcl := cl_le hd
  simp only [shortR, decide_eq_false_iff_not, Int.not_lt, Int.toNat_natCast] at h3
  rw [← ha, hxk, hxa, wrap_i64 (by omega) (by omega)] at h3
  rw [hxk, hxa]
  omega

set_option maxHeartbeats 8000000 in
theorem rodApart_ok (rs : List (List Ext)) (pad : Int) (xs : List Int) : ACalls Go.Proofs.Try.prog 7 [encR rs, .int .i64 pad, encI xs] [] 0 (fun r _ _ => r = .bool true) := by
  refine pure_body ok7 rfl ?_
  simp only [parV]
  refine LWP_seq ?_
  apply LWP_run
  · simp -implicitDefEqProofs [stepsS, stepS, gd, opEff, LArg.ev, app_val, app_new, app_upd, app_kill, putV, ins, get, binV, binI, grd, bnd, ldCells, AV.cells, AV.scalar, AV.known, setAt, fillL, chunks, elems, mxI, mnI, del, Nat.add_assoc, nlt_self, nne_self, nne_self', List.take_of_length_le]; rfl
  refine LWP_seq (LWP_seq (LWP_reg fun K hK => ?_))
  apply rgnS_pre 1
  · simp -implicitDefEqProofs [stepsS, stepS, gd, opEff, LArg.ev, app_val, app_new, app_upd, app_kill, putV, ins, get, binV, binI, grd, bnd, ldCells, AV.cells, AV.scalar, AV.known, setAt, fillL, chunks, elems, mxI, mnI, del, Nat.add_assoc, nlt_self, nne_self, nne_self', List.take_of_length_le]; rfl
  refine rgnS_call (few_ok rs) rfl rfl (by simp [pureL, AV.pure, pure_encR]) (by simp [AV.pure, pure_encR]) (by simp [gd, get, LArg.ev]) ?_
  by_cases hf : fewL rs = true
  rotate_left
  · have hf' : fewL rs = false := by simpa using hf
    apply rgnS_pre 99
    · simp -implicitDefEqProofs [stepsS, stepS, gd, opEff, LArg.ev, app_val, app_new, app_upd, app_kill, putV, ins, get, binV, binI, grd, bnd, ldCells, AV.cells, AV.scalar, AV.known, setAt, fillL, chunks, elems, mxI, mnI, del, Nat.add_assoc, nlt_self, nne_self, nne_self', List.take_of_length_le, hf']; rfl
    refine hK _ ?_; clear hK
    refine LWP_cond (t := true) (by simp [LArg.ev, get]) (fun _ => ?_) (fun h => by cases h)
    refine LWP_seq (LWP_reg fun K hK => ?_)
    refine rgnS_call heads_ok rfl rfl (by simp [pureL, AV.pure]) (by simp [AV.pure]) (by simp [gd, get, LArg.ev]) ?_
    apply rgnS_pre 99
    · simp -implicitDefEqProofs [stepsS, stepS, gd, opEff, LArg.ev, app_val, app_new, app_upd, app_kill, putV, ins, get, binV, binI, grd, bnd, ldCells, AV.cells, AV.scalar, AV.known, setAt, fillL, chunks, elems, mxI, mnI, del, Nat.add_assoc, nlt_self, nne_self, nne_self', List.take_of_length_le]; rfl
    refine hK _ ?_; clear hK
    refine LWP_ret ?_
    show ∃ vs, resV _ _ = some vs ∧ wkV (retV vs) _
    refine ⟨_, rfl, ?_⟩
    simp [retV, wkV.refl]
  apply rgnS_pre 99
  · simp -implicitDefEqProofs [stepsS, stepS, gd, opEff, LArg.ev, app_val, app_new, app_upd, app_kill, putV, ins, get, binV, binI, grd, bnd, ldCells, AV.cells, AV.scalar, AV.known, setAt, fillL, chunks, elems, mxI, mnI, del, Nat.add_assoc, nlt_self, nne_self, nne_self', List.take_of_length_le, hf, encI]; rfl
  refine hK _ ?_; clear hK
  refine LWP_cond (t := decide (60 < xs.length)) (by simp [LArg.ev, get]; omega) (fun h => ?_) (fun h => LWP_skip ?_)
  · refine LWP_seq (LWP_reg fun K hK => ?_)
    refine rgnS_call heads_ok rfl rfl (by simp [pureL, AV.pure]) (by simp [AV.pure]) (by simp [gd, get, LArg.ev]) ?_
    apply rgnS_pre 99
    · simp -implicitDefEqProofs [stepsS, stepS, gd, opEff, LArg.ev, app_val, app_new, app_upd, app_kill, putV, ins, get, binV, binI, grd, bnd, ldCells, AV.cells, AV.scalar, AV.known, setAt, fillL, chunks, elems, mxI, mnI, del, Nat.add_assoc, nlt_self, nne_self, nne_self', List.take_of_length_le]; rfl
    refine hK _ ?_; clear hK
    refine LWP_ret ?_
    show ∃ vs, resV _ _ = some vs ∧ wkV (retV vs) _
    refine ⟨_, rfl, ?_⟩
    simp [retV, wkV.refl]
  have hxl : xs.length ≤ 60 := by simpa using h
  obtain ⟨m1, m2⟩ := few_len hf
  have hl : rs.length < 2 ^ 60 := by omega
  have hl2 : ∀ r ∈ rs, r.length < 2 ^ 60 := fun r hr => by have := m2 r hr; omega
  have hlen : (rodsV pad rs).1.length < 2 ^ 60 := by
    have h1 := accL_len (pad := pad) m2 rs.length (Nat.le_refl _)
    have h2 : rs.length * 60 ≤ 20 * 60 := Nat.mul_le_mul_right _ m1
    simp only [rodsV]
    cases (fitsL rs && wi pad 0 1048576) with
    | true => simp only [cond_true]; omega
    | false => simp
  refine LWP_seq (LWP_reg fun K hK => ?_)
  apply rgnS_pre 2
  · simp -implicitDefEqProofs [stepsS, stepS, gd, opEff, LArg.ev, app_val, app_new, app_upd, app_kill, putV, ins, get, binV, binI, grd, bnd, ldCells, AV.cells, AV.scalar, AV.known, setAt, fillL, chunks, elems, mxI, mnI, del, Nat.add_assoc, nlt_self, nne_self, nne_self', List.take_of_length_le]; rfl
  refine rgnS_call (rods_ok rs pad hl hl2) rfl rfl (by simp [pureL, AV.pure, pure_encR, rodsA, pureL, pure_rd]) (by simp [AV.pure, pure_encR, rodsA, pureL, pure_rd]) (by simp [gd, get, LArg.ev]) ?_
  apply rgnS_pre 99
  · simp -implicitDefEqProofs [stepsS, stepS, gd, opEff, LArg.ev, app_val, app_new, app_upd, app_kill, putV, ins, get, binV, binI, grd, bnd, ldCells, AV.cells, AV.scalar, AV.known, setAt, fillL, chunks, elems, mxI, mnI, del, Nat.add_assoc, nlt_self, nne_self, nne_self', List.take_of_length_le, rodsA]; rfl
  refine hK _ ?_; clear hK
  refine LWP_seq (LWP_seq (LWP_reg fun K hK => ?_))
  by_cases h2 : (rodsV pad rs).2 = 0
  rotate_left
  · have hz : ((rodsV pad rs).2 != 0) = true := bne_iff_ne.2 h2
    apply rgnS_pre 99
    · simp -implicitDefEqProofs [stepsS, stepS, gd, opEff, LArg.ev, app_val, app_new, app_upd, app_kill, putV, ins, get, binV, binI, grd, bnd, ldCells, AV.cells, AV.scalar, AV.known, setAt, fillL, chunks, elems, mxI, mnI, del, Nat.add_assoc, nlt_self, nne_self, nne_self', List.take_of_length_le, hz]; rfl
    refine hK _ ?_; clear hK
    refine LWP_cond (t := true) (by simp [LArg.ev, get]) (fun _ => ?_) (fun h => by cases h)
    refine LWP_seq (LWP_reg fun K hK => ?_)
    refine rgnS_call heads_ok rfl rfl (by simp [pureL, AV.pure]) (by simp [AV.pure]) (by simp [gd, get, LArg.ev]) ?_
    apply rgnS_pre 99
    · simp -implicitDefEqProofs [stepsS, stepS, gd, opEff, LArg.ev, app_val, app_new, app_upd, app_kill, putV, ins, get, binV, binI, grd, bnd, ldCells, AV.cells, AV.scalar, AV.known, setAt, fillL, chunks, elems, mxI, mnI, del, Nat.add_assoc, nlt_self, nne_self, nne_self', List.take_of_length_le]; rfl
    refine hK _ ?_; clear hK
    refine LWP_ret ?_
    show ∃ vs, resV _ _ = some vs ∧ wkV (retV vs) _
    refine ⟨_, rfl, ?_⟩
    simp [retV, wkV.refl]
  by_cases h0 : 0 < rs.length
  rotate_left
  · have h00 : rs = [] := by cases rs with
      | nil => rfl
      | cons a l => simp at h0
    subst h00
    apply rgnS_pre 99
    · simp -implicitDefEqProofs [stepsS, stepS, gd, opEff, LArg.ev, app_val, app_new, app_upd, app_kill, putV, ins, get, binV, binI, grd, bnd, ldCells, AV.cells, AV.scalar, AV.known, setAt, fillL, chunks, elems, mxI, mnI, del, Nat.add_assoc, nlt_self, nne_self, nne_self', List.take_of_length_le, h2, encR]; rfl
    refine hK _ ?_; clear hK
    refine LWP_cond (t := true) (by simp [LArg.ev, get]) (fun _ => ?_) (fun h => by cases h)
    refine LWP_seq (LWP_reg fun K hK => ?_)
    refine rgnS_call heads_ok rfl rfl (by simp [pureL, AV.pure]) (by simp [AV.pure]) (by simp [gd, get, LArg.ev]) ?_
    apply rgnS_pre 99
    · simp -implicitDefEqProofs [stepsS, stepS, gd, opEff, LArg.ev, app_val, app_new, app_upd, app_kill, putV, ins, get, binV, binI, grd, bnd, ldCells, AV.cells, AV.scalar, AV.known, setAt, fillL, chunks, elems, mxI, mnI, del, Nat.add_assoc, nlt_self, nne_self, nne_self', List.take_of_length_le]; rfl
    refine hK _ ?_; clear hK
    refine LWP_ret ?_
    show ∃ vs, resV _ _ = some vs ∧ wkV (retV vs) _
    refine ⟨_, rfl, ?_⟩
    simp [retV, wkV.refl]
  have hz0 : ((rs.length : Int) == 0) = false := beq_false_of_ne (by omega)
  by_cases hx : xs.length = rs[0].length
  rotate_left
  · have hxz : ((xs.length : Int) != (rs[0].length : Int)) = true := bne_iff_ne.2 (by omega)
    apply rgnS_pre 99
    · simp -implicitDefEqProofs [stepsS, stepS, gd, opEff, LArg.ev, app_val, app_new, app_upd, app_kill, putV, ins, get, binV, binI, grd, bnd, ldCells, AV.cells, AV.scalar, AV.known, setAt, fillL, chunks, elems, mxI, mnI, del, Nat.add_assoc, nlt_self, nne_self, nne_self', List.take_of_length_le, h2, hz0, h0, encR, encI, hxz]; rfl
    refine hK _ ?_; clear hK
    refine LWP_cond (t := true) (by simp [LArg.ev, get]) (fun _ => ?_) (fun h => by cases h)
    refine LWP_seq (LWP_reg fun K hK => ?_)
    refine rgnS_call heads_ok rfl rfl (by simp [pureL, AV.pure]) (by simp [AV.pure]) (by simp [gd, get, LArg.ev]) ?_
    apply rgnS_pre 99
    · simp -implicitDefEqProofs [stepsS, stepS, gd, opEff, LArg.ev, app_val, app_new, app_upd, app_kill, putV, ins, get, binV, binI, grd, bnd, ldCells, AV.cells, AV.scalar, AV.known, setAt, fillL, chunks, elems, mxI, mnI, del, Nat.add_assoc, nlt_self, nne_self, nne_self', List.take_of_length_le]; rfl
    refine hK _ ?_; clear hK
    refine LWP_ret ?_
    show ∃ vs, resV _ _ = some vs ∧ wkV (retV vs) _
    refine ⟨_, rfl, ?_⟩
    simp [retV, wkV.refl]
  apply rgnS_pre 19
  · simp -implicitDefEqProofs [stepsS, stepS, gd, opEff, LArg.ev, app_val, app_new, app_upd, app_kill, putV, ins, get, binV, binI, grd, bnd, ldCells, AV.cells, AV.scalar, AV.known, setAt, fillL, chunks, elems, mxI, mnI, del, Nat.add_assoc, nlt_self, nne_self, nne_self', List.take_of_length_le, h2, hz0, h0, encR, encI, hx]; rfl
  refine rgnS_call (holds_ok (rodsV pad rs).1 xs hlen (by omega)) rfl rfl (by simp [pureL, AV.pure, pure_rd, encI, pure_int]) (by simp [AV.pure, pure_rd, encI, pure_int]) (by simp [gd, get, LArg.ev]) ?_
  by_cases hh : holdsL (rodsV pad rs).1 xs = true
  rotate_left
  · have hh' : holdsL (rodsV pad rs).1 xs = false := by simpa using hh
    apply rgnS_pre 99
    · simp -implicitDefEqProofs [stepsS, stepS, gd, opEff, LArg.ev, app_val, app_new, app_upd, app_kill, putV, ins, get, binV, binI, grd, bnd, ldCells, AV.cells, AV.scalar, AV.known, setAt, fillL, chunks, elems, mxI, mnI, del, Nat.add_assoc, nlt_self, nne_self, nne_self', List.take_of_length_le, hh']; rfl
    refine hK _ ?_; clear hK
    refine LWP_cond (t := true) (by simp [LArg.ev, get]) (fun _ => ?_) (fun h => by cases h)
    refine LWP_seq (LWP_reg fun K hK => ?_)
    refine rgnS_call heads_ok rfl rfl (by simp [pureL, AV.pure]) (by simp [AV.pure]) (by simp [gd, get, LArg.ev]) ?_
    apply rgnS_pre 99
    · simp -implicitDefEqProofs [stepsS, stepS, gd, opEff, LArg.ev, app_val, app_new, app_upd, app_kill, putV, ins, get, binV, binI, grd, bnd, ldCells, AV.cells, AV.scalar, AV.known, setAt, fillL, chunks, elems, mxI, mnI, del, Nat.add_assoc, nlt_self, nne_self, nne_self', List.take_of_length_le]; rfl
    refine hK _ ?_; clear hK
    refine LWP_ret ?_
    show ∃ vs, resV _ _ = some vs ∧ wkV (retV vs) _
    refine ⟨_, rfl, ?_⟩
    simp [retV, wkV.refl]
  apply rgnS_pre 99
  · simp -implicitDefEqProofs [stepsS, stepS, gd, opEff, LArg.ev, app_val, app_new, app_upd, app_kill, putV, ins, get, binV, binI, grd, bnd, ldCells, AV.cells, AV.scalar, AV.known, setAt, fillL, chunks, elems, mxI, mnI, del, Nat.add_assoc, nlt_self, nne_self, nne_self', List.take_of_length_le, hh]; rfl
  refine hK _ ?_; clear hK
  refine LWP_cond (t := false) (by simp [LArg.ev, get]) (fun h => by cases h) (fun _ => LWP_skip ?_)
  have hfit : fitsL rs = true := by
    cases hc : fitsL rs with
    | true => rfl
    | false => simp [rodsV, hc] at h2
  have hw : wi pad 0 1048576 = true := by
    cases hc : wi pad 0 1048576 with
    | true => rfl
    | false => simp [rodsV, hc] at h2
  have he : (rodsV pad rs).1 = accL pad rs rs.length := by simp [rodsV, hfit, hw]
  rw [he] at hh
  have hn : ∀ r ∈ rs, r.length = rs[0].length := fun r hr => by
    have hfit' := hfit
    simp only [fitsL, Bool.and_eq_true, decide_eq_true_eq, List.all_eq_true] at hfit'
    have := hfit'.2 r hr
    simp only [fitsR, Bool.and_eq_true, decide_eq_true_eq] at this
    rw [this.2.1]
    simp [h0]
  have ho : ∀ y ∈ xs, -1125899906842624 ≤ y ∧ y ≤ 1125899906842624 := fun y hy => by
    simp only [holdsL, Bool.and_eq_true, Bool.not_eq_true'] at hh
    have := List.any_eq_false.1 hh.2.1 y hy
    simp [outI, wi] at this
    omega
  have hp' : 0 ≤ pad ∧ pad ≤ 1048576 := by simpa [wi] using hw
  refine LWP_seq (LWP_seq ?_)
  apply LWP_run
  · simp -implicitDefEqProofs [stepsS, stepS, gd, opEff, LArg.ev, app_val, app_new, app_upd, app_kill, putV, ins, get, binV, binI, grd, bnd, ldCells, AV.cells, AV.scalar, AV.known, setAt, fillL, chunks, elems, mxI, mnI, del, Nat.add_assoc, nlt_self, nne_self, nne_self', List.take_of_length_le]; rfl
  refine LWP_block (LWP_inv (fun q : Nat × Nat => ⟨[(0, encR rs), (1, .int .i64 pad), (2, encI xs), (9, .int .i64 q.1)], [], q.2⟩) (fun q => rs.length - q.1) (fun q => q.1 ≤ rs.length) (0, 0) ?_ (Nat.zero_le _) ?_)
  · refine .mk2 ?_ ?_ ?_
    · simp [leV, get, wkV.refl, encR, encI]
    · simp [leH, get, encR, encI] <;> rfl
    · simp
  rintro ⟨i, nx⟩ h1
  simp only at h1 ⊢
  refine LWP_seq (LWP_seq ?_)
  apply LWP_run
  · simp -implicitDefEqProofs [stepsS, stepS, gd, opEff, LArg.ev, app_val, app_new, app_upd, app_kill, putV, ins, get, binV, binI, grd, bnd, ldCells, AV.cells, AV.scalar, AV.known, setAt, fillL, chunks, elems, mxI, mnI, del, Nat.add_assoc, nlt_self, nne_self, nne_self', List.take_of_length_le, encR]; rfl
  refine LWP_cond (t := decide (i < rs.length)) (by simp [LArg.ev, get]) (fun hc => LWP_skip ?_) (fun hc => LWP_exit ?_)
  · simp only [decide_eq_true_eq] at hc
    have hr : rs[i].length = rs[0].length := hn rs[i] (by simp)
    refine LWP_seq (LWP_block (LWP_seq ?_))
    apply LWP_run
    · simp -implicitDefEqProofs [stepsS, stepS, gd, opEff, LArg.ev, app_val, app_new, app_upd, app_kill, putV, ins, get, binV, binI, grd, bnd, ldCells, AV.cells, AV.scalar, AV.known, setAt, fillL, chunks, elems, mxI, mnI, del, Nat.add_assoc, nlt_self, nne_self, nne_self', List.take_of_length_le]; rfl
    refine LWP_seq ?_
    apply LWP_run
    · simp -implicitDefEqProofs [stepsS, stepS, gd, opEff, LArg.ev, app_val, app_new, app_upd, app_kill, putV, ins, get, binV, binI, grd, bnd, ldCells, AV.cells, AV.scalar, AV.known, setAt, fillL, chunks, elems, mxI, mnI, del, Nat.add_assoc, nlt_self, nne_self, nne_self', List.take_of_length_le]; rfl
    refine LWP_block (LWP_inv (fun q : Nat × Nat => ⟨[(0, encR rs), (1, .int .i64 pad), (2, encI xs), (9, .int .i64 i), (10, .int .i64 (rowSt pad rs[i] q.1).1), (11, .int .i64 q.1)], [], q.2⟩) (fun q => rs[i].length - q.1) (fun q => q.1 ≤ rs[i].length) (0, nx) ?_ (Nat.zero_le _) ?_)
    · refine .mk2 ?_ ?_ ?_
      · simp [leV, get, wkV.refl, rowSt, encR]
      · simp [leH, get, rowSt, encR] <;> rfl
      · simp
    rintro ⟨k, ny⟩ g1
    simp only at g1 ⊢
    obtain ⟨_, j2, j3⟩ := rowSt_len pad rs[i] k
    refine LWP_seq (LWP_seq ?_)
    apply LWP_run
    · simp -implicitDefEqProofs [stepsS, stepS, gd, opEff, LArg.ev, app_val, app_new, app_upd, app_kill, putV, ins, get, binV, binI, grd, bnd, ldCells, AV.cells, AV.scalar, AV.known, setAt, fillL, chunks, elems, mxI, mnI, del, Nat.add_assoc, nlt_self, nne_self, nne_self', List.take_of_length_le, encR, hc]; rfl
    refine LWP_cond (t := decide (k < rs[i].length)) (by simp [LArg.ev, get]) (fun gc => LWP_skip ?_) (fun gc => LWP_exit ?_)
    · simp only [decide_eq_true_eq] at gc
      refine LWP_seq (LWP_block (LWP_seq (LWP_seq ?_)))
      apply LWP_run
      · simp -implicitDefEqProofs [stepsS, stepS, gd, opEff, LArg.ev, app_val, app_new, app_upd, app_kill, putV, ins, get, binV, binI, grd, bnd, ldCells, AV.cells, AV.scalar, AV.known, setAt, fillL, chunks, elems, mxI, mnI, del, Nat.add_assoc, nlt_self, nne_self, nne_self', List.take_of_length_le, encR, hc, gc, Ext.e]; rfl
      refine LWP_cond (t := !rs[i][k].on) (by simp [LArg.ev, get]) (fun he => LWP_exit ?_) (fun he => LWP_skip ?_)
      · have he' : rs[i][k].on = false := by simpa using he
        apply LWP_run
        · simp -implicitDefEqProofs [stepsS, stepS, gd, opEff, LArg.ev, app_val, app_new, app_upd, app_kill, putV, ins, get, binV, binI, grd, bnd, ldCells, AV.cells, AV.scalar, AV.known, setAt, fillL, chunks, elems, mxI, mnI, del, Nat.add_assoc, nlt_self, nne_self, nne_self', List.take_of_length_le]; rfl
        have hs : rowSt pad rs[i] (k + 1) = rowSt pad rs[i] k := by simp [rowSt, gc, he']
        refine ⟨(k + 1, ny), by simp only; omega, by simp only; omega, ?_⟩
        refine .mk2 ?_ ?_ ?_
        · simp [leV, get, wkV.refl, encR, encI, wrap_succ (n := k) (by omega), hs]
        · simp [leH, get, encR, encI, wrap_succ (n := k) (by omega), hs] <;> rfl
        · simp
      have he' : rs[i][k].on = true := by simpa using he
      have hs : (rowSt pad rs[i] (k + 1)).1 = (k : Int) := by simp [rowSt, gc, he']
      refine LWP_seq (LWP_seq ?_)
      by_cases hA : 0 ≤ (rowSt pad rs[i] k).1
      · have hp2 : ((rowSt pad rs[i] k).1.toNat) < rs[i].length := by omega
        have hp3 : (rowSt pad rs[i] k).1 < (rs[i].length : Int) := by omega
        have q2 : ((rowSt pad rs[i] k).1.toNat) < xs.length := by omega
        have q3 : (rowSt pad rs[i] k).1 < (xs.length : Int) := by omega
        have q4 : k < xs.length := by omega
        have e1 := okE_rng (fits_okE hfit rs[i] (by simp) rs[i][k] (by simp))
        have e2 := okE_rng (fits_okE hfit rs[i] (by simp) (rs[i][(rowSt pad rs[i] k).1.toNat]) (by simp))
        have o1 := ho xs[k] (by simp)
        have o2 := ho xs[(rowSt pad rs[i] k).1.toNat] (by simp)
        by_cases hB : IntKind.i64.wrap (IntKind.i64.wrap (rs[i][(rowSt pad rs[i] k).1.toNat].r - rs[i][k].l) + pad) ≤ 1073741824
        · have hB' := hB
          rw [wrap_i64 (n := rs[i][(rowSt pad rs[i] k).1.toNat].r - rs[i][k].l) (by omega) (by omega), wrap_i64 (by omega) (by omega)] at hB'
          have key := apart_law hfit hw hh hc gc he' hA (by omega) rfl hp2 hB'
          have hxk : xs.getD k 0 = xs[k] := by simp [q4]
          have hxa : xs.getD (rowSt pad rs[i] k).1.toNat 0 = xs[(rowSt pad rs[i] k).1.toNat] := by simp [q2]
          rw [hxk, hxa] at key
          have hC : ¬ IntKind.i64.wrap (IntKind.i64.wrap (IntKind.i64.wrap (xs[k] + rs[i][k].l) - xs[(rowSt pad rs[i] k).1.toNat]) - rs[i][(rowSt pad rs[i] k).1.toNat].r) < pad := by
            rw [wrap_i64 (n := xs[k] + rs[i][k].l) (by omega) (by omega), wrap_i64 (n := xs[k] + rs[i][k].l - xs[(rowSt pad rs[i] k).1.toNat]) (by omega) (by omega), wrap_i64 (by omega) (by omega)]
            omega
          apply LWP_runD
          · simp -implicitDefEqProofs [stepsD, stepD, ST.as, dEffF, LOp.cls, softOK, LOp.args, AV.ids, gd, opEff, LArg.ev, appD_val, appD_new, appD_upd, appD_kill, AS.flush, delAll, putV, ins, get, binV, binI, grd, bnd, ldCells, AV.cells, AV.scalar, AV.known, setAt, fillL, chunks, elems, mxI, mnI, del, Nat.add_assoc, nlt_self, nne_self, nne_self', List.take_of_length_le, encR, encI, enc1, hc, gc, Ext.e, hA, hp2, hp3, q2, q3, q4, hB, hC]; rfl
          · simp [AS.fin, delAll, del, Nat.add_assoc]; rfl
          refine LWP_cond (t := false) (by simp [LArg.ev, get]) (fun h => by cases h) (fun _ => LWP_skip ?_)
          apply LWP_run
          · simp -implicitDefEqProofs [stepsS, stepS, gd, opEff, LArg.ev, app_val, app_new, app_upd, app_kill, putV, ins, get, binV, binI, grd, bnd, ldCells, AV.cells, AV.scalar, AV.known, setAt, fillL, chunks, elems, mxI, mnI, del, Nat.add_assoc, nlt_self, nne_self, nne_self', List.take_of_length_le]; rfl
          apply LWP_run
          · simp -implicitDefEqProofs [stepsS, stepS, gd, opEff, LArg.ev, app_val, app_new, app_upd, app_kill, putV, ins, get, binV, binI, grd, bnd, ldCells, AV.cells, AV.scalar, AV.known, setAt, fillL, chunks, elems, mxI, mnI, del, Nat.add_assoc, nlt_self, nne_self, nne_self', List.take_of_length_le]; rfl
          refine ⟨(k + 1, ny + 55), by simp only; omega, by simp only; omega, ?_⟩
          refine .mk2 ?_ ?_ ?_
          · simp [leV, get, wkV.refl, encR, encI, wrap_succ (n := k) (by omega), hs]
          · simp [leH, get, encR, encI, wrap_succ (n := k) (by omega), hs] <;> rfl
          · simp
        · apply LWP_runD
          · simp -implicitDefEqProofs [stepsD, stepD, ST.as, dEffF, LOp.cls, softOK, LOp.args, AV.ids, gd, opEff, LArg.ev, appD_val, appD_new, appD_upd, appD_kill, AS.flush, delAll, putV, ins, get, binV, binI, grd, bnd, ldCells, AV.cells, AV.scalar, AV.known, setAt, fillL, chunks, elems, mxI, mnI, del, Nat.add_assoc, nlt_self, nne_self, nne_self', List.take_of_length_le, encR, encI, enc1, hc, gc, Ext.e, hA, hp2, hp3, q2, q3, q4, hB]; rfl
          · simp [AS.fin, delAll, del, Nat.add_assoc]; rfl
          refine LWP_cond (t := false) (by simp [LArg.ev, get]) (fun h => by cases h) (fun _ => LWP_skip ?_)
          apply LWP_run
          · simp -implicitDefEqProofs [stepsS, stepS, gd, opEff, LArg.ev, app_val, app_new, app_upd, app_kill, putV, ins, get, binV, binI, grd, bnd, ldCells, AV.cells, AV.scalar, AV.known, setAt, fillL, chunks, elems, mxI, mnI, del, Nat.add_assoc, nlt_self, nne_self, nne_self', List.take_of_length_le]; rfl
          apply LWP_run
          · simp -implicitDefEqProofs [stepsS, stepS, gd, opEff, LArg.ev, app_val, app_new, app_upd, app_kill, putV, ins, get, binV, binI, grd, bnd, ldCells, AV.cells, AV.scalar, AV.known, setAt, fillL, chunks, elems, mxI, mnI, del, Nat.add_assoc, nlt_self, nne_self, nne_self', List.take_of_length_le]; rfl
          refine ⟨(k + 1, ny + 55), by simp only; omega, by simp only; omega, ?_⟩
          refine .mk2 ?_ ?_ ?_
          · simp [leV, get, wkV.refl, encR, encI, wrap_succ (n := k) (by omega), hs]
          · simp [leH, get, encR, encI, wrap_succ (n := k) (by omega), hs] <;> rfl
          · simp
      · apply LWP_runD
        · simp -implicitDefEqProofs [stepsD, stepD, ST.as, dEffF, LOp.cls, softOK, LOp.args, AV.ids, gd, opEff, LArg.ev, appD_val, appD_new, appD_upd, appD_kill, AS.flush, delAll, putV, ins, get, binV, binI, grd, bnd, ldCells, AV.cells, AV.scalar, AV.known, setAt, fillL, chunks, elems, mxI, mnI, del, Nat.add_assoc, nlt_self, nne_self, nne_self', List.take_of_length_le, encR, encI, enc1, hc, gc, Ext.e, hA]; rfl
        · simp [AS.fin, delAll, del, Nat.add_assoc]; rfl
        refine LWP_cond (t := false) (by simp [LArg.ev, get]) (fun h => by cases h) (fun _ => LWP_skip ?_)
        apply LWP_run
        · simp -implicitDefEqProofs [stepsS, stepS, gd, opEff, LArg.ev, app_val, app_new, app_upd, app_kill, putV, ins, get, binV, binI, grd, bnd, ldCells, AV.cells, AV.scalar, AV.known, setAt, fillL, chunks, elems, mxI, mnI, del, Nat.add_assoc, nlt_self, nne_self, nne_self', List.take_of_length_le]; rfl
        apply LWP_run
        · simp -implicitDefEqProofs [stepsS, stepS, gd, opEff, LArg.ev, app_val, app_new, app_upd, app_kill, putV, ins, get, binV, binI, grd, bnd, ldCells, AV.cells, AV.scalar, AV.known, setAt, fillL, chunks, elems, mxI, mnI, del, Nat.add_assoc, nlt_self, nne_self, nne_self', List.take_of_length_le]; rfl
        refine ⟨(k + 1, ny + 55), by simp only; omega, by simp only; omega, ?_⟩
        refine .mk2 ?_ ?_ ?_
        · simp [leV, get, wkV.refl, encR, encI, wrap_succ (n := k) (by omega), hs]
        · simp [leH, get, encR, encI, wrap_succ (n := k) (by omega), hs] <;> rfl
        · simp
    · apply LWP_run
      · simp -implicitDefEqProofs [stepsS, stepS, gd, opEff, LArg.ev, app_val, app_new, app_upd, app_kill, putV, ins, get, binV, binI, grd, bnd, ldCells, AV.cells, AV.scalar, AV.known, setAt, fillL, chunks, elems, mxI, mnI, del, Nat.add_assoc, nlt_self, nne_self, nne_self', List.take_of_length_le]; rfl
      refine ⟨(i + 1, ny), by simp only; omega, by simp only; omega, ?_⟩
      refine .mk2 ?_ ?_ ?_
      · simp [leV, get, wkV.refl, encR, encI, wrap_succ (n := i) (by omega)]
      · simp [leH, get, encR, encI, wrap_succ (n := i) (by omega)] <;> rfl
      · simp
  · refine LWP_seq (LWP_reg fun K hK => ?_)
    refine rgnS_call heads_ok rfl rfl (by simp [pureL, AV.pure]) (by simp [AV.pure]) (by simp [gd, get, LArg.ev]) ?_
    apply rgnS_pre 99
    · simp -implicitDefEqProofs [stepsS, stepS, gd, opEff, LArg.ev, app_val, app_new, app_upd, app_kill, putV, ins, get, binV, binI, grd, bnd, ldCells, AV.cells, AV.scalar, AV.known, setAt, fillL, chunks, elems, mxI, mnI, del, Nat.add_assoc, nlt_self, nne_self, nne_self', List.take_of_length_le]; rfl
    refine hK _ ?_; clear hK
    refine LWP_ret ?_
    show ∃ vs, resV _ _ = some vs ∧ wkV (retV vs) _
    refine ⟨_, rfl, ?_⟩
    simp [retV, wkV.refl]
end Go.AM.Rod
