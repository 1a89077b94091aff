/- A part of a proof about the given program: what its name says. No premise beyond the statements'. -/
import Derived.Test.YteiapnjcelnfdaaRodG
set_option linter.unusedSimpArgs false
set_option linter.unusedVariables false
namespace Go.AM.Rod
open Go.AM

def enc1 (x : Int) : List AV := [.int .i64 x]
def encI (l : List Int) : AV := .tsl 1 (l.map enc1)
theorem pure_int : ∀ l : List Int, pureR (l.map enc1) = true
  | [] => rfl
  | x :: l => by simp [pureR, pureL, enc1, AV.pure, pure_int l]

/-- Where the first one stands. -/
def idxL {α : Type} (p : α → Bool) (l : List α) : Int := if l.any p then (l.findIdx p : Int) else -1

theorem idx_hit {α : Type} {p : α → Bool} {l : List α} {i : Nat} (h : i < l.length) (ha : (l.take i).all (fun x => !p x) = true) (hp : p l[i] = true) : idxL p l = (i : Int) := by
  have h1 : l.any p = true := by rw [List.any_eq_true]; exact ⟨l[i], by simp, hp⟩
  have h2 : l.findIdx p = i := by
    rw [List.findIdx_eq h]
    refine ⟨hp, fun j hj => ?_⟩
    rw [List.all_eq_true] at ha
    have := ha (l[j]'(by omega)) (by rw [List.mem_take_iff_getElem]; exact ⟨j, by omega, rfl⟩)
    simpa using this
  simp [idxL, h1, h2]
theorem idx_none {α : Type} {p : α → Bool} {l : List α} (ha : l.all (fun x => !p x) = true) : idxL p l = -1 := by
  have h1 : l.any p = false := by
    rw [List.any_eq_false]
    intro x hx
    have := List.all_eq_true.1 ha x hx
    simpa using this
  simp [idxL, h1]
theorem idx_any {α : Type} (p : α → Bool) (l : List α) : decide (0 ≤ idxL p l) = l.any p := by
  unfold idxL
  cases l.any p <;> simp

theorem index_int (l : List Int) (p : Int → Bool) {g : Nat} {caps : List AV} (hl : l.length < 2 ^ 62) (hcp : pureL caps = true)
    (hp : ∀ x ∈ l, ACalls Go.Proofs.Try.prog g (.int .i64 x :: caps) [] 0 (fun r _ _ => r = .bool (p x))) : ACalls Go.Proofs.Try.prog 38 [encI l, .fn g [] caps] [] 0 (fun r _ _ => r = .int .i64 (idxL p l)) := by
  refine pure_body ok38 rfl ?_
  simp only [parV]
  refine LWP_seq ?_
  apply LWP_run
  · simp -implicitDefEqProofs [stepsS, stepS, gd, opEff, LArg.ev, app_val, app_new, app_upd, app_kill, putV, ins, get, binV, binI, grd, bnd, ldCells, AV.cells, AV.scalar, AV.known, setAt, fillL, chunks, elems, mxI, mnI, del, Nat.add_assoc, nlt_self, nne_self, nne_self', List.take_of_length_le]; rfl
  refine LWP_seq (LWP_seq ?_)
  apply LWP_run
  · simp -implicitDefEqProofs [stepsS, stepS, gd, opEff, LArg.ev, app_val, app_new, app_upd, app_kill, putV, ins, get, binV, binI, grd, bnd, ldCells, AV.cells, AV.scalar, AV.known, setAt, fillL, chunks, elems, mxI, mnI, del, Nat.add_assoc, nlt_self, nne_self, nne_self', List.take_of_length_le, encI]; rfl
  refine LWP_block (LWP_inv (fun q : Nat × Nat => ⟨[(0, encI l), (1, .fn g [] caps), (7, .int .i64 l.length), (8, .int .i64 q.1)], [], q.2⟩) (fun q => l.length - q.1) (fun q => q.1 ≤ l.length ∧ (l.take q.1).all (fun x => !p x) = true) (0, 0) ?_ ⟨Nat.zero_le _, by simp⟩ ?_)
  · refine .mk2 ?_ ?_ ?_
    · simp [leV, get, wkV.refl, encI]
    · simp [leH, get, encI] <;> rfl
    · simp
  rintro ⟨i, nx⟩ ⟨h1, h2⟩
  simp only at h1 h2 ⊢
  refine LWP_seq ?_
  apply LWP_run
  · simp -implicitDefEqProofs [stepsS, stepS, gd, opEff, LArg.ev, app_val, app_new, app_upd, app_kill, putV, ins, get, binV, binI, grd, bnd, ldCells, AV.cells, AV.scalar, AV.known, setAt, fillL, chunks, elems, mxI, mnI, del, Nat.add_assoc, nlt_self, nne_self, nne_self', List.take_of_length_le]; rfl
  refine LWP_seq (LWP_cond (t := decide (i < l.length)) (by simp [LArg.ev, get]) (fun hc => LWP_skip ?_) (fun hc => LWP_exit ?_))
  · simp only [decide_eq_true_eq] at hc
    refine LWP_seq (LWP_block (LWP_seq ?_))
    apply LWP_run
    · simp -implicitDefEqProofs [stepsS, stepS, gd, opEff, LArg.ev, app_val, app_new, app_upd, app_kill, putV, ins, get, binV, binI, grd, bnd, ldCells, AV.cells, AV.scalar, AV.known, setAt, fillL, chunks, elems, mxI, mnI, del, Nat.add_assoc, nlt_self, nne_self, nne_self', List.take_of_length_le]; rfl
    refine LWP_seq (LWP_reg fun K hK => ?_)
    apply rgnS_pre 5
    · simp -implicitDefEqProofs [stepsS, stepS, gd, opEff, LArg.ev, app_val, app_new, app_upd, app_kill, putV, ins, get, binV, binI, grd, bnd, ldCells, AV.cells, AV.scalar, AV.known, setAt, fillL, chunks, elems, mxI, mnI, del, Nat.add_assoc, nlt_self, nne_self, nne_self', List.take_of_length_le, encI, enc1, hc]; rfl
    refine rgnS_call (hp l[i] (by simp)) rfl (by simp [LArg.ev, get]) (by simp [pureL, AV.pure, hcp]) (by simp [AV.pure]) (by simp [gd]) ?_
    apply rgnS_pre 99
    · simp -implicitDefEqProofs [stepsS, stepS, gd, opEff, LArg.ev, app_val, app_new, app_upd, app_kill, putV, ins, get, binV, binI, grd, bnd, ldCells, AV.cells, AV.scalar, AV.known, setAt, fillL, chunks, elems, mxI, mnI, del, Nat.add_assoc, nlt_self, nne_self, nne_self', List.take_of_length_le]; rfl
    refine hK _ ?_; clear hK
    refine LWP_cond (t := p l[i]) (by simp [LArg.ev, get]) (fun hx => ?_) (fun hx => LWP_skip ?_)
    · refine LWP_seq ?_
      apply LWP_run
      · simp -implicitDefEqProofs [stepsS, stepS, gd, opEff, LArg.ev, app_val, app_new, app_upd, app_kill, putV, ins, get, binV, binI, grd, bnd, ldCells, AV.cells, AV.scalar, AV.known, setAt, fillL, chunks, elems, mxI, mnI, del, Nat.add_assoc, nlt_self, nne_self, nne_self', List.take_of_length_le]; rfl
      rw [idx_hit hc h2 hx]
      refine LWP_ret ?_
      show ∃ vs, resV _ _ = some vs ∧ wkV (retV vs) _
      refine ⟨_, rfl, ?_⟩
      simp [retV, wkV.refl]
    · apply LWP_run
      · simp -implicitDefEqProofs [stepsS, stepS, gd, opEff, LArg.ev, app_val, app_new, app_upd, app_kill, putV, ins, get, binV, binI, grd, bnd, ldCells, AV.cells, AV.scalar, AV.known, setAt, fillL, chunks, elems, mxI, mnI, del, Nat.add_assoc, nlt_self, nne_self, nne_self', List.take_of_length_le]; rfl
      refine ⟨(i + 1, nx), ⟨hc, take_all hc h2 (by simp [hx])⟩, by simp only; omega, ?_⟩
      refine .mk2 ?_ ?_ ?_
      · simp [leV, get, wkV.refl, encI, wrap_succ (n := i) (by omega)]
      · simp [leH, get, encI, wrap_succ (n := i) (by omega)] <;> rfl
      · simp
  · have hc' : ¬ i < l.length := by simpa using hc
    rw [idx_none (take_all_end hc' h2)]
    refine LWP_seq ?_
    apply LWP_run
    · simp -implicitDefEqProofs [stepsS, stepS, gd, opEff, LArg.ev, app_val, app_new, app_upd, app_kill, putV, ins, get, binV, binI, grd, bnd, ldCells, AV.cells, AV.scalar, AV.known, setAt, fillL, chunks, elems, mxI, mnI, del, Nat.add_assoc, nlt_self, nne_self, nne_self', List.take_of_length_le]; rfl
    refine LWP_ret ?_
    show ∃ vs, resV _ _ = some vs ∧ wkV (retV vs) _
    refine ⟨_, rfl, ?_⟩
    simp [retV, wkV.refl]

theorem index_rd (l : List Rd) (p : Rd → Bool) {g : Nat} {caps : List AV} (hl : l.length < 2 ^ 62) (hcp : pureL caps = true)
    (hp : ∀ x ∈ l, ACalls Go.Proofs.Try.prog g (.agg x.e :: caps) [] 0 (fun r _ _ => r = .bool (p x))) : ACalls Go.Proofs.Try.prog 39 [.tsl 3 (l.map Rd.e), .fn g [] caps] [] 0 (fun r _ _ => r = .int .i64 (idxL p l)) := by
  refine pure_body ok39 rfl ?_
  simp only [parV]
  refine LWP_seq ?_
  apply LWP_run
  · simp -implicitDefEqProofs [stepsS, stepS, gd, opEff, LArg.ev, app_val, app_new, app_upd, app_kill, putV, ins, get, binV, binI, grd, bnd, ldCells, AV.cells, AV.scalar, AV.known, setAt, fillL, chunks, elems, mxI, mnI, del, Nat.add_assoc, nlt_self, nne_self, nne_self', List.take_of_length_le]; rfl
  refine LWP_seq (LWP_seq ?_)
  apply LWP_run
  · simp -implicitDefEqProofs [stepsS, stepS, gd, opEff, LArg.ev, app_val, app_new, app_upd, app_kill, putV, ins, get, binV, binI, grd, bnd, ldCells, AV.cells, AV.scalar, AV.known, setAt, fillL, chunks, elems, mxI, mnI, del, Nat.add_assoc, nlt_self, nne_self, nne_self', List.take_of_length_le]; rfl
  refine LWP_block (LWP_inv (fun q : Nat × Nat => ⟨[(0, .tsl 3 (l.map Rd.e)), (1, .fn g [] caps), (7, .int .i64 l.length), (8, .int .i64 q.1)], [], q.2⟩) (fun q => l.length - q.1) (fun q => q.1 ≤ l.length ∧ (l.take q.1).all (fun x => !p x) = true) (0, 0) ?_ ⟨Nat.zero_le _, by simp⟩ ?_)
  · refine .mk2 ?_ ?_ ?_
    · simp [leV, get, wkV.refl]
    · simp [leH, get] <;> rfl
    · simp
  rintro ⟨i, nx⟩ ⟨h1, h2⟩
  simp only at h1 h2 ⊢
  refine LWP_seq ?_
  apply LWP_run
  · simp -implicitDefEqProofs [stepsS, stepS, gd, opEff, LArg.ev, app_val, app_new, app_upd, app_kill, putV, ins, get, binV, binI, grd, bnd, ldCells, AV.cells, AV.scalar, AV.known, setAt, fillL, chunks, elems, mxI, mnI, del, Nat.add_assoc, nlt_self, nne_self, nne_self', List.take_of_length_le]; rfl
  refine LWP_seq (LWP_cond (t := decide (i < l.length)) (by simp [LArg.ev, get]) (fun hc => LWP_skip ?_) (fun hc => LWP_exit ?_))
  · simp only [decide_eq_true_eq] at hc
    refine LWP_seq (LWP_block (LWP_seq ?_))
    apply LWP_run
    · simp -implicitDefEqProofs [stepsS, stepS, gd, opEff, LArg.ev, app_val, app_new, app_upd, app_kill, putV, ins, get, binV, binI, grd, bnd, ldCells, AV.cells, AV.scalar, AV.known, setAt, fillL, chunks, elems, mxI, mnI, del, Nat.add_assoc, nlt_self, nne_self, nne_self', List.take_of_length_le]; rfl
    refine LWP_seq (LWP_reg fun K hK => ?_)
    apply rgnS_pre 5
    · simp -implicitDefEqProofs [stepsS, stepS, gd, opEff, LArg.ev, app_val, app_new, app_upd, app_kill, putV, ins, get, binV, binI, grd, bnd, ldCells, AV.cells, AV.scalar, AV.known, setAt, fillL, chunks, elems, mxI, mnI, del, Nat.add_assoc, nlt_self, nne_self, nne_self', List.take_of_length_le, hc, Rd.e]; rfl
    refine rgnS_call (hp l[i] (by simp)) rfl (by simp [LArg.ev, get, Rd.e]) (by simp [pureL, AV.pure, hcp, Rd.e]) (by simp [AV.pure]) (by simp [gd]) ?_
    apply rgnS_pre 99
    · simp -implicitDefEqProofs [stepsS, stepS, gd, opEff, LArg.ev, app_val, app_new, app_upd, app_kill, putV, ins, get, binV, binI, grd, bnd, ldCells, AV.cells, AV.scalar, AV.known, setAt, fillL, chunks, elems, mxI, mnI, del, Nat.add_assoc, nlt_self, nne_self, nne_self', List.take_of_length_le]; rfl
    refine hK _ ?_; clear hK
    refine LWP_cond (t := p l[i]) (by simp [LArg.ev, get]) (fun hx => ?_) (fun hx => LWP_skip ?_)
    · refine LWP_seq ?_
      apply LWP_run
      · simp -implicitDefEqProofs [stepsS, stepS, gd, opEff, LArg.ev, app_val, app_new, app_upd, app_kill, putV, ins, get, binV, binI, grd, bnd, ldCells, AV.cells, AV.scalar, AV.known, setAt, fillL, chunks, elems, mxI, mnI, del, Nat.add_assoc, nlt_self, nne_self, nne_self', List.take_of_length_le]; rfl
      rw [idx_hit hc h2 hx]
      refine LWP_ret ?_
      show ∃ vs, resV _ _ = some vs ∧ wkV (retV vs) _
      refine ⟨_, rfl, ?_⟩
      simp [retV, wkV.refl]
    · apply LWP_run
      · simp -implicitDefEqProofs [stepsS, stepS, gd, opEff, LArg.ev, app_val, app_new, app_upd, app_kill, putV, ins, get, binV, binI, grd, bnd, ldCells, AV.cells, AV.scalar, AV.known, setAt, fillL, chunks, elems, mxI, mnI, del, Nat.add_assoc, nlt_self, nne_self, nne_self', List.take_of_length_le]; rfl
      refine ⟨(i + 1, nx), ⟨hc, take_all hc h2 (by simp [hx])⟩, by simp only; omega, ?_⟩
      refine .mk2 ?_ ?_ ?_
      · simp [leV, get, wkV.refl, wrap_succ (n := i) (by omega)]
      · simp [leH, get, wrap_succ (n := i) (by omega)] <;> rfl
      · simp
  · have hc' : ¬ i < l.length := by simpa using hc
    rw [idx_none (take_all_end hc' h2)]
    refine LWP_seq ?_
    apply LWP_run
    · simp -implicitDefEqProofs [stepsS, stepS, gd, opEff, LArg.ev, app_val, app_new, app_upd, app_kill, putV, ins, get, binV, binI, grd, bnd, ldCells, AV.cells, AV.scalar, AV.known, setAt, fillL, chunks, elems, mxI, mnI, del, Nat.add_assoc, nlt_self, nne_self, nne_self', List.take_of_length_le]; rfl
    refine LWP_ret ?_
    show ∃ vs, resV _ _ = some vs ∧ wkV (retV vs) _
    refine ⟨_, rfl, ?_⟩
    simp [retV, wkV.refl]

theorem contains_int (l : List Int) (p : Int → Bool) {g : Nat} {caps : List AV} (hl : l.length < 2 ^ 62) (hcp : pureL caps = true)
    (hp : ∀ x ∈ l, ACalls Go.Proofs.Try.prog g (.int .i64 x :: caps) [] 0 (fun r _ _ => r = .bool (p x))) : ACalls Go.Proofs.Try.prog 28 [encI l, .fn g [] caps] [] 0 (fun r _ _ => r = .bool (l.any p)) := by
  refine pure_body ok28 rfl ?_
  simp only [parV]
  refine LWP_seq ?_
  apply LWP_run
  · simp -implicitDefEqProofs [stepsS, stepS, gd, opEff, LArg.ev, app_val, app_new, app_upd, app_kill, putV, ins, get, binV, binI, grd, bnd, ldCells, AV.cells, AV.scalar, AV.known, setAt, fillL, chunks, elems, mxI, mnI, del, Nat.add_assoc, nlt_self, nne_self, nne_self', List.take_of_length_le]; rfl
  refine LWP_seq (LWP_reg fun K hK => ?_)
  apply rgnS_pre 2
  · simp -implicitDefEqProofs [stepsS, stepS, gd, opEff, LArg.ev, app_val, app_new, app_upd, app_kill, putV, ins, get, binV, binI, grd, bnd, ldCells, AV.cells, AV.scalar, AV.known, setAt, fillL, chunks, elems, mxI, mnI, del, Nat.add_assoc, nlt_self, nne_self, nne_self', List.take_of_length_le]; rfl
  refine rgnS_call (index_int l p hl hcp hp) rfl rfl (by simp [pureL, AV.pure, encI, pure_int, hcp, pureL]) (by simp [AV.pure, encI, pure_int, hcp, pureL]) (by simp [gd, get, LArg.ev]) ?_
  apply rgnS_pre 99
  · simp -implicitDefEqProofs [stepsS, stepS, gd, opEff, LArg.ev, app_val, app_new, app_upd, app_kill, putV, ins, get, binV, binI, grd, bnd, ldCells, AV.cells, AV.scalar, AV.known, setAt, fillL, chunks, elems, mxI, mnI, del, Nat.add_assoc, nlt_self, nne_self, nne_self', List.take_of_length_le]; rfl
  refine hK _ ?_; clear hK
  rw [← idx_any p l]
  refine LWP_ret ?_
  show ∃ vs, resV _ _ = some vs ∧ wkV (retV vs) _
  refine ⟨_, rfl, ?_⟩
  simp [retV, wkV.refl]

theorem contains_rd (l : List Rd) (p : Rd → Bool) {g : Nat} {caps : List AV} (hl : l.length < 2 ^ 62) (hcp : pureL caps = true)
    (hp : ∀ x ∈ l, ACalls Go.Proofs.Try.prog g (.agg x.e :: caps) [] 0 (fun r _ _ => r = .bool (p x))) : ACalls Go.Proofs.Try.prog 30 [.tsl 3 (l.map Rd.e), .fn g [] caps] [] 0 (fun r _ _ => r = .bool (l.any p)) := by
  refine pure_body ok30 rfl ?_
  simp only [parV]
  refine LWP_seq ?_
  apply LWP_run
  · simp -implicitDefEqProofs [stepsS, stepS, gd, opEff, LArg.ev, app_val, app_new, app_upd, app_kill, putV, ins, get, binV, binI, grd, bnd, ldCells, AV.cells, AV.scalar, AV.known, setAt, fillL, chunks, elems, mxI, mnI, del, Nat.add_assoc, nlt_self, nne_self, nne_self', List.take_of_length_le]; rfl
  refine LWP_seq (LWP_reg fun K hK => ?_)
  apply rgnS_pre 2
  · simp -implicitDefEqProofs [stepsS, stepS, gd, opEff, LArg.ev, app_val, app_new, app_upd, app_kill, putV, ins, get, binV, binI, grd, bnd, ldCells, AV.cells, AV.scalar, AV.known, setAt, fillL, chunks, elems, mxI, mnI, del, Nat.add_assoc, nlt_self, nne_self, nne_self', List.take_of_length_le]; rfl
  refine rgnS_call (index_rd l p hl hcp hp) rfl rfl (by simp [pureL, AV.pure, pure_rd, hcp, pureL]) (by simp [AV.pure, pure_rd, hcp, pureL]) (by simp [gd, get, LArg.ev]) ?_
  apply rgnS_pre 99
  · simp -implicitDefEqProofs [stepsS, stepS, gd, opEff, LArg.ev, app_val, app_new, app_upd, app_kill, putV, ins, get, binV, binI, grd, bnd, ldCells, AV.cells, AV.scalar, AV.known, setAt, fillL, chunks, elems, mxI, mnI, del, Nat.add_assoc, nlt_self, nne_self, nne_self', List.take_of_length_le]; rfl
  refine hK _ ?_; clear hK
  rw [← idx_any p l]
  refine LWP_ret ?_
  show ∃ vs, resV _ _ = some vs ∧ wkV (retV vs) _
  refine ⟨_, rfl, ?_⟩
  simp [retV, wkV.refl]

def outI (x : Int) : Bool := !wi x (-1125899906842624) 1125899906842624

theorem holds1_ok (x : Int) : ACalls Go.Proofs.Try.prog 29 [.int .i64 x] [] 0 (fun r _ _ => r = .bool (outI x)) := by
  refine pure_body ok29 rfl ?_
  simp only [parV]
  refine LWP_seq ?_
  apply LWP_run
  · simp -implicitDefEqProofs [stepsS, stepS, gd, opEff, LArg.ev, app_val, app_new, app_upd, app_kill, putV, ins, get, binV, binI, grd, bnd, ldCells, AV.cells, AV.scalar, AV.known, setAt, fillL, chunks, elems, mxI, mnI, del, Nat.add_assoc, nlt_self, nne_self, nne_self', List.take_of_length_le]; rfl
  refine LWP_seq (LWP_reg fun K hK => ?_)
  apply rgnS_pre 1
  · simp -implicitDefEqProofs [stepsS, stepS, gd, opEff, LArg.ev, app_val, app_new, app_upd, app_kill, putV, ins, get, binV, binI, grd, bnd, ldCells, AV.cells, AV.scalar, AV.known, setAt, fillL, chunks, elems, mxI, mnI, del, Nat.add_assoc, nlt_self, nne_self, nne_self', List.take_of_length_le]; rfl
  refine rgnS_call (within_ok _ _ _) rfl rfl (by simp [pureL, AV.pure]) (by simp [AV.pure]) (by simp [gd, get, LArg.ev]) ?_
  apply rgnS_pre 99
  · simp -implicitDefEqProofs [stepsS, stepS, gd, opEff, LArg.ev, app_val, app_new, app_upd, app_kill, putV, ins, get, binV, binI, grd, bnd, ldCells, AV.cells, AV.scalar, AV.known, setAt, fillL, chunks, elems, mxI, mnI, del, Nat.add_assoc, nlt_self, nne_self, nne_self', List.take_of_length_le]; rfl
  refine hK _ ?_; clear hK
  refine LWP_ret ?_
  show ∃ vs, resV _ _ = some vs ∧ wkV (retV vs) _
  refine ⟨_, rfl, ?_⟩
  simp [retV, wkV.refl, outI]

def shortR (xs : List Int) (r : Rd) : Bool := decide (IntKind.i64.wrap (xs.getD r.t.toNat 0 - xs.getD r.f.toNat 0) < r.d)

theorem holds2_ok (xs : List Int) (r : Rd) (hf : 0 ≤ r.f) (hft : r.f < r.t) (ht : r.t < xs.length) : ACalls Go.Proofs.Try.prog 31 [.agg r.e, .cptr [encI xs]] [] 0 (fun x _ _ => x = .bool (shortR xs r)) := by
  refine pure_body ok31 rfl ?_
  simp only [parV]
  refine LWP_seq ?_
  apply LWP_run
  · simp -implicitDefEqProofs [stepsS, stepS, gd, opEff, LArg.ev, app_val, app_new, app_upd, app_kill, putV, ins, get, binV, binI, grd, bnd, ldCells, AV.cells, AV.scalar, AV.known, setAt, fillL, chunks, elems, mxI, mnI, del, Nat.add_assoc, nlt_self, nne_self, nne_self', List.take_of_length_le, Rd.e]; rfl
  refine LWP_seq ?_
  have h1 : 0 ≤ r.t := by omega
  have h2 : r.t.toNat < xs.length := by omega
  have h3 : r.f.toNat < xs.length := by omega
  have h4 : r.f < xs.length := by omega
  apply LWP_runD
  · simp -implicitDefEqProofs [stepsD, stepD, ST.as, dEffF, LOp.cls, softOK, LOp.args, AV.ids, gd, opEff, LArg.ev, appD_val, appD_new, appD_upd, appD_kill, AS.flush, delAll, putV, ins, get, binV, binI, grd, bnd, ldCells, AV.cells, AV.scalar, AV.known, setAt, fillL, chunks, elems, mxI, mnI, del, Nat.add_assoc, nlt_self, nne_self, nne_self', List.take_of_length_le, encI, enc1, h1, hf, ht, h2, h3, h4]; rfl
  · simp [AS.fin, delAll, del, Nat.add_assoc]; rfl
  refine LWP_ret ?_
  show ∃ vs, resV _ _ = some vs ∧ wkV (retV vs) _
  refine ⟨_, rfl, ?_⟩
  simp [retV, wkV.refl, shortR, h2, h3]

def holdsL (l : List Rd) (xs : List Int) : Bool := chkL l xs.length && (!xs.any outI && !l.any (shortR xs))

theorem chk_rng {l : List Rd} {n : Int} (h : chkL l n = true) : ∀ x ∈ l, 0 ≤ x.f ∧ x.f < x.t ∧ x.t < n := by
  simp only [chkL, Bool.and_eq_true, decide_eq_true_eq, List.all_eq_true] at h
  intro x hx
  have := h.2.2 x hx
  simp [okRd] at this
  omega

theorem holds_ok (l : List Rd) (xs : List Int) (hl : l.length < 2 ^ 60) (hx : xs.length < 2 ^ 60) : ACalls Go.Proofs.Try.prog 18 [.tsl 3 (l.map Rd.e), encI xs] [] 0 (fun x _ _ => x = .bool (holdsL l xs)) := by
  refine pure_body ok18 rfl ?_
  simp only [parV]
  refine LWP_seq ?_
  apply LWP_run
  · simp -implicitDefEqProofs [stepsS, stepS, gd, opEff, LArg.ev, app_val, app_new, app_upd, app_kill, putV, ins, get, binV, binI, grd, bnd, ldCells, AV.cells, AV.scalar, AV.known, setAt, fillL, chunks, elems, mxI, mnI, del, Nat.add_assoc, nlt_self, nne_self, nne_self', List.take_of_length_le, encI]; rfl
  refine LWP_frz 0 (sz := 1) (es := [[encI xs]]) (by simp [get, encI]) ?_
  refine LWP_sub (T := ⟨[(0, .tsl 3 (l.map Rd.e)), (1, encI xs), (3, .cptr [encI xs])], [], 1⟩) ?_ ?_
  · refine .mk2 ?_ ?_ ?_
    · simp [ST.frz, mapS, frzV, leV, get, wkV.refl, frzR_pure, pure_rd, pure_int, encI]
    · simp [leH]
    · simp [ST.frz]
  refine LWP_seq (LWP_seq (LWP_reg fun K hK => ?_))
  apply rgnS_pre 3
  · simp -implicitDefEqProofs [stepsS, stepS, gd, opEff, LArg.ev, app_val, app_new, app_upd, app_kill, putV, ins, get, binV, binI, grd, bnd, ldCells, AV.cells, AV.scalar, AV.known, setAt, fillL, chunks, elems, mxI, mnI, del, Nat.add_assoc, nlt_self, nne_self, nne_self', List.take_of_length_le, encI]; rfl
  refine rgnS_call (check_ok l xs.length hl) rfl rfl (by simp [pureL, AV.pure, pure_rd]) (by simp [AV.pure, pure_rd]) (by simp [gd, get, LArg.ev]) ?_
  by_cases hc : chkL l xs.length = true
  · apply rgnS_pre 3
    · simp -implicitDefEqProofs [stepsS, stepS, gd, opEff, LArg.ev, app_val, app_new, app_upd, app_kill, putV, ins, get, binV, binI, grd, bnd, ldCells, AV.cells, AV.scalar, AV.known, setAt, fillL, chunks, elems, mxI, mnI, del, Nat.add_assoc, nlt_self, nne_self, nne_self', List.take_of_length_le, hc]; rfl
    refine rgnS_call (contains_int xs outI (g := 29) (caps := []) (by omega) rfl (fun x _ => holds1_ok x)) rfl rfl (by simp [pureL, AV.pure, encI, pure_int, pureL]) (by simp [AV.pure, encI, pure_int, pureL]) (by simp [gd, get, LArg.ev]) ?_
    apply rgnS_pre 99
    · simp -implicitDefEqProofs [stepsS, stepS, gd, opEff, LArg.ev, app_val, app_new, app_upd, app_kill, putV, ins, get, binV, binI, grd, bnd, ldCells, AV.cells, AV.scalar, AV.known, setAt, fillL, chunks, elems, mxI, mnI, del, Nat.add_assoc, nlt_self, nne_self, nne_self', List.take_of_length_le]; rfl
    refine hK _ ?_; clear hK
    refine LWP_cond (t := xs.any outI) (by simp [LArg.ev, get]) (fun h => ?_) (fun h => LWP_skip ?_)
    · refine LWP_seq ?_
      apply LWP_run
      · simp -implicitDefEqProofs [stepsS, stepS, gd, opEff, LArg.ev, app_val, app_new, app_upd, app_kill, putV, ins, get, binV, binI, grd, bnd, ldCells, AV.cells, AV.scalar, AV.known, setAt, fillL, chunks, elems, mxI, mnI, del, Nat.add_assoc, nlt_self, nne_self, nne_self', List.take_of_length_le]; rfl
      have hb : holdsL l xs = false := by simp only [holdsL, h, Bool.not_true, Bool.false_and, Bool.and_false]
      rw [hb]
      refine LWP_ret ?_
      show ∃ vs, resV _ _ = some vs ∧ wkV (retV vs) _
      refine ⟨_, rfl, ?_⟩
      simp [retV, wkV.refl]
    · refine LWP_seq (LWP_reg fun K hK => ?_)
      apply rgnS_pre 2
      · simp -implicitDefEqProofs [stepsS, stepS, gd, opEff, LArg.ev, app_val, app_new, app_upd, app_kill, putV, ins, get, binV, binI, grd, bnd, ldCells, AV.cells, AV.scalar, AV.known, setAt, fillL, chunks, elems, mxI, mnI, del, Nat.add_assoc, nlt_self, nne_self, nne_self', List.take_of_length_le]; rfl
      refine rgnS_call (contains_rd l (shortR xs) (g := 31) (caps := [.cptr [encI xs]]) (by omega) (by simp [pureL, AV.pure, encI, pure_int]) (fun x hx => by obtain ⟨k1, k2, k3⟩ := chk_rng hc x hx; exact holds2_ok xs x k1 k2 k3)) rfl rfl (by simp [pureL, AV.pure, pure_rd, pureL, encI, pure_int]) (by simp [AV.pure, pure_rd, pureL, encI, pure_int]) (by simp [gd, get, LArg.ev]) ?_
      apply rgnS_pre 99
      · simp -implicitDefEqProofs [stepsS, stepS, gd, opEff, LArg.ev, app_val, app_new, app_upd, app_kill, putV, ins, get, binV, binI, grd, bnd, ldCells, AV.cells, AV.scalar, AV.known, setAt, fillL, chunks, elems, mxI, mnI, del, Nat.add_assoc, nlt_self, nne_self, nne_self', List.take_of_length_le]; rfl
      refine hK _ ?_; clear hK
      have hb : holdsL l xs = !l.any (shortR xs) := by simp only [holdsL, h, hc, Bool.not_false, Bool.true_and]
      rw [hb]
      refine LWP_ret ?_
      show ∃ vs, resV _ _ = some vs ∧ wkV (retV vs) _
      refine ⟨_, rfl, ?_⟩
      simp [retV, wkV.refl]
  · have hc' : chkL l xs.length = false := by simpa using hc
    apply rgnS_pre 99
    · simp -implicitDefEqProofs [stepsS, stepS, gd, opEff, LArg.ev, app_val, app_new, app_upd, app_kill, putV, ins, get, binV, binI, grd, bnd, ldCells, AV.cells, AV.scalar, AV.known, setAt, fillL, chunks, elems, mxI, mnI, del, Nat.add_assoc, nlt_self, nne_self, nne_self', List.take_of_length_le, hc']; rfl
    refine hK _ ?_; clear hK
    refine LWP_cond (t := true) (by simp [LArg.ev, get]) (fun _ => ?_) (fun h => by cases h)
    refine LWP_seq ?_
    apply LWP_run
    · simp -implicitDefEqProofs [stepsS, stepS, gd, opEff, LArg.ev, app_val, app_new, app_upd, app_kill, putV, ins, get, binV, binI, grd, bnd, ldCells, AV.cells, AV.scalar, AV.known, setAt, fillL, chunks, elems, mxI, mnI, del, Nat.add_assoc, nlt_self, nne_self, nne_self', List.take_of_length_le]; rfl
    have hb : holdsL l xs = false := by simp [holdsL, hc']
    rw [hb]
    refine LWP_ret ?_
    show ∃ vs, resV _ _ = some vs ∧ wkV (retV vs) _
    refine ⟨_, rfl, ?_⟩
    simp [retV, wkV.refl]
end Go.AM.Rod
