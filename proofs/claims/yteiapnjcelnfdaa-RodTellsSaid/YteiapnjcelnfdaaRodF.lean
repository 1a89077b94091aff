/- A part of a proof about the given program: what its name says. No premise beyond the statements'. -/
import Derived.Test.YteiapnjcelnfdaaRodE
set_option linter.unusedSimpArgs false
set_option linter.unusedVariables false
namespace Go.AM.Rod
open Go.AM

theorem eqL3 (a b c a' b' c' : Int) : eqL [.i, .i, .i] [.int .i64 a, .int .i64 b, .int .i64 c] [.int .i64 a', .int .i64 b', .int .i64 c'] = some (decide (a = a') && (decide (b = b') && decide (c = c'))) := by
  have e : ∀ x y : Int, (x == y) = decide (x = y) := fun _ _ => rfl
  simp only [eqL, eqS, grd, e]
  by_cases h1 : a = a' <;> by_cases h2 : b = b' <;> by_cases h3 : c = c' <;> simp [h1, h2, h3]

def eqRd (x y : Rd) : Bool := decide (x.f = y.f) && (decide (x.t = y.t) && decide (x.d = y.d))
def sameL : List Rd → List Rd → Bool
  | [], [] => true
  | x :: l, y :: m => eqRd x y && sameL l m
  | _, _ => false
theorem eqRd_iff (x y : Rd) : eqRd x y = true ↔ x = y := by
  cases x; cases y
  simp [eqRd]
theorem sameL_iff : ∀ (l m : List Rd), sameL l m = true ↔ l = m
  | [], [] => by simp [sameL]
  | [], _ :: _ => by simp [sameL]
  | _ :: _, [] => by simp [sameL]
  | x :: l, y :: m => by simp [sameL, eqRd_iff, sameL_iff l m]

theorem same_ok (a b : List Rd) (hl : a.length < 2 ^ 60) : ACalls Go.Proofs.Try.prog 12 [.tsl 3 (a.map Rd.e), .tsl 3 (b.map Rd.e)] [] 0 (fun r _ _ => r = .bool (sameL a b)) := by
  refine pure_body ok12 rfl ?_
  simp only [parV]
  refine LWP_seq ?_
  apply LWP_run
  · simp -implicitDefEqProofs [stepsS, stepS, gd, opEff, LArg.ev, app_val, app_new, app_upd, app_kill, putV, ins, get, binV, binI, grd, bnd, ldCells, AV.cells, AV.scalar, AV.known, setAt, fillL, chunks, elems, mxI, mnI, del, Nat.add_assoc, nlt_self, nne_self, nne_self', List.take_of_length_le]; rfl
  refine LWP_seq (LWP_seq ?_)
  apply LWP_run
  · simp -implicitDefEqProofs [stepsS, stepS, gd, opEff, LArg.ev, app_val, app_new, app_upd, app_kill, putV, ins, get, binV, binI, grd, bnd, ldCells, AV.cells, AV.scalar, AV.known, setAt, fillL, chunks, elems, mxI, mnI, del, Nat.add_assoc, nlt_self, nne_self, nne_self', List.take_of_length_le]; rfl
  have no : a ≠ b → sameL a b = false := fun h => by
    cases hs : sameL a b with
    | false => rfl
    | true => exact absurd ((sameL_iff a b).1 hs) h
  refine LWP_cond (t := (a.length : Int) != (b.length : Int)) (by simp [LArg.ev, get]) (fun h => ?_) (fun h => LWP_skip ?_)
  · refine LWP_seq ?_
    apply LWP_run
    · simp -implicitDefEqProofs [stepsS, stepS, gd, opEff, LArg.ev, app_val, app_new, app_upd, app_kill, putV, ins, get, binV, binI, grd, bnd, ldCells, AV.cells, AV.scalar, AV.known, setAt, fillL, chunks, elems, mxI, mnI, del, Nat.add_assoc, nlt_self, nne_self, nne_self', List.take_of_length_le]; rfl
    rw [no (fun e => by subst e; simp at h)]
    refine LWP_ret ?_
    show ∃ vs, resV _ _ = some vs ∧ wkV (retV vs) _
    refine ⟨_, rfl, ?_⟩
    simp [retV, wkV.refl]
  have hlen : a.length = b.length := by simp at h; omega
  refine LWP_seq (LWP_seq ?_)
  apply LWP_run
  · simp -implicitDefEqProofs [stepsS, stepS, gd, opEff, LArg.ev, app_val, app_new, app_upd, app_kill, putV, ins, get, binV, binI, grd, bnd, ldCells, AV.cells, AV.scalar, AV.known, setAt, fillL, chunks, elems, mxI, mnI, del, Nat.add_assoc, nlt_self, nne_self, nne_self', List.take_of_length_le]; rfl
  refine LWP_block (LWP_inv (fun q : Nat × Nat => ⟨[(0, .tsl 3 (a.map Rd.e)), (1, .tsl 3 (b.map Rd.e)), (5, .int .i64 q.1)], [], q.2⟩) (fun q => a.length - q.1) (fun q => q.1 ≤ a.length ∧ a.take q.1 = b.take q.1) (0, 0) ?_ ⟨Nat.zero_le _, by simp⟩ ?_)
  · refine .mk2 ?_ ?_ ?_
    · simp [leV, get, wkV.refl]
    · simp [leH, get] <;> rfl
    · simp
  rintro ⟨i, nx⟩ ⟨h1, h2⟩
  simp only at h1 h2 ⊢
  refine LWP_seq (LWP_seq ?_)
  apply LWP_run
  · simp -implicitDefEqProofs [stepsS, stepS, gd, opEff, LArg.ev, app_val, app_new, app_upd, app_kill, putV, ins, get, binV, binI, grd, bnd, ldCells, AV.cells, AV.scalar, AV.known, setAt, fillL, chunks, elems, mxI, mnI, del, Nat.add_assoc, nlt_self, nne_self, nne_self', List.take_of_length_le]; rfl
  refine LWP_cond (t := decide (i < a.length)) (by simp [LArg.ev, get]) (fun hc => LWP_skip ?_) (fun hc => LWP_exit ?_)
  · simp only [decide_eq_true_eq] at hc
    have hc2 : i < b.length := by omega
    refine LWP_seq (LWP_block (LWP_seq ?_))
    apply LWP_runD
    · simp -implicitDefEqProofs [stepsD, stepD, ST.as, dEffF, LOp.cls, softOK, LOp.args, AV.ids, gd, opEff, LArg.ev, appD_val, appD_new, appD_upd, appD_kill, AS.flush, delAll, putV, ins, get, binV, binI, grd, bnd, ldCells, AV.cells, AV.scalar, AV.known, setAt, fillL, chunks, elems, mxI, mnI, del, Nat.add_assoc, nlt_self, nne_self, nne_self', List.take_of_length_le, hc, hc2, Rd.e, eqV, eqL3]; rfl
    · simp [AS.fin, delAll, del, Nat.add_assoc]; rfl
    refine LWP_cond (t := !eqRd a[i] b[i]) (by simp [LArg.ev, get, eqRd]) (fun he => ?_) (fun he => LWP_skip ?_)
    · refine LWP_seq ?_
      apply LWP_run
      · simp -implicitDefEqProofs [stepsS, stepS, gd, opEff, LArg.ev, app_val, app_new, app_upd, app_kill, putV, ins, get, binV, binI, grd, bnd, ldCells, AV.cells, AV.scalar, AV.known, setAt, fillL, chunks, elems, mxI, mnI, del, Nat.add_assoc, nlt_self, nne_self, nne_self', List.take_of_length_le]; rfl
      rw [no (fun e => by subst e; simp [(eqRd_iff _ _).2] at he)]
      refine LWP_ret ?_
      show ∃ vs, resV _ _ = some vs ∧ wkV (retV vs) _
      refine ⟨_, rfl, ?_⟩
      simp [retV, wkV.refl]
    · have he' : a[i] = b[i] := (eqRd_iff _ _).1 (by simpa using he)
      apply LWP_run
      · simp -implicitDefEqProofs [stepsS, stepS, gd, opEff, LArg.ev, app_val, app_new, app_upd, app_kill, putV, ins, get, binV, binI, grd, bnd, ldCells, AV.cells, AV.scalar, AV.known, setAt, fillL, chunks, elems, mxI, mnI, del, Nat.add_assoc, nlt_self, nne_self, nne_self', List.take_of_length_le]; rfl
      refine ⟨(i + 1, nx + 9), ⟨hc, by simp only; rw [List.take_succ_eq_append_getElem hc, List.take_succ_eq_append_getElem hc2, h2, he']⟩, by simp only; omega, ?_⟩
      refine .mk2 ?_ ?_ ?_
      · simp [leV, get, wkV.refl, wrap_succ (n := i) (by omega)]
      · simp [leH, get, wrap_succ (n := i) (by omega)] <;> rfl
      · simp
  · have hc' : ¬ i < a.length := by simpa using hc
    have hab : a = b := by
      rw [List.take_of_length_le (by omega), List.take_of_length_le (by omega)] at h2
      exact h2
    rw [(sameL_iff a b).2 hab]
    refine LWP_seq ?_
    apply LWP_run
    · simp -implicitDefEqProofs [stepsS, stepS, gd, opEff, LArg.ev, app_val, app_new, app_upd, app_kill, putV, ins, get, binV, binI, grd, bnd, ldCells, AV.cells, AV.scalar, AV.known, setAt, fillL, chunks, elems, mxI, mnI, del, Nat.add_assoc, nlt_self, nne_self, nne_self', List.take_of_length_le]; rfl
    refine LWP_ret ?_
    show ∃ vs, resV _ _ = some vs ∧ wkV (retV vs) _
    refine ⟨_, rfl, ?_⟩
    simp [retV, wkV.refl]

def okRd (n : Int) (x : Rd) : Bool := !decide (x.f < 0) && (!decide (x.t ≤ x.f) && (!decide (x.t ≥ n) && wi x.d 1 1073741824))
def chkL (l : List Rd) (n : Int) : Bool := wi n 0 4096 && (decide (l.length ≤ 400000) && l.all (okRd n))

theorem check_ok (l : List Rd) (n : Int) (hl : l.length < 2 ^ 60) : ACalls Go.Proofs.Try.prog 13 [.tsl 3 (l.map Rd.e), .int .i64 n] [] 0 (fun r _ _ => r = .bool (chkL l n)) := by
  refine pure_body ok13 rfl ?_
  simp only [parV]
  refine LWP_seq ?_
  apply LWP_run
  · simp -implicitDefEqProofs [stepsS, stepS, gd, opEff, LArg.ev, app_val, app_new, app_upd, app_kill, putV, ins, get, binV, binI, grd, bnd, ldCells, AV.cells, AV.scalar, AV.known, setAt, fillL, chunks, elems, mxI, mnI, del, Nat.add_assoc, nlt_self, nne_self, nne_self', List.take_of_length_le]; rfl
  refine LWP_seq (LWP_seq (LWP_reg fun K hK => ?_))
  apply rgnS_pre 1
  · simp -implicitDefEqProofs [stepsS, stepS, gd, opEff, LArg.ev, app_val, app_new, app_upd, app_kill, putV, ins, get, binV, binI, grd, bnd, ldCells, AV.cells, AV.scalar, AV.known, setAt, fillL, chunks, elems, mxI, mnI, del, Nat.add_assoc, nlt_self, nne_self, nne_self', List.take_of_length_le]; rfl
  refine rgnS_call (within_ok _ _ _) rfl rfl (by simp [pureL, AV.pure]) (by simp [AV.pure]) (by simp [gd, get, LArg.ev]) ?_
  by_cases hn : wi n 0 4096 = true
  · apply rgnS_pre 99
    · simp -implicitDefEqProofs [stepsS, stepS, gd, opEff, LArg.ev, app_val, app_new, app_upd, app_kill, putV, ins, get, binV, binI, grd, bnd, ldCells, AV.cells, AV.scalar, AV.known, setAt, fillL, chunks, elems, mxI, mnI, del, Nat.add_assoc, nlt_self, nne_self, nne_self', List.take_of_length_le, hn]; rfl
    refine hK _ ?_; clear hK
    refine LWP_cond (t := decide (400000 < l.length)) (by simp [LArg.ev, get]; omega) (fun h => ?_) (fun h => LWP_skip ?_)
    · refine LWP_seq ?_
      apply LWP_run
      · simp -implicitDefEqProofs [stepsS, stepS, gd, opEff, LArg.ev, app_val, app_new, app_upd, app_kill, putV, ins, get, binV, binI, grd, bnd, ldCells, AV.cells, AV.scalar, AV.known, setAt, fillL, chunks, elems, mxI, mnI, del, Nat.add_assoc, nlt_self, nne_self, nne_self', List.take_of_length_le]; rfl
      have hb : chkL l n = false := by
        have : ¬ l.length ≤ 400000 := by simpa using h
        simp [chkL, this]
      rw [hb]
      refine LWP_ret ?_
      show ∃ vs, resV _ _ = some vs ∧ wkV (retV vs) _
      refine ⟨_, rfl, ?_⟩
      simp [retV, wkV.refl]
    have hlen : l.length ≤ 400000 := by simpa using h
    refine LWP_seq (LWP_seq ?_)
    apply LWP_run
    · simp -implicitDefEqProofs [stepsS, stepS, gd, opEff, LArg.ev, app_val, app_new, app_upd, app_kill, putV, ins, get, binV, binI, grd, bnd, ldCells, AV.cells, AV.scalar, AV.known, setAt, fillL, chunks, elems, mxI, mnI, del, Nat.add_assoc, nlt_self, nne_self, nne_self', List.take_of_length_le]; rfl
    refine LWP_block (LWP_inv (fun q : Nat × Nat => ⟨[(0, .tsl 3 (l.map Rd.e)), (1, .int .i64 n), (15, .tsl 3 (l.map Rd.e)), (16, .int .i64 l.length), (17, .int .i64 q.1)], [], q.2⟩) (fun q => l.length - q.1) (fun q => q.1 ≤ l.length ∧ (l.take q.1).all (okRd n) = true) (0, 0) ?_ ⟨Nat.zero_le _, by simp⟩ ?_)
    · refine .mk2 ?_ ?_ ?_
      · simp [leV, get, wkV.refl]
      · simp [leH, get] <;> rfl
      · simp
    rintro ⟨i, nx⟩ ⟨h1, h2⟩
    simp only at h1 h2 ⊢
    refine LWP_seq ?_
    apply LWP_run
    · simp -implicitDefEqProofs [stepsS, stepS, gd, opEff, LArg.ev, app_val, app_new, app_upd, app_kill, putV, ins, get, binV, binI, grd, bnd, ldCells, AV.cells, AV.scalar, AV.known, setAt, fillL, chunks, elems, mxI, mnI, del, Nat.add_assoc, nlt_self, nne_self, nne_self', List.take_of_length_le]; rfl
    refine LWP_seq (LWP_cond (t := decide (i < l.length)) (by simp [LArg.ev, get]) (fun hc => LWP_skip ?_) (fun hc => LWP_exit ?_))
    · simp only [decide_eq_true_eq] at hc
      have bad : okRd n l[i] = false → chkL l n = false := fun hx => by
        simp only [chkL, Bool.and_eq_false_iff]
        exact .inr (.inr (all_ff hc hx))
      refine LWP_seq (LWP_block (LWP_seq ?_))
      apply LWP_run
      · simp -implicitDefEqProofs [stepsS, stepS, gd, opEff, LArg.ev, app_val, app_new, app_upd, app_kill, putV, ins, get, binV, binI, grd, bnd, ldCells, AV.cells, AV.scalar, AV.known, setAt, fillL, chunks, elems, mxI, mnI, del, Nat.add_assoc, nlt_self, nne_self, nne_self', List.take_of_length_le, hc, Rd.e]; rfl
      refine LWP_seq (LWP_reg fun K hK => ?_)
      by_cases c1 : l[i].f < 0
      · apply rgnS_pre 99
        · simp -implicitDefEqProofs [stepsS, stepS, gd, opEff, LArg.ev, app_val, app_new, app_upd, app_kill, putV, ins, get, binV, binI, grd, bnd, ldCells, AV.cells, AV.scalar, AV.known, setAt, fillL, chunks, elems, mxI, mnI, del, Nat.add_assoc, nlt_self, nne_self, nne_self', List.take_of_length_le, c1]; rfl
        refine hK _ ?_; clear hK
        refine LWP_cond (t := true) (by simp [LArg.ev, get]) (fun _ => ?_) (fun hw => by cases hw)
        refine LWP_seq ?_
        apply LWP_run
        · simp -implicitDefEqProofs [stepsS, stepS, gd, opEff, LArg.ev, app_val, app_new, app_upd, app_kill, putV, ins, get, binV, binI, grd, bnd, ldCells, AV.cells, AV.scalar, AV.known, setAt, fillL, chunks, elems, mxI, mnI, del, Nat.add_assoc, nlt_self, nne_self, nne_self', List.take_of_length_le]; rfl
        rw [bad (by simp [okRd, c1])]
        refine LWP_ret ?_
        show ∃ vs, resV _ _ = some vs ∧ wkV (retV vs) _
        refine ⟨_, rfl, ?_⟩
        simp [retV, wkV.refl]
      by_cases c2 : l[i].t ≤ l[i].f
      · apply rgnS_pre 99
        · simp -implicitDefEqProofs [stepsS, stepS, gd, opEff, LArg.ev, app_val, app_new, app_upd, app_kill, putV, ins, get, binV, binI, grd, bnd, ldCells, AV.cells, AV.scalar, AV.known, setAt, fillL, chunks, elems, mxI, mnI, del, Nat.add_assoc, nlt_self, nne_self, nne_self', List.take_of_length_le, c1, c2]; rfl
        refine hK _ ?_; clear hK
        refine LWP_cond (t := true) (by simp [LArg.ev, get]) (fun _ => ?_) (fun hw => by cases hw)
        refine LWP_seq ?_
        apply LWP_run
        · simp -implicitDefEqProofs [stepsS, stepS, gd, opEff, LArg.ev, app_val, app_new, app_upd, app_kill, putV, ins, get, binV, binI, grd, bnd, ldCells, AV.cells, AV.scalar, AV.known, setAt, fillL, chunks, elems, mxI, mnI, del, Nat.add_assoc, nlt_self, nne_self, nne_self', List.take_of_length_le]; rfl
        rw [bad (by simp [okRd, c2])]
        refine LWP_ret ?_
        show ∃ vs, resV _ _ = some vs ∧ wkV (retV vs) _
        refine ⟨_, rfl, ?_⟩
        simp [retV, wkV.refl]
      by_cases c3 : n ≤ l[i].t
      · apply rgnS_pre 99
        · simp -implicitDefEqProofs [stepsS, stepS, gd, opEff, LArg.ev, app_val, app_new, app_upd, app_kill, putV, ins, get, binV, binI, grd, bnd, ldCells, AV.cells, AV.scalar, AV.known, setAt, fillL, chunks, elems, mxI, mnI, del, Nat.add_assoc, nlt_self, nne_self, nne_self', List.take_of_length_le, c1, c2, c3]; rfl
        refine hK _ ?_; clear hK
        refine LWP_cond (t := true) (by simp [LArg.ev, get]) (fun _ => ?_) (fun hw => by cases hw)
        refine LWP_seq ?_
        apply LWP_run
        · simp -implicitDefEqProofs [stepsS, stepS, gd, opEff, LArg.ev, app_val, app_new, app_upd, app_kill, putV, ins, get, binV, binI, grd, bnd, ldCells, AV.cells, AV.scalar, AV.known, setAt, fillL, chunks, elems, mxI, mnI, del, Nat.add_assoc, nlt_self, nne_self, nne_self', List.take_of_length_le]; rfl
        rw [bad (by simp [okRd, c3])]
        refine LWP_ret ?_
        show ∃ vs, resV _ _ = some vs ∧ wkV (retV vs) _
        refine ⟨_, rfl, ?_⟩
        simp [retV, wkV.refl]
      apply rgnS_pre 19
      · simp -implicitDefEqProofs [stepsS, stepS, gd, opEff, LArg.ev, app_val, app_new, app_upd, app_kill, putV, ins, get, binV, binI, grd, bnd, ldCells, AV.cells, AV.scalar, AV.known, setAt, fillL, chunks, elems, mxI, mnI, del, Nat.add_assoc, nlt_self, nne_self, nne_self', List.take_of_length_le, c1, c2, c3]; rfl
      refine rgnS_call (within_ok _ _ _) rfl rfl (by simp [pureL, AV.pure]) (by simp [AV.pure]) (by simp [gd, get, LArg.ev]) ?_
      apply rgnS_pre 99
      · simp -implicitDefEqProofs [stepsS, stepS, gd, opEff, LArg.ev, app_val, app_new, app_upd, app_kill, putV, ins, get, binV, binI, grd, bnd, ldCells, AV.cells, AV.scalar, AV.known, setAt, fillL, chunks, elems, mxI, mnI, del, Nat.add_assoc, nlt_self, nne_self, nne_self', List.take_of_length_le]; rfl
      refine hK _ ?_; clear hK
      refine LWP_cond (t := !wi l[i].d 1 1073741824) (by simp [LArg.ev, get]) (fun hx => ?_) (fun hx => LWP_skip ?_)
      · refine LWP_seq ?_
        apply LWP_run
        · simp -implicitDefEqProofs [stepsS, stepS, gd, opEff, LArg.ev, app_val, app_new, app_upd, app_kill, putV, ins, get, binV, binI, grd, bnd, ldCells, AV.cells, AV.scalar, AV.known, setAt, fillL, chunks, elems, mxI, mnI, del, Nat.add_assoc, nlt_self, nne_self, nne_self', List.take_of_length_le]; rfl
        rw [bad (by simp at hx; simp [okRd, hx])]
        refine LWP_ret ?_
        show ∃ vs, resV _ _ = some vs ∧ wkV (retV vs) _
        refine ⟨_, rfl, ?_⟩
        simp [retV, wkV.refl]
      · apply LWP_run
        · simp -implicitDefEqProofs [stepsS, stepS, gd, opEff, LArg.ev, app_val, app_new, app_upd, app_kill, putV, ins, get, binV, binI, grd, bnd, ldCells, AV.cells, AV.scalar, AV.known, setAt, fillL, chunks, elems, mxI, mnI, del, Nat.add_assoc, nlt_self, nne_self, nne_self', List.take_of_length_le]; rfl
        refine ⟨(i + 1, nx + 1), ⟨hc, take_all hc h2 (by simp at hx; simp [okRd, hx]; omega)⟩, by simp only; omega, ?_⟩
        refine .mk2 ?_ ?_ ?_
        · simp [leV, get, wkV.refl, wrap_succ (n := i) (by omega)]
        · simp [leH, get, wrap_succ (n := i) (by omega)] <;> rfl
        · simp
    · have hc' : ¬ i < l.length := by simpa using hc
      have hb : chkL l n = true := by
        simp only [chkL, Bool.and_eq_true, decide_eq_true_eq]
        exact ⟨hn, hlen, take_all_end hc' h2⟩
      rw [hb]
      refine LWP_seq ?_
      apply LWP_run
      · simp -implicitDefEqProofs [stepsS, stepS, gd, opEff, LArg.ev, app_val, app_new, app_upd, app_kill, putV, ins, get, binV, binI, grd, bnd, ldCells, AV.cells, AV.scalar, AV.known, setAt, fillL, chunks, elems, mxI, mnI, del, Nat.add_assoc, nlt_self, nne_self, nne_self', List.take_of_length_le]; rfl
      refine LWP_ret ?_
      show ∃ vs, resV _ _ = some vs ∧ wkV (retV vs) _
      refine ⟨_, rfl, ?_⟩
      simp [retV, wkV.refl]
  · have hn' : wi n 0 4096 = false := by simpa using hn
    apply rgnS_pre 99
    · simp -implicitDefEqProofs [stepsS, stepS, gd, opEff, LArg.ev, app_val, app_new, app_upd, app_kill, putV, ins, get, binV, binI, grd, bnd, ldCells, AV.cells, AV.scalar, AV.known, setAt, fillL, chunks, elems, mxI, mnI, del, Nat.add_assoc, nlt_self, nne_self, nne_self', List.take_of_length_le, hn']; rfl
    refine hK _ ?_; clear hK
    refine LWP_cond (t := true) (by simp [LArg.ev, get]) (fun _ => ?_) (fun hw => by cases hw)
    refine LWP_seq ?_
    apply LWP_run
    · simp -implicitDefEqProofs [stepsS, stepS, gd, opEff, LArg.ev, app_val, app_new, app_upd, app_kill, putV, ins, get, binV, binI, grd, bnd, ldCells, AV.cells, AV.scalar, AV.known, setAt, fillL, chunks, elems, mxI, mnI, del, Nat.add_assoc, nlt_self, nne_self, nne_self', List.take_of_length_le]; rfl
    have hb : chkL l n = false := by simp [chkL, hn']
    rw [hb]
    refine LWP_ret ?_
    show ∃ vs, resV _ _ = some vs ∧ wkV (retV vs) _
    refine ⟨_, rfl, ?_⟩
    simp [retV, wkV.refl]
end Go.AM.Rod
