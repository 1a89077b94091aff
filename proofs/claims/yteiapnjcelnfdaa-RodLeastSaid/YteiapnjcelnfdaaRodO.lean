/- A part of a proof about the given program: what its name says. No premise beyond the statements'. -/
import Derived.Test.YteiapnjcelnfdaaRodN
set_option linter.unusedSimpArgs false
set_option linter.unusedVariables false
namespace Go.AM.Rod
open Go.AM

def rise0 (l : List Rd) (xs : List Int) : Bool := holdsL l xs && (decide (xs.length = 0) || decide (0 ≤ xs.getD 0 0))
def riseN (l : List Rd) (xs : List Int) : Nat → Bool
  | 0 => rise0 l xs
  | k + 1 => riseN l xs k && decide (xs.getD k 0 < xs.getD (k + 1) 0)
theorem riseN_spec {l : List Rd} {xs : List Int} : ∀ {k : Nat}, riseN l xs k = true → rise0 l xs = true ∧ ∀ i, i < k → xs.getD i 0 < xs.getD (i + 1) 0
  | 0, h => ⟨h, fun i hi => by omega⟩
  | k + 1, h => by
    simp only [riseN, Bool.and_eq_true, decide_eq_true_eq] at h
    obtain ⟨h1, h2⟩ := riseN_spec h.1
    refine ⟨h1, fun i hi => ?_⟩
    by_cases hk : i = k
    · subst hk; exact h.2
    · exact h2 i (by omega)

theorem chk_d {l : List Rd} {n : Int} (h : chkL l n = true) : ∀ x ∈ l, 1 ≤ x.d ∧ x.d ≤ 1073741824 := by
  simp only [chkL, Bool.and_eq_true, decide_eq_true_eq, List.all_eq_true] at h
  intro x hx
  have := h.2.2 x hx
  simp [okRd, wi] at this
  omega

theorem holds_far {l : List Rd} {xs : List Int} (h : holdsL l xs = true) : ∀ r ∈ l, r.d ≤ xs.getD r.t.toNat 0 - xs.getD r.f.toNat 0 := by
  simp only [holdsL, Bool.and_eq_true, Bool.not_eq_true'] at h
  obtain ⟨h1, h2, h3⟩ := h
  intro r hr
  have a1 := chk_rng h1 r hr
  have hy : ∀ i, i < xs.length → -1125899906842624 ≤ xs.getD i 0 ∧ xs.getD i 0 ≤ 1125899906842624 := fun i hi => by
    have := List.any_eq_false.1 h2 xs[i] (by simp)
    simp [outI, wi] at this
    simp [hi]
    omega
  have b1 := hy r.t.toNat (by omega)
  have b2 := hy r.f.toNat (by omega)
  have := List.any_eq_false.1 h3 r hr
  simp only [shortR, decide_eq_true_eq] at this
  rw [wrap_i64 (by omega) (by omega)] at this
  omega

set_option maxHeartbeats 4000000 in
theorem rodLeast_ok (l : List Rd) (xs : List Int) : ACalls Go.Proofs.Try.prog 5 [.tsl 3 (l.map Rd.e), encI xs] [] 0 (fun r _ _ => r = .bool true) := by
  refine pure_body ok5 rfl ?_
  simp only [parV]
  refine LWP_seq ?_
  apply LWP_run
  · simp -implicitDefEqProofs [stepsS, stepS, gd, opEff, LArg.ev, app_val, app_new, app_upd, app_kill, putV, ins, get, binV, binI, grd, bnd, ldCells, AV.cells, AV.scalar, AV.known, setAt, fillL, chunks, elems, mxI, mnI, del, Nat.add_assoc, nlt_self, nne_self, nne_self', List.take_of_length_le]; rfl
  refine LWP_seq (LWP_seq ?_)
  by_cases hl : 200 < l.length
  · have hl' : 200 < (l.length : Int) := by omega
    apply LWP_run
    · simp -implicitDefEqProofs [stepsS, stepS, gd, opEff, LArg.ev, app_val, app_new, app_upd, app_kill, putV, ins, get, binV, binI, grd, bnd, ldCells, AV.cells, AV.scalar, AV.known, setAt, fillL, chunks, elems, mxI, mnI, del, Nat.add_assoc, nlt_self, nne_self, nne_self', List.take_of_length_le, hl']; rfl
    refine LWP_cond (t := true) (by simp [LArg.ev, get]) (fun _ => ?_) (fun h => by cases h)
    refine LWP_seq (LWP_reg fun K hK => ?_)
    refine rgnS_call heads_ok rfl rfl (by simp [pureL, AV.pure]) (by simp [AV.pure]) (by simp [gd, get, LArg.ev]) ?_
    apply rgnS_pre 99
    · simp -implicitDefEqProofs [stepsS, stepS, gd, opEff, LArg.ev, app_val, app_new, app_upd, app_kill, putV, ins, get, binV, binI, grd, bnd, ldCells, AV.cells, AV.scalar, AV.known, setAt, fillL, chunks, elems, mxI, mnI, del, Nat.add_assoc, nlt_self, nne_self, nne_self', List.take_of_length_le]; rfl
    refine hK _ ?_; clear hK
    refine LWP_ret ?_
    show ∃ vs, resV _ _ = some vs ∧ wkV (retV vs) _
    refine ⟨_, rfl, ?_⟩
    simp [retV, wkV.refl]
  have hl' : ¬ 200 < (l.length : Int) := by omega
  apply LWP_run
  · simp -implicitDefEqProofs [stepsS, stepS, gd, opEff, LArg.ev, app_val, app_new, app_upd, app_kill, putV, ins, get, binV, binI, grd, bnd, ldCells, AV.cells, AV.scalar, AV.known, setAt, fillL, chunks, elems, mxI, mnI, del, Nat.add_assoc, nlt_self, nne_self, nne_self', List.take_of_length_le, hl', encI]; rfl
  refine LWP_cond (t := decide (100 < xs.length)) (by simp [LArg.ev, get]; omega) (fun h => ?_) (fun h => LWP_skip ?_)
  · refine LWP_seq (LWP_reg fun K hK => ?_)
    refine rgnS_call heads_ok rfl rfl (by simp [pureL, AV.pure]) (by simp [AV.pure]) (by simp [gd, get, LArg.ev]) ?_
    apply rgnS_pre 99
    · simp -implicitDefEqProofs [stepsS, stepS, gd, opEff, LArg.ev, app_val, app_new, app_upd, app_kill, putV, ins, get, binV, binI, grd, bnd, ldCells, AV.cells, AV.scalar, AV.known, setAt, fillL, chunks, elems, mxI, mnI, del, Nat.add_assoc, nlt_self, nne_self, nne_self', List.take_of_length_le]; rfl
    refine hK _ ?_; clear hK
    refine LWP_ret ?_
    show ∃ vs, resV _ _ = some vs ∧ wkV (retV vs) _
    refine ⟨_, rfl, ?_⟩
    simp [retV, wkV.refl]
  have hx : xs.length ≤ 100 := by simpa using h
  refine LWP_seq (LWP_reg fun K hK => ?_)
  apply rgnS_pre 3
  · simp -implicitDefEqProofs [stepsS, stepS, gd, opEff, LArg.ev, app_val, app_new, app_upd, app_kill, putV, ins, get, binV, binI, grd, bnd, ldCells, AV.cells, AV.scalar, AV.known, setAt, fillL, chunks, elems, mxI, mnI, del, Nat.add_assoc, nlt_self, nne_self, nne_self', List.take_of_length_le]; rfl
  refine rgnS_call (least_ok l xs.length (by omega)) rfl rfl (by simp [pureL, AV.pure, pure_rd, placesA, encI, pure_int, pureL]) (by simp [AV.pure, pure_rd, placesA, encI, pure_int, pureL]) (by simp [gd, get, LArg.ev]) ?_
  have cases3 : (∃ e : Int, e ≠ 0 ∧ (bif chkL l (xs.length : Int) then leastV l (xs.length : Int).toNat else ([], 2)) = ([], e)) ∨ (chkL l (xs.length : Int) = true ∧ ∃ a, leastSt l xs.length (xs.length - 1) = some a ∧ (bif chkL l (xs.length : Int) then leastV l (xs.length : Int).toNat else ([], 2)) = (a, 0)) := by
    cases hc : chkL l (xs.length : Int) with
    | false => exact .inl ⟨2, by decide, rfl⟩
    | true =>
      cases hs : leastSt l xs.length (xs.length - 1) with
      | none => exact .inl ⟨3, by decide, by simp [leastV, hc, hs]⟩
      | some a => exact .inr ⟨rfl, a, rfl, by simp [leastV, hc, hs]⟩
  rcases cases3 with ⟨e, he, hv⟩ | ⟨hc, a, hs, hv⟩
  · rw [hv]
    apply rgnS_pre 99
    · simp -implicitDefEqProofs [stepsS, stepS, gd, opEff, LArg.ev, app_val, app_new, app_upd, app_kill, putV, ins, get, binV, binI, grd, bnd, ldCells, AV.cells, AV.scalar, AV.known, setAt, fillL, chunks, elems, mxI, mnI, del, Nat.add_assoc, nlt_self, nne_self, nne_self', List.take_of_length_le, placesA, encI]; rfl
    refine hK _ ?_; clear hK
    have hz : (e != 0) = true := bne_iff_ne.2 he
    refine LWP_seq (LWP_seq ?_)
    apply LWP_run
    · simp -implicitDefEqProofs [stepsS, stepS, gd, opEff, LArg.ev, app_val, app_new, app_upd, app_kill, putV, ins, get, binV, binI, grd, bnd, ldCells, AV.cells, AV.scalar, AV.known, setAt, fillL, chunks, elems, mxI, mnI, del, Nat.add_assoc, nlt_self, nne_self, nne_self', List.take_of_length_le, hz]; rfl
    refine LWP_cond (t := true) (by simp [LArg.ev, get]) (fun _ => ?_) (fun h => by cases h)
    refine LWP_seq (LWP_reg fun K hK => ?_)
    apply rgnS_pre 4
    · simp -implicitDefEqProofs [stepsS, stepS, gd, opEff, LArg.ev, app_val, app_new, app_upd, app_kill, putV, ins, get, binV, binI, grd, bnd, ldCells, AV.cells, AV.scalar, AV.known, setAt, fillL, chunks, elems, mxI, mnI, del, Nat.add_assoc, nlt_self, nne_self, nne_self', List.take_of_length_le]; rfl
    refine rgnS_call heads_ok rfl rfl (by simp [pureL, AV.pure]) (by simp [AV.pure]) (by simp [gd, get, LArg.ev]) ?_
    apply rgnS_pre 99
    · simp -implicitDefEqProofs [stepsS, stepS, gd, opEff, LArg.ev, app_val, app_new, app_upd, app_kill, putV, ins, get, binV, binI, grd, bnd, ldCells, AV.cells, AV.scalar, AV.known, setAt, fillL, chunks, elems, mxI, mnI, del, Nat.add_assoc, nlt_self, nne_self, nne_self', List.take_of_length_le]; rfl
    refine hK _ ?_; clear hK
    refine LWP_ret ?_
    show ∃ vs, resV _ _ = some vs ∧ wkV (retV vs) _
    refine ⟨_, rfl, ?_⟩
    simp [retV, wkV.refl]
  rw [hv]
  apply rgnS_pre 99
  · simp -implicitDefEqProofs [stepsS, stepS, gd, opEff, LArg.ev, app_val, app_new, app_upd, app_kill, putV, ins, get, binV, binI, grd, bnd, ldCells, AV.cells, AV.scalar, AV.known, setAt, fillL, chunks, elems, mxI, mnI, del, Nat.add_assoc, nlt_self, nne_self, nne_self', List.take_of_length_le, placesA]; rfl
  refine hK _ ?_; clear hK
  have hrg : ∀ x ∈ l, 0 ≤ x.f ∧ x.f < x.t ∧ x.t < (xs.length : Int) := chk_rng hc
  have hd := chk_d hc
  obtain ⟨P, L1, L2, L3⟩ := places_law hrg hd hs
  have hal := P.len
  have ha : holdsL l a = true := by
    have r1 : a.any outI = false := by
      rw [List.any_eq_false]
      intro y hy
      obtain ⟨i, hi, rfl⟩ := List.getElem_of_mem hy
      have := P.rng i (by omega)
      simp [hi] at this
      simp [outI, wi]
      omega
    have r2 : l.any (shortR a) = false := by
      rw [List.any_eq_false]
      intro r hr
      have q1 := hrg r hr
      have q2 := P.rng r.t.toNat (by omega)
      have q3 := P.rng r.f.toNat (by omega)
      have q4 := L2 r hr
      simp only [shortR, decide_eq_true_eq]
      rw [wrap_i64 (by omega) (by omega)]
      omega
    simp only [holdsL, hal, hc, r1, r2]
    rfl
  refine LWP_seq (LWP_seq ?_)
  apply LWP_run
  · simp -implicitDefEqProofs [stepsS, stepS, gd, opEff, LArg.ev, app_val, app_new, app_upd, app_kill, putV, ins, get, binV, binI, grd, bnd, ldCells, AV.cells, AV.scalar, AV.known, setAt, fillL, chunks, elems, mxI, mnI, del, Nat.add_assoc, nlt_self, nne_self, nne_self', List.take_of_length_le]; rfl
  refine LWP_cond (t := false) (by simp [LArg.ev, get]) (fun h => by cases h) (fun _ => LWP_skip ?_)
  refine LWP_seq (LWP_seq (LWP_reg fun K hK => ?_))
  apply rgnS_pre 8
  · simp -implicitDefEqProofs [stepsS, stepS, gd, opEff, LArg.ev, app_val, app_new, app_upd, app_kill, putV, ins, get, binV, binI, grd, bnd, ldCells, AV.cells, AV.scalar, AV.known, setAt, fillL, chunks, elems, mxI, mnI, del, Nat.add_assoc, nlt_self, nne_self, nne_self', List.take_of_length_le, encI, hal]; rfl
  refine rgnS_call (holds_ok l a (by omega) (by omega)) rfl rfl (by simp [pureL, AV.pure, pure_rd, encI, pure_int]) (by simp [AV.pure, pure_rd, encI, pure_int]) (by simp [gd, get, LArg.ev]) ?_
  apply rgnS_pre 99
  · simp -implicitDefEqProofs [stepsS, stepS, gd, opEff, LArg.ev, app_val, app_new, app_upd, app_kill, putV, ins, get, binV, binI, grd, bnd, ldCells, AV.cells, AV.scalar, AV.known, setAt, fillL, chunks, elems, mxI, mnI, del, Nat.add_assoc, nlt_self, nne_self, nne_self', List.take_of_length_le, ha]; rfl
  refine hK _ ?_; clear hK
  refine LWP_cond (t := false) (by simp [LArg.ev, get]) (fun h => by cases h) (fun _ => LWP_skip ?_)
  refine LWP_seq (LWP_reg fun K hK => ?_)
  apply rgnS_pre 2
  · simp -implicitDefEqProofs [stepsS, stepS, gd, opEff, LArg.ev, app_val, app_new, app_upd, app_kill, putV, ins, get, binV, binI, grd, bnd, ldCells, AV.cells, AV.scalar, AV.known, setAt, fillL, chunks, elems, mxI, mnI, del, Nat.add_assoc, nlt_self, nne_self, nne_self', List.take_of_length_le]; rfl
  refine rgnS_call (holds_ok l xs (by omega) (by omega)) rfl rfl (by simp [pureL, AV.pure, pure_rd, encI, pure_int]) (by simp [AV.pure, pure_rd, encI, pure_int]) (by simp [gd, get, LArg.ev]) ?_
  have go : ∀ S', ST.le ⟨[(1, encI xs), (5, encI a), (7, .bool (rise0 l xs))], [], 0⟩ S' → K S' := fun S' hle => by
    refine hK _ (LWP_sub hle ?_)
    clear hK hle
    refine LWP_seq (LWP_seq ?_)
    apply LWP_run
    · simp -implicitDefEqProofs [stepsS, stepS, gd, opEff, LArg.ev, app_val, app_new, app_upd, app_kill, putV, ins, get, binV, binI, grd, bnd, ldCells, AV.cells, AV.scalar, AV.known, setAt, fillL, chunks, elems, mxI, mnI, del, Nat.add_assoc, nlt_self, nne_self, nne_self', List.take_of_length_le]; rfl
    refine LWP_block (LWP_inv (fun q : Nat × Nat => ⟨[(1, encI xs), (5, encI a), (7, .bool (riseN l xs q.1)), (8, .int .i64 ((q.1 : Int) + 1))], [], q.2⟩) (fun q => a.length - q.1) (fun q => q.1 + 1 ≤ a.length ∨ q.1 = 0) (0, 0) ?_ (.inr rfl) ?_)
    · refine .mk2 ?_ ?_ ?_
      · simp [leV, get, wkV.refl, riseN]
      · simp [leH, get, riseN] <;> rfl
      · simp
    rintro ⟨k, nx⟩ h1
    simp only at h1 ⊢
    refine LWP_seq (LWP_seq ?_)
    apply LWP_run
    · simp -implicitDefEqProofs [stepsS, stepS, gd, opEff, LArg.ev, app_val, app_new, app_upd, app_kill, putV, ins, get, binV, binI, grd, bnd, ldCells, AV.cells, AV.scalar, AV.known, setAt, fillL, chunks, elems, mxI, mnI, del, Nat.add_assoc, nlt_self, nne_self, nne_self', List.take_of_length_le, encI]; rfl
    refine LWP_cond (t := decide ((k : Int) + 1 < a.length)) (by simp [LArg.ev, get]) (fun hk => LWP_skip ?_) (fun hk => LWP_exit ?_)
    · have hk1 : (k : Int) + 1 < a.length := by simpa using hk
      have hk2 : k + 1 < a.length := by omega
      have hk3 : k < a.length := by omega
      have hk4 : 0 ≤ (k : Int) + 1 := by omega
      have hk5 : ((k : Int) + 1).toNat = k + 1 := by omega
      have hx1 : (k : Int) + 1 < xs.length := by omega
      have hx2 : k + 1 < xs.length := by omega
      have hx3 : k < xs.length := by omega
      have hlt := L1 k (by omega)
      have hlt' : ¬ a[k + 1] ≤ a[k] := by simp [hk2, hk3] at hlt; omega
      refine LWP_seq (LWP_block (LWP_seq (LWP_seq ?_)))
      apply LWP_runD
      · simp -implicitDefEqProofs [stepsD, stepD, ST.as, dEffF, LOp.cls, softOK, LOp.args, AV.ids, gd, opEff, LArg.ev, appD_val, appD_new, appD_upd, appD_kill, AS.flush, delAll, putV, ins, get, binV, binI, grd, bnd, ldCells, AV.cells, AV.scalar, AV.known, setAt, fillL, chunks, elems, mxI, mnI, del, Nat.add_assoc, nlt_self, nne_self, nne_self', List.take_of_length_le, encI, enc1, wrap_nat (n := k) (by omega), hk1, hk2, hk3, hk4, hk5, hlt']; rfl
      · simp [AS.fin, delAll, del, Nat.add_assoc]; rfl
      refine LWP_cond (t := false) (by simp [LArg.ev, get]) (fun h => by cases h) (fun _ => LWP_skip ?_)
      have e1 : xs.getD k 0 = xs[k] := by simp [hx3]
      have e2 : xs.getD (k + 1) 0 = xs[k + 1] := by simp [hx2]
      cases hr : riseN l xs k with
      | true =>
        apply LWP_runD
        · simp -implicitDefEqProofs [stepsD, stepD, ST.as, dEffF, LOp.cls, softOK, LOp.args, AV.ids, gd, opEff, LArg.ev, appD_val, appD_new, appD_upd, appD_kill, AS.flush, delAll, putV, ins, get, binV, binI, grd, bnd, ldCells, AV.cells, AV.scalar, AV.known, setAt, fillL, chunks, elems, mxI, mnI, del, Nat.add_assoc, nlt_self, nne_self, nne_self', List.take_of_length_le, encI, enc1, wrap_nat (n := k) (by omega), hx1, hx2, hx3, hk4, hk5, hr]; rfl
        · simp [AS.fin, delAll, del, Nat.add_assoc]; rfl
        apply LWP_run
        · simp -implicitDefEqProofs [stepsS, stepS, gd, opEff, LArg.ev, app_val, app_new, app_upd, app_kill, putV, ins, get, binV, binI, grd, bnd, ldCells, AV.cells, AV.scalar, AV.known, setAt, fillL, chunks, elems, mxI, mnI, del, Nat.add_assoc, nlt_self, nne_self, nne_self', List.take_of_length_le]; rfl
        refine ⟨(k + 1, nx + 24), .inl (by simp only; omega), by simp only; omega, ?_⟩
        refine .mk2 ?_ ?_ ?_
        · simp [leV, get, wkV.refl, encI, wrap_i64 (n := (k : Int) + 1 + 1) (by omega) (by omega), riseN, hr, e1, e2, hx2, hx3]
        · simp [leH, get, encI, wrap_i64 (n := (k : Int) + 1 + 1) (by omega) (by omega), riseN, hr, e1, e2, hx2, hx3] <;> rfl
        · simp
      | false =>
        apply LWP_runD
        · simp -implicitDefEqProofs [stepsD, stepD, ST.as, dEffF, LOp.cls, softOK, LOp.args, AV.ids, gd, opEff, LArg.ev, appD_val, appD_new, appD_upd, appD_kill, AS.flush, delAll, putV, ins, get, binV, binI, grd, bnd, ldCells, AV.cells, AV.scalar, AV.known, setAt, fillL, chunks, elems, mxI, mnI, del, Nat.add_assoc, nlt_self, nne_self, nne_self', List.take_of_length_le, encI, enc1, hr]; rfl
        · simp [AS.fin, delAll, del, Nat.add_assoc]; rfl
        apply LWP_run
        · simp -implicitDefEqProofs [stepsS, stepS, gd, opEff, LArg.ev, app_val, app_new, app_upd, app_kill, putV, ins, get, binV, binI, grd, bnd, ldCells, AV.cells, AV.scalar, AV.known, setAt, fillL, chunks, elems, mxI, mnI, del, Nat.add_assoc, nlt_self, nne_self, nne_self', List.take_of_length_le]; rfl
        refine ⟨(k + 1, nx + 24), .inl (by simp only; omega), by simp only; omega, ?_⟩
        refine .mk2 ?_ ?_ ?_
        · simp [leV, get, wkV.refl, encI, wrap_i64 (n := (k : Int) + 1 + 1) (by omega) (by omega), riseN, hr]
        · simp [leH, get, encI, wrap_i64 (n := (k : Int) + 1 + 1) (by omega) (by omega), riseN, hr] <;> rfl
        · simp
    · have hk' : ¬ (k : Int) + 1 < a.length := by simpa using hk
      refine LWP_seq (LWP_seq ?_)
      apply LWP_run
      · simp -implicitDefEqProofs [stepsS, stepS, gd, opEff, LArg.ev, app_val, app_new, app_upd, app_kill, putV, ins, get, binV, binI, grd, bnd, ldCells, AV.cells, AV.scalar, AV.known, setAt, fillL, chunks, elems, mxI, mnI, del, Nat.add_assoc, nlt_self, nne_self, nne_self', List.take_of_length_le]; rfl
      refine LWP_block (LWP_inv (fun q : Nat × Nat => ⟨[(1, encI xs), (5, encI a), (7, .bool (riseN l xs k)), (9, .int .i64 q.1)], [], q.2⟩) (fun q => a.length - q.1) (fun q => q.1 ≤ a.length) (0, nx) ?_ (Nat.zero_le _) ?_)
      · refine .mk2 ?_ ?_ ?_
        · simp [leV, get, wkV.refl, encI]
        · simp [leH, get, encI] <;> rfl
        · simp
      rintro ⟨i, ny⟩ hi
      simp only at hi ⊢
      refine LWP_seq (LWP_seq ?_)
      by_cases hc2 : i < a.length ∧ riseN l xs k = true
      · obtain ⟨c1, c2⟩ := hc2
        apply LWP_run
        · simp -implicitDefEqProofs [stepsS, stepS, gd, opEff, LArg.ev, app_val, app_new, app_upd, app_kill, putV, ins, get, binV, binI, grd, bnd, ldCells, AV.cells, AV.scalar, AV.known, setAt, fillL, chunks, elems, mxI, mnI, del, Nat.add_assoc, nlt_self, nne_self, nne_self', List.take_of_length_le, encI, c1, c2]; rfl
        refine LWP_cond (t := true) (by simp [LArg.ev, get]) (fun _ => LWP_skip ?_) (fun h => by cases h)
        obtain ⟨w1, w2⟩ := riseN_spec c2
        simp only [rise0, Bool.and_eq_true, Bool.or_eq_true, decide_eq_true_eq] at w1
        have c3 : i < xs.length := by omega
        have m1 := L3 xs (by rcases w1.2 with w | w <;> omega) (fun j hj => w2 j (by omega)) (holds_far w1.1) i c3
        have m2 : ¬ xs[i] < a[i] := by simp [c1, c3] at m1; omega
        refine LWP_seq (LWP_block (LWP_seq ?_))
        apply LWP_runD
        · simp -implicitDefEqProofs [stepsD, stepD, ST.as, dEffF, LOp.cls, softOK, LOp.args, AV.ids, gd, opEff, LArg.ev, appD_val, appD_new, appD_upd, appD_kill, AS.flush, delAll, putV, ins, get, binV, binI, grd, bnd, ldCells, AV.cells, AV.scalar, AV.known, setAt, fillL, chunks, elems, mxI, mnI, del, Nat.add_assoc, nlt_self, nne_self, nne_self', List.take_of_length_le, encI, enc1, c1, c3, m2]; rfl
        · simp [AS.fin, delAll, del, Nat.add_assoc]; rfl
        refine LWP_cond (t := false) (by simp [LArg.ev, get]) (fun h => by cases h) (fun _ => LWP_skip ?_)
        apply LWP_run
        · simp -implicitDefEqProofs [stepsS, stepS, gd, opEff, LArg.ev, app_val, app_new, app_upd, app_kill, putV, ins, get, binV, binI, grd, bnd, ldCells, AV.cells, AV.scalar, AV.known, setAt, fillL, chunks, elems, mxI, mnI, del, Nat.add_assoc, nlt_self, nne_self, nne_self', List.take_of_length_le]; rfl
        refine ⟨(i + 1, ny + 9), by simp only; omega, by simp only; omega, ?_⟩
        refine .mk2 ?_ ?_ ?_
        · simp [leV, get, wkV.refl, encI, wrap_succ (n := i) (by omega), c2]
        · simp [leH, get, encI, wrap_succ (n := i) (by omega), c2] <;> rfl
        · simp
      · refine LWP_reg fun K2 hK2 => ?_
        have done : ∀ S', ST.le ⟨[(5, encI a), (94, .bool false)], [], ny⟩ S' → K2 S' := fun S' hle => by
          refine hK2 _ (LWP_sub hle ?_)
          clear hK2 hle
          refine LWP_cond (t := false) (by simp [LArg.ev, get]) (fun h => by cases h) (fun _ => LWP_exit ?_)
          refine LWP_seq (LWP_reg fun K hK => ?_)
          by_cases h0 : a = []
          · subst h0
            apply rgnS_pre 10
            · simp -implicitDefEqProofs [stepsS, stepS, gd, opEff, LArg.ev, app_val, app_new, app_upd, app_kill, putV, ins, get, binV, binI, grd, bnd, ldCells, AV.cells, AV.scalar, AV.known, setAt, fillL, chunks, elems, mxI, mnI, del, Nat.add_assoc, nlt_self, nne_self, nne_self', List.take_of_length_le, encI]; rfl
            refine rgnS_call heads_ok rfl rfl (by simp [pureL, AV.pure]) (by simp [AV.pure]) (by simp [gd, get, LArg.ev]) ?_
            apply rgnS_pre 99
            · simp -implicitDefEqProofs [stepsS, stepS, gd, opEff, LArg.ev, app_val, app_new, app_upd, app_kill, putV, ins, get, binV, binI, grd, bnd, ldCells, AV.cells, AV.scalar, AV.known, setAt, fillL, chunks, elems, mxI, mnI, del, Nat.add_assoc, nlt_self, nne_self, nne_self', List.take_of_length_le]; rfl
            refine hK _ ?_; clear hK
            refine LWP_ret ?_
            show ∃ vs, resV _ _ = some vs ∧ wkV (retV vs) _
            refine ⟨_, rfl, ?_⟩
            simp [retV, wkV.refl]
          · have h00 : 0 < a.length := by cases a with
              | nil => exact absurd rfl h0
              | cons x l => simp
            have hz : ((a.length : Int) == 0) = false := beq_false_of_ne (by omega)
            have hz2 : a[0] = 0 := by have := P.zero; simpa [h00] using this
            apply rgnS_pre 10
            · simp -implicitDefEqProofs [stepsS, stepS, gd, opEff, LArg.ev, app_val, app_new, app_upd, app_kill, putV, ins, get, binV, binI, grd, bnd, ldCells, AV.cells, AV.scalar, AV.known, setAt, fillL, chunks, elems, mxI, mnI, del, Nat.add_assoc, nlt_self, nne_self, nne_self', List.take_of_length_le, encI, enc1, hz, hz2, h00]; rfl
            refine rgnS_call heads_ok rfl rfl (by simp [pureL, AV.pure]) (by simp [AV.pure]) (by simp [gd, get, LArg.ev]) ?_
            apply rgnS_pre 99
            · simp -implicitDefEqProofs [stepsS, stepS, gd, opEff, LArg.ev, app_val, app_new, app_upd, app_kill, putV, ins, get, binV, binI, grd, bnd, ldCells, AV.cells, AV.scalar, AV.known, setAt, fillL, chunks, elems, mxI, mnI, del, Nat.add_assoc, nlt_self, nne_self, nne_self', List.take_of_length_le]; rfl
            refine hK _ ?_; clear hK
            refine LWP_ret ?_
            show ∃ vs, resV _ _ = some vs ∧ wkV (retV vs) _
            refine ⟨_, rfl, ?_⟩
            simp [retV, wkV.refl]
        by_cases c1 : i < a.length
        · have c2 : riseN l xs k = false := by
            cases hr : riseN l xs k with
            | false => rfl
            | true => exact absurd ⟨c1, hr⟩ hc2
          apply rgnS_pre 99
          · simp -implicitDefEqProofs [stepsS, stepS, gd, opEff, LArg.ev, app_val, app_new, app_upd, app_kill, putV, ins, get, binV, binI, grd, bnd, ldCells, AV.cells, AV.scalar, AV.known, setAt, fillL, chunks, elems, mxI, mnI, del, Nat.add_assoc, nlt_self, nne_self, nne_self', List.take_of_length_le, encI, c1, c2]; rfl
          refine done _ ?_
          refine .mk2 ?_ ?_ ?_
          · simp [leV, get, wkV.refl, encI]
          · simp [leH, get, encI] <;> rfl
          · simp
        · apply rgnS_pre 99
          · simp -implicitDefEqProofs [stepsS, stepS, gd, opEff, LArg.ev, app_val, app_new, app_upd, app_kill, putV, ins, get, binV, binI, grd, bnd, ldCells, AV.cells, AV.scalar, AV.known, setAt, fillL, chunks, elems, mxI, mnI, del, Nat.add_assoc, nlt_self, nne_self, nne_self', List.take_of_length_le, encI, c1]; rfl
          refine done _ ?_
          refine .mk2 ?_ ?_ ?_
          · simp [leV, get, wkV.refl, encI]
          · simp [leH, get, encI] <;> rfl
          · simp
  cases hh : holdsL l xs with
  | false =>
    apply rgnS_pre 99
    · simp -implicitDefEqProofs [stepsS, stepS, gd, opEff, LArg.ev, app_val, app_new, app_upd, app_kill, putV, ins, get, binV, binI, grd, bnd, ldCells, AV.cells, AV.scalar, AV.known, setAt, fillL, chunks, elems, mxI, mnI, del, Nat.add_assoc, nlt_self, nne_self, nne_self', List.take_of_length_le, hh]; rfl
    refine go _ ?_
    refine .mk2 ?_ ?_ ?_
    · simp [leV, get, wkV.refl, encI, rise0, hh]
    · simp [leH, get, encI, rise0, hh] <;> rfl
    · simp
  | true =>
    by_cases h0 : xs = []
    · subst h0
      apply rgnS_pre 99
      · simp -implicitDefEqProofs [stepsS, stepS, gd, opEff, LArg.ev, app_val, app_new, app_upd, app_kill, putV, ins, get, binV, binI, grd, bnd, ldCells, AV.cells, AV.scalar, AV.known, setAt, fillL, chunks, elems, mxI, mnI, del, Nat.add_assoc, nlt_self, nne_self, nne_self', List.take_of_length_le, hh, encI]; rfl
      refine go _ ?_
      refine .mk2 ?_ ?_ ?_
      · simp [leV, get, wkV.refl, encI, rise0, hh]
      · simp [leH, get, encI, rise0, hh] <;> rfl
      · simp
    · have h00 : 0 < xs.length := by cases xs with
        | nil => exact absurd rfl h0
        | cons x l => simp
      have hz : ((xs.length : Int) == 0) = false := beq_false_of_ne (by omega)
      have hz1 : ¬ xs.length = 0 := by omega
      have e1 : xs.getD 0 0 = xs[0] := by simp [h00]
      apply rgnS_pre 99
      · simp -implicitDefEqProofs [stepsS, stepS, gd, opEff, LArg.ev, app_val, app_new, app_upd, app_kill, putV, ins, get, binV, binI, grd, bnd, ldCells, AV.cells, AV.scalar, AV.known, setAt, fillL, chunks, elems, mxI, mnI, del, Nat.add_assoc, nlt_self, nne_self, nne_self', List.take_of_length_le, hh, encI, enc1, hz, h00]; rfl
      refine go _ ?_
      refine .mk2 ?_ ?_ ?_
      · simp [leV, get, wkV.refl, encI, rise0, hh, hz1, h00]
      · simp [leH, get, encI, rise0, hh, hz1, h00] <;> rfl
      · simp
end Go.AM.Rod
