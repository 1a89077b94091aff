/- A part of a proof about the given program: what its name says. No premise beyond the statements'. -/
import Derived.Test.YteiapnjcelnfdaaRodL
set_option linter.unusedSimpArgs false
set_option linter.unusedVariables false
namespace Go.AM.Rod
open Go.AM

/-- The greater one. -/
def mx (x y : Int) : Int := if x < y then y else x
/-- The place of column k, out of the places before it. -/
def placeL (xs : List Int) (l : List Rd) (k : Nat) : Int := l.foldl (fun x r => mx x (IntKind.i64.wrap (xs.getD r.f.toNat 0 + r.d))) (IntKind.i64.wrap (xs.getD (k - 1) 0 + 1))
/-- The places up to column k; none where one is too far. -/
def leastSt (l : List Rd) (n : Nat) : Nat → Option (List Int)
  | 0 => some (List.replicate n 0)
  | k + 1 => match leastSt l n k with
    | none => none
    | some xs => if 1125899906842624 < placeL xs (fil l l.length (k + 1)) (k + 1) then none else some (xs.set (k + 1) (placeL xs (fil l l.length (k + 1)) (k + 1)))

theorem leastSt_len (l : List Rd) (n : Nat) : ∀ k xs, leastSt l n k = some xs → xs.length = n
  | 0, xs, h => by simp [leastSt] at h; subst h; simp
  | k + 1, xs, h => by
    simp only [leastSt] at h
    cases h1 : leastSt l n k with
    | none => simp [h1] at h
    | some ys =>
      simp only [h1] at h
      split at h
      · cases h
      · cases h; simp [leastSt_len l n k ys h1]

def leastV (l : List Rd) (n : Nat) : List Int × Int := bif chkL l n then (match leastSt l n (n - 1) with | none => ([], 3) | some xs => (xs, 0)) else ([], 2)
def placesA (p : List Int × Int) : AV := .tup [encI p.1, .int .i64 p.2]

theorem leastSt_none (l : List Rd) (n : Nat) : ∀ k j, k ≤ j → leastSt l n k = none → leastSt l n j = none
  | k, 0, h, hk => by have : k = 0 := by omega
                      subst this; exact hk
  | k, j + 1, h, hk => by
    by_cases hj : k = j + 1
    · subst hj; exact hk
    · simp only [leastSt, leastSt_none l n k j (by omega) hk]

theorem fil_mem {l : List Rd} {k : Nat} {x : Rd} (h : x ∈ fil l l.length k) : x ∈ l ∧ x.t = (k : Int) := by
  simp only [fil, List.take_length, List.mem_filter, decide_eq_true_eq] at h
  exact h

theorem pure_by (l : List Rd) : ∀ ks : List Nat, pureR (ks.map fun k => [.tsl 3 ((fil l l.length k).map Rd.e)]) = true
  | [] => rfl
  | k :: ks => by simp [pureR, pureL, AV.pure, pure_rd, pure_by l ks]

theorem foldl_take {α β : Type} {f : β → α → β} {b : β} {l : List α} {j : Nat} (h : j < l.length) : (l.take (j + 1)).foldl f b = f ((l.take j).foldl f b) l[j] := by
  rw [List.take_succ_eq_append_getElem h, List.foldl_append]
  rfl

set_option maxHeartbeats 2000000 in
theorem least_ok (l : List Rd) (n : Int) (hl : l.length < 2 ^ 60) : ACalls Go.Proofs.Try.prog 14 [.tsl 3 (l.map Rd.e), .int .i64 n] [] 0 (fun x _ _ => x = placesA (bif chkL l n then leastV l n.toNat else ([], 2))) := by
  refine pure_body ok14 rfl ?_
  simp only [parV]
  refine LWP_seq ?_
  apply LWP_run
  · simp -implicitDefEqProofs [stepsS, stepS, gd, opEff, LArg.ev, app_val, app_new, app_upd, app_kill, putV, ins, get, binV, binI, grd, bnd, ldCells, AV.cells, AV.scalar, AV.known, setAt, fillL, chunks, elems, mxI, mnI, del, Nat.add_assoc, nlt_self, nne_self, nne_self', List.take_of_length_le]; rfl
  refine LWP_seq (LWP_seq (LWP_reg fun K hK => ?_))
  apply rgnS_pre 2
  · simp -implicitDefEqProofs [stepsS, stepS, gd, opEff, LArg.ev, app_val, app_new, app_upd, app_kill, putV, ins, get, binV, binI, grd, bnd, ldCells, AV.cells, AV.scalar, AV.known, setAt, fillL, chunks, elems, mxI, mnI, del, Nat.add_assoc, nlt_self, nne_self, nne_self', List.take_of_length_le]; rfl
  refine rgnS_call (check_ok l n hl) rfl rfl (by simp [pureL, AV.pure, pure_rd]) (by simp [AV.pure, pure_rd]) (by simp [gd, get, LArg.ev]) ?_
  apply rgnS_pre 99
  · simp -implicitDefEqProofs [stepsS, stepS, gd, opEff, LArg.ev, app_val, app_new, app_upd, app_kill, putV, ins, get, binV, binI, grd, bnd, ldCells, AV.cells, AV.scalar, AV.known, setAt, fillL, chunks, elems, mxI, mnI, del, Nat.add_assoc, nlt_self, nne_self, nne_self', List.take_of_length_le]; rfl
  refine hK _ ?_; clear hK
  refine LWP_cond (t := !chkL l n) (by simp [LArg.ev, get]) (fun h => ?_) (fun h => LWP_skip ?_)
  · refine LWP_seq ?_
    apply LWP_run
    · simp -implicitDefEqProofs [stepsS, stepS, gd, opEff, LArg.ev, app_val, app_new, app_upd, app_kill, putV, ins, get, binV, binI, grd, bnd, ldCells, AV.cells, AV.scalar, AV.known, setAt, fillL, chunks, elems, mxI, mnI, del, Nat.add_assoc, nlt_self, nne_self, nne_self', List.take_of_length_le]; rfl
    have hc : chkL l n = false := by simpa using h
    rw [hc]
    refine LWP_ret ?_
    show ∃ vs, resV _ _ = some vs ∧ wkV (retV vs) _
    exact ⟨_, rfl, wkV.tup2 (.nils 1) (.refl _)⟩
  have hc : chkL l n = true := by simpa using h
  have hn0 : 0 ≤ n ∧ n ≤ 4096 := by simp [chkL, wi] at hc; omega
  have hl2 : l.length ≤ 400000 := by simp [chkL] at hc; omega
  obtain ⟨m, rfl⟩ : ∃ m : Nat, n = m := ⟨n.toNat, by omega⟩
  have hrg := chk_rng hc
  rw [hc, Int.toNat_natCast, cond_true]
  refine LWP_seq (LWP_reg fun K hK => ?_)
  apply rgnS_pre 2
  · simp -implicitDefEqProofs [stepsS, stepS, gd, opEff, LArg.ev, app_val, app_new, app_upd, app_kill, putV, ins, get, binV, binI, grd, bnd, ldCells, AV.cells, AV.scalar, AV.known, setAt, fillL, chunks, elems, mxI, mnI, del, Nat.add_assoc, nlt_self, nne_self, nne_self', List.take_of_length_le]; rfl
  refine rgnS_call (by_ok l m (by omega) hl2 (fun x hx => by have := hrg x hx; omega)) rfl rfl (by simp [pureL, AV.pure, pure_rd, pure_by]) (by simp [AV.pure, pure_rd, pure_by]) (by simp [gd, get, LArg.ev]) ?_
  apply rgnS_pre 99
  · simp -implicitDefEqProofs [stepsS, stepS, gd, opEff, LArg.ev, app_val, app_new, app_upd, app_kill, putV, ins, get, binV, binI, grd, bnd, ldCells, AV.cells, AV.scalar, AV.known, setAt, fillL, chunks, elems, mxI, mnI, del, Nat.add_assoc, nlt_self, nne_self, nne_self', List.take_of_length_le]; rfl
  refine hK _ ?_; clear hK
  refine LWP_seq ?_
  have hq : (m : Int) * 8 ≤ 17592186044416 := by omega
  apply LWP_run
  · simp -implicitDefEqProofs [stepsS, stepS, gd, opEff, LArg.ev, app_val, app_new, app_upd, app_kill, putV, ins, get, binV, binI, grd, bnd, ldCells, AV.cells, AV.scalar, AV.known, setAt, fillL, chunks, elems, mxI, mnI, del, Nat.add_assoc, nlt_self, nne_self, nne_self', List.take_of_length_le, hq]; rfl
  refine LWP_seq (LWP_seq ?_)
  apply LWP_run
  · simp -implicitDefEqProofs [stepsS, stepS, gd, opEff, LArg.ev, app_val, app_new, app_upd, app_kill, putV, ins, get, binV, binI, grd, bnd, ldCells, AV.cells, AV.scalar, AV.known, setAt, fillL, chunks, elems, mxI, mnI, del, Nat.add_assoc, nlt_self, nne_self, nne_self', List.take_of_length_le]; rfl
  refine LWP_block (LWP_inv (fun q : Nat × Nat × List Int => ⟨[(1, .int .i64 m), (6, .tsl 1 ((List.range m).map fun k => [.tsl 3 ((fil l l.length k).map Rd.e)])), (7, .sl 1 0 0 m), (8, .int .i64 ((q.1 + 1 : Nat) : Int))], [(0, .rows 1 (q.2.2.map enc1))], q.2.1⟩) (fun q => m - q.1) (fun q => (q.1 < m ∨ q.1 = 0) ∧ 0 < q.2.1 ∧ leastSt l m q.1 = some q.2.2) (0, 1, List.replicate m 0) ?_ ⟨.inr rfl, by simp, rfl⟩ ?_)
  · refine .mk2 ?_ ?_ ?_
    · simp [leV, get, wkV.refl, enc1]
    · simp [leH, get, enc1] <;> rfl
    · simp
  rintro ⟨k, nx, xs⟩ ⟨h1, h2, h3⟩
  simp only at h1 h2 h3 ⊢
  have hxl := leastSt_len l m k xs h3
  refine LWP_seq (LWP_seq ?_)
  apply LWP_run
  · simp -implicitDefEqProofs [stepsS, stepS, gd, opEff, LArg.ev, app_val, app_new, app_upd, app_kill, putV, ins, get, binV, binI, grd, bnd, ldCells, AV.cells, AV.scalar, AV.known, setAt, fillL, chunks, elems, mxI, mnI, del, Nat.add_assoc, nlt_self, nne_self, nne_self', List.take_of_length_le]; rfl
  refine LWP_cond (t := decide (k + 1 < m)) (by simp [LArg.ev, get]; omega) (fun hk => LWP_skip ?_) (fun hk => LWP_exit ?_)
  · have hk1 : k + 1 < m := by simpa using hk
    have hk2 : k < m := by omega
    have hk3 : k < xs.length := by omega
    have hk4 : k + 1 < xs.length := by omega
    have hk5 : (k : Int) + 1 < (m : Int) := by omega
    have hk6 : 0 ≤ (k : Int) + 1 := by omega
    have hk7 : ((k : Int) + 1).toNat = k + 1 := by omega
    refine LWP_seq (LWP_block (LWP_seq ?_))
    apply LWP_run
    · simp -implicitDefEqProofs [stepsS, stepS, gd, opEff, LArg.ev, app_val, app_new, app_upd, app_kill, putV, ins, get, binV, binI, grd, bnd, ldCells, AV.cells, AV.scalar, AV.known, setAt, fillL, chunks, elems, mxI, mnI, del, Nat.add_assoc, nlt_self, nne_self, nne_self', List.take_of_length_le, wrap_nat (n := k) (by omega), hk2, hk3, hxl, enc1, get]; rfl
    refine LWP_seq (LWP_seq ?_)
    apply LWP_run
    · simp -implicitDefEqProofs [stepsS, stepS, gd, opEff, LArg.ev, app_val, app_new, app_upd, app_kill, putV, ins, get, binV, binI, grd, bnd, ldCells, AV.cells, AV.scalar, AV.known, setAt, fillL, chunks, elems, mxI, mnI, del, Nat.add_assoc, nlt_self, nne_self, nne_self', List.take_of_length_le, hk5, hk6, hk7, hk1]; rfl
    have hx0 : IntKind.i64.wrap (xs[k] + 1) = IntKind.i64.wrap (xs.getD (k + 1 - 1) 0 + 1) := by simp [hk3]
    refine LWP_block (LWP_inv (fun q : Nat × Nat => ⟨[(1, .int .i64 m), (6, .tsl 1 ((List.range m).map fun k => [.tsl 3 ((fil l l.length k).map Rd.e)])), (7, .sl 1 0 0 m), (8, .int .i64 ((k : Int) + 1)), (9, .int .i64 (placeL xs ((fil l l.length (k + 1)).take q.1) (k + 1))), (35, .tsl 3 ((fil l l.length (k + 1)).map Rd.e)), (36, .int .i64 (fil l l.length (k + 1)).length), (37, .int .i64 q.1)], [(0, .rows 1 (xs.map enc1))], q.2⟩) (fun q => (fil l l.length (k + 1)).length - q.1) (fun q => q.1 ≤ (fil l l.length (k + 1)).length ∧ 0 < q.2) (0, nx) ?_ ⟨Nat.zero_le _, h2⟩ ?_)
    · refine .mk2 ?_ ?_ ?_
      · simp [leV, get, wkV.refl, placeL, hx0, hk3]
      · simp [leH, get, placeL, hx0, hk3] <;> rfl
      · simp
    rintro ⟨j, ny⟩ ⟨g1, g2⟩
    simp only at g1 g2 ⊢
    have fl : (fil l l.length (k + 1)).length ≤ l.length := by
      simp only [fil, List.take_length]
      exact List.length_filter_le _ _
    refine LWP_seq ?_
    apply LWP_run
    · simp -implicitDefEqProofs [stepsS, stepS, gd, opEff, LArg.ev, app_val, app_new, app_upd, app_kill, putV, ins, get, binV, binI, grd, bnd, ldCells, AV.cells, AV.scalar, AV.known, setAt, fillL, chunks, elems, mxI, mnI, del, Nat.add_assoc, nlt_self, nne_self, nne_self', List.take_of_length_le]; rfl
    refine LWP_seq (LWP_cond (t := decide (j < (fil l l.length (k + 1)).length)) (by simp [LArg.ev, get]) (fun gc => LWP_skip ?_) (fun gc => LWP_exit ?_))
    · simp only [decide_eq_true_eq] at gc
      obtain ⟨p1, p2⟩ := fil_mem (l := l) (k := k + 1) (x := (fil l l.length (k + 1))[j]) (by simp)
      obtain ⟨w1, w2, w3⟩ := hrg _ p1
      have w4 : (fil l l.length (k + 1))[j].f.toNat < xs.length := by omega
      have w5 : (fil l l.length (k + 1))[j].f < (m : Int) := by omega
      have z1 : ¬ ny = 0 := by omega
      have z2 : ¬ 0 = ny := by omega
      refine LWP_seq (LWP_block (LWP_seq ?_))
      apply LWP_run
      · simp -implicitDefEqProofs [stepsS, stepS, gd, opEff, LArg.ev, app_val, app_new, app_upd, app_kill, putV, ins, get, binV, binI, grd, bnd, ldCells, AV.cells, AV.scalar, AV.known, setAt, fillL, chunks, elems, mxI, mnI, del, Nat.add_assoc, nlt_self, nne_self, nne_self', List.take_of_length_le, gc, Rd.e, z1, z2]; rfl
      apply LWP_runD
      · simp -implicitDefEqProofs [stepsD, stepD, ST.as, dEffF, LOp.cls, softOK, LOp.args, AV.ids, gd, opEff, LArg.ev, appD_val, appD_new, appD_upd, appD_kill, AS.flush, delAll, putV, ins, get, binV, binI, grd, bnd, ldCells, AV.cells, AV.scalar, AV.known, setAt, fillL, chunks, elems, mxI, mnI, del, Nat.add_assoc, nlt_self, nne_self, nne_self', List.take_of_length_le, enc1, w1, w4, w5, z1, z2, hxl]; rfl
      · simp [AS.fin, delAll, del, Nat.add_assoc]; rfl
      apply LWP_run
      · simp -implicitDefEqProofs [stepsS, stepS, gd, opEff, LArg.ev, app_val, app_new, app_upd, app_kill, putV, ins, get, binV, binI, grd, bnd, ldCells, AV.cells, AV.scalar, AV.known, setAt, fillL, chunks, elems, mxI, mnI, del, Nat.add_assoc, nlt_self, nne_self, nne_self', List.take_of_length_le]; rfl
      refine ⟨(j + 1, ny + 12), ⟨gc, by simp only; omega⟩, by simp only; omega, ?_⟩
      have hp : placeL xs ((fil l l.length (k + 1)).take (j + 1)) (k + 1) = mx (placeL xs ((fil l l.length (k + 1)).take j) (k + 1)) (IntKind.i64.wrap (xs.getD (fil l l.length (k + 1))[j].f.toNat 0 + (fil l l.length (k + 1))[j].d)) := by
        simp only [placeL]
        rw [foldl_take gc]
      refine .mk2 ?_ ?_ ?_
      · simp [leV, get, wkV.refl, wrap_succ (n := j) (by omega), hp, mx, w4]
      · simp [leH, get, wrap_succ (n := j) (by omega), hp, mx, w4] <;> rfl
      · simp
    · have gc' : j = (fil l l.length (k + 1)).length := by have : ¬ j < (fil l l.length (k + 1)).length := by simpa using gc
                                                           omega
      subst gc'
      rw [List.take_length]
      refine LWP_seq (LWP_seq ?_)
      apply LWP_run
      · simp -implicitDefEqProofs [stepsS, stepS, gd, opEff, LArg.ev, app_val, app_new, app_upd, app_kill, putV, ins, get, binV, binI, grd, bnd, ldCells, AV.cells, AV.scalar, AV.known, setAt, fillL, chunks, elems, mxI, mnI, del, Nat.add_assoc, nlt_self, nne_self, nne_self', List.take_of_length_le]; rfl
      refine LWP_cond (t := decide (1125899906842624 < placeL xs (fil l l.length (k + 1)) (k + 1))) (by simp [LArg.ev, get]) (fun hf => ?_) (fun hf => LWP_skip ?_)
      · refine LWP_seq ?_
        apply LWP_run
        · simp -implicitDefEqProofs [stepsS, stepS, gd, opEff, LArg.ev, app_val, app_new, app_upd, app_kill, putV, ins, get, binV, binI, grd, bnd, ldCells, AV.cells, AV.scalar, AV.known, setAt, fillL, chunks, elems, mxI, mnI, del, Nat.add_assoc, nlt_self, nne_self, nne_self', List.take_of_length_le]; rfl
        have hf' : 1125899906842624 < placeL xs (fil l l.length (k + 1)) (k + 1) := by simpa using hf
        have hs : leastSt l m (k + 1) = none := by simp only [leastSt, h3, if_pos hf']
        have hv : leastV l m = ([], 3) := by simp only [leastV, hc, cond_true, leastSt_none l m (k + 1) (m - 1) (by omega) hs]
        rw [hv]
        refine LWP_ret ?_
        show ∃ vs, resV _ _ = some vs ∧ wkV (retV vs) _
        exact ⟨_, rfl, wkV.tup2 (.nils 1) (.refl _)⟩
      · have hf' : ¬ 1125899906842624 < placeL xs (fil l l.length (k + 1)) (k + 1) := by simpa using hf
        apply LWP_run
        · simp -implicitDefEqProofs [stepsS, stepS, gd, opEff, LArg.ev, app_val, app_new, app_upd, app_kill, putV, ins, get, binV, binI, grd, bnd, ldCells, AV.cells, AV.scalar, AV.known, setAt, fillL, chunks, elems, mxI, mnI, del, Nat.add_assoc, nlt_self, nne_self, nne_self', List.take_of_length_le, hk5, hk6, hk7, hk1, hk4, hxl, enc1]; rfl
        apply LWP_run
        · simp -implicitDefEqProofs [stepsS, stepS, gd, opEff, LArg.ev, app_val, app_new, app_upd, app_kill, putV, ins, get, binV, binI, grd, bnd, ldCells, AV.cells, AV.scalar, AV.known, setAt, fillL, chunks, elems, mxI, mnI, del, Nat.add_assoc, nlt_self, nne_self, nne_self', List.take_of_length_le]; rfl
        have hs : leastSt l m (k + 1) = some (xs.set (k + 1) (placeL xs (fil l l.length (k + 1)) (k + 1))) := by simp only [leastSt, h3, if_neg hf']
        refine ⟨(k + 1, ny, xs.set (k + 1) (placeL xs (fil l l.length (k + 1)) (k + 1))), ⟨by simp only; omega, by simpa using g2, hs⟩, by simp only; omega, ?_⟩
        refine .mk2 ?_ ?_ ?_
        · simp [leV, get, wkV.refl, enc1, wrap_i64 (n := (k : Int) + 1 + 1) (by omega) (by omega), List.map_set]
        · simp [leH, get, enc1, wrap_i64 (n := (k : Int) + 1 + 1) (by omega) (by omega), List.map_set] <;> rfl
        · simp
  · have hk' : m - 1 = k := by have : ¬ k + 1 < m := by simpa using hk
                               omega
    have hv : leastV l m = (xs, 0) := by simp only [leastV, hc, cond_true, hk', h3]
    rw [hv]
    refine LWP_seq ?_
    apply LWP_run
    · simp -implicitDefEqProofs [stepsS, stepS, gd, opEff, LArg.ev, app_val, app_new, app_upd, app_kill, putV, ins, get, binV, binI, grd, bnd, ldCells, AV.cells, AV.scalar, AV.known, setAt, fillL, chunks, elems, mxI, mnI, del, Nat.add_assoc, nlt_self, nne_self, nne_self', List.take_of_length_le]; rfl
    refine LWP_frz 0 (sz := 1) (es := xs.map enc1) (by simp [get]) ?_
    refine LWP_ret ?_
    show ∃ vs, resV _ _ = some vs ∧ wkV (retV vs) _
    refine ⟨_, rfl, ?_⟩
    simp [retV, wkV.refl, ST.frz, mapS, frzV, placesA, encI, hxl, List.take_of_length_le]
end Go.AM.Rod
