/- A part of a proof about the given program: what its name says. No premise beyond the statements'. -/
import Derived.Test.YteiapnjcelnfdaaRodT
set_option linter.unusedSimpArgs false
set_option linter.unusedVariables false
namespace Go.AM.Rod
open Go.AM

def ltR (x y : Rd) : Bool := decide (x.f < y.f) || (decide (x.f = y.f) && decide (x.t < y.t))
def keyR (x y : Rd) : Bool := decide (x.f = y.f) && decide (x.t = y.t)
def mxd (x r : Rd) : Rd := ⟨x.f, x.t, if x.d < r.d then r.d else x.d⟩
def insR (r : Rd) : List Rd → List Rd
  | [] => [r]
  | x :: l => if ltR x r then x :: insR r l else if keyR x r then mxd x r :: l else r :: x :: l
def atR (r : Rd) : List Rd → Nat
  | [] => 0
  | x :: l => if ltR x r then atR r l + 1 else 0
def rsS (A : List Rd) (r : Rd) : List Rd := bif okS r then insR r A else A
def rsur (l : List Rd) : List Rd := l.foldl rsS []

theorem atR_le (r : Rd) : ∀ A, atR r A ≤ A.length
  | [] => Nat.le_refl _
  | x :: A => by
    simp only [atR, List.length_cons]
    have := atR_le r A
    split <;> omega
theorem atR_lt (r : Rd) : ∀ (A : List Rd) (i : Nat) (h : i < A.length), i < atR r A → ltR A[i] r = true
  | x :: A, i, h, hi => by
    simp only [atR] at hi
    by_cases hx : ltR x r = true
    · rw [if_pos hx] at hi
      cases i with
      | zero => exact hx
      | succ i => exact atR_lt r A i (by simpa using h) (by omega)
    · rw [if_neg hx] at hi; omega
theorem atR_at (r : Rd) : ∀ (A : List Rd) (h : atR r A < A.length), ltR A[atR r A] r = false
  | x :: A, h => by
    simp only [atR] at h ⊢
    by_cases hx : ltR x r = true
    · simp only [if_pos hx] at h ⊢
      exact atR_at r A (by simpa using h)
    · simp only [if_neg hx, List.getElem_cons_zero]; simpa using hx
theorem insR_hit (r : Rd) : ∀ (A : List Rd) (h : atR r A < A.length), keyR A[atR r A] r = true → insR r A = A.set (atR r A) (mxd A[atR r A] r)
  | x :: A, h, hk => by
    simp only [atR] at h hk ⊢
    by_cases hx : ltR x r = true
    · simp only [if_pos hx] at h hk ⊢
      simp only [insR, if_pos hx, List.set_cons_succ, List.getElem_cons_succ] at hk ⊢
      rw [insR_hit r A (by simpa using h) hk]
    · simp only [if_neg hx, List.getElem_cons_zero] at hk ⊢
      simp only [insR, if_neg hx, if_pos hk, List.set_cons_zero]
theorem insR_new (r : Rd) : ∀ (A : List Rd), (∀ h : atR r A < A.length, keyR A[atR r A] r = false) → insR r A = A.take (atR r A) ++ r :: A.drop (atR r A)
  | [], _ => rfl
  | x :: A, hk => by
    simp only [atR] at hk ⊢
    by_cases hx : ltR x r = true
    · simp only [if_pos hx] at hk ⊢
      simp only [insR, if_pos hx, List.take_succ_cons, List.drop_succ_cons, List.cons_append]
      rw [insR_new r A (fun h => by simpa using hk (by simpa using h))]
    · simp only [if_neg hx] at hk ⊢
      have := hk (by simp)
      simp only [List.getElem_cons_zero] at this
      simp [insR, hx, this]
theorem insR_len (r : Rd) : ∀ A, (insR r A).length ≤ A.length + 1
  | [] => Nat.le_refl _
  | x :: A => by
    simp only [insR]
    have := insR_len r A
    split
    · simpa using this
    · split <;> simp
theorem rsur_take {l : List Rd} {i : Nat} (h : i < l.length) : rsur (l.take (i + 1)) = rsS (rsur (l.take i)) l[i] := by
  simp only [rsur]; exact foldl_tk h
theorem rsur_len (l : List Rd) : ∀ i, i ≤ l.length → (rsur (l.take i)).length ≤ i
  | 0, _ => by simp [rsur]
  | i + 1, h => by
    rw [rsur_take (by omega)]
    have := rsur_len l i (by omega)
    unfold rsS
    cases okS l[i] with
    | true => have := insR_len l[i] (rsur (l.take i)); simp only [cond_true]; omega
    | false => simp only [cond_false]; omega

theorem e_len {L : List Rd} {i : Nat} (h : i < (L.map Rd.e).length) : ((L.map Rd.e)[i]'h).length = 3 := by simp [Rd.e]
theorem shift_set {A : List Rd} {k : Nat} {X Y : Rd} (h : k ≤ A.length) : ((A.take k ++ X :: A.drop k).map Rd.e).set k Y.e = (A.take k ++ Y :: A.drop k).map Rd.e := by
  have e : (A.take k).length = k := by simp; omega
  rw [← List.map_set, List.set_append_right _ _ (by omega), e]
  simp
theorem shift_get {A : List Rd} {k : Nat} {X : Rd} (h : k < A.length) : ((A.take (k + 1) ++ X :: A.drop (k + 1)).map Rd.e)[k]? = some (A[k]).e := by
  rw [List.getElem?_map, List.getElem?_append_left (by simp; omega), List.getElem?_take]
  simp [h]
theorem shift_eq {A : List Rd} {k : Nat} (h : k < A.length) : A.take (k + 1) ++ A[k] :: A.drop (k + 1) = A.take k ++ A[k] :: A.drop k := by
  rw [List.take_succ_eq_append_getElem h, List.append_assoc, List.drop_eq_getElem_cons h]; rfl

set_option maxHeartbeats 8000000 in
theorem rsure_ok (l : List Rd) (hl : l.length < 65536) : ACalls Go.Proofs.Try.prog 21 [.tsl 3 (l.map Rd.e)] [] 0 (fun x _ _ => x = .tsl 3 ((rsur l).map Rd.e)) := by
  refine pure_body ok21 rfl ?_
  simp only [parV]
  refine LWP_seq ?_
  apply LWP_run
  · simp -implicitDefEqProofs [stepsS, stepS, gd, opEff, LArg.ev, app_val, app_new, app_upd, app_kill, putV, ins, get, binV, binI, grd, bnd, ldCells, AV.cells, AV.scalar, AV.known, setAt, fillL, chunks, elems, mxI, mnI, del, Nat.add_assoc, nlt_self, nne_self, nne_self', List.take_of_length_le]; rfl
  refine LWP_seq ?_
  apply LWP_run
  · simp -implicitDefEqProofs [stepsS, stepS, gd, opEff, LArg.ev, app_val, app_new, app_upd, app_kill, putV, ins, get, binV, binI, grd, bnd, ldCells, AV.cells, AV.scalar, AV.known, setAt, fillL, chunks, elems, mxI, mnI, del, Nat.add_assoc, nlt_self, nne_self, nne_self', List.take_of_length_le]; rfl
  refine LWP_cut (fun q : Nat × Heap × Nat => ⟨[(3, .sl 3 q.1 0 (rsur l).length)], q.2.1, q.2.2⟩) (fun q => get q.2.1 q.1 = some (.rows 3 ((rsur l).map Rd.e))) ?_ ?_
  · refine LWP_seq ?_
    apply LWP_run
    · simp -implicitDefEqProofs [stepsS, stepS, gd, opEff, LArg.ev, app_val, app_new, app_upd, app_kill, putV, ins, get, binV, binI, grd, bnd, ldCells, AV.cells, AV.scalar, AV.known, setAt, fillL, chunks, elems, mxI, mnI, del, Nat.add_assoc, nlt_self, nne_self, nne_self', List.take_of_length_le]; rfl
    refine LWP_block (LWP_inv (fun q : Nat × Nat × Heap × Nat => ⟨[(0, .tsl 3 (l.map Rd.e)), (3, .sl 3 q.2.1 0 (rsur (l.take q.1)).length), (4, .int .i64 q.1)], q.2.2.1, q.2.2.2⟩) (fun q => l.length - q.1)
      (fun q => q.1 ≤ l.length ∧ q.2.1 < q.2.2.2 ∧ get q.2.2.1 q.2.1 = some (.rows 3 ((rsur (l.take q.1)).map Rd.e))) (0, 0, [(0, .rows 3 [])], 1) (.mk' ?_ (fun _ _ h => h) rfl) ⟨Nat.zero_le _, by simp, by simp [get, rsur]⟩ ?_)
    · simp [leV, get, wkV.refl, rsur]
    rintro ⟨i, ob, H, nx⟩ ⟨h1, h2, h3⟩
    simp only at h1 h2 h3 ⊢
    have hAl := rsur_len l i h1
    obtain ⟨A, hA⟩ : ∃ A, A = rsur (l.take i) := ⟨_, rfl⟩
    rw [← hA] at h3 hAl ⊢
    refine LWP_seq (LWP_seq ?_)
    apply LWP_run
    · simp -implicitDefEqProofs [stepsS, stepS, gd, opEff, LArg.ev, app_val, app_new, app_upd, app_kill, putV, ins, get, binV, binI, grd, bnd, ldCells, AV.cells, AV.scalar, AV.known, setAt, fillL, chunks, elems, mxI, mnI, del, Nat.add_assoc, nlt_self, nne_self, nne_self', List.take_of_length_le]; rfl
    refine LWP_cond (t := decide (i < l.length)) (by simp [LArg.ev, get]) (fun hc => LWP_skip ?_) (fun hc => LWP_exit ?_)
    · have hc' : i < l.length := by simpa using hc
      have hNs := rsur_take hc'
      rw [← hA] at hNs
      obtain ⟨r, hr⟩ : ∃ r, r = l[i] := ⟨_, rfl⟩
      have hr' : l[i] = r := hr.symm
      rw [← hr] at hNs
      have z2 : ¬ nx = ob := by omega
      have z2' : ¬ ob = nx := by omega
      refine LWP_seq (LWP_block (LWP_seq ?_))
      apply LWP_run
      · simp -implicitDefEqProofs [stepsS, stepS, gd, opEff, LArg.ev, app_val, app_new, app_upd, app_kill, putV, ins, get, binV, binI, grd, bnd, ldCells, AV.cells, AV.scalar, AV.known, setAt, fillL, chunks, elems, mxI, mnI, del, Nat.add_assoc, nlt_self, nne_self, nne_self', List.take_of_length_le, get_ins, hc', hr', Rd.e]; rfl
      refine LWP_seq (LWP_seq ?_)
      by_cases hf : r.f < 0
      · apply LWP_run
        · simp -implicitDefEqProofs [stepsS, stepS, gd, opEff, LArg.ev, app_val, app_new, app_upd, app_kill, putV, ins, get, binV, binI, grd, bnd, ldCells, AV.cells, AV.scalar, AV.known, setAt, fillL, chunks, elems, mxI, mnI, del, Nat.add_assoc, nlt_self, nne_self, nne_self', List.take_of_length_le, hf, get_ins]; rfl
        refine LWP_cond (t := true) (by simp [LArg.ev, get]) (fun _ => LWP_exit ?_) (fun h => by cases h)
        apply LWP_run
        · simp -implicitDefEqProofs [stepsS, stepS, gd, opEff, LArg.ev, app_val, app_new, app_upd, app_kill, putV, ins, get, binV, binI, grd, bnd, ldCells, AV.cells, AV.scalar, AV.known, setAt, fillL, chunks, elems, mxI, mnI, del, Nat.add_assoc, nlt_self, nne_self, nne_self', List.take_of_length_le]; rfl
        refine ⟨(i + 1, ob, _, _), ⟨hc', ?_, ?_⟩, by simp only; omega, .mk' ?_ (fun _ _ h => h) rfl⟩
        · simp only; omega
        · simpa [hNs, rsS, okS, hf, get_ins, z2] using h3
        · simp [hNs, rsS, okS, hf, leV, get, wkV.refl, wrap_succ (n := i) (by omega)]
      by_cases ht : r.t ≤ r.f
      · apply LWP_run
        · simp -implicitDefEqProofs [stepsS, stepS, gd, opEff, LArg.ev, app_val, app_new, app_upd, app_kill, putV, ins, get, binV, binI, grd, bnd, ldCells, AV.cells, AV.scalar, AV.known, setAt, fillL, chunks, elems, mxI, mnI, del, Nat.add_assoc, nlt_self, nne_self, nne_self', List.take_of_length_le, hf, ht, get_ins]; rfl
        refine LWP_cond (t := true) (by simp [LArg.ev, get]) (fun _ => LWP_exit ?_) (fun h => by cases h)
        apply LWP_run
        · simp -implicitDefEqProofs [stepsS, stepS, gd, opEff, LArg.ev, app_val, app_new, app_upd, app_kill, putV, ins, get, binV, binI, grd, bnd, ldCells, AV.cells, AV.scalar, AV.known, setAt, fillL, chunks, elems, mxI, mnI, del, Nat.add_assoc, nlt_self, nne_self, nne_self', List.take_of_length_le]; rfl
        refine ⟨(i + 1, ob, _, _), ⟨hc', ?_, ?_⟩, by simp only; omega, .mk' ?_ (fun _ _ h => h) rfl⟩
        · simp only; omega
        · simpa [hNs, rsS, okS, hf, ht, get_ins, z2] using h3
        · simp [hNs, rsS, okS, hf, ht, leV, get, wkV.refl, wrap_succ (n := i) (by omega)]
      apply LWP_run
      · simp -implicitDefEqProofs [stepsS, stepS, gd, opEff, LArg.ev, app_val, app_new, app_upd, app_kill, putV, ins, get, binV, binI, grd, bnd, ldCells, AV.cells, AV.scalar, AV.known, setAt, fillL, chunks, elems, mxI, mnI, del, Nat.add_assoc, nlt_self, nne_self, nne_self', List.take_of_length_le, hf, ht, get_ins]; rfl
      refine LWP_cond (t := false) (by simp [LArg.ev, get]) (fun h => by cases h) (fun _ => LWP_skip ?_)
      have hN2 : rsur (l.take (i + 1)) = insR r A := by rw [hNs, rsS, okS]; simp [hf, ht]
      have hat := atR_le r A
      refine LWP_seq ?_
      apply LWP_run
      · simp -implicitDefEqProofs [stepsS, stepS, gd, opEff, LArg.ev, app_val, app_new, app_upd, app_kill, putV, ins, get, binV, binI, grd, bnd, ldCells, AV.cells, AV.scalar, AV.known, setAt, fillL, chunks, elems, mxI, mnI, del, Nat.add_assoc, nlt_self, nne_self, nne_self', List.take_of_length_le]; rfl
      refine LWP_cut (fun q : Heap × Nat => ⟨[(0, .tsl 3 (l.map Rd.e)), (3, .sl 3 ob 0 A.length), (4, .int .i64 i), (5, .ptr 3 nx 0 0), (6, .int .i64 (atR r A))], q.1, q.2⟩) (fun q => nx < q.2 ∧ get q.1 ob = some (.rows 3 (A.map Rd.e)) ∧ get q.1 nx = some (.rows 3 [r.e])) ?_ ?_
      · refine LWP_block (LWP_inv (fun q : Nat × Heap × Nat => ⟨[(0, .tsl 3 (l.map Rd.e)), (3, .sl 3 ob 0 A.length), (4, .int .i64 i), (5, .ptr 3 nx 0 0), (6, .int .i64 q.1)], q.2.1, q.2.2⟩) (fun q => A.length - q.1) (fun q => q.1 ≤ atR r A ∧ nx < q.2.2 ∧ get q.2.1 ob = some (.rows 3 (A.map Rd.e)) ∧ get q.2.1 nx = some (.rows 3 [r.e])) (0, _, nx + 1) (.mk' ?_ (fun _ _ h => h) rfl) ⟨Nat.zero_le _, by simp, by simp [get_ins, z2, h3], by simp [get_ins, Rd.e]⟩ ?_)
        · simp [leV, get, wkV.refl]
        rintro ⟨a, G, ny⟩ ⟨k1, k2, k3, k4⟩
        simp only at k1 k2 k3 k4 ⊢
        have y1 : ob < ny := by omega
        refine LWP_seq (LWP_seq ?_)
        by_cases ha : a < A.length
        · obtain ⟨x, hx⟩ : ∃ x, x = A[a] := ⟨_, rfl⟩
          have hx' := hx.symm
          have hgo : ltR x r = true → a < atR r A := fun h => by
            rcases Nat.lt_or_ge a (atR r A) with g | g
            · exact g
            · have e : a = atR r A := by omega
              subst e
              rw [hx, atR_at r A ha] at h
              cases h
          have hstop : ltR x r = false → a = atR r A := fun h => by
            rcases Nat.lt_or_ge a (atR r A) with g | g
            · have := atR_lt r A a ha g
              rw [← hx, h] at this
              cases this
            · omega
          by_cases g1 : x.f < r.f
          · apply LWP_runD
            · simp -implicitDefEqProofs [stepsD, stepD, ST.as, dEffF, LOp.cls, softOK, LOp.args, AV.ids, gd, opEff, LArg.ev, appD_val, appD_new, appD_upd, appD_kill, AS.flush, delAll, putV, ins, get, binV, binI, grd, bnd, ldCells, AV.cells, AV.scalar, AV.known, setAt, fillL, chunks, elems, mxI, mnI, del, Nat.add_assoc, nlt_self, nne_self, nne_self', List.take_of_length_le, ha, k3, k4, hx', Rd.e, g1, k2, y1]; rfl
            · simp [AS.fin, delAll, del, Nat.add_assoc]; rfl
            refine LWP_cond (t := true) (by simp [LArg.ev, get]) (fun _ => LWP_skip ?_) (fun h => by cases h)
            refine LWP_block ?_
            apply LWP_run
            · simp -implicitDefEqProofs [stepsS, stepS, gd, opEff, LArg.ev, app_val, app_new, app_upd, app_kill, putV, ins, get, binV, binI, grd, bnd, ldCells, AV.cells, AV.scalar, AV.known, setAt, fillL, chunks, elems, mxI, mnI, del, Nat.add_assoc, nlt_self, nne_self, nne_self', List.take_of_length_le]; rfl
            have := hgo (by simp [ltR, g1])
            refine ⟨(a + 1, _, _), ⟨this, ?_, k3, k4⟩, by simp only; omega, .mk' ?_ (fun _ _ h => h) rfl⟩
            · simp only; omega
            · simp [leV, get, wkV.refl, wrap_succ (n := a) (by omega)]
          by_cases g2 : x.f = r.f
          · have g2' : (x.f == r.f) = true := by simp [g2]
            have g3 : ltR x r = decide (x.t < r.t) := by simp [ltR, g2]
            apply LWP_runD
            · simp -implicitDefEqProofs [stepsD, stepD, ST.as, dEffF, LOp.cls, softOK, LOp.args, AV.ids, gd, opEff, LArg.ev, appD_val, appD_new, appD_upd, appD_kill, AS.flush, delAll, putV, ins, get, binV, binI, grd, bnd, ldCells, AV.cells, AV.scalar, AV.known, setAt, fillL, chunks, elems, mxI, mnI, del, Nat.add_assoc, nlt_self, nne_self, nne_self', List.take_of_length_le, ha, k3, k4, hx', Rd.e, g1, g2', k2, y1]; rfl
            · simp [AS.fin, delAll, del, Nat.add_assoc]; rfl
            refine LWP_cond (t := decide (x.t < r.t)) (by simp [LArg.ev, get]) (fun hb => LWP_skip ?_) (fun hb => LWP_exit ?_)
            · refine LWP_block ?_
              apply LWP_run
              · simp -implicitDefEqProofs [stepsS, stepS, gd, opEff, LArg.ev, app_val, app_new, app_upd, app_kill, putV, ins, get, binV, binI, grd, bnd, ldCells, AV.cells, AV.scalar, AV.known, setAt, fillL, chunks, elems, mxI, mnI, del, Nat.add_assoc, nlt_self, nne_self, nne_self', List.take_of_length_le]; rfl
              have := hgo (by rw [g3]; exact hb)
              refine ⟨(a + 1, _, _), ⟨this, ?_, k3, k4⟩, by simp only; omega, .mk' ?_ (fun _ _ h => h) rfl⟩
              · simp only; omega
              · simp [leV, get, wkV.refl, wrap_succ (n := a) (by omega)]
            · have := hstop (by rw [g3]; exact hb)
              refine ⟨(_, _), ⟨?_, k3, k4⟩, .mk' ?_ (fun _ _ h => h) rfl⟩
              · simp only; omega
              · simp [leV, get, wkV.refl, this]
          · have g2' : (x.f == r.f) = false := beq_false_of_ne g2
            have g3 : ltR x r = false := by simp [ltR, g1, g2]
            apply LWP_runD
            · simp -implicitDefEqProofs [stepsD, stepD, ST.as, dEffF, LOp.cls, softOK, LOp.args, AV.ids, gd, opEff, LArg.ev, appD_val, appD_new, appD_upd, appD_kill, AS.flush, delAll, putV, ins, get, binV, binI, grd, bnd, ldCells, AV.cells, AV.scalar, AV.known, setAt, fillL, chunks, elems, mxI, mnI, del, Nat.add_assoc, nlt_self, nne_self, nne_self', List.take_of_length_le, ha, k3, k4, hx', Rd.e, g1, g2', k2, y1]; rfl
            · simp [AS.fin, delAll, del, Nat.add_assoc]; rfl
            refine LWP_cond (t := false) (by simp [LArg.ev, get]) (fun h => by cases h) (fun hb => LWP_exit ?_)
            have := hstop g3
            refine ⟨(_, _), ⟨?_, k3, k4⟩, .mk' ?_ (fun _ _ h => h) rfl⟩
            · simp only; omega
            · simp [leV, get, wkV.refl, this]
        · apply LWP_runD
          · simp -implicitDefEqProofs [stepsD, stepD, ST.as, dEffF, LOp.cls, softOK, LOp.args, AV.ids, gd, opEff, LArg.ev, appD_val, appD_new, appD_upd, appD_kill, AS.flush, delAll, putV, ins, get, binV, binI, grd, bnd, ldCells, AV.cells, AV.scalar, AV.known, setAt, fillL, chunks, elems, mxI, mnI, del, Nat.add_assoc, nlt_self, nne_self, nne_self', List.take_of_length_le, ha]; rfl
          · simp [AS.fin, delAll, del, Nat.add_assoc]; rfl
          refine LWP_cond (t := false) (by simp [LArg.ev, get]) (fun h => by cases h) (fun hb => LWP_exit ?_)
          have : a = atR r A := by omega
          refine ⟨(_, _), ⟨?_, k3, k4⟩, .mk' ?_ (fun _ _ h => h) rfl⟩
          · simp only; omega
          · simp [leV, get, wkV.refl, this]
      · rintro ⟨G, ny⟩ ⟨k2, k3, k4⟩
        simp only at k2 k3 k4 ⊢
        obtain ⟨a, ha⟩ : ∃ a, a = atR r A := ⟨_, rfl⟩
        have hnew := insR_new r A
        have hhit := insR_hit r A
        rw [← ha] at hat ⊢
        simp only [← ha] at hnew hhit
        have y1 : ob < ny := by omega
        have y2 : nx < ny := k2
        have y3 : ∀ j, ob < ny + j := fun j => by omega
        have y4 : ∀ j, nx < ny + j := fun j => by omega
        refine LWP_cut (fun q : Heap × Nat => ⟨[(0, .tsl 3 (l.map Rd.e)), (3, .sl 3 ob 0 A.length), (4, .int .i64 i), (5, .ptr 3 nx 0 0), (6, .int .i64 a)], q.1, q.2⟩) (fun q => nx < q.2 ∧ get q.1 ob = some (.rows 3 (A.map Rd.e)) ∧ get q.1 nx = some (.rows 3 [r.e]) ∧ ∀ h : a < A.length, keyR A[a] r = false) ?_ ?_
        · refine LWP_seq ?_
          by_cases hal : a < A.length
          · obtain ⟨x, hx⟩ : ∃ x, x = A[a] := ⟨_, rfl⟩
            have hx' := hx.symm
            by_cases g1 : x.f = r.f
            · have g1' : (x.f == r.f) = true := by simp [g1]
              by_cases g2 : x.t = r.t
              · have g2' : (x.t == r.t) = true := by simp [g2]
                apply LWP_runD
                · simp -implicitDefEqProofs [stepsD, stepD, ST.as, dEffF, LOp.cls, softOK, LOp.args, AV.ids, gd, opEff, LArg.ev, appD_val, appD_new, appD_upd, appD_kill, AS.flush, delAll, putV, ins, get, binV, binI, grd, bnd, ldCells, AV.cells, AV.scalar, AV.known, setAt, fillL, chunks, elems, mxI, mnI, del, Nat.add_assoc, nlt_self, nne_self, nne_self', List.take_of_length_le, hal, k3, k4, hx', Rd.e, g1', g2', y1, y2, y3, y4]; rfl
                · simp [AS.fin, delAll, del, Nat.add_assoc]; rfl
                refine LWP_cond (t := true) (by simp [LArg.ev, get]) (fun _ => ?_) (fun h => by cases h)
                refine LWP_seq ?_
                apply LWP_runD
                · simp -implicitDefEqProofs [stepsD, stepD, ST.as, dEffF, LOp.cls, softOK, LOp.args, AV.ids, gd, opEff, LArg.ev, appD_val, appD_new, appD_upd, appD_kill, AS.flush, delAll, putV, ins, get, binV, binI, grd, bnd, ldCells, AV.cells, AV.scalar, AV.known, setAt, fillL, chunks, elems, mxI, mnI, del, Nat.add_assoc, nlt_self, nne_self, nne_self', List.take_of_length_le, hal, k3, k4, hx', Rd.e, g1', g2', y1, y2, y3, y4]; rfl
                · simp [AS.fin, delAll, del, Nat.add_assoc]; rfl
                refine LWP_exit ?_
                apply LWP_run
                · simp -implicitDefEqProofs [stepsS, stepS, gd, opEff, LArg.ev, app_val, app_new, app_upd, app_kill, putV, ins, get, binV, binI, grd, bnd, ldCells, AV.cells, AV.scalar, AV.known, setAt, fillL, chunks, elems, mxI, mnI, del, Nat.add_assoc, nlt_self, nne_self, nne_self', List.take_of_length_le]; rfl
                have hin := hhit hal (by rw [hx']; simp [keyR, g1, g2])
                rw [hx'] at hin
                have hlen : (insR r A).length = A.length := by rw [hin, List.length_set]
                refine ⟨(i + 1, ob, _, _), ⟨hc', ?_, ?_⟩, by simp only; omega, .mk' ?_ (fun _ _ h => h) rfl⟩
                · simp only; omega
                · simp only [hN2, hin, List.map_set]
                  simp [get_ins, mxd, Rd.e]
                · simp [hN2, hlen, leV, get, wkV.refl, wrap_succ (n := i) (by omega)]
              · have g2' : (x.t == r.t) = false := beq_false_of_ne g2
                apply LWP_runD
                · simp -implicitDefEqProofs [stepsD, stepD, ST.as, dEffF, LOp.cls, softOK, LOp.args, AV.ids, gd, opEff, LArg.ev, appD_val, appD_new, appD_upd, appD_kill, AS.flush, delAll, putV, ins, get, binV, binI, grd, bnd, ldCells, AV.cells, AV.scalar, AV.known, setAt, fillL, chunks, elems, mxI, mnI, del, Nat.add_assoc, nlt_self, nne_self, nne_self', List.take_of_length_le, hal, k3, k4, hx', Rd.e, g1', g2', y1, y2, y3, y4]; rfl
                · simp [AS.fin, delAll, del, Nat.add_assoc]; rfl
                refine LWP_cond (t := false) (by simp [LArg.ev, get]) (fun h => by cases h) (fun _ => LWP_skip ?_)
                refine ⟨(_, _), ⟨?_, k3, k4, fun h => by rw [hx']; simp [keyR, g2]⟩, .mk' ?_ (fun _ _ h => h) rfl⟩
                · simp only; omega
                · simp [leV, get, wkV.refl]
            · have g1' : (x.f == r.f) = false := beq_false_of_ne g1
              apply LWP_runD
              · simp -implicitDefEqProofs [stepsD, stepD, ST.as, dEffF, LOp.cls, softOK, LOp.args, AV.ids, gd, opEff, LArg.ev, appD_val, appD_new, appD_upd, appD_kill, AS.flush, delAll, putV, ins, get, binV, binI, grd, bnd, ldCells, AV.cells, AV.scalar, AV.known, setAt, fillL, chunks, elems, mxI, mnI, del, Nat.add_assoc, nlt_self, nne_self, nne_self', List.take_of_length_le, hal, k3, k4, hx', Rd.e, g1', y1, y2, y3, y4]; rfl
              · simp [AS.fin, delAll, del, Nat.add_assoc]; rfl
              refine LWP_cond (t := false) (by simp [LArg.ev, get]) (fun h => by cases h) (fun _ => LWP_skip ?_)
              refine ⟨(_, _), ⟨?_, k3, k4, fun h => by rw [hx']; simp [keyR, g1]⟩, .mk' ?_ (fun _ _ h => h) rfl⟩
              · simp only; omega
              · simp [leV, get, wkV.refl]
          · apply LWP_runD
            · simp -implicitDefEqProofs [stepsD, stepD, ST.as, dEffF, LOp.cls, softOK, LOp.args, AV.ids, gd, opEff, LArg.ev, appD_val, appD_new, appD_upd, appD_kill, AS.flush, delAll, putV, ins, get, binV, binI, grd, bnd, ldCells, AV.cells, AV.scalar, AV.known, setAt, fillL, chunks, elems, mxI, mnI, del, Nat.add_assoc, nlt_self, nne_self, nne_self', List.take_of_length_le, hal]; rfl
            · simp [AS.fin, delAll, del, Nat.add_assoc]; rfl
            refine LWP_cond (t := false) (by simp [LArg.ev, get]) (fun h => by cases h) (fun _ => LWP_skip ?_)
            refine ⟨(_, _), ⟨?_, k3, k4, fun h => absurd h hal⟩, .mk' ?_ (fun _ _ h => h) rfl⟩
            · simp only; omega
            · simp [leV, get, wkV.refl]
        clear y1 y2 y3 y4 k2 k3 k4
        rintro ⟨G, ny⟩ ⟨k2, k3, k4, k5⟩
        simp only at k2 k3 k4 k5 ⊢
        have hin := hnew k5
        have hq2 : (A.length + 1) * 24 ≤ 17592186044416 := by omega
        have x1 : ¬ ny = nx := by omega
        have x2 : ¬ ob = nx := by omega
        have x3 : ¬ ob = ny := by omega
        refine LWP_seq ?_
        apply LWP_run
        · simp -implicitDefEqProofs [stepsS, stepS, gd, opEff, LArg.ev, app_val, app_new, app_upd, app_kill, putV, ins, get, binV, binI, grd, bnd, ldCells, AV.cells, AV.scalar, AV.known, setAt, fillL, chunks, elems, mxI, mnI, del, Nat.add_assoc, nlt_self, nne_self, nne_self', List.take_of_length_le, k3, k4, Rd.e, hq2]; rfl
        refine LWP_cut (fun q : Rd × Heap × Nat => ⟨[(0, .tsl 3 (l.map Rd.e)), (3, .sl 3 ny 0 (A.length + 1)), (4, .int .i64 i), (5, .ptr 3 nx 0 0), (6, .int .i64 a)], q.2.1, q.2.2⟩) (fun q => ny < q.2.2 ∧ get q.2.1 ny = some (.rows 3 ((A.take a ++ q.1 :: A.drop a).map Rd.e)) ∧ get q.2.1 nx = some (.rows 3 [r.e])) ?_ ?_
        · refine LWP_seq ?_
          have w0 : IntKind.i64.wrap ((A.length : Int) + 1 - 1) = (A.length : Int) := by rw [wrap_i64 (by omega) (by omega)]; omega
          have w0' : IntKind.i64.wrap (A.length : Int) = (A.length : Int) := wrap_nat (by omega)
          apply LWP_run
          · simp -implicitDefEqProofs [stepsS, stepS, gd, opEff, LArg.ev, app_val, app_new, app_upd, app_kill, putV, ins, get, binV, binI, grd, bnd, ldCells, AV.cells, AV.scalar, AV.known, setAt, fillL, chunks, elems, mxI, mnI, del, Nat.add_assoc, nlt_self, nne_self, nne_self', List.take_of_length_le, w0, w0']; rfl
          refine LWP_block (LWP_inv (fun q : Nat × Rd × Heap × Nat => ⟨[(0, .tsl 3 (l.map Rd.e)), (3, .sl 3 ny 0 (A.length + 1)), (4, .int .i64 i), (5, .ptr 3 nx 0 0), (6, .int .i64 a), (7, .int .i64 q.1)], q.2.2.1, q.2.2.2⟩) (fun q => q.1) (fun q => a ≤ q.1 ∧ q.1 ≤ A.length ∧ ny < q.2.2.2 ∧ get q.2.2.1 ny = some (.rows 3 ((A.take q.1 ++ q.2.1 :: A.drop q.1).map Rd.e)) ∧ get q.2.2.1 nx = some (.rows 3 [r.e])) (A.length, r, _, ny + 1) (.mk' ?_ (fun _ _ h => h) rfl) ⟨hat, Nat.le_refl _, by simp, ?_, ?_⟩ ?_)
          · simp [leV, get, wkV.refl]
          · simp [get_ins, get_del, x3, Rd.e]
          · simp [get_ins, get_del, x1, x2, k4, Rd.e]
          rintro ⟨k, X, G2, nz⟩ ⟨f1, f2, f3, f4, f5⟩
          simp only at f1 f2 f3 f4 f5 ⊢
          refine LWP_seq (LWP_seq ?_)
          apply LWP_run
          · simp -implicitDefEqProofs [stepsS, stepS, gd, opEff, LArg.ev, app_val, app_new, app_upd, app_kill, putV, ins, get, binV, binI, grd, bnd, ldCells, AV.cells, AV.scalar, AV.known, setAt, fillL, chunks, elems, mxI, mnI, del, Nat.add_assoc, nlt_self, nne_self, nne_self', List.take_of_length_le]; rfl
          refine LWP_cond (t := decide (a < k)) (by simp [LArg.ev, get]) (fun hk => LWP_skip ?_) (fun hk => LWP_exit ?_)
          · have hk' : a < k := by simpa using hk
            obtain ⟨k, rfl⟩ : ∃ k', k = k' + 1 := ⟨k - 1, by omega⟩
            obtain ⟨p, hp⟩ : ∃ p, p = k + 1 := ⟨_, rfl⟩
            have hkl : k < A.length := by omega
            have s1 := shift_get (X := X) hkl
            have s2 := shift_set (X := X) (Y := A[k]) (k := k + 1) (A := A) hkl
            rw [shift_eq hkl] at s2
            rw [← hp] at f4 s1 s2 ⊢
            obtain ⟨rows, hrows⟩ : ∃ rows, rows = (A.take p ++ X :: A.drop p).map Rd.e := ⟨_, rfl⟩
            have hrl : rows.length = A.length + 1 := by rw [hrows]; simp; omega
            rw [← hrows] at f4 s1 s2
            have e1 : p < A.length + 1 := by omega
            have e2 : k < A.length + 1 := by omega
            have e3 : IntKind.i64.wrap ((p : Int) - 1) = (k : Int) := by rw [wrap_i64 (by omega) (by omega)]; omega
            have e4 : (p : Int) < (A.length : Int) + 1 := by omega
            have e5 : (k : Int) < (A.length : Int) + 1 := by omega
            have s1' : rows[k]'(by omega) = (A[k]).e := by
              have := List.getElem?_eq_getElem (l := rows) (i := k) (by omega)
              rw [this] at s1
              exact Option.some.inj s1
            have hle : ((A[k]).e).length = 3 := rfl
            refine LWP_seq (LWP_block ?_)
            apply LWP_run
            · simp -implicitDefEqProofs [stepsS, stepS, gd, opEff, LArg.ev, app_val, app_new, app_upd, app_kill, putV, ins, get, binV, binI, grd, bnd, ldCells, AV.cells, AV.scalar, AV.known, setAt, fillL, chunks, elems, mxI, mnI, del, Nat.add_assoc, nlt_self, nne_self, nne_self', List.take_of_length_le, f4, hrl, e1, e2, e3, e4, e5, s1', Rd.e]; rfl
            have hdr : ((rows[p]'(by omega)).drop 3) = [] := by
              have : (rows[p]'(by omega)).length = 3 := by subst hrows; exact e_len _
              exact List.drop_of_length_le (by omega)
            apply LWP_run
            · simp -implicitDefEqProofs [stepsS, stepS, gd, opEff, LArg.ev, app_val, app_new, app_upd, app_kill, putV, ins, get, binV, binI, grd, bnd, ldCells, AV.cells, AV.scalar, AV.known, setAt, fillL, chunks, elems, mxI, mnI, del, Nat.add_assoc, nlt_self, nne_self, nne_self', List.take_of_length_le, e3]; rfl
            refine ⟨(k, A[k], _, _), ⟨by simp only; omega, by simp only; omega, f3, ?_, ?_⟩, by simp only; omega, .mk' ?_ (fun _ _ h => h) rfl⟩
            · simp only [Rd.e] at s2
              simp [get_ins, hdr, s2, Rd.e]
            · simp [get_ins, x1, f5]
            · simp [leV, get, wkV.refl]
          · have hk' : ¬ a < k := by simpa using hk
            have e : k = a := by omega
            subst e
            exact ⟨(X, G2, nz), ⟨f3, f4, f5⟩, .mk' (by simp [leV, get, wkV.refl]) (fun _ _ h => h) rfl⟩
        · rintro ⟨X, G2, nz⟩ ⟨f3, f4, f5⟩
          simp only at f3 f4 f5 ⊢
          have s2 := shift_set (X := X) (Y := r) (k := a) (A := A) hat
          obtain ⟨rows, hrows⟩ : ∃ rows, rows = (A.take a ++ X :: A.drop a).map Rd.e := ⟨_, rfl⟩
          have hrl : rows.length = A.length + 1 := by rw [hrows]; simp; omega
          rw [← hrows] at f4 s2
          have e1 : a < A.length + 1 := by omega
          have e4 : (a : Int) < (A.length : Int) + 1 := by omega
          have hdr : ((rows[a]'(by omega)).drop 3) = [] := by
            have : (rows[a]'(by omega)).length = 3 := by subst hrows; exact e_len _
            exact List.drop_of_length_le (by omega)
          have hlen : (insR r A).length = A.length + 1 := by rw [hin]; simp; omega
          apply LWP_run
          · simp -implicitDefEqProofs [stepsS, stepS, gd, opEff, LArg.ev, app_val, app_new, app_upd, app_kill, putV, ins, get, binV, binI, grd, bnd, ldCells, AV.cells, AV.scalar, AV.known, setAt, fillL, chunks, elems, mxI, mnI, del, Nat.add_assoc, nlt_self, nne_self, nne_self', List.take_of_length_le, f4, f5, hrl, e1, e4, Rd.e]; rfl
          apply LWP_run
          · simp -implicitDefEqProofs [stepsS, stepS, gd, opEff, LArg.ev, app_val, app_new, app_upd, app_kill, putV, ins, get, binV, binI, grd, bnd, ldCells, AV.cells, AV.scalar, AV.known, setAt, fillL, chunks, elems, mxI, mnI, del, Nat.add_assoc, nlt_self, nne_self, nne_self', List.take_of_length_le]; rfl
          refine ⟨(i + 1, ny, _, _), ⟨hc', f3, ?_⟩, by simp only; omega, .mk' ?_ (fun _ _ h => h) rfl⟩
          · simp only [hN2, hin]
            rw [← s2]
            simp [get_ins, hdr, Rd.e]
          · simp [hN2, hlen, leV, get, wkV.refl, wrap_succ (n := i) (by omega)]
    · have hc' : ¬ i < l.length := by simpa using hc
      have : l.take i = l := List.take_of_length_le (by omega)
      rw [this] at hA
      subst hA
      exact ⟨(ob, H, nx), h3, .mk' (by simp [leV, get, wkV.refl]) (fun _ _ h => h) rfl⟩
  · rintro ⟨ob, G, nx⟩ a8
    simp only at a8 ⊢
    refine LWP_seq ?_
    apply LWP_run
    · simp -implicitDefEqProofs [stepsS, stepS, gd, opEff, LArg.ev, app_val, app_new, app_upd, app_kill, putV, ins, get, binV, binI, grd, bnd, ldCells, AV.cells, AV.scalar, AV.known, setAt, fillL, chunks, elems, mxI, mnI, del, Nat.add_assoc, nlt_self, nne_self, nne_self', List.take_of_length_le]; rfl
    refine LWP_frz ob a8 ?_
    refine LWP_ret ?_
    show ∃ vs, resV _ _ = some vs ∧ wkV (retV vs) _
    refine ⟨_, rfl, ?_⟩
    simp [retV, wkV.refl, ST.frz, mapS, frzV, List.take_of_length_le]
end Go.AM.Rod
