/- A part of a proof about the given program: what its name says. No premise beyond the statements'. -/
import Derived.Test.YteiapnjcelnfdaaRodR
set_option linter.unusedSimpArgs false
set_option linter.unusedVariables false
namespace Go.AM.Rod
open Go.AM

def okS (r : Rd) : Bool := !decide (r.f < 0) && !decide (r.t ≤ r.f)
def surS (M : Mp) (r : Rd) : Mp := bif okS r then put (r.f, r.t) r.d M else M
def surM (l : List Rd) : Mp := l.foldl surS []
def vl (k : Int × Int) : Mp → Int
  | [] => 0
  | (k', v) :: M => if k = k' then v else vl k M
def keysA (M : Mp) : Array (Int × Int) := (M.map (·.1)).toArray
def ltP (p q : Int × Int) : Bool := decide (p.1 < q.1 ∨ (p.1 = q.1 ∧ p.2 < q.2))
theorem ltP_eq : prK.lt = ltP := by
  funext p q
  have := prK_lt p q
  cases h : prK.lt p q with
  | true => exact (decide_eq_true (this.1 h)).symm
  | false => exact (decide_eq_false (fun e => by rw [this.2 e] at h; cases h)).symm
def sortK (M : Mp) : List (Int × Int) := (Go.Sort.sort ltP (keysA M)).toList
def sureL (l : List Rd) : List Rd := (sortK (surM l)).map fun k => ⟨k.1, k.2, vl k (surM l)⟩

theorem fnd_vl (k : Int × Int) : ∀ (M : Mp) (j : Nat), vl k M = ((fnd k M j).map (·.2)).getD 0
  | [], j => rfl
  | (k', v) :: M, j => by
    simp only [vl, fnd]
    by_cases h : k = k'
    · simp [h]
    · simp only [if_neg h]; exact fnd_vl k M (j + 1)
theorem fnd_keys (k : Int × Int) : ∀ (M : Mp) (j : Nat), (fnd k M j).isSome = decide (k ∈ M.map (·.1))
  | [], j => by simp [fnd]
  | (k', v) :: M, j => by
    simp only [fnd]
    by_cases h : k = k'
    · simp [h]
    · rw [if_neg h, fnd_keys k M (j + 1)]
      simp [h]
theorem put_keys (k : Int × Int) (v : Int) : ∀ (M : Mp), (put k v M).map (·.1) = if k ∈ M.map (·.1) then M.map (·.1) else M.map (·.1) ++ [k]
  | [] => by simp [put]
  | (k', w) :: M => by
    simp only [put]
    by_cases h : k = k'
    · simp [h]
    · rw [if_neg h, List.map_cons, put_keys k v M]
      by_cases h2 : k ∈ M.map (·.1)
      · have : k ∈ List.map (·.1) ((k', w) :: M) := List.mem_cons_of_mem _ h2
        rw [if_pos h2, if_pos this]; rfl
      · have : ¬ k ∈ List.map (·.1) ((k', w) :: M) := by
          rw [List.map_cons, List.mem_cons]; exact fun e => e.elim h h2
        rw [if_neg h2, if_neg this]; rfl
theorem put_len (k : Int × Int) (v : Int) (M : Mp) : (put k v M).length ≤ M.length + 1 := by
  have h := congrArg List.length (put_keys k v M)
  simp only [List.length_map] at h
  rw [h]
  split <;> simp
theorem surM_len (l : List Rd) : (surM l).length ≤ l.length := by
  have key : ∀ (l : List Rd) (M : Mp), (l.foldl surS M).length ≤ M.length + l.length := by
    intro l
    induction l with
    | nil => intro M; simp
    | cons r l ih =>
      intro M
      simp only [List.foldl_cons, List.length_cons]
      have h1 := ih (surS M r)
      have h2 : (surS M r).length ≤ M.length + 1 := by
        unfold surS
        cases okS r with
        | true => exact put_len _ _ _
        | false => simp
      omega
  have := key l []
  simpa [surM] using this
theorem foldl_tk {α β : Type} {f : β → α → β} {b : β} {l : List α} {j : Nat} (h : j < l.length) : (l.take (j + 1)).foldl f b = f ((l.take j).foldl f b) l[j] := by
  rw [List.take_succ_eq_append_getElem h, List.foldl_append]; rfl

theorem surM_take {l : List Rd} {i : Nat} (h : i < l.length) : surM (l.take (i + 1)) = surS (surM (l.take i)) l[i] := by
  simp only [surM]; exact foldl_tk h

set_option maxHeartbeats 4000000 in
theorem sure_ok (l : List Rd) (hl : l.length < 65536) : ACalls Go.Proofs.Try.prog 20 [.tsl 3 (l.map Rd.e)] [] 0 (fun x _ _ => x = .tsl 3 ((sureL l).map Rd.e)) := by
  refine pure_body ok20 rfl ?_
  simp only [parV]
  refine LWP_seq ?_
  apply LWP_run
  · simp -implicitDefEqProofs [stepsS, stepS, gd, opEff, LArg.ev, app_val, app_new, app_upd, app_kill, putV, ins, get, binV, binI, grd, bnd, ldCells, AV.cells, AV.scalar, AV.known, setAt, fillL, chunks, elems, mxI, mnI, del, Nat.add_assoc, nlt_self, nne_self, nne_self', List.take_of_length_le]; rfl
  refine LWP_seq ?_
  apply LWP_run
  · simp -implicitDefEqProofs [stepsS, stepS, gd, opEff, LArg.ev, app_val, app_new, app_upd, app_kill, putV, ins, get, binV, binI, grd, bnd, ldCells, AV.cells, AV.scalar, AV.known, setAt, fillL, chunks, elems, mxI, mnI, del, Nat.add_assoc, nlt_self, nne_self, nne_self', List.take_of_length_le]; rfl
  refine LWP_seq ?_
  apply LWP_run
  · simp -implicitDefEqProofs [stepsS, stepS, gd, opEff, LArg.ev, app_val, app_new, app_upd, app_kill, putV, ins, get, binV, binI, grd, bnd, ldCells, AV.cells, AV.scalar, AV.known, setAt, fillL, chunks, elems, mxI, mnI, del, Nat.add_assoc, nlt_self, nne_self, nne_self', List.take_of_length_le]; rfl
  obtain ⟨M, hM⟩ : ∃ M, M = surM l := ⟨_, rfl⟩
  have hML : M.length < 65536 := by have := surM_len l; rw [← hM] at this; omega
  refine LWP_cut (fun q : Nat × Heap × Nat => ⟨[(3, .map 0), (4, .sl 2 q.1 0 M.length)], q.2.1, q.2.2⟩) (fun q => 0 < q.1 ∧ q.1 < q.2.2 ∧ get q.2.1 0 = some (.mp (mpE M)) ∧ get q.2.1 q.1 = some (.rows 2 (M.map fun p => Pr.e p.1))) ?_ ?_
  · refine LWP_seq ?_
    apply LWP_run
    · simp -implicitDefEqProofs [stepsS, stepS, gd, opEff, LArg.ev, app_val, app_new, app_upd, app_kill, putV, ins, get, binV, binI, grd, bnd, ldCells, AV.cells, AV.scalar, AV.known, setAt, fillL, chunks, elems, mxI, mnI, del, Nat.add_assoc, nlt_self, nne_self, nne_self', List.take_of_length_le]; rfl
    refine LWP_block (LWP_inv (fun q : Nat × Nat × Heap × Nat => ⟨[(3, .map 0), (4, .sl 2 q.2.1 0 (surM (l.take q.1)).length), (14, .tsl 3 (l.map Rd.e)), (15, .int .i64 l.length), (16, .int .i64 q.1)], q.2.2.1, q.2.2.2⟩) (fun q => l.length - q.1)
      (fun q => q.1 ≤ l.length ∧ 0 < q.2.1 ∧ q.2.1 < q.2.2.2 ∧ get q.2.2.1 0 = some (.mp (mpE (surM (l.take q.1)))) ∧ get q.2.2.1 q.2.1 = some (.rows 2 ((surM (l.take q.1)).map fun p => Pr.e p.1))) (0, 1, [(0, .mp []), (1, .rows 2 [])], 2) ?_ ⟨Nat.zero_le _, by simp, by simp, by simp [get, surM, mpE], by simp [get, surM]⟩ ?_)
    · refine .mk' ?_ (fun _ _ h => h) ?_
      · simp [leV, get, wkV.refl, surM]
      · simp
    rintro ⟨i, pb, H, nx⟩ ⟨h1, h2, h3, g0, g1⟩
    simp only at h1 h2 h3 g0 g1 ⊢
    obtain ⟨N, hN⟩ : ∃ N, N = surM (l.take i) := ⟨_, rfl⟩
    rw [← hN] at g0 g1 ⊢
    refine LWP_seq ?_
    apply LWP_run
    · simp -implicitDefEqProofs [stepsS, stepS, gd, opEff, LArg.ev, app_val, app_new, app_upd, app_kill, putV, ins, get, binV, binI, grd, bnd, ldCells, AV.cells, AV.scalar, AV.known, setAt, fillL, chunks, elems, mxI, mnI, del, Nat.add_assoc, nlt_self, nne_self, nne_self', List.take_of_length_le]; rfl
    refine LWP_seq (LWP_cond (t := decide (i < l.length)) (by simp [LArg.ev, get]) (fun hc => LWP_skip ?_) (fun hc => LWP_exit ?_))
    · have hc' : i < l.length := by simpa using hc
      have hNs := surM_take hc'
      rw [← hN] at hNs
      obtain ⟨r, hr⟩ : ∃ r, r = l[i] := ⟨_, rfl⟩
      have hr' : l[i] = r := hr.symm
      rw [← hr] at hNs
      have z1 : ¬ nx = 0 := by omega
      have z2 : ¬ nx = pb := by omega
      have z3 : ¬ pb = 0 := by omega
      have z4 : ¬ 0 = pb := by omega
      have hNl : N.length ≤ i := by have := surM_len (l.take i); rw [← hN] at this; simp at this; omega
      refine LWP_seq (LWP_block (LWP_seq ?_))
      apply LWP_run
      · simp -implicitDefEqProofs [stepsS, stepS, gd, opEff, LArg.ev, app_val, app_new, app_upd, app_kill, putV, ins, get, binV, binI, grd, bnd, ldCells, AV.cells, AV.scalar, AV.known, setAt, fillL, chunks, elems, mxI, mnI, del, Nat.add_assoc, nlt_self, nne_self, nne_self', List.take_of_length_le, get_ins, hc', hr', Rd.e, z1, z2]; rfl
      refine LWP_seq (LWP_seq ?_)
      by_cases hf : r.f < 0
      · apply LWP_run
        · simp -implicitDefEqProofs [stepsS, stepS, gd, opEff, LArg.ev, app_val, app_new, app_upd, app_kill, putV, ins, get, binV, binI, grd, bnd, ldCells, AV.cells, AV.scalar, AV.known, setAt, fillL, chunks, elems, mxI, mnI, del, Nat.add_assoc, nlt_self, nne_self, nne_self', List.take_of_length_le, hf, get_ins, z1, z2]; rfl
        refine LWP_cond (t := true) (by simp [LArg.ev, get]) (fun _ => LWP_exit ?_) (fun h => by cases h)
        apply LWP_run
        · simp -implicitDefEqProofs [stepsS, stepS, gd, opEff, LArg.ev, app_val, app_new, app_upd, app_kill, putV, ins, get, binV, binI, grd, bnd, ldCells, AV.cells, AV.scalar, AV.known, setAt, fillL, chunks, elems, mxI, mnI, del, Nat.add_assoc, nlt_self, nne_self, nne_self', List.take_of_length_le]; rfl
        refine ⟨(i + 1, pb, _, _), ⟨hc', h2, ?_, ?_, ?_⟩, by simp only; omega, .mk' ?_ (fun _ _ h => h) rfl⟩
        · simp only; omega
        · simpa [hNs, surS, okS, hf, get_ins, z1, z2] using g0
        · simpa [hNs, surS, okS, hf, get_ins, z1, z2] using g1
        · simp [hNs, surS, okS, hf, leV, get, wkV.refl, wrap_succ (n := i) (by omega)]
      by_cases ht : r.t ≤ r.f
      · apply LWP_run
        · simp -implicitDefEqProofs [stepsS, stepS, gd, opEff, LArg.ev, app_val, app_new, app_upd, app_kill, putV, ins, get, binV, binI, grd, bnd, ldCells, AV.cells, AV.scalar, AV.known, setAt, fillL, chunks, elems, mxI, mnI, del, Nat.add_assoc, nlt_self, nne_self, nne_self', List.take_of_length_le, hf, ht, get_ins, z1, z2]; rfl
        refine LWP_cond (t := true) (by simp [LArg.ev, get]) (fun _ => LWP_exit ?_) (fun h => by cases h)
        apply LWP_run
        · simp -implicitDefEqProofs [stepsS, stepS, gd, opEff, LArg.ev, app_val, app_new, app_upd, app_kill, putV, ins, get, binV, binI, grd, bnd, ldCells, AV.cells, AV.scalar, AV.known, setAt, fillL, chunks, elems, mxI, mnI, del, Nat.add_assoc, nlt_self, nne_self, nne_self', List.take_of_length_le]; rfl
        refine ⟨(i + 1, pb, _, _), ⟨hc', h2, ?_, ?_, ?_⟩, by simp only; omega, .mk' ?_ (fun _ _ h => h) rfl⟩
        · simp only; omega
        · simpa [hNs, surS, okS, hf, ht, get_ins, z1, z2] using g0
        · simpa [hNs, surS, okS, hf, ht, get_ins, z1, z2] using g1
        · simp [hNs, surS, okS, hf, ht, leV, get, wkV.refl, wrap_succ (n := i) (by omega)]
      apply LWP_run
      · simp -implicitDefEqProofs [stepsS, stepS, gd, opEff, LArg.ev, app_val, app_new, app_upd, app_kill, putV, ins, get, binV, binI, grd, bnd, ldCells, AV.cells, AV.scalar, AV.known, setAt, fillL, chunks, elems, mxI, mnI, del, Nat.add_assoc, nlt_self, nne_self, nne_self', List.take_of_length_le, hf, ht, get_ins, z1, z2]; rfl
      refine LWP_cond (t := false) (by simp [LArg.ev, get]) (fun h => by cases h) (fun _ => LWP_skip ?_)
      obtain ⟨k, hk⟩ : ∃ k : Int × Int, k = (r.f, r.t) := ⟨_, rfl⟩
      have hN2 : surM (l.take (i + 1)) = put k r.d N := by
        rw [hNs, surS, okS, hk]; simp [hf, ht]
      have z5 : ¬ nx + 1 = 0 := by omega
      have z6 : ¬ nx + 1 = pb := by omega
      have z7 : ¬ nx + 1 = nx := by omega
      have z8 : ¬ nx = nx + 1 := by omega
      refine LWP_seq ?_
      apply LWP_run
      · simp -implicitDefEqProofs [stepsS, stepS, gd, opEff, LArg.ev, app_val, app_new, app_upd, app_kill, putV, ins, get, binV, binI, grd, bnd, ldCells, AV.cells, AV.scalar, AV.known, setAt, fillL, chunks, elems, mxI, mnI, del, Nat.add_assoc, nlt_self, nne_self, nne_self', List.take_of_length_le, get_ins, z1, z2, z5, z6]; rfl
      have hfk := find_pr k N 0
      have hp := fnd_put k r.d N 0
      have hkk := put_keys k r.d N
      have hkm := fnd_keys k N 0
      rw [hk] at hfk
      simp only [Pr.e] at hfk
      refine LWP_cut (fun q : Nat × Heap × Nat => ⟨[(3, .map 0), (4, .sl 2 q.1 0 (put k r.d N).length), (6, .ptr 3 nx 0 0), (7, .ptr 2 (nx + 1) 0 0), (14, .tsl 3 (l.map Rd.e)), (15, .int .i64 l.length), (16, .int .i64 i)], q.2.1, q.2.2⟩)
        (fun q => 0 < q.1 ∧ q.1 < q.2.2 ∧ nx + 1 < q.2.2 ∧ get q.2.1 0 = some (.mp (mpE N)) ∧ get q.2.1 q.1 = some (.rows 2 ((put k r.d N).map fun p => Pr.e p.1)) ∧ get q.2.1 nx = some (.rows 3 [r.e]) ∧ get q.2.1 (nx + 1) = some (.rows 2 [Pr.e k])) ?_ ?_
      · refine LWP_seq ?_
        cases hq : fnd k N 0 with
        | none =>
          rw [hk] at hq
          rw [hq] at hfk
          apply LWP_run
          · simp -implicitDefEqProofs [stepsS, stepS, gd, opEff, LArg.ev, app_val, app_new, app_upd, app_kill, putV, ins, get, binV, binI, grd, bnd, ldCells, AV.cells, AV.scalar, AV.known, setAt, fillL, chunks, elems, mxI, mnI, del, Nat.add_assoc, nlt_self, nne_self, nne_self', List.take_of_length_le, get_ins, z1, z2, z5, z6, z7, z8, g0, hfk, keyOK, lkV]; rfl
          refine LWP_seq ?_
          apply LWP_run
          · simp -implicitDefEqProofs [stepsS, stepS, gd, opEff, LArg.ev, app_val, app_new, app_upd, app_kill, putV, ins, get, binV, binI, grd, bnd, ldCells, AV.cells, AV.scalar, AV.known, setAt, fillL, chunks, elems, mxI, mnI, del, Nat.add_assoc, nlt_self, nne_self, nne_self', List.take_of_length_le]; rfl
          refine LWP_cond (t := true) (by simp [LArg.ev, get]) (fun _ => ?_) (fun h => by cases h)
          rw [← hk] at hq
          rw [hq] at hkm hp
          simp only at hp
          have hq2 : (N.length + 1) * 16 ≤ 17592186044416 := by omega
          have hmp : (put k r.d N).map (fun p => Pr.e p.1) = N.map (fun p => Pr.e p.1) ++ [Pr.e k] := by rw [hp]; simp
          have hml : (put k r.d N).length = N.length + 1 := by rw [hp]; simp
          have y1 : ¬ nx + 2 = 0 := by omega
          have y2 : ¬ pb = nx := by omega
          have y3 : ¬ pb = nx + 1 := by omega
          have y4 : ¬ nx + 2 = nx := by omega
          have y5 : ¬ nx + 2 = nx + 1 := by omega
          have y6 : ¬ pb = 0 := by omega
          apply LWP_run
          · simp -implicitDefEqProofs [stepsS, stepS, gd, opEff, LArg.ev, app_val, app_new, app_upd, app_kill, putV, ins, get, binV, binI, grd, bnd, ldCells, AV.cells, AV.scalar, AV.known, setAt, fillL, chunks, elems, mxI, mnI, del, Nat.add_assoc, nlt_self, nne_self, nne_self', List.take_of_length_le, get_ins, z1, z2, z5, z6, z7, z8, g1, hq2]; rfl
          refine ⟨(nx + 2, _, _), ⟨?_, ?_, ?_, ?_, ?_, ?_, ?_⟩, .mk' ?_ (fun _ _ h => h) rfl⟩
          · simp only; omega
          · simp only; omega
          · simp only; omega
          · simp [get_ins, get_del, z1, z5, y1, y6, g0]
          · simp only
            rw [hmp]
            simp [get_ins, Pr.e, hk]
          · simp [get_ins, get_del, y2, y4, z7, Rd.e]
          · simp [get_ins, get_del, y3, y5, Pr.e, hk]
          · simp [leV, get, wkV.refl, hml]
        | some q =>
          obtain ⟨ix, w⟩ := q
          rw [hk] at hq
          rw [hq] at hfk
          apply LWP_run
          · simp -implicitDefEqProofs [stepsS, stepS, gd, opEff, LArg.ev, app_val, app_new, app_upd, app_kill, putV, ins, get, binV, binI, grd, bnd, ldCells, AV.cells, AV.scalar, AV.known, setAt, fillL, chunks, elems, mxI, mnI, del, Nat.add_assoc, nlt_self, nne_self, nne_self', List.take_of_length_le, get_ins, z1, z2, z5, z6, z7, z8, g0, hfk, keyOK, lkV]; rfl
          refine LWP_seq ?_
          apply LWP_run
          · simp -implicitDefEqProofs [stepsS, stepS, gd, opEff, LArg.ev, app_val, app_new, app_upd, app_kill, putV, ins, get, binV, binI, grd, bnd, ldCells, AV.cells, AV.scalar, AV.known, setAt, fillL, chunks, elems, mxI, mnI, del, Nat.add_assoc, nlt_self, nne_self, nne_self', List.take_of_length_le]; rfl
          refine LWP_cond (t := false) (by simp [LArg.ev, get]) (fun h => by cases h) (fun _ => LWP_skip ?_)
          rw [← hk] at hq
          rw [hq] at hkm
          have hkm' : k ∈ N.map (·.1) := by simpa using hkm.symm
          rw [if_pos hkm'] at hkk
          have hmp : (put k r.d N).map (fun p => Pr.e p.1) = N.map (fun p => Pr.e p.1) := by
            have := congrArg (List.map Pr.e) hkk
            simpa [List.map_map, Function.comp_def] using this
          have hml : (put k r.d N).length = N.length := by
            have := congrArg List.length hkk
            simpa using this
          refine ⟨(pb, _, _), ⟨h2, ?_, ?_, ?_, ?_, ?_, ?_⟩, .mk' ?_ (fun _ _ h => h) rfl⟩
          · simp only; omega
          · simp only; omega
          · simp [get_ins, z1, z5, g0]
          · simp [get_ins, hmp, z2, z6, g1]
          · simp [get_ins, z7, Rd.e]
          · simp [get_ins, Pr.e, hk]
          · simp [leV, get, wkV.refl, hml]
      · rintro ⟨pb', H', nx'⟩ ⟨k1, k2, k3, k4, k5, k6, k7⟩
        simp only at k1 k2 k3 k4 k5 k6 k7 ⊢
        refine LWP_reg fun K' hK => ?_
        apply rgnS_pre 4
        · simp -implicitDefEqProofs [stepsS, stepS, gd, opEff, LArg.ev, app_val, app_new, app_upd, app_kill, putV, ins, get, binV, binI, grd, bnd, ldCells, AV.cells, AV.scalar, AV.known, setAt, fillL, chunks, elems, mxI, mnI, del, Nat.add_assoc, nlt_self, nne_self, nne_self', List.take_of_length_le, k6, k7, Pr.e, Rd.e]; rfl
        refine rgnS_callO (keep_ok (b := 0) k r.d N k4) rfl rfl (by simp [gd, get, LArg.ev]) ?_
        intro n' hn'
        simp only at hn' ⊢
        apply rgnS_pre 99
        · simp -implicitDefEqProofs [stepsS, stepS, gd, opEff, LArg.ev, app_val, app_new, app_upd, app_kill, putV, ins, get, binV, binI, grd, bnd, ldCells, AV.cells, AV.scalar, AV.known, setAt, fillL, chunks, elems, mxI, mnI, del, Nat.add_assoc, nlt_self, nne_self, nne_self', List.take_of_length_le]; rfl
        refine hK _ ?_; clear hK
        apply LWP_run
        · simp -implicitDefEqProofs [stepsS, stepS, gd, opEff, LArg.ev, app_val, app_new, app_upd, app_kill, putV, ins, get, binV, binI, grd, bnd, ldCells, AV.cells, AV.scalar, AV.known, setAt, fillL, chunks, elems, mxI, mnI, del, Nat.add_assoc, nlt_self, nne_self, nne_self', List.take_of_length_le]; rfl
        refine ⟨(i + 1, pb', _, _), ⟨hc', k1, ?_, ?_, ?_⟩, by simp only; omega, .mk' ?_ (fun _ _ h => h) rfl⟩
        · simp only; omega
        · simp [get_ins, hN2]
        · simp [get_ins, hN2, show ¬ 0 = pb' by omega, k5]
        · simp [leV, get, wkV.refl, hN2, wrap_succ (n := i) (by omega)]
    · have hc' : ¬ i < l.length := by simpa using hc
      have : l.take i = l := List.take_of_length_le (by omega)
      rw [this, ← hM] at hN
      subst hN
      exact ⟨(pb, H, nx), ⟨h2, h3, g0, g1⟩, .mk' (by simp [leV, get, wkV.refl]) (fun _ _ h => h) rfl⟩
  · rintro ⟨pb, H, nx⟩ ⟨h1, h2, h3, h4⟩
    simp only at h1 h2 h3 h4 ⊢
    have hA : (M.map fun p => Pr.e p.1) = rws prK (keysA M) := by simp [rws, keysA, prK, List.map_map, Function.comp_def]
    rw [hA] at h4
    have hs : (keysA M).size = M.length := by simp [keysA]
    refine LWP_seq (LWP_reg fun K' hK => ?_)
    apply rgnS_pre 1
    · simp -implicitDefEqProofs [stepsS, stepS, gd, opEff, LArg.ev, app_val, app_new, app_upd, app_kill, putV, ins, get, binV, binI, grd, bnd, ldCells, AV.cells, AV.scalar, AV.known, setAt, fillL, chunks, elems, mxI, mnI, del, Nat.add_assoc, nlt_self, nne_self, nne_self', List.take_of_length_le]; rfl
    refine rgnS_callO (srt_ok rodLays prK prK_swo (b := pb) hs hML h4) rfl rfl (by simp [gd, get, LArg.ev]) ?_
    rw [ltP_eq]
    intro n' hn'
    simp only at hn' ⊢
    apply rgnS_pre 99
    · simp -implicitDefEqProofs [stepsS, stepS, gd, opEff, LArg.ev, app_val, app_new, app_upd, app_kill, putV, ins, get, binV, binI, grd, bnd, ldCells, AV.cells, AV.scalar, AV.known, setAt, fillL, chunks, elems, mxI, mnI, del, Nat.add_assoc, nlt_self, nne_self, nne_self', List.take_of_length_le]; rfl
    refine hK _ ?_; clear hK
    obtain ⟨S, hS⟩ : ∃ S, S = sortK M := ⟨_, rfl⟩
    have hSl : S.length = M.length := by
      rw [hS, sortK, Array.length_toList, (Go.Sort.sort_sorts ltP (by rw [← ltP_eq]; exact prK_swo) (keysA M)).1.1, hs]
    have hR : rws prK (Go.Sort.sort ltP (keysA M)) = S.map Pr.e := by rw [hS]; rfl
    rw [hR]
    have hz : ¬ n' = 0 := by omega
    have hz2 : ¬ n' = pb := by omega
    have hz3 : ¬ pb = 0 := by omega
    refine LWP_seq ?_
    apply LWP_run
    · simp -implicitDefEqProofs [stepsS, stepS, gd, opEff, LArg.ev, app_val, app_new, app_upd, app_kill, putV, ins, get, binV, binI, grd, bnd, ldCells, AV.cells, AV.scalar, AV.known, setAt, fillL, chunks, elems, mxI, mnI, del, Nat.add_assoc, nlt_self, nne_self, nne_self', List.take_of_length_le]; rfl
    have hfin : (S.map fun k => Rd.e ⟨k.1, k.2, vl k M⟩) = (sureL l).map Rd.e := by simp [sureL, hS, hM, List.map_map, Function.comp_def]
    refine LWP_cut (fun q : Nat × Heap × Nat => ⟨[(10, .sl 3 q.1 0 S.length)], q.2.1, q.2.2⟩) (fun q => get q.2.1 q.1 = some (.rows 3 (S.map fun k => Rd.e ⟨k.1, k.2, vl k M⟩))) ?_ ?_
    · refine LWP_seq ?_
      apply LWP_run
      · simp -implicitDefEqProofs [stepsS, stepS, gd, opEff, LArg.ev, app_val, app_new, app_upd, app_kill, putV, ins, get, binV, binI, grd, bnd, ldCells, AV.cells, AV.scalar, AV.known, setAt, fillL, chunks, elems, mxI, mnI, del, Nat.add_assoc, nlt_self, nne_self, nne_self', List.take_of_length_le]; rfl
      refine LWP_block (LWP_inv (fun q : Nat × Nat × Heap × Nat => ⟨[(3, .map 0), (10, .sl 3 q.2.1 0 q.1), (55, .sl 2 pb 0 S.length), (56, .int .i64 S.length), (57, .int .i64 q.1)], q.2.2.1, q.2.2.2⟩) (fun q => S.length - q.1)
        (fun q => q.1 ≤ S.length ∧ 0 < q.2.1 ∧ q.2.1 < q.2.2.2 ∧ pb < q.2.2.2 ∧ pb ≠ q.2.1 ∧ get q.2.2.1 0 = some (.mp (mpE M)) ∧ get q.2.2.1 pb = some (.rows 2 (S.map Pr.e)) ∧ get q.2.2.1 q.2.1 = some (.rows 3 ((S.take q.1).map fun k => Rd.e ⟨k.1, k.2, vl k M⟩))) (0, n', _, n' + 1) (.mk' ?_ (fun _ _ h => h) rfl) ⟨Nat.zero_le _, by simp only; omega, by simp, by simp only; omega, by simp only; omega, by simp [get_ins, hz, hz3, h3], by simp [get_ins, hz2, rodK], by simp [get_ins]⟩ ?_)
      · simp [leV, get, wkV.refl, hSl]
      rintro ⟨i, ob, G, nx⟩ ⟨a1, a2, a3, a4, a5, a6, a7, a8⟩
      simp only at a1 a2 a3 a4 a5 a6 a7 a8 ⊢
      refine LWP_seq ?_
      apply LWP_run
      · simp -implicitDefEqProofs [stepsS, stepS, gd, opEff, LArg.ev, app_val, app_new, app_upd, app_kill, putV, ins, get, binV, binI, grd, bnd, ldCells, AV.cells, AV.scalar, AV.known, setAt, fillL, chunks, elems, mxI, mnI, del, Nat.add_assoc, nlt_self, nne_self, nne_self', List.take_of_length_le]; rfl
      refine LWP_seq (LWP_cond (t := decide (i < S.length)) (by simp [LArg.ev, get]) (fun hc => LWP_skip ?_) (fun hc => LWP_exit ?_))
      · have hc' : i < S.length := by simpa using hc
        obtain ⟨k, hk⟩ : ∃ k, k = S[i] := ⟨_, rfl⟩
        have hk' : S[i] = k := hk.symm
        have z1 : ¬ nx = 0 := by omega
        have z2 : ¬ nx = pb := by omega
        have z3 : ¬ nx = ob := by omega
        have z4 : ¬ ob = 0 := by omega
        have z5 : ¬ ob = nx := by omega
        have z6 : ¬ ob = pb := fun e => a5 e.symm
        have z7 : ∀ j, ob < nx + j := fun j => by omega
        have z8 : ∀ j, pb < nx + j := fun j => by omega
        have z9 : ¬ 0 = ob := by omega
        have hfk := find_pr k M 0
        simp only [Pr.e] at hfk
        have hlv : lkV false (.int .i64 0) ((fnd k M 0).map fun p => (p.1, .int .i64 p.2)) = .int .i64 (vl k M) := by
          rw [fnd_vl k M 0]; cases fnd k M 0 <;> rfl
        have hq2 : (i + 1) * 24 ≤ 17592186044416 := by omega
        refine LWP_seq (LWP_block (LWP_seq ?_))
        apply LWP_run
        · simp -implicitDefEqProofs [stepsS, stepS, gd, opEff, LArg.ev, app_val, app_new, app_upd, app_kill, putV, ins, get, binV, binI, grd, bnd, ldCells, AV.cells, AV.scalar, AV.known, setAt, fillL, chunks, elems, mxI, mnI, del, Nat.add_assoc, nlt_self, nne_self, nne_self', List.take_of_length_le, get_ins, z2, a7, hc', hk', Pr.e]; rfl
        apply LWP_runD
        · simp -implicitDefEqProofs [stepsD, stepD, ST.as, dEffF, LOp.cls, softOK, LOp.args, AV.ids, gd, opEff, LArg.ev, appD_val, appD_new, appD_upd, appD_kill, AS.flush, delAll, putV, ins, get, binV, binI, grd, bnd, ldCells, AV.cells, AV.scalar, AV.known, setAt, fillL, chunks, elems, mxI, mnI, del, Nat.add_assoc, nlt_self, nne_self, nne_self', List.take_of_length_le, get_ins, get_del, z1, z2, z3, z4, z5, z6, z7, z8, z9, a5, a6, a7, a8, hfk, hlv, keyOK, hq2, a1]; rfl
        · simp [AS.fin, delAll, del, Nat.add_assoc]; rfl
        apply LWP_run
        · simp -implicitDefEqProofs [stepsS, stepS, gd, opEff, LArg.ev, app_val, app_new, app_upd, app_kill, putV, ins, get, binV, binI, grd, bnd, ldCells, AV.cells, AV.scalar, AV.known, setAt, fillL, chunks, elems, mxI, mnI, del, Nat.add_assoc, nlt_self, nne_self, nne_self', List.take_of_length_le]; rfl
        have y1 : ¬ nx + 11 = 0 := by omega
        have y2 : ¬ nx + 11 = pb := by omega
        have y3 : ¬ nx + 11 = nx := by omega
        have y4 : ¬ ob = nx + 11 := by omega
        have y5 : ¬ pb = nx := by omega
        have htk : (S.take (i + 1)).map (fun k => Rd.e ⟨k.1, k.2, vl k M⟩) = (S.take i).map (fun k => Rd.e ⟨k.1, k.2, vl k M⟩) ++ [Rd.e ⟨k.1, k.2, vl k M⟩] := by
          rw [List.take_succ_eq_append_getElem hc', hk', List.map_append]; rfl
        refine ⟨(i + 1, nx + 11, _, _), ⟨hc', by simp only; omega, ?_, ?_, ?_, ?_, ?_, ?_⟩, by simp only; omega, .mk' ?_ (fun _ _ h => h) rfl⟩
        · simp only; omega
        · simp only; omega
        · simp only; omega
        · simp [get_ins, get_del, y1, z1, z4, a6]
        · simp [get_ins, get_del, y2, z2, z6, a7]
        · simp only
          rw [htk]
          simp [get_ins, get_del, y4, Rd.e]
        · simp [leV, get, wkV.refl, wrap_succ (n := i) (by omega)]
      · have hc' : ¬ i < S.length := by simpa using hc
        have e1 : i = S.length := by omega
        subst e1
        rw [List.take_of_length_le (Nat.le_refl _)] at a8
        exact ⟨(ob, G, nx), a8, .mk' (by simp [leV, get, wkV.refl]) (fun _ _ h => h) rfl⟩
    · rintro ⟨ob, G, nx⟩ a8
      simp only at a8 ⊢
      refine LWP_seq ?_
      apply LWP_run
      · simp -implicitDefEqProofs [stepsS, stepS, gd, opEff, LArg.ev, app_val, app_new, app_upd, app_kill, putV, ins, get, binV, binI, grd, bnd, ldCells, AV.cells, AV.scalar, AV.known, setAt, fillL, chunks, elems, mxI, mnI, del, Nat.add_assoc, nlt_self, nne_self, nne_self', List.take_of_length_le]; rfl
      refine LWP_frz ob a8 ?_
      have hsl : (sureL l).length = S.length := by simp [sureL, hS, hM]
      refine LWP_ret ?_
      show ∃ vs, resV _ _ = some vs ∧ wkV (retV vs) _
      refine ⟨_, rfl, ?_⟩
      simp [retV, wkV.refl, ST.frz, mapS, frzV, List.take_of_length_le, hfin, hsl]
end Go.AM.Rod
