/- A part of a proof about the given program: what its name says. No premise beyond the statements'. -/
import Derived.Test.YteiapnjcelnfdaaRodQ
set_option linter.unusedSimpArgs false
set_option linter.unusedVariables false
namespace Go.AM.Rod
open Go.AM

abbrev Mp := List ((Int × Int) × Int)
def mpE (M : Mp) : List (AV × AV) := M.map fun p => (.agg (Pr.e p.1), .int .i64 p.2)
def fnd (k : Int × Int) : Mp → Nat → Option (Nat × Int)
  | [], _ => none
  | (k', v) :: M, i => if k = k' then some (i, v) else fnd k M (i + 1)
def put (k : Int × Int) (v : Int) : Mp → Mp
  | [] => [(k, v)]
  | (k', w) :: M => if k = k' then (k', if w < v then v else w) :: M else (k', w) :: put k v M

theorem eq_pr (k k' : Int × Int) : eqV (.ag [.i, .i]) (.agg (Pr.e k)) (.agg (Pr.e k')) = some (decide (k = k')) := by
  obtain ⟨a, b⟩ := k
  obtain ⟨a', b'⟩ := k'
  simp only [Pr.e, eqV, eqL, eqS, grd, Prod.mk.injEq]
  by_cases h1 : a = a'
  · subst h1
    by_cases h2 : b = b'
    · subst h2; simp
    · simp [beq_false_of_ne h2, h2]
  · simp [beq_false_of_ne h1, h1]

theorem find_pr (k : Int × Int) : ∀ (M : Mp) (i : Nat), findKV (.ag [.i, .i]) (.agg (Pr.e k)) (mpE M) i = some ((fnd k M i).map fun p => (p.1, .int .i64 p.2))
  | [], i => rfl
  | (k', v) :: M, i => by
    simp only [mpE, List.map_cons, findKV, eq_pr, fnd]
    by_cases h : k = k'
    · simp [h]
    · simp only [h, decide_false, if_neg, not_false_eq_true]
      exact find_pr k M (i + 1)

theorem fnd_put (k : Int × Int) (v : Int) : ∀ (M : Mp) (j : Nat), match fnd k M j with
    | none => put k v M = M ++ [(k, v)]
    | some (i, w) => j ≤ i ∧ (w < v → (mpE M).modify (i - j) (fun _ => (.agg (Pr.e k), .int .i64 v)) = mpE (put k v M)) ∧ (¬ w < v → put k v M = M)
  | [], j => rfl
  | (k', w) :: M, j => by
    simp only [fnd, put]
    by_cases h : k = k'
    · subst h
      simp only [if_pos]
      refine ⟨Nat.le_refl _, fun h => ?_, fun h => by rw [if_neg h]⟩
      simp [mpE, h]
    · simp only [if_neg h]
      have ih := fnd_put k v M (j + 1)
      cases hf : fnd k M (j + 1) with
      | none => rw [hf] at ih; simp only at ih ⊢; rw [ih]; rfl
      | some q =>
        obtain ⟨i, w'⟩ := q
        rw [hf] at ih
        simp only at ih ⊢
        obtain ⟨h1, h2, h3⟩ := ih
        refine ⟨by omega, fun h => ?_, fun h => by rw [h3 h]⟩
        rw [show i - j = (i - (j + 1)) + 1 by omega]
        simp only [mpE, List.map_cons, List.modify_succ_cons]
        have := h2 h
        simp only [mpE] at this
        rw [this]

theorem keep_ok {H : Heap} {n b : Nat} (k : Int × Int) (v : Int) (M : Mp) (hb : get H b = some (.mp (mpE M))) :
    ACalls Go.Proofs.Try.prog 32 [.map b, .agg (Pr.e k), .int .i64 v] H n (postO n (.tup []) (ins b (.mp (mpE (put k v M))) H)) := by
  refine own_body ok32 rfl ?_
  simp only [parV]
  refine LWP_keys fun hk => ?_
  simp only at hk
  have hbn : b < n := hk _ _ hb
  have hbc : ¬ n = b := by omega
  have hf := find_pr k M 0
  simp only [Pr.e] at hf
  refine LWP_seq ?_
  apply LWP_run
  · simp -implicitDefEqProofs [stepsS, stepS, gd, opEff, LArg.ev, app_val, app_new, app_upd, app_kill, putV, ins, get, binV, binI, grd, bnd, ldCells, AV.cells, AV.scalar, AV.known, setAt, fillL, chunks, elems, mxI, mnI, del, Nat.add_assoc, nlt_self, nne_self, nne_self', List.take_of_length_le, Pr.e]; rfl
  have hp := fnd_put k v M 0
  refine LWP_seq ?_
  have fin : ∀ c x, get H c = some x → get (ins n (.rows 2 [Pr.e k]) H) c = some x := fun c x h => by
    rw [get_ins, if_neg (fun e => by have := hk c x h; omega)]; exact h
  cases hq : fnd k M 0 with
  | none =>
    rw [hq] at hf hp
    apply LWP_run
    · simp -implicitDefEqProofs [stepsS, stepS, gd, opEff, LArg.ev, app_val, app_new, app_upd, app_kill, putV, ins, get, binV, binI, grd, bnd, ldCells, AV.cells, AV.scalar, AV.known, setAt, fillL, chunks, elems, mxI, mnI, del, Nat.add_assoc, nlt_self, nne_self, nne_self', List.take_of_length_le, get_ins, hbc, hb, hf, keyOK, lkV]; rfl
    refine LWP_seq ?_
    apply LWP_run
    · simp -implicitDefEqProofs [stepsS, stepS, gd, opEff, LArg.ev, app_val, app_new, app_upd, app_kill, putV, ins, get, binV, binI, grd, bnd, ldCells, AV.cells, AV.scalar, AV.known, setAt, fillL, chunks, elems, mxI, mnI, del, Nat.add_assoc, nlt_self, nne_self, nne_self', List.take_of_length_le]; rfl
    refine LWP_cond (t := true) (by simp [LArg.ev, get]) (fun _ => ?_) (fun h => by cases h)
    apply LWP_run
    · simp -implicitDefEqProofs [stepsS, stepS, gd, opEff, LArg.ev, app_val, app_new, app_upd, app_kill, putV, ins, get, binV, binI, grd, bnd, ldCells, AV.cells, AV.scalar, AV.known, setAt, fillL, chunks, elems, mxI, mnI, del, Nat.add_assoc, nlt_self, nne_self, nne_self', List.take_of_length_le, get_ins, hbc, hb, hf, keyOK, updE]; rfl
    show retO [] n (.tup []) _ Exit.normal _
    refine ⟨by simp only; omega, ⟨_, rfl, wkV.refl _⟩, fun c x h => ?_⟩
    simp only at hp
    rw [hp] at h
    simp only [get_ins, mpE, List.map_append, List.map_cons, List.map_nil, Pr.e] at h ⊢
    by_cases q1 : b = c
    · simp only [if_pos q1] at h ⊢; exact h
    · simp only [if_neg q1] at h ⊢
      rw [if_neg (fun e => by have := hk c x h; omega)]; exact h
  | some q =>
    obtain ⟨i, w⟩ := q
    rw [hq] at hf hp
    simp only at hp
    obtain ⟨_, p2, p3⟩ := hp
    apply LWP_run
    · simp -implicitDefEqProofs [stepsS, stepS, gd, opEff, LArg.ev, app_val, app_new, app_upd, app_kill, putV, ins, get, binV, binI, grd, bnd, ldCells, AV.cells, AV.scalar, AV.known, setAt, fillL, chunks, elems, mxI, mnI, del, Nat.add_assoc, nlt_self, nne_self, nne_self', List.take_of_length_le, get_ins, hbc, hb, hf, keyOK, lkV]; rfl
    refine LWP_seq ?_
    apply LWP_run
    · simp -implicitDefEqProofs [stepsS, stepS, gd, opEff, LArg.ev, app_val, app_new, app_upd, app_kill, putV, ins, get, binV, binI, grd, bnd, ldCells, AV.cells, AV.scalar, AV.known, setAt, fillL, chunks, elems, mxI, mnI, del, Nat.add_assoc, nlt_self, nne_self, nne_self', List.take_of_length_le]; rfl
    refine LWP_cond (t := decide (w < v)) (by simp [LArg.ev, get]) (fun h => ?_) (fun h => LWP_skip ?_)
    · have h' : w < v := by simpa using h
      apply LWP_run
      · simp -implicitDefEqProofs [stepsS, stepS, gd, opEff, LArg.ev, app_val, app_new, app_upd, app_kill, putV, ins, get, binV, binI, grd, bnd, ldCells, AV.cells, AV.scalar, AV.known, setAt, fillL, chunks, elems, mxI, mnI, del, Nat.add_assoc, nlt_self, nne_self, nne_self', List.take_of_length_le, get_ins, hbc, hb, hf, keyOK, updE]; rfl
      show retO [] n (.tup []) _ Exit.normal _
      refine ⟨by simp only; omega, ⟨_, rfl, wkV.refl _⟩, fun c x h => ?_⟩
      rw [← p2 h'] at h
      simp only [get_ins, Pr.e, Nat.sub_zero] at h ⊢
      by_cases q1 : b = c
      · simp only [if_pos q1] at h ⊢; exact h
      · simp only [if_neg q1] at h ⊢
        rw [if_neg (fun e => by have := hk c x h; omega)]; exact h
    · have h' : ¬ w < v := by simpa using h
      show retO [] n (.tup []) _ Exit.normal _
      refine ⟨by simp only; omega, ⟨_, rfl, wkV.refl _⟩, fun c x h => ?_⟩
      rw [p3 h'] at h
      have := fin c x (get_ins_same hb h)
      simpa [Pr.e] using this
end Go.AM.Rod
