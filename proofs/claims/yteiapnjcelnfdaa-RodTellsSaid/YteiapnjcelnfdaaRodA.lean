/- A part of a proof about the given program: what its name says. No premise beyond the statements'. -/
import Derived.Test.YteiapnjcelnfdaaRodCode
import Derived.Test.YteiapnjcelnfdaaFC
set_option linter.unusedSimpArgs false
set_option linter.unusedVariables false
namespace Go.AM.Rod
open Go.AM

structure Ext where
  on : Bool
  l : Int
  r : Int
def Ext.e (x : Ext) : List AV := [.bool x.on, .int .i64 x.l, .int .i64 x.r]
structure Rd where
  f : Int
  t : Int
  d : Int
def Rd.e (x : Rd) : List AV := [.int .i64 x.f, .int .i64 x.t, .int .i64 x.d]
def encR (rs : List (List Ext)) : AV := .tsl 1 (rs.map fun r => [.tsl 3 (r.map Ext.e)])

theorem pure_ext : ∀ l : List Ext, pureR (l.map Ext.e) = true
  | [] => rfl
  | x :: l => by simp [pureR, pureL, Ext.e, AV.pure, pure_ext l]
theorem pure_rd : ∀ l : List Rd, pureR (l.map Rd.e) = true
  | [] => rfl
  | x :: l => by simp [pureR, pureL, Rd.e, AV.pure, pure_rd l]
theorem pure_rows : ∀ l : List (List Ext), pureR (l.map fun r => [.tsl 3 (r.map Ext.e)]) = true
  | [] => rfl
  | x :: l => by simp [pureR, pureL, AV.pure, pure_ext, pure_rows l]

theorem take_all {α : Type} {p : α → Bool} {l : List α} {i : Nat} (h : i < l.length) (ha : (l.take i).all p = true) (hp : p l[i] = true) : (l.take (i + 1)).all p = true := by
  rw [List.take_succ_eq_append_getElem h, List.all_append, ha]
  simp [hp]
theorem all_ff {α : Type} {p : α → Bool} {l : List α} {i : Nat} (h : i < l.length) (hp : p l[i] = false) : l.all p = false := by
  simp only [List.all_eq_false]
  exact ⟨l[i], by simp, by simp [hp]⟩
theorem take_all_end {α : Type} {p : α → Bool} {l : List α} {i : Nat} (h : ¬ i < l.length) (ha : (l.take i).all p = true) : l.all p = true := by
  rw [List.take_of_length_le (by omega)] at ha; exact ha

def wi (x a b : Int) : Bool := decide (a ≤ x) && decide (x ≤ b)

theorem within_ok (x a b : Int) : ACalls Go.Proofs.Try.prog 23 [.int .i64 x, .int .i64 a, .int .i64 b] [] 0 (fun r _ _ => r = .bool (wi x a b)) := by
  refine pure_body ok23 rfl ?_
  simp only [parV]
  refine LWP_seq ?_
  apply LWP_run
  · simp -implicitDefEqProofs [stepsS, stepS, gd, opEff, LArg.ev, app_val, app_new, app_upd, app_kill, putV, ins, get, binV, binI, grd, bnd, ldCells, AV.cells, AV.scalar, AV.known, setAt, fillL, chunks, elems, mxI, mnI, del, Nat.add_assoc, nlt_self, nne_self, nne_self', List.take_of_length_le]; rfl
  refine LWP_seq ?_
  by_cases hc : a ≤ x
  · apply LWP_run
    · simp -implicitDefEqProofs [stepsS, stepS, gd, opEff, LArg.ev, app_val, app_new, app_upd, app_kill, putV, ins, get, binV, binI, grd, bnd, ldCells, AV.cells, AV.scalar, AV.known, setAt, fillL, chunks, elems, mxI, mnI, del, Nat.add_assoc, nlt_self, nne_self, nne_self', List.take_of_length_le, hc]; rfl
    refine LWP_ret ?_
    show ∃ vs, resV _ _ = some vs ∧ wkV (retV vs) _
    refine ⟨_, rfl, ?_⟩
    simp [retV, wkV.refl, wi, hc]
  · apply LWP_run
    · simp -implicitDefEqProofs [stepsS, stepS, gd, opEff, LArg.ev, app_val, app_new, app_upd, app_kill, putV, ins, get, binV, binI, grd, bnd, ldCells, AV.cells, AV.scalar, AV.known, setAt, fillL, chunks, elems, mxI, mnI, del, Nat.add_assoc, nlt_self, nne_self, nne_self', List.take_of_length_le, hc]; rfl
    refine LWP_ret ?_
    show ∃ vs, resV _ _ = some vs ∧ wkV (retV vs) _
    refine ⟨_, rfl, ?_⟩
    simp [retV, wkV.refl, wi, hc]

def fewL (rs : List (List Ext)) : Bool := decide (rs.length ≤ 20) && rs.all fun r => decide (r.length ≤ 60)

theorem few_ok (rs : List (List Ext)) : ACalls Go.Proofs.Try.prog 8 [encR rs] [] 0 (fun r _ _ => r = .bool (fewL rs)) := by
  refine pure_body ok8 rfl ?_
  simp only [parV]
  refine LWP_seq ?_
  apply LWP_run
  · simp -implicitDefEqProofs [stepsS, stepS, gd, opEff, LArg.ev, app_val, app_new, app_upd, app_kill, putV, ins, get, binV, binI, grd, bnd, ldCells, AV.cells, AV.scalar, AV.known, setAt, fillL, chunks, elems, mxI, mnI, del, Nat.add_assoc, nlt_self, nne_self, nne_self', List.take_of_length_le]; rfl
  refine LWP_seq (LWP_seq ?_)
  apply LWP_run
  · simp -implicitDefEqProofs [stepsS, stepS, gd, opEff, LArg.ev, app_val, app_new, app_upd, app_kill, putV, ins, get, binV, binI, grd, bnd, ldCells, AV.cells, AV.scalar, AV.known, setAt, fillL, chunks, elems, mxI, mnI, del, Nat.add_assoc, nlt_self, nne_self, nne_self', List.take_of_length_le]; rfl
  refine LWP_block (LWP_inv (fun i : Nat => ⟨[(0, encR rs), (3, .int .i64 i)], [], 0⟩) (fun i => rs.length - i) (fun i => i ≤ rs.length ∧ (rs.take i).all (fun r => decide (r.length ≤ 60)) = true) 0 ?_ ⟨Nat.zero_le _, by simp⟩ ?_)
  · refine .mk2 ?_ ?_ ?_
    · simp [leV, get, wkV.refl]
    · simp [leH, get] <;> rfl
    · simp
  rintro i ⟨h1, h2⟩
  refine LWP_seq (LWP_seq ?_)
  by_cases hc : i < rs.length
  · by_cases hd : rs.length ≤ 20
    · have hd' : (rs.length : Int) ≤ 20 := by omega
      apply LWP_run
      · simp -implicitDefEqProofs [stepsS, stepS, gd, opEff, LArg.ev, app_val, app_new, app_upd, app_kill, putV, ins, get, binV, binI, grd, bnd, ldCells, AV.cells, AV.scalar, AV.known, setAt, fillL, chunks, elems, mxI, mnI, del, Nat.add_assoc, nlt_self, nne_self, nne_self', List.take_of_length_le, encR, hc, hd']; rfl
      refine LWP_cond (t := true) (by simp [LArg.ev, get]) (fun _ => LWP_skip ?_) (fun h => by cases h)
      refine LWP_seq (LWP_block (LWP_seq ?_))
      apply LWP_run
      · simp -implicitDefEqProofs [stepsS, stepS, gd, opEff, LArg.ev, app_val, app_new, app_upd, app_kill, putV, ins, get, binV, binI, grd, bnd, ldCells, AV.cells, AV.scalar, AV.known, setAt, fillL, chunks, elems, mxI, mnI, del, Nat.add_assoc, nlt_self, nne_self, nne_self', List.take_of_length_le, encR, hc, hd]; rfl
      refine LWP_cond (t := decide (60 < rs[i].length)) (by simp [LArg.ev, get]; omega) (fun h => ?_) (fun h => LWP_skip ?_)
      · refine LWP_seq ?_
        apply LWP_run
        · simp -implicitDefEqProofs [stepsS, stepS, gd, opEff, LArg.ev, app_val, app_new, app_upd, app_kill, putV, ins, get, binV, binI, grd, bnd, ldCells, AV.cells, AV.scalar, AV.known, setAt, fillL, chunks, elems, mxI, mnI, del, Nat.add_assoc, nlt_self, nne_self, nne_self', List.take_of_length_le]; rfl
        have hb : fewL rs = false := by
          simp only [fewL, Bool.and_eq_false_iff]
          exact .inr (all_ff hc (by simpa using h))
        rw [hb]
        refine LWP_ret ?_
        show ∃ vs, resV _ _ = some vs ∧ wkV (retV vs) _
        refine ⟨_, rfl, ?_⟩
        simp [retV, wkV.refl]
      · apply LWP_run
        · simp -implicitDefEqProofs [stepsS, stepS, gd, opEff, LArg.ev, app_val, app_new, app_upd, app_kill, putV, ins, get, binV, binI, grd, bnd, ldCells, AV.cells, AV.scalar, AV.known, setAt, fillL, chunks, elems, mxI, mnI, del, Nat.add_assoc, nlt_self, nne_self, nne_self', List.take_of_length_le]; rfl
        simp only [decide_eq_false_iff_not] at h
        refine ⟨i + 1, ⟨hc, take_all hc h2 (by simpa using h)⟩, by omega, ?_⟩
        refine .mk2 ?_ ?_ ?_
        · simp [leV, get, wkV.refl, encR, wrap_succ (n := i) (by omega)]
        · simp [leH, get, encR, wrap_succ (n := i) (by omega)] <;> rfl
        · simp
    · have hd' : ¬ (rs.length : Int) ≤ 20 := by omega
      apply LWP_run
      · simp -implicitDefEqProofs [stepsS, stepS, gd, opEff, LArg.ev, app_val, app_new, app_upd, app_kill, putV, ins, get, binV, binI, grd, bnd, ldCells, AV.cells, AV.scalar, AV.known, setAt, fillL, chunks, elems, mxI, mnI, del, Nat.add_assoc, nlt_self, nne_self, nne_self', List.take_of_length_le, encR, hc, hd']; rfl
      refine LWP_cond (t := false) (by simp [LArg.ev, get]) (fun h => by cases h) (fun _ => LWP_exit ?_)
      refine LWP_seq ?_
      apply LWP_run
      · simp -implicitDefEqProofs [stepsS, stepS, gd, opEff, LArg.ev, app_val, app_new, app_upd, app_kill, putV, ins, get, binV, binI, grd, bnd, ldCells, AV.cells, AV.scalar, AV.known, setAt, fillL, chunks, elems, mxI, mnI, del, Nat.add_assoc, nlt_self, nne_self, nne_self', List.take_of_length_le, encR]; rfl
      have hb : fewL rs = false := by simp [fewL, hd]
      rw [hb]
      refine LWP_ret ?_
      show ∃ vs, resV _ _ = some vs ∧ wkV (retV vs) _
      refine ⟨_, rfl, ?_⟩
      simp [retV, wkV.refl, hd']
  · apply LWP_run
    · simp -implicitDefEqProofs [stepsS, stepS, gd, opEff, LArg.ev, app_val, app_new, app_upd, app_kill, putV, ins, get, binV, binI, grd, bnd, ldCells, AV.cells, AV.scalar, AV.known, setAt, fillL, chunks, elems, mxI, mnI, del, Nat.add_assoc, nlt_self, nne_self, nne_self', List.take_of_length_le, encR, hc]; rfl
    refine LWP_cond (t := false) (by simp [LArg.ev, get]) (fun h => by cases h) (fun _ => LWP_exit ?_)
    refine LWP_seq ?_
    apply LWP_run
    · simp -implicitDefEqProofs [stepsS, stepS, gd, opEff, LArg.ev, app_val, app_new, app_upd, app_kill, putV, ins, get, binV, binI, grd, bnd, ldCells, AV.cells, AV.scalar, AV.known, setAt, fillL, chunks, elems, mxI, mnI, del, Nat.add_assoc, nlt_self, nne_self, nne_self', List.take_of_length_le, encR]; rfl
    have hb : fewL rs = decide ((rs.length : Int) ≤ 20) := by
      rw [fewL, take_all_end hc h2, Bool.and_true]
      congr 1
      exact propext (by omega)
    rw [hb]
    refine LWP_ret ?_
    show ∃ vs, resV _ _ = some vs ∧ wkV (retV vs) _
    refine ⟨_, rfl, ?_⟩
    simp [retV, wkV.refl, encR]

def okE (x : Ext) : Bool := wi x.l (-1073741824) 1073741824 && wi x.r (-1073741824) 1073741824
def fitsR (n : Nat) (r : List Ext) : Bool := decide (r.length ≤ 4096) && (decide (r.length = n) && r.all okE)
def fitsL (rs : List (List Ext)) : Bool := decide (rs.length ≤ 100) && rs.all (fitsR (rs.getD 0 []).length)

theorem fits_ok (rs : List (List Ext)) (hl : rs.length < 2 ^ 60) (hl2 : ∀ r ∈ rs, r.length < 2 ^ 60) : ACalls Go.Proofs.Try.prog 22 [encR rs] [] 0 (fun r _ _ => r = .bool (fitsL rs)) := by
  refine pure_body ok22 rfl ?_
  simp only [parV]
  refine LWP_seq ?_
  apply LWP_run
  · simp -implicitDefEqProofs [stepsS, stepS, gd, opEff, LArg.ev, app_val, app_new, app_upd, app_kill, putV, ins, get, binV, binI, grd, bnd, ldCells, AV.cells, AV.scalar, AV.known, setAt, fillL, chunks, elems, mxI, mnI, del, Nat.add_assoc, nlt_self, nne_self, nne_self', List.take_of_length_le]; rfl
  refine LWP_seq (LWP_seq ?_)
  apply LWP_run
  · simp -implicitDefEqProofs [stepsS, stepS, gd, opEff, LArg.ev, app_val, app_new, app_upd, app_kill, putV, ins, get, binV, binI, grd, bnd, ldCells, AV.cells, AV.scalar, AV.known, setAt, fillL, chunks, elems, mxI, mnI, del, Nat.add_assoc, nlt_self, nne_self, nne_self', List.take_of_length_le, encR]; rfl
  refine LWP_cond (t := decide (100 < rs.length)) (by simp [LArg.ev, get]; omega) (fun h => ?_) (fun h => LWP_skip ?_)
  · refine LWP_seq ?_
    apply LWP_run
    · simp -implicitDefEqProofs [stepsS, stepS, gd, opEff, LArg.ev, app_val, app_new, app_upd, app_kill, putV, ins, get, binV, binI, grd, bnd, ldCells, AV.cells, AV.scalar, AV.known, setAt, fillL, chunks, elems, mxI, mnI, del, Nat.add_assoc, nlt_self, nne_self, nne_self', List.take_of_length_le]; rfl
    have hb : fitsL rs = false := by simp only [fitsL, Bool.and_eq_false_iff]; exact .inl (by simpa using h)
    rw [hb]
    refine LWP_ret ?_
    show ∃ vs, resV _ _ = some vs ∧ wkV (retV vs) _
    refine ⟨_, rfl, ?_⟩
    simp [retV, wkV.refl]
  have hlen : rs.length ≤ 100 := by simpa using h
  refine LWP_seq (LWP_seq ?_)
  apply LWP_run
  · simp -implicitDefEqProofs [stepsS, stepS, gd, opEff, LArg.ev, app_val, app_new, app_upd, app_kill, putV, ins, get, binV, binI, grd, bnd, ldCells, AV.cells, AV.scalar, AV.known, setAt, fillL, chunks, elems, mxI, mnI, del, Nat.add_assoc, nlt_self, nne_self, nne_self', List.take_of_length_le, encR]; rfl
  refine LWP_block (LWP_inv (fun q : Nat × Nat => ⟨[(0, encR rs), (10, encR rs), (11, .int .i64 rs.length), (12, .int .i64 q.1)], [], q.2⟩) (fun q => rs.length - q.1) (fun q => q.1 ≤ rs.length ∧ (rs.take q.1).all (fitsR (rs.getD 0 []).length) = true) (0, 0) ?_ ⟨Nat.zero_le _, by simp⟩ ?_)
  · refine .mk2 ?_ ?_ ?_
    · simp [leV, get, wkV.refl, encR]
    · simp [leH, get, encR] <;> rfl
    · simp
  rintro ⟨i, nx⟩ ⟨h1, h2⟩
  simp only at h1 h2 ⊢
  refine LWP_seq ?_
  apply LWP_run
  · simp -implicitDefEqProofs [stepsS, stepS, gd, opEff, LArg.ev, app_val, app_new, app_upd, app_kill, putV, ins, get, binV, binI, grd, bnd, ldCells, AV.cells, AV.scalar, AV.known, setAt, fillL, chunks, elems, mxI, mnI, del, Nat.add_assoc, nlt_self, nne_self, nne_self', List.take_of_length_le]; rfl
  refine LWP_seq (LWP_cond (t := decide (i < rs.length)) (by simp [LArg.ev, get]) (fun hc => LWP_skip ?_) (fun hc => LWP_exit ?_))
  · simp only [decide_eq_true_eq] at hc
    have hr : rs[i].length < 2 ^ 60 := hl2 _ (by simp)
    refine LWP_seq (LWP_block (LWP_seq ?_))
    apply LWP_run
    · simp -implicitDefEqProofs [stepsS, stepS, gd, opEff, LArg.ev, app_val, app_new, app_upd, app_kill, putV, ins, get, binV, binI, grd, bnd, ldCells, AV.cells, AV.scalar, AV.known, setAt, fillL, chunks, elems, mxI, mnI, del, Nat.add_assoc, nlt_self, nne_self, nne_self', List.take_of_length_le, encR, hc]; rfl
    refine LWP_seq (LWP_seq ?_)
    by_cases hd : rs[i].length ≤ 4096
    · have hd' : ¬ 4096 < (rs[i].length : Int) := by omega
      have h0 : 0 < rs.length := by omega
      apply LWP_run
      · simp -implicitDefEqProofs [stepsS, stepS, gd, opEff, LArg.ev, app_val, app_new, app_upd, app_kill, putV, ins, get, binV, binI, grd, bnd, ldCells, AV.cells, AV.scalar, AV.known, setAt, fillL, chunks, elems, mxI, mnI, del, Nat.add_assoc, nlt_self, nne_self, nne_self', List.take_of_length_le, encR, hc, hd', h0]; rfl
      refine LWP_cond (t := (rs[i].length : Int) != (rs[0].length : Int)) (by simp [LArg.ev, get]) (fun he => ?_) (fun he => LWP_skip ?_)
      · refine LWP_seq ?_
        apply LWP_run
        · simp -implicitDefEqProofs [stepsS, stepS, gd, opEff, LArg.ev, app_val, app_new, app_upd, app_kill, putV, ins, get, binV, binI, grd, bnd, ldCells, AV.cells, AV.scalar, AV.known, setAt, fillL, chunks, elems, mxI, mnI, del, Nat.add_assoc, nlt_self, nne_self, nne_self', List.take_of_length_le]; rfl
        have hb : fitsL rs = false := by
          simp only [fitsL, Bool.and_eq_false_iff]
          exact .inr (all_ff hc (by simp only [fitsR, Bool.and_eq_false_iff]; exact .inr (.inl (by simp at he; simp [h0]; omega))))
        rw [hb]
        refine LWP_ret ?_
        show ∃ vs, resV _ _ = some vs ∧ wkV (retV vs) _
        refine ⟨_, rfl, ?_⟩
        simp [retV, wkV.refl]
      have he' : rs[i].length = rs[0].length := by simp at he; omega
      refine LWP_seq ?_
      apply LWP_run
      · simp -implicitDefEqProofs [stepsS, stepS, gd, opEff, LArg.ev, app_val, app_new, app_upd, app_kill, putV, ins, get, binV, binI, grd, bnd, ldCells, AV.cells, AV.scalar, AV.known, setAt, fillL, chunks, elems, mxI, mnI, del, Nat.add_assoc, nlt_self, nne_self, nne_self', List.take_of_length_le]; rfl
      refine LWP_block (LWP_inv (fun q : Nat × Nat => ⟨[(0, encR rs), (10, encR rs), (11, .int .i64 rs.length), (12, .int .i64 i), (28, .tsl 3 (rs[i].map Ext.e)), (29, .int .i64 rs[i].length), (30, .int .i64 q.1)], [], q.2⟩) (fun q => rs[i].length - q.1) (fun q => q.1 ≤ rs[i].length ∧ (rs[i].take q.1).all okE = true) (0, nx) ?_ ⟨Nat.zero_le _, by simp⟩ ?_)
      · refine .mk2 ?_ ?_ ?_
        · simp [leV, get, wkV.refl, encR]
        · simp [leH, get, encR] <;> rfl
        · simp
      rintro ⟨j, ny⟩ ⟨g1, g2⟩
      simp only at g1 g2 ⊢
      refine LWP_seq ?_
      apply LWP_run
      · simp -implicitDefEqProofs [stepsS, stepS, gd, opEff, LArg.ev, app_val, app_new, app_upd, app_kill, putV, ins, get, binV, binI, grd, bnd, ldCells, AV.cells, AV.scalar, AV.known, setAt, fillL, chunks, elems, mxI, mnI, del, Nat.add_assoc, nlt_self, nne_self, nne_self', List.take_of_length_le]; rfl
      refine LWP_seq (LWP_cond (t := decide (j < rs[i].length)) (by simp [LArg.ev, get]) (fun gc => LWP_skip ?_) (fun gc => LWP_exit ?_))
      · simp only [decide_eq_true_eq] at gc
        refine LWP_seq (LWP_block (LWP_seq ?_))
        apply LWP_run
        · simp -implicitDefEqProofs [stepsS, stepS, gd, opEff, LArg.ev, app_val, app_new, app_upd, app_kill, putV, ins, get, binV, binI, grd, bnd, ldCells, AV.cells, AV.scalar, AV.known, setAt, fillL, chunks, elems, mxI, mnI, del, Nat.add_assoc, nlt_self, nne_self, nne_self', List.take_of_length_le, gc, Ext.e]; rfl
        refine LWP_seq (LWP_reg fun K hK => ?_)
        apply rgnS_pre 2
        · simp -implicitDefEqProofs [stepsS, stepS, gd, opEff, LArg.ev, app_val, app_new, app_upd, app_kill, putV, ins, get, binV, binI, grd, bnd, ldCells, AV.cells, AV.scalar, AV.known, setAt, fillL, chunks, elems, mxI, mnI, del, Nat.add_assoc, nlt_self, nne_self, nne_self', List.take_of_length_le]; rfl
        refine rgnS_call (within_ok _ _ _) rfl rfl (by simp [pureL, AV.pure]) (by simp [AV.pure]) (by simp [gd, get, LArg.ev]) ?_
        by_cases hw : wi rs[i][j].l (-1073741824) 1073741824 = true
        · apply rgnS_pre 4
          · simp -implicitDefEqProofs [stepsS, stepS, gd, opEff, LArg.ev, app_val, app_new, app_upd, app_kill, putV, ins, get, binV, binI, grd, bnd, ldCells, AV.cells, AV.scalar, AV.known, setAt, fillL, chunks, elems, mxI, mnI, del, Nat.add_assoc, nlt_self, nne_self, nne_self', List.take_of_length_le, hw]; rfl
          refine rgnS_call (within_ok _ _ _) rfl rfl (by simp [pureL, AV.pure]) (by simp [AV.pure]) (by simp [gd, get, LArg.ev]) ?_
          apply rgnS_pre 99
          · simp -implicitDefEqProofs [stepsS, stepS, gd, opEff, LArg.ev, app_val, app_new, app_upd, app_kill, putV, ins, get, binV, binI, grd, bnd, ldCells, AV.cells, AV.scalar, AV.known, setAt, fillL, chunks, elems, mxI, mnI, del, Nat.add_assoc, nlt_self, nne_self, nne_self', List.take_of_length_le]; rfl
          refine hK _ ?_; clear hK
          refine LWP_cond (t := !wi rs[i][j].r (-1073741824) 1073741824) (by simp [LArg.ev, get]) (fun hx => ?_) (fun hx => LWP_skip ?_)
          · refine LWP_seq ?_
            apply LWP_run
            · simp -implicitDefEqProofs [stepsS, stepS, gd, opEff, LArg.ev, app_val, app_new, app_upd, app_kill, putV, ins, get, binV, binI, grd, bnd, ldCells, AV.cells, AV.scalar, AV.known, setAt, fillL, chunks, elems, mxI, mnI, del, Nat.add_assoc, nlt_self, nne_self, nne_self', List.take_of_length_le]; rfl
            have hb : fitsL rs = false := by
              simp only [fitsL, Bool.and_eq_false_iff]
              exact .inr (all_ff hc (by simp only [fitsR, Bool.and_eq_false_iff]; exact .inr (.inr (all_ff gc (by simp at hx; simp [okE, hx])))))
            rw [hb]
            refine LWP_ret ?_
            show ∃ vs, resV _ _ = some vs ∧ wkV (retV vs) _
            refine ⟨_, rfl, ?_⟩
            simp [retV, wkV.refl]
          · apply LWP_run
            · simp -implicitDefEqProofs [stepsS, stepS, gd, opEff, LArg.ev, app_val, app_new, app_upd, app_kill, putV, ins, get, binV, binI, grd, bnd, ldCells, AV.cells, AV.scalar, AV.known, setAt, fillL, chunks, elems, mxI, mnI, del, Nat.add_assoc, nlt_self, nne_self, nne_self', List.take_of_length_le]; rfl
            refine ⟨(j + 1, ny + 1), ⟨gc, take_all gc g2 (by simp at hx; simp [okE, hx, hw])⟩, by simp only; omega, ?_⟩
            refine .mk2 ?_ ?_ ?_
            · simp [leV, get, wkV.refl, encR, wrap_succ (n := j) (by omega)]
            · simp [leH, get, encR, wrap_succ (n := j) (by omega)] <;> rfl
            · simp
        · have hw' : wi rs[i][j].l (-1073741824) 1073741824 = false := by simpa using hw
          apply rgnS_pre 99
          · simp -implicitDefEqProofs [stepsS, stepS, gd, opEff, LArg.ev, app_val, app_new, app_upd, app_kill, putV, ins, get, binV, binI, grd, bnd, ldCells, AV.cells, AV.scalar, AV.known, setAt, fillL, chunks, elems, mxI, mnI, del, Nat.add_assoc, nlt_self, nne_self, nne_self', List.take_of_length_le, hw']; rfl
          refine hK _ ?_; clear hK
          refine LWP_cond (t := true) (by simp [LArg.ev, get]) (fun _ => ?_) (fun hx => by cases hx)
          refine LWP_seq ?_
          apply LWP_run
          · simp -implicitDefEqProofs [stepsS, stepS, gd, opEff, LArg.ev, app_val, app_new, app_upd, app_kill, putV, ins, get, binV, binI, grd, bnd, ldCells, AV.cells, AV.scalar, AV.known, setAt, fillL, chunks, elems, mxI, mnI, del, Nat.add_assoc, nlt_self, nne_self, nne_self', List.take_of_length_le]; rfl
          have hb : fitsL rs = false := by
            simp only [fitsL, Bool.and_eq_false_iff]
            exact .inr (all_ff hc (by simp only [fitsR, Bool.and_eq_false_iff]; exact .inr (.inr (all_ff gc (by simp [okE, hw'])))))
          rw [hb]
          refine LWP_ret ?_
          show ∃ vs, resV _ _ = some vs ∧ wkV (retV vs) _
          refine ⟨_, rfl, ?_⟩
          simp [retV, wkV.refl]
      · have gc' : ¬ j < rs[i].length := by simpa using gc
        apply LWP_run
        · simp -implicitDefEqProofs [stepsS, stepS, gd, opEff, LArg.ev, app_val, app_new, app_upd, app_kill, putV, ins, get, binV, binI, grd, bnd, ldCells, AV.cells, AV.scalar, AV.known, setAt, fillL, chunks, elems, mxI, mnI, del, Nat.add_assoc, nlt_self, nne_self, nne_self', List.take_of_length_le]; rfl
        refine ⟨(i + 1, ny), ⟨hc, take_all hc h2 (by simp [fitsR, he', h0]; exact ⟨by omega, by simpa using take_all_end gc' g2⟩)⟩, by simp only; omega, ?_⟩
        refine .mk2 ?_ ?_ ?_
        · simp [leV, get, wkV.refl, encR, wrap_succ (n := i) (by omega)]
        · simp [leH, get, encR, wrap_succ (n := i) (by omega)] <;> rfl
        · simp
    · have hd' : 4096 < (rs[i].length : Int) := by omega
      apply LWP_run
      · simp -implicitDefEqProofs [stepsS, stepS, gd, opEff, LArg.ev, app_val, app_new, app_upd, app_kill, putV, ins, get, binV, binI, grd, bnd, ldCells, AV.cells, AV.scalar, AV.known, setAt, fillL, chunks, elems, mxI, mnI, del, Nat.add_assoc, nlt_self, nne_self, nne_self', List.take_of_length_le, encR, hc, hd']; rfl
      refine LWP_cond (t := true) (by simp [LArg.ev, get]) (fun _ => ?_) (fun hx => by cases hx)
      refine LWP_seq ?_
      apply LWP_run
      · simp -implicitDefEqProofs [stepsS, stepS, gd, opEff, LArg.ev, app_val, app_new, app_upd, app_kill, putV, ins, get, binV, binI, grd, bnd, ldCells, AV.cells, AV.scalar, AV.known, setAt, fillL, chunks, elems, mxI, mnI, del, Nat.add_assoc, nlt_self, nne_self, nne_self', List.take_of_length_le]; rfl
      have hb : fitsL rs = false := by
        simp only [fitsL, Bool.and_eq_false_iff]
        exact .inr (all_ff hc (by simp only [fitsR, Bool.and_eq_false_iff]; exact .inl (by simpa using hd)))
      rw [hb]
      refine LWP_ret ?_
      show ∃ vs, resV _ _ = some vs ∧ wkV (retV vs) _
      refine ⟨_, rfl, ?_⟩
      simp [retV, wkV.refl]
  · have hc' : ¬ i < rs.length := by simpa using hc
    refine LWP_seq ?_
    apply LWP_run
    · simp -implicitDefEqProofs [stepsS, stepS, gd, opEff, LArg.ev, app_val, app_new, app_upd, app_kill, putV, ins, get, binV, binI, grd, bnd, ldCells, AV.cells, AV.scalar, AV.known, setAt, fillL, chunks, elems, mxI, mnI, del, Nat.add_assoc, nlt_self, nne_self, nne_self', List.take_of_length_le]; rfl
    have hb : fitsL rs = true := by
      simp only [fitsL, Bool.and_eq_true, decide_eq_true_eq]
      exact ⟨hlen, take_all_end hc' h2⟩
    rw [hb]
    refine LWP_ret ?_
    show ∃ vs, resV _ _ = some vs ∧ wkV (retV vs) _
    refine ⟨_, rfl, ?_⟩
    simp [retV, wkV.refl]
end Go.AM.Rod
