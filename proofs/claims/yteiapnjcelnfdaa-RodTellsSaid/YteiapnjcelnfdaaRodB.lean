/- A part of a proof about the given program: what its name says. No premise beyond the statements'. -/
import Derived.Test.YteiapnjcelnfdaaRodA
import Derived.Test.YteiapnjcelnfdaaFC
set_option linter.unusedSimpArgs false
set_option linter.unusedVariables false
namespace Go.AM.Rod
open Go.AM

def dOf (a b pad : Int) : Int := IntKind.i64.wrap (IntKind.i64.wrap (a - b) + pad)
/-- Between one and far. -/
def cl (d : Int) : Int := if 1 < (if d < 1073741824 then d else 1073741824) then (if d < 1073741824 then d else 1073741824) else 1
/-- The rods of a row's first columns. -/
def rowSt (pad : Int) (r : List Ext) : Nat → Int × List Rd
  | 0 => (-1, [])
  | i + 1 => let s := rowSt pad r i
    let e := r.getD i ⟨false, 0, 0⟩
    if e.on then ((i : Int), if 0 ≤ s.1 then s.2 ++ [⟨s.1, i, cl (dOf (r.getD s.1.toNat ⟨false, 0, 0⟩).r e.l pad)⟩] else s.2) else s
def rowL (pad : Int) (r : List Ext) : List Rd := (rowSt pad r r.length).2

theorem rowSt_len (pad : Int) (r : List Ext) : ∀ i, (rowSt pad r i).2.length ≤ i ∧ -1 ≤ (rowSt pad r i).1 ∧ (rowSt pad r i).1 < i
  | 0 => by simp [rowSt]
  | i + 1 => by
    have := rowSt_len pad r i
    simp only [rowSt]
    split
    · refine ⟨?_, by simp only; omega, by simp only; omega⟩
      simp only
      split
      · simp; omega
      · omega
    · omega

theorem row_ok (r : List Ext) (pad : Int) (hl : r.length ≤ 2 ^ 30) : ACalls Go.Proofs.Try.prog 24 [.tsl 3 (r.map Ext.e), .int .i64 pad] [] 0 (fun x _ _ => x = .tsl 3 ((rowL pad r).map Rd.e)) := by
  refine pure_body ok24 rfl ?_
  simp only [parV]
  refine LWP_seq ?_
  apply LWP_run
  · simp -implicitDefEqProofs [stepsS, stepS, gd, opEff, LArg.ev, app_val, app_new, app_upd, app_kill, putV, ins, get, binV, binI, grd, bnd, ldCells, AV.cells, AV.scalar, AV.known, setAt, fillL, chunks, elems, mxI, mnI, del, Nat.add_assoc, nlt_self, nne_self, nne_self', List.take_of_length_le]; rfl
  refine LWP_seq ?_
  apply LWP_run
  · simp -implicitDefEqProofs [stepsS, stepS, gd, opEff, LArg.ev, app_val, app_new, app_upd, app_kill, putV, ins, get, binV, binI, grd, bnd, ldCells, AV.cells, AV.scalar, AV.known, setAt, fillL, chunks, elems, mxI, mnI, del, Nat.add_assoc, nlt_self, nne_self, nne_self', List.take_of_length_le]; rfl
  refine LWP_seq ?_
  apply LWP_run
  · simp -implicitDefEqProofs [stepsS, stepS, gd, opEff, LArg.ev, app_val, app_new, app_upd, app_kill, putV, ins, get, binV, binI, grd, bnd, ldCells, AV.cells, AV.scalar, AV.known, setAt, fillL, chunks, elems, mxI, mnI, del, Nat.add_assoc, nlt_self, nne_self, nne_self', List.take_of_length_le]; rfl
  refine LWP_seq (LWP_seq ?_)
  apply LWP_run
  · simp -implicitDefEqProofs [stepsS, stepS, gd, opEff, LArg.ev, app_val, app_new, app_upd, app_kill, putV, ins, get, binV, binI, grd, bnd, ldCells, AV.cells, AV.scalar, AV.known, setAt, fillL, chunks, elems, mxI, mnI, del, Nat.add_assoc, nlt_self, nne_self, nne_self', List.take_of_length_le]; rfl
  refine LWP_block (LWP_inv (fun q : Nat × Nat × Nat => ⟨[(0, .tsl 3 (r.map Ext.e)), (1, .int .i64 pad), (5, .sl 3 q.2.1 0 (rowSt pad r q.1).2.length), (6, .int .i64 (rowSt pad r q.1).1), (10, .tsl 3 (r.map Ext.e)), (11, .int .i64 r.length), (12, .int .i64 q.1)], [(q.2.1, .rows 3 ((rowSt pad r q.1).2.map Rd.e))], q.2.2⟩) (fun q => r.length - q.1) (fun q => q.1 ≤ r.length ∧ q.2.1 < q.2.2) (0, 0, 1) ?_ ⟨Nat.zero_le _, by simp⟩ ?_)
  · refine .mk2 ?_ ?_ ?_
    · simp [leV, get, wkV.refl, rowSt]
    · simp [leH, get, rowSt] <;> rfl
    · simp
  rintro ⟨i, b, nx⟩ ⟨h1, hb⟩
  simp only at h1 hb ⊢
  have hb1 : ¬ nx < b := by omega
  have hb2 : ¬ nx = b := by omega
  have hb3 : ¬ b = nx := by omega
  have hb4 : ¬ b = nx + 1 := by omega
  obtain ⟨k1, k2, k3⟩ := rowSt_len pad r i
  refine LWP_seq ?_
  apply LWP_run
  · simp -implicitDefEqProofs [stepsS, stepS, gd, opEff, LArg.ev, app_val, app_new, app_upd, app_kill, putV, ins, get, binV, binI, grd, bnd, ldCells, AV.cells, AV.scalar, AV.known, setAt, fillL, chunks, elems, mxI, mnI, del, Nat.add_assoc, nlt_self, nne_self, nne_self', List.take_of_length_le]; rfl
  refine LWP_seq (LWP_cond (t := decide (i < r.length)) (by simp [LArg.ev, get]) (fun hc => LWP_skip ?_) (fun hc => LWP_exit ?_))
  · simp only [decide_eq_true_eq] at hc
    refine LWP_seq (LWP_block (LWP_seq ?_))
    apply LWP_run
    · simp -implicitDefEqProofs [stepsS, stepS, gd, opEff, LArg.ev, app_val, app_new, app_upd, app_kill, putV, ins, get, binV, binI, grd, bnd, ldCells, AV.cells, AV.scalar, AV.known, setAt, fillL, chunks, elems, mxI, mnI, del, Nat.add_assoc, nlt_self, nne_self, nne_self', List.take_of_length_le, hc, Ext.e, hb1, hb2, hb3]; rfl
    refine LWP_seq (LWP_seq ?_)
    apply LWP_run
    · simp -implicitDefEqProofs [stepsS, stepS, gd, opEff, LArg.ev, app_val, app_new, app_upd, app_kill, putV, ins, get, binV, binI, grd, bnd, ldCells, AV.cells, AV.scalar, AV.known, setAt, fillL, chunks, elems, mxI, mnI, del, Nat.add_assoc, nlt_self, nne_self, nne_self', List.take_of_length_le, hb1, hb2, hb3]; rfl
    refine LWP_cond (t := !r[i].on) (by simp [LArg.ev, get]) (fun he => LWP_exit ?_) (fun he => LWP_skip ?_)
    · apply LWP_run
      · simp -implicitDefEqProofs [stepsS, stepS, gd, opEff, LArg.ev, app_val, app_new, app_upd, app_kill, putV, ins, get, binV, binI, grd, bnd, ldCells, AV.cells, AV.scalar, AV.known, setAt, fillL, chunks, elems, mxI, mnI, del, Nat.add_assoc, nlt_self, nne_self, nne_self', List.take_of_length_le]; rfl
      have he' : r[i].on = false := by simpa using he
      have hs : rowSt pad r (i + 1) = rowSt pad r i := by simp [rowSt, hc, he']
      refine ⟨(i + 1, b, nx + 1), ⟨hc, by simp only; omega⟩, by simp only; omega, ?_⟩
      refine .mk2 ?_ ?_ ?_
      · simp [leV, get, wkV.refl, wrap_succ (n := i) (by omega), hs, hb3]
      · simp [leH, get, wrap_succ (n := i) (by omega), hs, hb3] <;> rfl
      · simp
    · have he' : r[i].on = true := by simpa using he
      refine LWP_seq (LWP_seq ?_)
      apply LWP_run
      · simp -implicitDefEqProofs [stepsS, stepS, gd, opEff, LArg.ev, app_val, app_new, app_upd, app_kill, putV, ins, get, binV, binI, grd, bnd, ldCells, AV.cells, AV.scalar, AV.known, setAt, fillL, chunks, elems, mxI, mnI, del, Nat.add_assoc, nlt_self, nne_self, nne_self', List.take_of_length_le]; rfl
      refine LWP_cond (t := decide (0 ≤ (rowSt pad r i).1)) (by simp [LArg.ev, get]) (fun hp => ?_) (fun hp => LWP_skip ?_)
      · have hp' : 0 ≤ (rowSt pad r i).1 := by simpa using hp
        have hp2 : ((rowSt pad r i).1.toNat) < r.length := by omega
        have hp3 : (rowSt pad r i).1 < (r.length : Int) := by omega
        refine LWP_seq ?_
        apply LWP_runD
        · simp -implicitDefEqProofs [stepsD, stepD, ST.as, dEffF, LOp.cls, softOK, LOp.args, AV.ids, gd, opEff, LArg.ev, appD_val, appD_new, appD_upd, appD_kill, AS.flush, delAll, putV, ins, get, binV, binI, grd, bnd, ldCells, AV.cells, AV.scalar, AV.known, setAt, fillL, chunks, elems, mxI, mnI, del, Nat.add_assoc, nlt_self, nne_self, nne_self', List.take_of_length_le, hp', hp3, hp2, Ext.e, hb1, hb2, hb3]; rfl
        · simp [AS.fin, delAll, del, Nat.add_assoc]; rfl
        have hq : ((rowSt pad r i).2.length + 1) * 24 ≤ 17592186044416 := by omega
        apply LWP_run
        · simp -implicitDefEqProofs [stepsS, stepS, gd, opEff, LArg.ev, app_val, app_new, app_upd, app_kill, putV, ins, get, binV, binI, grd, bnd, ldCells, AV.cells, AV.scalar, AV.known, setAt, fillL, chunks, elems, mxI, mnI, del, Nat.add_assoc, nlt_self, nne_self, nne_self', List.take_of_length_le, hb1, hb2, hb3, hq, Rd.e]; rfl
        apply LWP_run
        · simp -implicitDefEqProofs [stepsS, stepS, gd, opEff, LArg.ev, app_val, app_new, app_upd, app_kill, putV, ins, get, binV, binI, grd, bnd, ldCells, AV.cells, AV.scalar, AV.known, setAt, fillL, chunks, elems, mxI, mnI, del, Nat.add_assoc, nlt_self, nne_self, nne_self', List.take_of_length_le]; rfl
        apply LWP_run
        · simp -implicitDefEqProofs [stepsS, stepS, gd, opEff, LArg.ev, app_val, app_new, app_upd, app_kill, putV, ins, get, binV, binI, grd, bnd, ldCells, AV.cells, AV.scalar, AV.known, setAt, fillL, chunks, elems, mxI, mnI, del, Nat.add_assoc, nlt_self, nne_self, nne_self', List.take_of_length_le]; rfl
        have hs : rowSt pad r (i + 1) = ((i : Int), (rowSt pad r i).2 ++ [⟨(rowSt pad r i).1, i, cl (dOf r[(rowSt pad r i).1.toNat].r r[i].l pad)⟩]) := by simp [rowSt, hc, he', hp', hp2]
        refine ⟨(i + 1, nx + 12, nx + 13), ⟨hc, by simp only; omega⟩, by simp only; omega, ?_⟩
        refine .mk2 ?_ ?_ ?_
        · simp [leV, get, wkV.refl, wrap_succ (n := i) (by omega), hs, Rd.e, cl, dOf, List.take_of_length_le]
        · simp [leH, get, wrap_succ (n := i) (by omega), hs, Rd.e, cl, dOf, List.take_of_length_le] <;> rfl
        · simp
      · have hp' : ¬ 0 ≤ (rowSt pad r i).1 := by simpa using hp
        apply LWP_run
        · simp -implicitDefEqProofs [stepsS, stepS, gd, opEff, LArg.ev, app_val, app_new, app_upd, app_kill, putV, ins, get, binV, binI, grd, bnd, ldCells, AV.cells, AV.scalar, AV.known, setAt, fillL, chunks, elems, mxI, mnI, del, Nat.add_assoc, nlt_self, nne_self, nne_self', List.take_of_length_le]; rfl
        apply LWP_run
        · simp -implicitDefEqProofs [stepsS, stepS, gd, opEff, LArg.ev, app_val, app_new, app_upd, app_kill, putV, ins, get, binV, binI, grd, bnd, ldCells, AV.cells, AV.scalar, AV.known, setAt, fillL, chunks, elems, mxI, mnI, del, Nat.add_assoc, nlt_self, nne_self, nne_self', List.take_of_length_le]; rfl
        have hs : rowSt pad r (i + 1) = ((i : Int), (rowSt pad r i).2) := by simp [rowSt, hc, he', hp']
        refine ⟨(i + 1, b, nx + 1), ⟨hc, by simp only; omega⟩, by simp only; omega, ?_⟩
        refine .mk2 ?_ ?_ ?_
        · simp [leV, get, wkV.refl, wrap_succ (n := i) (by omega), hs, hb3]
        · simp [leH, get, wrap_succ (n := i) (by omega), hs, hb3] <;> rfl
        · simp
  · have hc' : i = r.length := by have : ¬ i < r.length := by simpa using hc
                                  omega
    subst hc'
    refine LWP_seq ?_
    apply LWP_run
    · simp -implicitDefEqProofs [stepsS, stepS, gd, opEff, LArg.ev, app_val, app_new, app_upd, app_kill, putV, ins, get, binV, binI, grd, bnd, ldCells, AV.cells, AV.scalar, AV.known, setAt, fillL, chunks, elems, mxI, mnI, del, Nat.add_assoc, nlt_self, nne_self, nne_self', List.take_of_length_le]; rfl
    refine LWP_frz b (sz := 3) (es := (rowSt pad r r.length).2.map Rd.e) (by simp [get]) ?_
    refine LWP_ret ?_
    show ∃ vs, resV _ _ = some vs ∧ wkV (retV vs) _
    refine ⟨_, rfl, ?_⟩
    simp [retV, wkV.refl, ST.frz, mapS, frzV, rowL, List.take_of_length_le]
end Go.AM.Rod
