/- A part of a proof about the given program: what its name says. No premise beyond the statements'. -/
import Derived.Test.YtjfmkhihhdhnnaaGreatEzCode
import Derived.Test.YtjfmkhihhdhnnaaGreatFD
import Derived.Test.YtjfmkhihhdhnnaaGreatEzHb
set_option linter.unusedSimpArgs false
set_option linter.unusedVariables false
/- Accidentals and what they do: contracts. -/
namespace Go.AM.Ez
open Go.AM

/-- Where a number first is in a list; -1: nowhere. -/
def idxI (x : Int) : List Int → Nat → Int
  | [], _ => -1
  | y :: l, i => if x = y then i else idxI x l (i + 1)
theorem idxI_step {x : Int} {l : List Int} {i : Nat} (h : i < l.length) : idxI x (l.drop i) i = if x = l[i] then (i : Int) else idxI x (l.drop (i + 1)) (i + 1) := by
  rw [List.drop_eq_getElem_cons h]; rfl
def intsV (l : List Int) : AV := .tsl 1 (l.map fun y => [.int .i64 y])
theorem ints_pure : ∀ l : List Int, pureR (l.map fun y => [AV.int .i64 y]) = true
  | [] => rfl
  | x :: l => by simp [pureR, pureL, AV.pure, ints_pure l]

theorem index_ok (l : List Int) (x : Int) (hl : l.length < 1000) : ACalls Go.Proofs.Tryz.prog 38 [.tsl 1 (l.map fun y => [.int .i64 y]), .int .i64 x] [] 0 (fun r _ _ => r = .int .i64 (idxI x l 0)) := by
  refine pure_body ok38 rfl ?_
  simp only [parV]
  refine LWP_seq ?_
  apply LWP_run
  · simp -implicitDefEqProofs (maxSteps := 1000000) (disch := first | assumption | omega) [m_, o_, g_, stepsS, stepS, gd, opEff, appEff, LArg.ev, app_val, app_new, app_upd, app_kill, putV, ins_e0, ins_e1, get_e0, get_e1, binV, binI, grd, bnd, ldCells, AV.cells, AV.scalar, AV.known, setAt, fillL, chunks, elems, mxI, mnI, del, Nat.add_assoc, nlt_self, nne_self, nne_self', List.take_of_length_le, decT, decF, wrap_i64]; rfl
  refine LWP_seq ?_
  refine LWP_seq ?_
  apply LWP_run
  · simp -implicitDefEqProofs (maxSteps := 1000000) (disch := first | assumption | omega) [m_, o_, g_, stepsS, stepS, gd, opEff, appEff, LArg.ev, app_val, app_new, app_upd, app_kill, putV, ins_e0, ins_e1, get_e0, get_e1, binV, binI, grd, bnd, ldCells, AV.cells, AV.scalar, AV.known, setAt, fillL, chunks, elems, mxI, mnI, del, Nat.add_assoc, nlt_self, nne_self, nne_self', List.take_of_length_le, decT, decF, wrap_i64]; rfl
  refine LWP_block ?_
  refine LWP_for (fun (i : Nat) => [(0, .tsl 1 (l.map fun y => [.int .i64 y])), (1, .int .i64 x), (7, .int .i64 (l.length : Nat)), (8, .int .i64 i)]) (fun (i : Nat) => []) (fun (i : Nat) n => i ≤ l.length ∧ idxI x l 0 = idxI x (l.drop i) i) (fun (i : Nat) => l.length - i) 0 ?_ ?_ ?_ ?_
  · simp (maxSteps := 1000000) (disch := first | assumption | omega) [leV, get_e0, get_e1, wkV.refl, wkV_int, decT, decF]
  · simp [leH, get_e0, get_e1]
  · exact ⟨Nat.zero_le _, by simp⟩
  rintro i n ⟨c1, c2⟩
  try simp only at *
  refine LWP_seq ?_
  apply LWP_run
  · simp -implicitDefEqProofs (maxSteps := 1000000) (disch := first | assumption | omega) [m_, o_, g_, stepsS, stepS, gd, opEff, appEff, LArg.ev, app_val, app_new, app_upd, app_kill, putV, ins_e0, ins_e1, get_e0, get_e1, binV, binI, grd, bnd, ldCells, AV.cells, AV.scalar, AV.known, setAt, fillL, chunks, elems, mxI, mnI, del, Nat.add_assoc, nlt_self, nne_self, nne_self', List.take_of_length_le, decT, decF, wrap_i64]; rfl
  refine LWP_seq ?_
  refine LWP_cond rfl (fun h2 => ?_) (fun h2 => ?_)
  · try simp only [decide_eq_true_eq, decide_eq_false_iff_not, Bool.not_eq_true', Bool.not_eq_false', Bool.not_true, Bool.not_false, beq_iff_eq, bne_iff_ne, beq_eq_false_iff_ne, bne_eq_false_iff_eq, Bool.and_eq_true, Bool.or_eq_false_iff, Int.not_lt, Int.not_le, Nat.not_lt, Nat.not_le, ne_eq, Bool.true_eq_false, Bool.false_eq_true, reduceCtorEq] at h2
    all_goals try (exfalso; omega)
    all_goals
      refine LWP_skip ?_
      refine LWP_seq ?_
      refine LWP_block ?_
      refine LWP_seq ?_
      apply LWP_run
      · simp -implicitDefEqProofs (maxSteps := 1000000) (disch := first | assumption | omega) [m_, o_, g_, stepsS, stepS, gd, opEff, appEff, LArg.ev, app_val, app_new, app_upd, app_kill, putV, ins_e0, ins_e1, get_e0, get_e1, binV, binI, grd, bnd, ldCells, AV.cells, AV.scalar, AV.known, setAt, fillL, chunks, elems, mxI, mnI, del, Nat.add_assoc, nlt_self, nne_self, nne_self', List.take_of_length_le, decT, decF, wrap_i64, h2]; rfl
      refine LWP_seq ?_
      apply LWP_run
      · simp -implicitDefEqProofs (maxSteps := 1000000) (disch := first | assumption | omega) [m_, o_, g_, stepsS, stepS, gd, opEff, appEff, LArg.ev, app_val, app_new, app_upd, app_kill, putV, ins_e0, ins_e1, get_e0, get_e1, binV, binI, grd, bnd, ldCells, AV.cells, AV.scalar, AV.known, setAt, fillL, chunks, elems, mxI, mnI, del, Nat.add_assoc, nlt_self, nne_self, nne_self', List.take_of_length_le, decT, decF, wrap_i64, h2]; rfl
      refine LWP_cond rfl (fun h3 => ?_) (fun h3 => ?_)
      · try simp only [decide_eq_true_eq, decide_eq_false_iff_not, Bool.not_eq_true', Bool.not_eq_false', Bool.not_true, Bool.not_false, beq_iff_eq, bne_iff_ne, beq_eq_false_iff_ne, bne_eq_false_iff_eq, Bool.and_eq_true, Bool.or_eq_false_iff, Int.not_lt, Int.not_le, Nat.not_lt, Nat.not_le, ne_eq, Bool.true_eq_false, Bool.false_eq_true, reduceCtorEq] at h3
        all_goals try (exfalso; omega)
        all_goals
          refine LWP_seq ?_
          apply LWP_run
          · simp -implicitDefEqProofs (maxSteps := 1000000) (disch := first | assumption | omega) [m_, o_, g_, stepsS, stepS, gd, opEff, appEff, LArg.ev, app_val, app_new, app_upd, app_kill, putV, ins_e0, ins_e1, get_e0, get_e1, binV, binI, grd, bnd, ldCells, AV.cells, AV.scalar, AV.known, setAt, fillL, chunks, elems, mxI, mnI, del, Nat.add_assoc, nlt_self, nne_self, nne_self', List.take_of_length_le, decT, decF, wrap_i64, h2, h3]; rfl
          -- leaf 0
          refine LWP_ret ⟨_, rfl, ?_⟩
          refine wkV_of_eq ?_
          simp only [retV]
          all_goals
            rw [c2, idxI_step (by omega), if_pos (by assumption)]
      · try simp only [decide_eq_true_eq, decide_eq_false_iff_not, Bool.not_eq_true', Bool.not_eq_false', Bool.not_true, Bool.not_false, beq_iff_eq, bne_iff_ne, beq_eq_false_iff_ne, bne_eq_false_iff_eq, Bool.and_eq_true, Bool.or_eq_false_iff, Int.not_lt, Int.not_le, Nat.not_lt, Nat.not_le, ne_eq, Bool.true_eq_false, Bool.false_eq_true, reduceCtorEq] at h3
        all_goals try (exfalso; omega)
        all_goals
          refine LWP_skip ?_
          apply LWP_run
          · simp -implicitDefEqProofs (maxSteps := 1000000) (disch := first | assumption | omega) [m_, o_, g_, stepsS, stepS, gd, opEff, appEff, LArg.ev, app_val, app_new, app_upd, app_kill, putV, ins_e0, ins_e1, get_e0, get_e1, binV, binI, grd, bnd, ldCells, AV.cells, AV.scalar, AV.known, setAt, fillL, chunks, elems, mxI, mnI, del, Nat.add_assoc, nlt_self, nne_self, nne_self', List.take_of_length_le, decT, decF, wrap_i64, h2, h3]; rfl
          -- loop 0, round 0
          refine ⟨i + 1, ?_, ?_, ?_, ?_⟩
          · exact ⟨by omega, by rw [c2, idxI_step (by omega), if_neg (by assumption)]⟩
          · omega
          · simp (maxSteps := 1000000) (disch := first | assumption | omega) [leV, get_e0, get_e1, wkV.refl, wkV_int, wrap_i64, decT, decF, h2, h3]
          · simp [leH, get_e0, get_e1, h2, h3]
  · try simp only [decide_eq_true_eq, decide_eq_false_iff_not, Bool.not_eq_true', Bool.not_eq_false', Bool.not_true, Bool.not_false, beq_iff_eq, bne_iff_ne, beq_eq_false_iff_ne, bne_eq_false_iff_eq, Bool.and_eq_true, Bool.or_eq_false_iff, Int.not_lt, Int.not_le, Nat.not_lt, Nat.not_le, ne_eq, Bool.true_eq_false, Bool.false_eq_true, reduceCtorEq] at h2
    all_goals try (exfalso; omega)
    all_goals
      refine LWP_exit ?_
      refine LWP_seq ?_
      apply LWP_run
      · simp -implicitDefEqProofs (maxSteps := 1000000) (disch := first | assumption | omega) [m_, o_, g_, stepsS, stepS, gd, opEff, appEff, LArg.ev, app_val, app_new, app_upd, app_kill, putV, ins_e0, ins_e1, get_e0, get_e1, binV, binI, grd, bnd, ldCells, AV.cells, AV.scalar, AV.known, setAt, fillL, chunks, elems, mxI, mnI, del, Nat.add_assoc, nlt_self, nne_self, nne_self', List.take_of_length_le, decT, decF, wrap_i64, h2]; rfl
      -- leaf 1
      refine LWP_ret ⟨_, rfl, ?_⟩
      refine wkV_of_eq ?_
      simp only [retV]
      all_goals
        rw [c2, List.drop_eq_nil_of_le (by omega)]; rfl

theorem signs_run : runOKX tr.find hbX0 500 37 [] (.tsl 1 [[.int .i64 25], [.int .i64 22], [.int .i64 23], [.int .i64 21], [.int .i64 24]]) = true := by kernel_rfl
theorem signs_ok : ACalls Go.Proofs.Tryz.prog 37 [] [] 0 (fun r _ _ => r = .tsl 1 ([25, 22, 23, 21, 24].map fun y : Int => [.int .i64 y])) := (runOKX_sound (fun _ _ h => Tr.find_ok tr_ok h) hbT0_ok signs_run).2
def glI (a : Int) : Int := if a = -2 then 25 else if a = -1 then 22 else if a = 0 then 23 else if a = 1 then 21 else 24
def glyphR (a : Int) : AV := if -2 ≤ a ∧ a ≤ 2 then .tup [.int .i64 (glI a), .bool true] else .tup [.int .i64 0, .bool false]
def alI (g : Int) : Int := if g = 25 then -2 else if g = 22 then -1 else if g = 23 then 0 else if g = 21 then 1 else 2
def alterR (g : Int) : AV := if 21 ≤ g ∧ g ≤ 25 then .tup [.int .i64 (alI g), .bool true] else .tup [.int .i64 0, .bool false]
theorem idx_signs (g : Int) : idxI g [25, 22, 23, 21, 24] 0 = if 21 ≤ g ∧ g ≤ 25 then alI g + 2 else -1 := by
  simp only [idxI, alI]
  (repeat' split) <;> omega
theorem al_rng (g : Int) : -2 ≤ alI g ∧ alI g ≤ 2 := by
  simp only [alI]
  (repeat' split) <;> omega
theorem gl_rng (a : Int) : 21 ≤ glI a ∧ glI a ≤ 25 := by
  simp only [glI]
  (repeat' split) <;> omega
theorem al_gl (a : Int) (h1 : -2 ≤ a) (h2 : a ≤ 2) : alI (glI a) = a := by
  simp only [glI, alI]
  (repeat' split) <;> omega
theorem gl_al (g : Int) (h1 : 21 ≤ g) (h2 : g ≤ 25) : glI (alI g) = g := by
  simp only [glI, alI]
  (repeat' split) <;> omega
theorem glyph_m2 : runOKX tr.find hbX0 500 14 [.int .i64 (-2)] (.tup [.int .i64 25, .bool true]) = true := by kernel_rfl
theorem glyph_m1 : runOKX tr.find hbX0 500 14 [.int .i64 (-1)] (.tup [.int .i64 22, .bool true]) = true := by kernel_rfl
theorem glyph_0 : runOKX tr.find hbX0 500 14 [.int .i64 0] (.tup [.int .i64 23, .bool true]) = true := by kernel_rfl
theorem glyph_1 : runOKX tr.find hbX0 500 14 [.int .i64 1] (.tup [.int .i64 21, .bool true]) = true := by kernel_rfl
theorem glyph_2 : runOKX tr.find hbX0 500 14 [.int .i64 2] (.tup [.int .i64 24, .bool true]) = true := by kernel_rfl

theorem glyph_out (a : Int) (h0 : a < -2 ∨ 2 < a) : ACalls Go.Proofs.Tryz.prog 14 [.int .i64 a] [] 0 (fun r _ _ => r = .tup [.int .i64 0, .bool false]) := by
  refine pure_body ok14 rfl ?_
  simp only [parV]
  refine LWP_seq ?_
  apply LWP_run
  · simp -implicitDefEqProofs (maxSteps := 1000000) (disch := first | assumption | omega) [m_, o_, g_, stepsS, stepS, gd, opEff, appEff, LArg.ev, app_val, app_new, app_upd, app_kill, putV, ins_e0, ins_e1, get_e0, get_e1, binV, binI, grd, bnd, ldCells, AV.cells, AV.scalar, AV.known, setAt, fillL, chunks, elems, mxI, mnI, del, Nat.add_assoc, nlt_self, nne_self, nne_self', List.take_of_length_le, decT, decF, wrap_i64]; rfl
  refine LWP_seq ?_
  refine LWP_seq ?_
  refine LWP_reg fun K hK => ?_
  apply rgnS_pre 3
  · simp -implicitDefEqProofs (maxSteps := 1000000) (disch := first | assumption | omega) [m_, o_, g_, stepsS, stepS, gd, opEff, appEff, LArg.ev, app_val, app_new, app_upd, app_kill, putV, ins_e0, ins_e1, get_e0, get_e1, binV, binI, grd, bnd, ldCells, AV.cells, AV.scalar, AV.known, setAt, fillL, chunks, elems, mxI, mnI, del, Nat.add_assoc, nlt_self, nne_self, nne_self', List.take_of_length_le, decT, decF, wrap_i64]; rfl
  refine rgnS_guard (x := 6) (b := false) rfl (fun h1 => ?_) (fun h1 => ?_)
  · try simp only [decide_eq_true_eq, decide_eq_false_iff_not, Bool.not_eq_true', Bool.not_eq_false', Bool.not_true, Bool.not_false, beq_iff_eq, bne_iff_ne, beq_eq_false_iff_ne, bne_eq_false_iff_eq, Bool.and_eq_true, Bool.or_eq_false_iff, Int.not_lt, Int.not_le, Nat.not_lt, Nat.not_le, ne_eq, Bool.true_eq_false, Bool.false_eq_true, reduceCtorEq] at h1
    all_goals try (exfalso; omega)
    all_goals
      apply rgnS_pre 3
      · simp -implicitDefEqProofs (maxSteps := 1000000) (disch := first | assumption | omega) [m_, o_, g_, stepsS, stepS, gd, opEff, appEff, LArg.ev, app_val, app_new, app_upd, app_kill, putV, ins_e0, ins_e1, get_e0, get_e1, binV, binI, grd, bnd, ldCells, AV.cells, AV.scalar, AV.known, setAt, fillL, chunks, elems, mxI, mnI, del, Nat.add_assoc, nlt_self, nne_self, nne_self', List.take_of_length_le, decT, decF, wrap_i64, h1]; rfl
      refine hK _ ?_; clear hK
      refine LWP_cond rfl (fun h2 => ?_) (fun h2 => ?_)
      · try simp only [decide_eq_true_eq, decide_eq_false_iff_not, Bool.not_eq_true', Bool.not_eq_false', Bool.not_true, Bool.not_false, beq_iff_eq, bne_iff_ne, beq_eq_false_iff_ne, bne_eq_false_iff_eq, Bool.and_eq_true, Bool.or_eq_false_iff, Int.not_lt, Int.not_le, Nat.not_lt, Nat.not_le, ne_eq, Bool.true_eq_false, Bool.false_eq_true, reduceCtorEq] at h2
        all_goals try (exfalso; omega)
        all_goals
          refine LWP_seq ?_
          apply LWP_run
          · simp -implicitDefEqProofs (maxSteps := 1000000) (disch := first | assumption | omega) [m_, o_, g_, stepsS, stepS, gd, opEff, appEff, LArg.ev, app_val, app_new, app_upd, app_kill, putV, ins_e0, ins_e1, get_e0, get_e1, binV, binI, grd, bnd, ldCells, AV.cells, AV.scalar, AV.known, setAt, fillL, chunks, elems, mxI, mnI, del, Nat.add_assoc, nlt_self, nne_self, nne_self', List.take_of_length_le, decT, decF, wrap_i64, h1, h2]; rfl
          -- leaf 0
          refine LWP_ret ⟨_, rfl, ?_⟩
          refine wkV_of_eq ?_
          simp only [retV]
          all_goals
            rfl
      · try simp only [decide_eq_true_eq, decide_eq_false_iff_not, Bool.not_eq_true', Bool.not_eq_false', Bool.not_true, Bool.not_false, beq_iff_eq, bne_iff_ne, beq_eq_false_iff_ne, bne_eq_false_iff_eq, Bool.and_eq_true, Bool.or_eq_false_iff, Int.not_lt, Int.not_le, Nat.not_lt, Nat.not_le, ne_eq, Bool.true_eq_false, Bool.false_eq_true, reduceCtorEq] at h2
        all_goals try (exfalso; omega)
        all_goals
          refine LWP_skip ?_
          refine LWP_seq ?_
          refine LWP_reg fun K hK => ?_
          refine rgnS_call (signs_ok) rfl rfl (by simp [pureL, pureR, AV.pure]) (by simp [pureL, pureR, AV.pure]) (by simp [gd, get_e0, get_e1, LArg.ev, h1, h2]) ?_
          apply rgnS_pre 6
          · simp -implicitDefEqProofs (maxSteps := 1000000) (disch := first | assumption | omega) [m_, o_, g_, stepsS, stepS, gd, opEff, appEff, LArg.ev, app_val, app_new, app_upd, app_kill, putV, ins_e0, ins_e1, get_e0, get_e1, binV, binI, grd, bnd, ldCells, AV.cells, AV.scalar, AV.known, setAt, fillL, chunks, elems, mxI, mnI, del, Nat.add_assoc, nlt_self, nne_self, nne_self', List.take_of_length_le, decT, decF, wrap_i64, h1, h2]; rfl
          refine hK _ ?_; clear hK
          -- leaf 1
          refine LWP_ret ⟨_, rfl, ?_⟩
          refine wkV_of_eq ?_
          simp only [retV]
          all_goals
            rfl
  · try simp only [decide_eq_true_eq, decide_eq_false_iff_not, Bool.not_eq_true', Bool.not_eq_false', Bool.not_true, Bool.not_false, beq_iff_eq, bne_iff_ne, beq_eq_false_iff_ne, bne_eq_false_iff_eq, Bool.and_eq_true, Bool.or_eq_false_iff, Int.not_lt, Int.not_le, Nat.not_lt, Nat.not_le, ne_eq, Bool.true_eq_false, Bool.false_eq_true, reduceCtorEq] at h1
    all_goals try (exfalso; omega)
    all_goals
      apply rgnS_pre 2
      · simp -implicitDefEqProofs (maxSteps := 1000000) (disch := first | assumption | omega) [m_, o_, g_, stepsS, stepS, gd, opEff, appEff, LArg.ev, app_val, app_new, app_upd, app_kill, putV, ins_e0, ins_e1, get_e0, get_e1, binV, binI, grd, bnd, ldCells, AV.cells, AV.scalar, AV.known, setAt, fillL, chunks, elems, mxI, mnI, del, Nat.add_assoc, nlt_self, nne_self, nne_self', List.take_of_length_le, decT, decF, wrap_i64, h1]; rfl
      refine hK _ ?_; clear hK
      refine LWP_cond (t := true) (by simp [LArg.ev, get_e0, get_e1, h1]) (fun _ => ?_) (fun h => by cases h)
      refine LWP_seq ?_
      apply LWP_run
      · simp -implicitDefEqProofs (maxSteps := 1000000) (disch := first | assumption | omega) [m_, o_, g_, stepsS, stepS, gd, opEff, appEff, LArg.ev, app_val, app_new, app_upd, app_kill, putV, ins_e0, ins_e1, get_e0, get_e1, binV, binI, grd, bnd, ldCells, AV.cells, AV.scalar, AV.known, setAt, fillL, chunks, elems, mxI, mnI, del, Nat.add_assoc, nlt_self, nne_self, nne_self', List.take_of_length_le, decT, decF, wrap_i64, h1]; rfl
      -- leaf 2
      refine LWP_ret ⟨_, rfl, ?_⟩
      refine wkV_of_eq ?_
      simp only [retV]
      all_goals
        rfl

theorem glyph_ok (a : Int) : ACalls Go.Proofs.Tryz.prog 14 [.int .i64 a] [] 0 (fun r _ _ => r = glyphR a) := by
  have hs : ∀ {v : AV}, runOKX tr.find hbX0 500 14 [.int .i64 a] v = true → ACalls Go.Proofs.Tryz.prog 14 [.int .i64 a] [] 0 (fun r _ _ => r = v) := fun h => (runOKX_sound (fun _ _ h => Tr.find_ok tr_ok h) hbT0_ok h).2
  by_cases h : -2 ≤ a ∧ a ≤ 2
  · have : a = -2 ∨ a = -1 ∨ a = 0 ∨ a = 1 ∨ a = 2 := by omega
    rcases this with rfl | rfl | rfl | rfl | rfl
    · exact hs glyph_m2
    · exact hs glyph_m1
    · exact hs glyph_0
    · exact hs glyph_1
    · exact hs glyph_2
  · rw [glyphR, if_neg h]; exact glyph_out a (by omega)

theorem alter_in (g : Int) (hg : 21 ≤ g ∧ g ≤ 25) : ACalls Go.Proofs.Tryz.prog 15 [.int .i64 g] [] 0 (fun r _ _ => r = .tup [.int .i64 (alI g), .bool true]) := by
  refine pure_body ok15 rfl ?_
  simp only [parV]
  have hr := al_rng g
  refine LWP_seq ?_
  apply LWP_run
  · simp -implicitDefEqProofs (maxSteps := 1000000) (disch := first | assumption | omega) [m_, o_, g_, stepsS, stepS, gd, opEff, appEff, LArg.ev, app_val, app_new, app_upd, app_kill, putV, ins_e0, ins_e1, get_e0, get_e1, binV, binI, grd, bnd, ldCells, AV.cells, AV.scalar, AV.known, setAt, fillL, chunks, elems, mxI, mnI, del, Nat.add_assoc, nlt_self, nne_self, nne_self', List.take_of_length_le, decT, decF, wrap_i64, idx_signs, hg]; rfl
  refine LWP_seq ?_
  refine LWP_reg fun K hK => ?_
  refine rgnS_call (signs_ok) rfl rfl (by simp [pureL, pureR, AV.pure, idx_signs, pureR]) (by simp [pureL, pureR, AV.pure, idx_signs, pureR]) (by simp [gd, get_e0, get_e1, LArg.ev]) ?_
  apply rgnS_pre 1
  · simp -implicitDefEqProofs (maxSteps := 1000000) (disch := first | assumption | omega) [m_, o_, g_, stepsS, stepS, gd, opEff, appEff, LArg.ev, app_val, app_new, app_upd, app_kill, putV, ins_e0, ins_e1, get_e0, get_e1, binV, binI, grd, bnd, ldCells, AV.cells, AV.scalar, AV.known, setAt, fillL, chunks, elems, mxI, mnI, del, Nat.add_assoc, nlt_self, nne_self, nne_self', List.take_of_length_le, decT, decF, wrap_i64, idx_signs, hg]; rfl
  refine rgnS_call (index_ok [25, 22, 23, 21, 24] g (by simp)) rfl rfl (by simp [pureL, pureR, AV.pure, idx_signs, pureR]) (by simp [pureL, pureR, AV.pure, idx_signs, pureR]) (by simp [gd, get_e0, get_e1, LArg.ev]) ?_
  apply rgnS_pre 1
  · simp -implicitDefEqProofs (maxSteps := 1000000) (disch := first | assumption | omega) [m_, o_, g_, stepsS, stepS, gd, opEff, appEff, LArg.ev, app_val, app_new, app_upd, app_kill, putV, ins_e0, ins_e1, get_e0, get_e1, binV, binI, grd, bnd, ldCells, AV.cells, AV.scalar, AV.known, setAt, fillL, chunks, elems, mxI, mnI, del, Nat.add_assoc, nlt_self, nne_self, nne_self', List.take_of_length_le, decT, decF, wrap_i64, idx_signs, hg]; rfl
  refine hK _ ?_; clear hK
  refine LWP_seq ?_
  refine LWP_seq ?_
  apply LWP_run
  · simp -implicitDefEqProofs (maxSteps := 1000000) (disch := first | assumption | omega) [m_, o_, g_, stepsS, stepS, gd, opEff, appEff, LArg.ev, app_val, app_new, app_upd, app_kill, putV, ins_e0, ins_e1, get_e0, get_e1, binV, binI, grd, bnd, ldCells, AV.cells, AV.scalar, AV.known, setAt, fillL, chunks, elems, mxI, mnI, del, Nat.add_assoc, nlt_self, nne_self, nne_self', List.take_of_length_le, decT, decF, wrap_i64, idx_signs, hg]; rfl
  refine LWP_cond rfl (fun h1 => ?_) (fun h1 => ?_)
  · try simp only [decide_eq_true_eq, decide_eq_false_iff_not, Bool.not_eq_true', Bool.not_eq_false', Bool.not_true, Bool.not_false, beq_iff_eq, bne_iff_ne, beq_eq_false_iff_ne, bne_eq_false_iff_eq, Bool.and_eq_true, Bool.or_eq_false_iff, Int.not_lt, Int.not_le, Nat.not_lt, Nat.not_le, ne_eq, Bool.true_eq_false, Bool.false_eq_true, reduceCtorEq] at h1
    all_goals try (exfalso; omega)
    all_goals
      refine LWP_seq ?_
      apply LWP_run
      · simp -implicitDefEqProofs (maxSteps := 1000000) (disch := first | assumption | omega) [m_, o_, g_, stepsS, stepS, gd, opEff, appEff, LArg.ev, app_val, app_new, app_upd, app_kill, putV, ins_e0, ins_e1, get_e0, get_e1, binV, binI, grd, bnd, ldCells, AV.cells, AV.scalar, AV.known, setAt, fillL, chunks, elems, mxI, mnI, del, Nat.add_assoc, nlt_self, nne_self, nne_self', List.take_of_length_le, decT, decF, wrap_i64, idx_signs, hg, h1]; rfl
      -- leaf 0
      refine LWP_ret ⟨_, rfl, ?_⟩
      refine wkV_of_eq ?_
      simp only [retV]
      all_goals
        simp; try omega
  · try simp only [decide_eq_true_eq, decide_eq_false_iff_not, Bool.not_eq_true', Bool.not_eq_false', Bool.not_true, Bool.not_false, beq_iff_eq, bne_iff_ne, beq_eq_false_iff_ne, bne_eq_false_iff_eq, Bool.and_eq_true, Bool.or_eq_false_iff, Int.not_lt, Int.not_le, Nat.not_lt, Nat.not_le, ne_eq, Bool.true_eq_false, Bool.false_eq_true, reduceCtorEq] at h1
    all_goals try (exfalso; omega)
    all_goals
      refine LWP_skip ?_
      refine LWP_seq ?_
      apply LWP_run
      · simp -implicitDefEqProofs (maxSteps := 1000000) (disch := first | assumption | omega) [m_, o_, g_, stepsS, stepS, gd, opEff, appEff, LArg.ev, app_val, app_new, app_upd, app_kill, putV, ins_e0, ins_e1, get_e0, get_e1, binV, binI, grd, bnd, ldCells, AV.cells, AV.scalar, AV.known, setAt, fillL, chunks, elems, mxI, mnI, del, Nat.add_assoc, nlt_self, nne_self, nne_self', List.take_of_length_le, decT, decF, wrap_i64, idx_signs, hg, h1]; rfl
      -- leaf 1
      refine LWP_ret ⟨_, rfl, ?_⟩
      refine wkV_of_eq ?_
      simp only [retV]
      all_goals
        simp; try omega

theorem alter_out (g : Int) (hg : ¬ (21 ≤ g ∧ g ≤ 25)) : ACalls Go.Proofs.Tryz.prog 15 [.int .i64 g] [] 0 (fun r _ _ => r = .tup [.int .i64 0, .bool false]) := by
  refine pure_body ok15 rfl ?_
  simp only [parV]
  refine LWP_seq ?_
  apply LWP_run
  · simp -implicitDefEqProofs (maxSteps := 1000000) (disch := first | assumption | omega) [m_, o_, g_, stepsS, stepS, gd, opEff, appEff, LArg.ev, app_val, app_new, app_upd, app_kill, putV, ins_e0, ins_e1, get_e0, get_e1, binV, binI, grd, bnd, ldCells, AV.cells, AV.scalar, AV.known, setAt, fillL, chunks, elems, mxI, mnI, del, Nat.add_assoc, nlt_self, nne_self, nne_self', List.take_of_length_le, decT, decF, wrap_i64, idx_signs, hg]; rfl
  refine LWP_seq ?_
  refine LWP_reg fun K hK => ?_
  refine rgnS_call (signs_ok) rfl rfl (by simp [pureL, pureR, AV.pure, idx_signs, pureR]) (by simp [pureL, pureR, AV.pure, idx_signs, pureR]) (by simp [gd, get_e0, get_e1, LArg.ev]) ?_
  apply rgnS_pre 1
  · simp -implicitDefEqProofs (maxSteps := 1000000) (disch := first | assumption | omega) [m_, o_, g_, stepsS, stepS, gd, opEff, appEff, LArg.ev, app_val, app_new, app_upd, app_kill, putV, ins_e0, ins_e1, get_e0, get_e1, binV, binI, grd, bnd, ldCells, AV.cells, AV.scalar, AV.known, setAt, fillL, chunks, elems, mxI, mnI, del, Nat.add_assoc, nlt_self, nne_self, nne_self', List.take_of_length_le, decT, decF, wrap_i64, idx_signs, hg]; rfl
  refine rgnS_call (index_ok [25, 22, 23, 21, 24] g (by simp)) rfl rfl (by simp [pureL, pureR, AV.pure, idx_signs, pureR]) (by simp [pureL, pureR, AV.pure, idx_signs, pureR]) (by simp [gd, get_e0, get_e1, LArg.ev]) ?_
  apply rgnS_pre 1
  · simp -implicitDefEqProofs (maxSteps := 1000000) (disch := first | assumption | omega) [m_, o_, g_, stepsS, stepS, gd, opEff, appEff, LArg.ev, app_val, app_new, app_upd, app_kill, putV, ins_e0, ins_e1, get_e0, get_e1, binV, binI, grd, bnd, ldCells, AV.cells, AV.scalar, AV.known, setAt, fillL, chunks, elems, mxI, mnI, del, Nat.add_assoc, nlt_self, nne_self, nne_self', List.take_of_length_le, decT, decF, wrap_i64, idx_signs, hg]; rfl
  refine hK _ ?_; clear hK
  refine LWP_seq ?_
  refine LWP_seq ?_
  apply LWP_run
  · simp -implicitDefEqProofs (maxSteps := 1000000) (disch := first | assumption | omega) [m_, o_, g_, stepsS, stepS, gd, opEff, appEff, LArg.ev, app_val, app_new, app_upd, app_kill, putV, ins_e0, ins_e1, get_e0, get_e1, binV, binI, grd, bnd, ldCells, AV.cells, AV.scalar, AV.known, setAt, fillL, chunks, elems, mxI, mnI, del, Nat.add_assoc, nlt_self, nne_self, nne_self', List.take_of_length_le, decT, decF, wrap_i64, idx_signs, hg]; rfl
  refine LWP_cond rfl (fun h1 => ?_) (fun h1 => ?_)
  · try simp only [decide_eq_true_eq, decide_eq_false_iff_not, Bool.not_eq_true', Bool.not_eq_false', Bool.not_true, Bool.not_false, beq_iff_eq, bne_iff_ne, beq_eq_false_iff_ne, bne_eq_false_iff_eq, Bool.and_eq_true, Bool.or_eq_false_iff, Int.not_lt, Int.not_le, Nat.not_lt, Nat.not_le, ne_eq, Bool.true_eq_false, Bool.false_eq_true, reduceCtorEq] at h1
    all_goals try (exfalso; omega)
    all_goals
      refine LWP_seq ?_
      apply LWP_run
      · simp -implicitDefEqProofs (maxSteps := 1000000) (disch := first | assumption | omega) [m_, o_, g_, stepsS, stepS, gd, opEff, appEff, LArg.ev, app_val, app_new, app_upd, app_kill, putV, ins_e0, ins_e1, get_e0, get_e1, binV, binI, grd, bnd, ldCells, AV.cells, AV.scalar, AV.known, setAt, fillL, chunks, elems, mxI, mnI, del, Nat.add_assoc, nlt_self, nne_self, nne_self', List.take_of_length_le, decT, decF, wrap_i64, idx_signs, hg, h1]; rfl
      -- leaf 0
      refine LWP_ret ⟨_, rfl, ?_⟩
      refine wkV_of_eq ?_
      simp only [retV]
      all_goals
        simp; try omega
  · try simp only [decide_eq_true_eq, decide_eq_false_iff_not, Bool.not_eq_true', Bool.not_eq_false', Bool.not_true, Bool.not_false, beq_iff_eq, bne_iff_ne, beq_eq_false_iff_ne, bne_eq_false_iff_eq, Bool.and_eq_true, Bool.or_eq_false_iff, Int.not_lt, Int.not_le, Nat.not_lt, Nat.not_le, ne_eq, Bool.true_eq_false, Bool.false_eq_true, reduceCtorEq] at h1
    all_goals try (exfalso; omega)
    all_goals
      refine LWP_skip ?_
      refine LWP_seq ?_
      apply LWP_run
      · simp -implicitDefEqProofs (maxSteps := 1000000) (disch := first | assumption | omega) [m_, o_, g_, stepsS, stepS, gd, opEff, appEff, LArg.ev, app_val, app_new, app_upd, app_kill, putV, ins_e0, ins_e1, get_e0, get_e1, binV, binI, grd, bnd, ldCells, AV.cells, AV.scalar, AV.known, setAt, fillL, chunks, elems, mxI, mnI, del, Nat.add_assoc, nlt_self, nne_self, nne_self', List.take_of_length_le, decT, decF, wrap_i64, idx_signs, hg, h1]; rfl
      -- leaf 1
      refine LWP_ret ⟨_, rfl, ?_⟩
      refine wkV_of_eq ?_
      simp only [retV]
      all_goals
        simp; try omega

theorem alter_ok (g : Int) : ACalls Go.Proofs.Tryz.prog 15 [.int .i64 g] [] 0 (fun r _ _ => r = alterR g) := by
  by_cases hg : 21 ≤ g ∧ g ≤ 25
  · rw [alterR, if_pos hg]; exact alter_in g hg
  · rw [alterR, if_neg hg]; exact alter_out g hg

end Go.AM.Ez
