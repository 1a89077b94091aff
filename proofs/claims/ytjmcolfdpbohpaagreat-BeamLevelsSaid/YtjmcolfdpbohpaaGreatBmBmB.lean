/- A part of a proof about the given program: what its name says. No premise beyond the statements'. -/
import Derived.Test.YtjmcolfdpbohpaaGreatBmBmA
set_option linter.unusedSimpArgs false
set_option linter.unusedVariables false
/- All the beams of some levels. -/
namespace Go.AM.Bm
open Go.AM
open Go.AM.BeamQ
def lvB (x : Int) : Prop := 1 ≤ x ∧ x ≤ 4
theorem lv_no {l : List Int} {i : Nat} (ha : ∀ (k : Nat) (h : k < l.length), lvB l[k]) (h : i < l.length) (h2 : l[i] < 1 ∨ 4 < l[i]) : False := by
  have := ha i h
  have h3 := this.1
  have h4 := this.2
  omega

section
attribute [local simp ↓] List.map_nil List.map_cons
attribute [local simp] m_ o_ g_ stepsS stepS gd opEff appEff LArg.ev app_val app_new app_upd app_kill putV ins_e0 ins_e1 get_e0 get_e1 binV binI grd bnd ldCells AV.cells AV.scalar AV.known setAt fillL chunks elems mxI mnI del Nat.add_assoc nlt_self nne_self nne_self' List.take_of_length_le decT decF wrap_i64 stepsD stepD ST.as dEffF LOp.cls softOK LOp.args LOp.rds AV.ids appD_val appD_new appD_upd appD_kill AS.flush delAll
set_option maxHeartbeats 2000000 in
set_option maxRecDepth 20000 in
theorem seg_ok (l : List Int) (hl : l.length ≤ 300) (ha : ∀ (k : Nat) (h : k < l.length), lvB l[k]) : ACalls Go.Proofs.Tryz.prog 14 [.tsl 1 (l.map inE)] [] 0 (fun r _ _ => r = .tsl 3 ((segs l).map Sg.w)) := by
 refine pure_body ok14 rfl ?_
 simp only [parV]
 refine LWP_seq ?_
 apply LWP_run
 · repeat (simp -implicitDefEqProofs (maxSteps := 1000000) (disch := first | assumption | omega) [inE, Sg.w, sgT_1]; try simp only [gz])
   rfl
 refine LWP_seq ?_
 refine LWP_seq ?_
 apply LWP_run
 · repeat (simp -implicitDefEqProofs (maxSteps := 1000000) (disch := first | assumption | omega) [inE, Sg.w, sgT_1]; try simp only [gz])
   rfl
 refine LWP_cond rfl (fun h1 => ?_) (fun h1 => ?_)
 ·try simp only [bn, reduceCtorEq] at h1
  all_goals try (exfalso; omega)
  all_goals
   refine LWP_seq ?_
   apply LWP_run
   · repeat (simp -implicitDefEqProofs (maxSteps := 1000000) (disch := first | assumption | omega) [inE, Sg.w, sgT_1, h1]; try simp only [gz])
     rfl
   -- leaf 0
   refine LWP_ret ⟨_, rfl, ?_⟩
   refine wkV_of_eq ?_
   simp only [retV]
   all_goals
    exact absurd (by assumption) (by omega)
 ·try simp only [bn, reduceCtorEq] at h1
  all_goals try (exfalso; omega)
  all_goals
   refine LWP_skip ?_
   refine LWP_seq ?_
   refine LWP_seq ?_
   apply LWP_run
   · repeat (simp -implicitDefEqProofs (maxSteps := 1000000) (disch := first | assumption | omega) [inE, Sg.w, sgT_1, h1]; try simp only [gz])
     rfl
   refine LWP_block ?_
   refine LWP_for (fun (i : Nat) => [(0, .tsl 1 (l.map inE)), (10, .tsl 1 (l.map inE)), (11, .int .i64 (l.length : Nat)), (12, .int .i64 (i : Nat))]) (fun (i : Nat) => []) (fun (i : Nat) n => i ≤ l.length ∧ ∀ k, k < i → ∀ h : k < l.length, lvB l[k]) (fun (i : Nat) => l.length - i) 0 ?_ ?_ ?_ ?_
   · simp (maxSteps := 1000000) (disch := first | assumption | omega) [leV, get_e0, get_e1, wkV.refl, wkV_int, decT, decF, inE, Sg.w, sgT_1, h1]
   · simp [leH, get_e0, get_e1, h1]
   · exact ⟨Nat.zero_le _, fun k h => absurd h (Nat.not_lt_zero _)⟩
   rintro i n ⟨c1, c2⟩
   try simp only at *
   refine LWP_seq ?_
   apply LWP_run
   · repeat (simp -implicitDefEqProofs (maxSteps := 1000000) (disch := first | assumption | omega) [inE, Sg.w, sgT_1, h1]; try simp only [gz])
     rfl
   refine LWP_seq ?_
   refine LWP_cond rfl (fun h3 => ?_) (fun h3 => ?_)
   ·try simp only [bn, reduceCtorEq] at h3
    all_goals try (exfalso; omega)
    all_goals
     refine LWP_skip ?_
     refine LWP_seq ?_
     refine LWP_block ?_
     refine LWP_seq ?_
     apply LWP_run
     · repeat (simp -implicitDefEqProofs (maxSteps := 1000000) (disch := first | assumption | omega) [inE, Sg.w, sgT_1, h1, h3]; try simp only [gz])
       rfl
     refine LWP_seq ?_
     refine LWP_reg fun K hK => ?_
     apply rgnS_pre 3
     · repeat (simp -implicitDefEqProofs (maxSteps := 1000000) (disch := first | assumption | omega) [inE, Sg.w, sgT_1, h1, h3]; try simp only [gz])
       rfl
     refine rgnS_guard (x := 18) (b := false) rfl (fun h4 => ?_) (fun h4 => ?_)
     ·try simp only [bn, reduceCtorEq] at h4
      all_goals try (exfalso; omega)
      all_goals
       apply rgnS_pre 3
       · repeat (simp -implicitDefEqProofs (maxSteps := 1000000) (disch := first | assumption | omega) [inE, Sg.w, sgT_1, h1, h3, h4]; try simp only [gz])
         rfl
       refine hK _ ?_; clear hK
       refine LWP_cond rfl (fun h5 => ?_) (fun h5 => ?_)
       ·try simp only [bn, reduceCtorEq] at h5
        all_goals try (exfalso; omega)
        all_goals
         refine LWP_seq ?_
         apply LWP_run
         · repeat (simp -implicitDefEqProofs (maxSteps := 1000000) (disch := first | assumption | omega) [inE, Sg.w, sgT_1, h1, h3, h4, h5]; try simp only [gz])
           rfl
         -- leaf 1
         refine LWP_ret ⟨_, rfl, ?_⟩
         refine wkV_of_eq ?_
         simp only [retV]
         all_goals
          exact (lv_no ha (i := i) (by omega) (by omega)).elim
       ·try simp only [bn, reduceCtorEq] at h5
        all_goals try (exfalso; omega)
        all_goals
         refine LWP_skip ?_
         apply LWP_run
         · repeat (simp -implicitDefEqProofs (maxSteps := 1000000) (disch := first | assumption | omega) [inE, Sg.w, sgT_1, h1, h3, h4, h5]; try simp only [gz])
           rfl
         -- loop 0, round 0
         refine ⟨i + 1, ?_, ?_, ?_, ?_⟩
         · refine ⟨by omega, fun k hk hkl => ?_⟩
           rcases Nat.lt_or_ge k i with q | q
           · exact c2 k q hkl
           · have e : k = i := by omega
             subst e
             exact ⟨by omega, by omega⟩
         · omega
         · simp (maxSteps := 1000000) (disch := first | assumption | omega) [leV, get_e0, get_e1, wkV.refl, wkV_int, wrap_i64, decT, decF, inE, Sg.w, sgT_1, h1, h3, h4, h5]
         · simp [leH, get_e0, get_e1, h1, h3, h4, h5]
     ·try simp only [bn, reduceCtorEq] at h4
      all_goals try (exfalso; omega)
      all_goals
       apply rgnS_pre 2
       · repeat (simp -implicitDefEqProofs (maxSteps := 1000000) (disch := first | assumption | omega) [inE, Sg.w, sgT_1, h1, h3, h4]; try simp only [gz])
         rfl
       refine hK _ ?_; clear hK
       refine LWP_cond (t := true) (by simp [LArg.ev, get_e0, get_e1, h1, h3, h4]) (fun _ => ?_) (fun h => by cases h)
       refine LWP_seq ?_
       apply LWP_run
       · repeat (simp -implicitDefEqProofs (maxSteps := 1000000) (disch := first | assumption | omega) [inE, Sg.w, sgT_1, h1, h3, h4]; try simp only [gz])
         rfl
       -- leaf 2
       refine LWP_ret ⟨_, rfl, ?_⟩
       refine wkV_of_eq ?_
       simp only [retV]
       all_goals
        exact (lv_no ha (i := i) (by omega) (by omega)).elim
   ·try simp only [bn, reduceCtorEq] at h3
    all_goals try (exfalso; omega)
    all_goals
     refine LWP_exit ?_
     refine LWP_seq ?_
     apply LWP_run
     · repeat (simp -implicitDefEqProofs (maxSteps := 1000000) (disch := first | assumption | omega) [inE, Sg.w, sgT_1, h1, h3]; try simp only [gz])
       rfl
     refine LWP_seq ?_
     refine LWP_seq ?_
     apply LWP_run
     · repeat (simp -implicitDefEqProofs (maxSteps := 1000000) (disch := first | assumption | omega) [inE, Sg.w, sgT_1, h1, h3]; try simp only [gz])
       rfl
     refine LWP_block ?_
     refine LWP_for (fun (p : Nat × Nat) => [(0, .tsl 1 (l.map inE)), (5, .sl 3 p.2 0 (sgT l p.1).length), (6, .int .i64 (p.1 : Nat))]) (fun (p : Nat × Nat) => [(p.2, Blk.rows 3 ((sgT l p.1).map Sg.w))]) (fun (p : Nat × Nat) n => 1 ≤ p.1 ∧ p.1 ≤ 5 ∧ p.2 < n) (fun (p : Nat × Nat) => 5 - p.1) (1, n) ?_ ?_ ?_ ?_
     · simp (maxSteps := 1000000) (disch := first | assumption | omega) [leV, get_e0, get_e1, wkV.refl, wkV_int, decT, decF, inE, Sg.w, sgT_1, h1, h3]
       try rfl
     · simp [leH, get_e0, get_e1, h1, h3]
       try simp [sgT_1]
     · exact ⟨by simp, by simp, by simp only; omega⟩
     rintro ⟨j, b⟩ n ⟨d1, d2, d3⟩
     simp only at d1 d2 d3
     have hj : j = 1 ∨ j = 2 ∨ j = 3 ∨ j = 4 ∨ j = 5 := by omega
     have q1 := sgT_len l j
     have q4 := sgT_len l 4
     have q5 := sgT_len l 5
     have qr := (rowG_len (j : Int) l 0).1
     have qs : j * l.length ≤ 5 * l.length := Nat.mul_le_mul_right _ d2
     have hs := fun h => sgT_s l (j := j) h
     have g2 : ¬ b = n := by omega
     have g3 : ¬ n = b := by omega
     have hbn : b < n := by omega
     have gk : ∀ k, b < n + k := fun k => by omega
     have gj : ∀ k, ¬ n + k = b := fun k => by omega
     have gi : ∀ k, ¬ b = n + k := fun k => by omega
     have htk : List.take (sgT l j).length (List.map Sg.w (sgT l j)) = List.map Sg.w (sgT l j) := List.take_of_length_le (by simp)
     have hb24 : ((sgT l j).length + (rowG (j : Int) l 0 none).length) * 24 ≤ 17592186044416 := by omega
     refine LWP_seq ?_
     refine LWP_seq ?_
     apply LWP_run
     · repeat (simp -implicitDefEqProofs (maxSteps := 1000000) (disch := first | assumption | omega) [inE, Sg.w, sgT_1, h1, h3, g2, g3, hbn, gk, gj, gi, htk, hb24, hs]; try simp only [gz])
       rfl
     refine LWP_cond rfl (fun h7 => ?_) (fun h7 => ?_)
     ·try simp only [bn, reduceCtorEq] at h7
      all_goals try (exfalso; omega)
      all_goals
       refine LWP_skip ?_
       refine LWP_seq ?_
       refine LWP_block ?_
       refine LWP_reg fun K hK => ?_
       apply rgnS_pre 3
       · repeat (simp -implicitDefEqProofs (maxSteps := 1000000) (disch := first | assumption | omega) [inE, Sg.w, sgT_1, h1, h3, g2, g3, hbn, gk, gj, gi, htk, hb24, hs, h7]; try simp only [gz])
         rfl
       refine rgnS_call (row_ok l (j : Int) (by omega)) rfl rfl (by simp [pureL, pureR, AV.pure, inE, Sg.w, sgT_1, pureR_in, pureR_sg]) (by simp [pureL, pureR, AV.pure, inE, Sg.w, sgT_1, pureR_in, pureR_sg]) (by simp [gd, get_e0, get_e1, LArg.ev, h1, h3, g2, g3, hbn, gk, gj, gi, htk, hb24, hs, h7]) ?_
       apply rgnS_pre 2
       · repeat (simp -implicitDefEqProofs (maxSteps := 1000000) (disch := first | assumption | omega) [inE, Sg.w, sgT_1, h1, h3, g2, g3, hbn, gk, gj, gi, htk, hb24, hs, h7]; try simp only [gz])
         rfl
       refine hK _ ?_; clear hK
       apply LWP_run
       · repeat (simp -implicitDefEqProofs (maxSteps := 1000000) (disch := first | assumption | omega) [inE, Sg.w, sgT_1, h1, h3, g2, g3, hbn, gk, gj, gi, htk, hb24, hs, h7]; try simp only [gz])
         rfl
       -- loop 1, round 0
       refine ⟨(j + 1, n), ?_, ?_, ?_, ?_⟩
       · exact ⟨by simp only; omega, by simp only; omega, by simp only; omega⟩
       · simp only; omega
       · simp (maxSteps := 1000000) (disch := first | assumption | omega) [leV, get_e0, get_e1, wkV.refl, wkV_int, wrap_i64, decT, decF, inE, Sg.w, sgT_1, h1, h3, g2, g3, hbn, gk, gj, gi, htk, hb24, hs, h7]
       · simp [leH, get_e0, get_e1, h1, h3, g2, g3, hbn, gk, gj, gi, htk, hb24, hs, h7]
         try rw [hs (by omega), List.map_append]
     ·try simp only [bn, reduceCtorEq] at h7
      all_goals try (exfalso; omega)
      all_goals
       refine LWP_exit ?_
       refine LWP_seq ?_
       have ej : j = 5 := by omega
       subst ej
       refine LWP_deep [(5, .tsl 3 ((segs l).map Sg.w))] 5 ?_ ?_
       · simp only [deepL]
         rw [← sgT_5]
         exact ⟨⟨_, rfl, deep_rows (k := 3) (by simp [get_e1])⟩, trivial⟩
       apply LWP_run
       · repeat (simp -implicitDefEqProofs (maxSteps := 1000000) (disch := first | assumption | omega) [inE, Sg.w, sgT_1, h1, h3, g2, g3, hbn, gk, gj, gi, htk, hb24, hs, h7]; try simp only [gz])
         rfl
       -- leaf 3
       refine LWP_ret ⟨_, rfl, ?_⟩
       refine wkV_of_eq ?_
       simp only [retV]
       all_goals
        first | rfl | exact (lv_no ha (i := i) (by omega) (by omega)).elim
set_option maxHeartbeats 2000000 in
set_option maxRecDepth 20000 in
theorem seg_no (l : List Int) (k0 : Nat) (hl : l.length ≤ 300) (h0 : k0 < l.length) (hb : ¬ lvB l[k0]) : ACalls Go.Proofs.Tryz.prog 14 [.tsl 1 (l.map inE)] [] 0 (fun r _ _ => r = .nils) := by
 refine pure_body ok14 rfl ?_
 simp only [parV]
 refine LWP_seq ?_
 apply LWP_run
 · repeat (simp -implicitDefEqProofs (maxSteps := 1000000) (disch := first | assumption | omega) [inE, Sg.w, sgT_1]; try simp only [gz])
   rfl
 refine LWP_seq ?_
 refine LWP_seq ?_
 apply LWP_run
 · repeat (simp -implicitDefEqProofs (maxSteps := 1000000) (disch := first | assumption | omega) [inE, Sg.w, sgT_1]; try simp only [gz])
   rfl
 refine LWP_cond rfl (fun h1 => ?_) (fun h1 => ?_)
 ·try simp only [bn, reduceCtorEq] at h1
  all_goals try (exfalso; omega)
  all_goals
   refine LWP_seq ?_
   apply LWP_run
   · repeat (simp -implicitDefEqProofs (maxSteps := 1000000) (disch := first | assumption | omega) [inE, Sg.w, sgT_1, h1]; try simp only [gz])
     rfl
   -- leaf 0
   refine LWP_ret ⟨_, rfl, ?_⟩
   refine wkV_of_eq ?_
   simp only [retV]
   all_goals
    first | rfl | exact absurd (c2 k0 (by omega) h0) hb
 ·try simp only [bn, reduceCtorEq] at h1
  all_goals try (exfalso; omega)
  all_goals
   refine LWP_skip ?_
   refine LWP_seq ?_
   refine LWP_seq ?_
   apply LWP_run
   · repeat (simp -implicitDefEqProofs (maxSteps := 1000000) (disch := first | assumption | omega) [inE, Sg.w, sgT_1, h1]; try simp only [gz])
     rfl
   refine LWP_block ?_
   refine LWP_for (fun (i : Nat) => [(0, .tsl 1 (l.map inE)), (10, .tsl 1 (l.map inE)), (11, .int .i64 (l.length : Nat)), (12, .int .i64 (i : Nat))]) (fun (i : Nat) => []) (fun (i : Nat) n => i ≤ l.length ∧ ∀ k, k < i → ∀ h : k < l.length, lvB l[k]) (fun (i : Nat) => l.length - i) 0 ?_ ?_ ?_ ?_
   · simp (maxSteps := 1000000) (disch := first | assumption | omega) [leV, get_e0, get_e1, wkV.refl, wkV_int, decT, decF, inE, Sg.w, sgT_1, h1]
   · simp [leH, get_e0, get_e1, h1]
   · exact ⟨Nat.zero_le _, fun k h => absurd h (Nat.not_lt_zero _)⟩
   rintro i n ⟨c1, c2⟩
   try simp only at *
   refine LWP_seq ?_
   apply LWP_run
   · repeat (simp -implicitDefEqProofs (maxSteps := 1000000) (disch := first | assumption | omega) [inE, Sg.w, sgT_1, h1]; try simp only [gz])
     rfl
   refine LWP_seq ?_
   refine LWP_cond rfl (fun h3 => ?_) (fun h3 => ?_)
   ·try simp only [bn, reduceCtorEq] at h3
    all_goals try (exfalso; omega)
    all_goals
     refine LWP_skip ?_
     refine LWP_seq ?_
     refine LWP_block ?_
     refine LWP_seq ?_
     apply LWP_run
     · repeat (simp -implicitDefEqProofs (maxSteps := 1000000) (disch := first | assumption | omega) [inE, Sg.w, sgT_1, h1, h3]; try simp only [gz])
       rfl
     refine LWP_seq ?_
     refine LWP_reg fun K hK => ?_
     apply rgnS_pre 3
     · repeat (simp -implicitDefEqProofs (maxSteps := 1000000) (disch := first | assumption | omega) [inE, Sg.w, sgT_1, h1, h3]; try simp only [gz])
       rfl
     refine rgnS_guard (x := 18) (b := false) rfl (fun h4 => ?_) (fun h4 => ?_)
     ·try simp only [bn, reduceCtorEq] at h4
      all_goals try (exfalso; omega)
      all_goals
       apply rgnS_pre 3
       · repeat (simp -implicitDefEqProofs (maxSteps := 1000000) (disch := first | assumption | omega) [inE, Sg.w, sgT_1, h1, h3, h4]; try simp only [gz])
         rfl
       refine hK _ ?_; clear hK
       refine LWP_cond rfl (fun h5 => ?_) (fun h5 => ?_)
       ·try simp only [bn, reduceCtorEq] at h5
        all_goals try (exfalso; omega)
        all_goals
         refine LWP_seq ?_
         apply LWP_run
         · repeat (simp -implicitDefEqProofs (maxSteps := 1000000) (disch := first | assumption | omega) [inE, Sg.w, sgT_1, h1, h3, h4, h5]; try simp only [gz])
           rfl
         -- leaf 1
         refine LWP_ret ⟨_, rfl, ?_⟩
         refine wkV_of_eq ?_
         simp only [retV]
         all_goals
          first | rfl | exact absurd (c2 k0 (by omega) h0) hb
       ·try simp only [bn, reduceCtorEq] at h5
        all_goals try (exfalso; omega)
        all_goals
         refine LWP_skip ?_
         apply LWP_run
         · repeat (simp -implicitDefEqProofs (maxSteps := 1000000) (disch := first | assumption | omega) [inE, Sg.w, sgT_1, h1, h3, h4, h5]; try simp only [gz])
           rfl
         -- loop 0, round 0
         refine ⟨i + 1, ?_, ?_, ?_, ?_⟩
         · refine ⟨by omega, fun k hk hkl => ?_⟩
           rcases Nat.lt_or_ge k i with q | q
           · exact c2 k q hkl
           · have e : k = i := by omega
             subst e
             exact ⟨by omega, by omega⟩
         · omega
         · simp (maxSteps := 1000000) (disch := first | assumption | omega) [leV, get_e0, get_e1, wkV.refl, wkV_int, wrap_i64, decT, decF, inE, Sg.w, sgT_1, h1, h3, h4, h5]
         · simp [leH, get_e0, get_e1, h1, h3, h4, h5]
     ·try simp only [bn, reduceCtorEq] at h4
      all_goals try (exfalso; omega)
      all_goals
       apply rgnS_pre 2
       · repeat (simp -implicitDefEqProofs (maxSteps := 1000000) (disch := first | assumption | omega) [inE, Sg.w, sgT_1, h1, h3, h4]; try simp only [gz])
         rfl
       refine hK _ ?_; clear hK
       refine LWP_cond (t := true) (by simp [LArg.ev, get_e0, get_e1, h1, h3, h4]) (fun _ => ?_) (fun h => by cases h)
       refine LWP_seq ?_
       apply LWP_run
       · repeat (simp -implicitDefEqProofs (maxSteps := 1000000) (disch := first | assumption | omega) [inE, Sg.w, sgT_1, h1, h3, h4]; try simp only [gz])
         rfl
       -- leaf 2
       refine LWP_ret ⟨_, rfl, ?_⟩
       refine wkV_of_eq ?_
       simp only [retV]
       all_goals
        first | rfl | exact absurd (c2 k0 (by omega) h0) hb
   ·try simp only [bn, reduceCtorEq] at h3
    all_goals try (exfalso; omega)
    all_goals
     refine LWP_exit ?_
     refine LWP_seq ?_
     apply LWP_run
     · repeat (simp -implicitDefEqProofs (maxSteps := 1000000) (disch := first | assumption | omega) [inE, Sg.w, sgT_1, h1, h3]; try simp only [gz])
       rfl
     refine LWP_seq ?_
     refine LWP_seq ?_
     apply LWP_run
     · repeat (simp -implicitDefEqProofs (maxSteps := 1000000) (disch := first | assumption | omega) [inE, Sg.w, sgT_1, h1, h3]; try simp only [gz])
       rfl
     refine LWP_block ?_
     refine LWP_for (fun (p : Nat × Nat) => [(0, .tsl 1 (l.map inE)), (5, .sl 3 p.2 0 (sgT l p.1).length), (6, .int .i64 (p.1 : Nat))]) (fun (p : Nat × Nat) => [(p.2, Blk.rows 3 ((sgT l p.1).map Sg.w))]) (fun (p : Nat × Nat) n => 1 ≤ p.1 ∧ p.1 ≤ 5 ∧ p.2 < n) (fun (p : Nat × Nat) => 5 - p.1) (1, n) ?_ ?_ ?_ ?_
     · simp (maxSteps := 1000000) (disch := first | assumption | omega) [leV, get_e0, get_e1, wkV.refl, wkV_int, decT, decF, inE, Sg.w, sgT_1, h1, h3]
       try rfl
     · simp [leH, get_e0, get_e1, h1, h3]
       try simp [sgT_1]
     · exact ⟨by simp, by simp, by simp only; omega⟩
     rintro ⟨j, b⟩ n ⟨d1, d2, d3⟩
     simp only at d1 d2 d3
     have hj : j = 1 ∨ j = 2 ∨ j = 3 ∨ j = 4 ∨ j = 5 := by omega
     have q1 := sgT_len l j
     have q4 := sgT_len l 4
     have q5 := sgT_len l 5
     have qr := (rowG_len (j : Int) l 0).1
     have qs : j * l.length ≤ 5 * l.length := Nat.mul_le_mul_right _ d2
     have hs := fun h => sgT_s l (j := j) h
     have g2 : ¬ b = n := by omega
     have g3 : ¬ n = b := by omega
     have hbn : b < n := by omega
     have gk : ∀ k, b < n + k := fun k => by omega
     have gj : ∀ k, ¬ n + k = b := fun k => by omega
     have gi : ∀ k, ¬ b = n + k := fun k => by omega
     have htk : List.take (sgT l j).length (List.map Sg.w (sgT l j)) = List.map Sg.w (sgT l j) := List.take_of_length_le (by simp)
     have hb24 : ((sgT l j).length + (rowG (j : Int) l 0 none).length) * 24 ≤ 17592186044416 := by omega
     refine LWP_seq ?_
     refine LWP_seq ?_
     apply LWP_run
     · repeat (simp -implicitDefEqProofs (maxSteps := 1000000) (disch := first | assumption | omega) [inE, Sg.w, sgT_1, h1, h3, g2, g3, hbn, gk, gj, gi, htk, hb24, hs]; try simp only [gz])
       rfl
     refine LWP_cond rfl (fun h7 => ?_) (fun h7 => ?_)
     ·try simp only [bn, reduceCtorEq] at h7
      all_goals try (exfalso; omega)
      all_goals
       refine LWP_skip ?_
       refine LWP_seq ?_
       refine LWP_block ?_
       refine LWP_reg fun K hK => ?_
       apply rgnS_pre 3
       · repeat (simp -implicitDefEqProofs (maxSteps := 1000000) (disch := first | assumption | omega) [inE, Sg.w, sgT_1, h1, h3, g2, g3, hbn, gk, gj, gi, htk, hb24, hs, h7]; try simp only [gz])
         rfl
       refine rgnS_call (row_ok l (j : Int) (by omega)) rfl rfl (by simp [pureL, pureR, AV.pure, inE, Sg.w, sgT_1, pureR_in, pureR_sg]) (by simp [pureL, pureR, AV.pure, inE, Sg.w, sgT_1, pureR_in, pureR_sg]) (by simp [gd, get_e0, get_e1, LArg.ev, h1, h3, g2, g3, hbn, gk, gj, gi, htk, hb24, hs, h7]) ?_
       apply rgnS_pre 2
       · repeat (simp -implicitDefEqProofs (maxSteps := 1000000) (disch := first | assumption | omega) [inE, Sg.w, sgT_1, h1, h3, g2, g3, hbn, gk, gj, gi, htk, hb24, hs, h7]; try simp only [gz])
         rfl
       refine hK _ ?_; clear hK
       apply LWP_run
       · repeat (simp -implicitDefEqProofs (maxSteps := 1000000) (disch := first | assumption | omega) [inE, Sg.w, sgT_1, h1, h3, g2, g3, hbn, gk, gj, gi, htk, hb24, hs, h7]; try simp only [gz])
         rfl
       -- loop 1, round 0
       refine ⟨(j + 1, n), ?_, ?_, ?_, ?_⟩
       · exact ⟨by simp only; omega, by simp only; omega, by simp only; omega⟩
       · simp only; omega
       · simp (maxSteps := 1000000) (disch := first | assumption | omega) [leV, get_e0, get_e1, wkV.refl, wkV_int, wrap_i64, decT, decF, inE, Sg.w, sgT_1, h1, h3, g2, g3, hbn, gk, gj, gi, htk, hb24, hs, h7]
       · simp [leH, get_e0, get_e1, h1, h3, g2, g3, hbn, gk, gj, gi, htk, hb24, hs, h7]
         try rw [hs (by omega), List.map_append]
     ·try simp only [bn, reduceCtorEq] at h7
      all_goals try (exfalso; omega)
      all_goals
       refine LWP_exit ?_
       refine LWP_seq ?_
       have ej : j = 5 := by omega
       subst ej
       refine LWP_deep [(5, .tsl 3 ((segs l).map Sg.w))] 5 ?_ ?_
       · simp only [deepL]
         rw [← sgT_5]
         exact ⟨⟨_, rfl, deep_rows (k := 3) (by simp [get_e1])⟩, trivial⟩
       apply LWP_run
       · repeat (simp -implicitDefEqProofs (maxSteps := 1000000) (disch := first | assumption | omega) [inE, Sg.w, sgT_1, h1, h3, g2, g3, hbn, gk, gj, gi, htk, hb24, hs, h7]; try simp only [gz])
         rfl
       -- leaf 3
       refine LWP_ret ⟨_, rfl, ?_⟩
       refine wkV_of_eq ?_
       simp only [retV]
       all_goals
        first | rfl | exact absurd (c2 k0 (by omega) h0) hb
end

end Go.AM.Bm
