/- A part of a proof about the given program: what its name says. No premise beyond the statements'. -/
import Derived.Test.YtjmcolfdpbohpaaGreatBmCode
import Derived.Test.YtjmcolfdpbohpaaGreatFD
import Derived.Test.YtjmcolfdpbohpaaGreatLineP
import Derived.Test.YtjmcolfdpbohpaaGreatBeamQ
set_option linter.unusedSimpArgs false
set_option linter.unusedVariables false
/- The beams of one level; all that are drawn. -/
namespace Go.AM.Bm
open Go.AM
open Go.AM.BeamQ
theorem beqG {a b : Int} (h : a ≠ b) : (a == b) = false := by simp [h]
theorem beqU {a b : Int} (h : a = b) : (a == b) = true := by simp [h]
theorem pureR_in (l : List Int) : pureR (l.map inE) = true := LineP.pure_map (fun x => by simp [inE, pureL, AV.pure]) l
theorem pureR_sg (l : List Sg) : pureR (l.map Sg.w) = true := LineP.pure_map (fun x => by simp [Sg.w, pureL, AV.pure]) l
theorem deep_sg {H : Heap} {m : Nat} : ∀ (l : List Sg), mapO (mapO (deepV H (m + 1))) (l.map Sg.w) = some (l.map Sg.w)
  | [] => rfl
  | s :: l => by
    have e : mapO (deepV H (m + 1)) s.w = some s.w := rfl
    simp only [List.map_cons, mapO, e, deep_sg l]
theorem deep_rows {H : Heap} {b k : Nat} {l : List Sg} (hb : get H b = some (.rows 3 (l.map Sg.w))) : deepV H (k + 2) (.sl 3 b 0 l.length) = some (.tsl 3 (l.map Sg.w)) := by
  refine deepV_sl hb (by simp) ?_
  rw [List.drop_zero, List.take_of_length_le (by simp)]
  exact deep_sg l

section
attribute [local simp ↓] List.map_nil List.map_cons
attribute [local simp] m_ o_ g_ stepsS stepS gd opEff appEff LArg.ev app_val app_new app_upd app_kill putV ins_e0 ins_e1 get_e0 get_e1 binV binI grd bnd ldCells AV.cells AV.scalar AV.known setAt fillL chunks elems mxI mnI del Nat.add_assoc nlt_self nne_self nne_self' List.take_of_length_le decT decF wrap_i64 stepsD stepD ST.as dEffF LOp.cls softOK LOp.args LOp.rds AV.ids appD_val appD_new appD_upd appD_kill AS.flush delAll
set_option maxHeartbeats 2000000 in
set_option maxRecDepth 20000 in
theorem row_ok (l : List Int) (v : Int) (hl : l.length ≤ 4096) : ACalls Go.Proofs.Tryz.prog 28 [.tsl 1 (l.map inE), .int .i64 v] [] 0 (fun r _ _ => r = .tsl 3 ((rowG v l 0 none).map Sg.w)) := by
 refine pure_body ok28 rfl ?_
 simp only [parV]
 refine LWP_seq ?_
 apply LWP_run
 · repeat (simp -implicitDefEqProofs (maxSteps := 1000000) (disch := first | assumption | omega) [inE, Sg.w]; try simp only [gz])
   rfl
 refine LWP_seq ?_
 apply LWP_run
 · repeat (simp -implicitDefEqProofs (maxSteps := 1000000) (disch := first | assumption | omega) [inE, Sg.w]; try simp only [gz])
   rfl
 refine LWP_seq ?_
 refine LWP_seq ?_
 apply LWP_run
 · repeat (simp -implicitDefEqProofs (maxSteps := 1000000) (disch := first | assumption | omega) [inE, Sg.w]; try simp only [gz])
   rfl
 refine LWP_block ?_
 refine LWP_for (fun (p : Nat × Nat × List Sg) => [(0, .tsl 1 (l.map inE)), (1, .int .i64 v), (5, .sl 3 p.2.1 0 p.2.2.length), (6, .int .i64 (p.1 : Nat))]) (fun (p : Nat × Nat × List Sg) => [(p.2.1, Blk.rows 3 (p.2.2.map Sg.w))]) (fun (p : Nat × Nat × List Sg) n => p.1 ≤ l.length ∧ p.2.1 < n ∧ rowG v l 0 none = p.2.2 ++ rowG v (l.drop p.1) p.1 none ∧ p.2.2.length ≤ p.1) (fun (p : Nat × Nat × List Sg) => l.length - p.1) (0, 0, []) ?_ ?_ ?_ ?_
 · simp (maxSteps := 1000000) (disch := first | assumption | omega) [leV, get_e0, get_e1, wkV.refl, wkV_int, decT, decF, inE, Sg.w]
   try rfl
 · simp [leH, get_e0, get_e1]
   try rfl
 · exact ⟨Nat.zero_le _, by simp, by simp, by simp⟩
 rintro ⟨i, b, o⟩ n ⟨c1, c2, c3, c4⟩
 simp only at c1 c2 c3 c4
 have htk : List.take o.length (List.map Sg.w o) = List.map Sg.w o := List.take_of_length_le (by simp)
 have hb24 : (o.length + 1) * 24 ≤ 17592186044416 := by omega
 have gk : ∀ k, b < n + k := fun k => by omega
 have gj : ∀ k, ¬ n + k = b := fun k => by omega
 have gi : ∀ k, ¬ b = n + k := fun k => by omega
 have g2 : ¬ b = n := by omega
 have g3 : ¬ n = b := by omega
 have hbn : b < n := by omega
 refine LWP_seq ?_
 refine LWP_seq ?_
 apply LWP_run
 · repeat (simp -implicitDefEqProofs (maxSteps := 1000000) (disch := first | assumption | omega) [inE, Sg.w, htk, hb24, gk, gj, gi, g2, g3, hbn]; try simp only [gz])
   rfl
 refine LWP_cond rfl (fun h2 => ?_) (fun h2 => ?_)
 ·try simp only [bn, reduceCtorEq] at h2
  all_goals try (exfalso; omega)
  all_goals
   refine LWP_skip ?_
   refine LWP_seq ?_
   refine LWP_block ?_
   refine LWP_seq ?_
   refine LWP_seq ?_
   apply LWP_run
   · repeat (simp -implicitDefEqProofs (maxSteps := 1000000) (disch := first | assumption | omega) [inE, Sg.w, htk, hb24, gk, gj, gi, g2, g3, hbn, h2]; try simp only [gz])
     rfl
   refine LWP_cond rfl (fun h3 => ?_) (fun h3 => ?_)
   ·try simp only [bn, reduceCtorEq] at h3
    all_goals try (exfalso; omega)
    all_goals
     refine LWP_exit ?_
     apply LWP_run
     · repeat (simp -implicitDefEqProofs (maxSteps := 1000000) (disch := first | assumption | omega) [inE, Sg.w, htk, hb24, gk, gj, gi, g2, g3, hbn, h2, h3]; try simp only [gz])
       rfl
     -- loop 0, round 0
     refine ⟨(i + 1, b, o), ?_, ?_, ?_, ?_⟩
     · refine ⟨by simp only; omega, by simp only; omega, ?_, by simp only; omega⟩
       simp only
       rw [c3, rowG_skip (by omega) (by omega)]
     · simp only; omega
     · simp (maxSteps := 1000000) (disch := first | assumption | omega) [leV, get_e0, get_e1, wkV.refl, wkV_int, wrap_i64, decT, decF, inE, Sg.w, htk, hb24, gk, gj, gi, g2, g3, hbn, h2, h3]
     · simp [leH, get_e0, get_e1, htk, hb24, gk, gj, gi, g2, g3, hbn, h2, h3]
       try simp [Sg.w]
   ·try simp only [bn, reduceCtorEq] at h3
    all_goals try (exfalso; omega)
    all_goals
     refine LWP_skip ?_
     refine LWP_seq ?_
     apply LWP_run
     · repeat (simp -implicitDefEqProofs (maxSteps := 1000000) (disch := first | assumption | omega) [inE, Sg.w, htk, hb24, gk, gj, gi, g2, g3, hbn, h2, h3]; try simp only [gz])
       rfl
     refine LWP_seq ?_
     refine LWP_block ?_
     refine LWP_for (fun (k : Nat) => [(0, .tsl 1 (l.map inE)), (1, .int .i64 v), (5, .sl 3 b 0 o.length), (6, .int .i64 (k : Nat)), (7, .int .i64 (i : Nat))]) (fun (k : Nat) => [(b, Blk.rows 3 (o.map Sg.w))]) (fun (k : Nat) n2 => i ≤ k ∧ k < l.length ∧ rowG v l 0 none = o ++ rowG v (l.drop (k + 1)) (k + 1) (some i) ∧ b < n2) (fun (k : Nat) => l.length - k) i ?_ ?_ ?_ ?_
     · simp (maxSteps := 1000000) (disch := first | assumption | omega) [leV, get_e0, get_e1, wkV.refl, wkV_int, decT, decF, inE, Sg.w, htk, hb24, gk, gj, gi, g2, g3, hbn, h2, h3]
       try rfl
     · simp [leH, get_e0, get_e1, htk, hb24, gk, gj, gi, g2, g3, hbn, h2, h3]
       try rfl
     · exact ⟨Nat.le_refl _, by omega, by rw [c3, rowG_open (by omega) (by omega)], by first | omega | (simp only; omega)⟩
     rintro k n2 ⟨d1, d2, d3, d4⟩
     clear htk hb24 gk gj gi g2 g3 hbn
     have htk : List.take o.length (List.map Sg.w o) = List.map Sg.w o := List.take_of_length_le (by simp)
     have hb24 : (o.length + 1) * 24 ≤ 17592186044416 := by omega
     have gk : ∀ k, b < n2 + k := fun k => by omega
     have gj : ∀ k, ¬ n2 + k = b := fun k => by omega
     have gi : ∀ k, ¬ b = n2 + k := fun k => by omega
     have g2 : ¬ b = n2 := by omega
     have g3 : ¬ n2 = b := by omega
     have hbn : b < n2 := by omega
     refine LWP_seq ?_
     refine LWP_seq ?_
     refine LWP_reg fun K hK => ?_
     apply rgnS_pre 6
     · repeat (simp -implicitDefEqProofs (maxSteps := 1000000) (disch := first | assumption | omega) [inE, Sg.w, htk, hb24, gk, gj, gi, g2, g3, hbn, h2, h3, htk, hb24, gk, gj, gi, g2, g3, hbn]; try simp only [gz])
       rfl
     refine rgnS_guard (x := 26) (b := true) rfl (fun h5 => ?_) (fun h5 => ?_)
     ·try simp only [bn, reduceCtorEq] at h5
      all_goals try (exfalso; omega)
      all_goals
       apply rgnS_pre 8
       · repeat (simp -implicitDefEqProofs (maxSteps := 1000000) (disch := first | assumption | omega) [inE, Sg.w, htk, hb24, gk, gj, gi, g2, g3, hbn, h2, h3, htk, hb24, gk, gj, gi, g2, g3, hbn, h5]; try simp only [gz])
         rfl
       refine hK _ ?_; clear hK
       refine LWP_cond rfl (fun h6 => ?_) (fun h6 => ?_)
       ·try simp only [bn, reduceCtorEq] at h6
        all_goals try (exfalso; omega)
        all_goals
         refine LWP_skip ?_
         refine LWP_block ?_
         apply LWP_run
         · repeat (simp -implicitDefEqProofs (maxSteps := 1000000) (disch := first | assumption | omega) [inE, Sg.w, htk, hb24, gk, gj, gi, g2, g3, hbn, h2, h3, htk, hb24, gk, gj, gi, g2, g3, hbn, h5, h6]; try simp only [gz])
           rfl
         -- loop 1, round 0
         refine ⟨k + 1, ?_, ?_, ?_, ?_⟩
         · exact ⟨by omega, by omega, by rw [d3, rowG_go (by omega) (by omega)], by first | omega | (simp only; omega)⟩
         · omega
         · simp (maxSteps := 1000000) (disch := first | assumption | omega) [leV, get_e0, get_e1, wkV.refl, wkV_int, wrap_i64, decT, decF, inE, Sg.w, htk, hb24, gk, gj, gi, g2, g3, hbn, h2, h3, htk, hb24, gk, gj, gi, g2, g3, hbn, h5, h6]
         · simp [leH, get_e0, get_e1, htk, hb24, gk, gj, gi, g2, g3, hbn, h2, h3, htk, hb24, gk, gj, gi, g2, g3, hbn, h5, h6]
           try rfl
       ·try simp only [bn, reduceCtorEq] at h6
        all_goals try (exfalso; omega)
        all_goals
         refine LWP_exit ?_
         apply LWP_run
         · repeat (simp -implicitDefEqProofs (maxSteps := 1000000) (disch := first | assumption | omega) [inE, Sg.w, htk, hb24, gk, gj, gi, g2, g3, hbn, h2, h3, htk, hb24, gk, gj, gi, g2, g3, hbn, h5, h6]; try simp only [gz])
           rfl
         apply LWP_run
         · repeat (simp -implicitDefEqProofs (maxSteps := 1000000) (disch := first | assumption | omega) [inE, Sg.w, htk, hb24, gk, gj, gi, g2, g3, hbn, h2, h3, htk, hb24, gk, gj, gi, g2, g3, hbn, h5, h6]; try simp only [gz])
           rfl
         -- loop 0, round 1
         refine ⟨(k + 1, n2, o ++ [⟨v, i, k⟩]), ?_, ?_, ?_, ?_⟩
         · refine ⟨by simp only; omega, by simp only; omega, ?_, by simp only [List.length_append, List.length_cons, List.length_nil]; omega⟩
           simp only
           rw [d3, rowG_stop (fun _ => by omega)]
           simp
         · simp only; omega
         · simp (maxSteps := 1000000) (disch := first | assumption | omega) [leV, get_e0, get_e1, wkV.refl, wkV_int, wrap_i64, decT, decF, inE, Sg.w, htk, hb24, gk, gj, gi, g2, g3, hbn, h2, h3, htk, hb24, gk, gj, gi, g2, g3, hbn, h5, h6]
         · simp [leH, get_e0, get_e1, htk, hb24, gk, gj, gi, g2, g3, hbn, h2, h3, htk, hb24, gk, gj, gi, g2, g3, hbn, h5, h6]
           try simp [Sg.w]
     ·try simp only [bn, reduceCtorEq] at h5
      all_goals try (exfalso; omega)
      all_goals
       apply rgnS_pre 7
       · repeat (simp -implicitDefEqProofs (maxSteps := 1000000) (disch := first | assumption | omega) [inE, Sg.w, htk, hb24, gk, gj, gi, g2, g3, hbn, h2, h3, htk, hb24, gk, gj, gi, g2, g3, hbn, h5]; try simp only [gz])
         rfl
       refine hK _ ?_; clear hK
       refine LWP_cond (t := false) (by simp [LArg.ev, get_e0, get_e1, htk, hb24, gk, gj, gi, g2, g3, hbn, h2, h3, htk, hb24, gk, gj, gi, g2, g3, hbn, h5]) (fun h => by cases h) (fun _ => ?_)
       refine LWP_exit ?_
       apply LWP_run
       · repeat (simp -implicitDefEqProofs (maxSteps := 1000000) (disch := first | assumption | omega) [inE, Sg.w, htk, hb24, gk, gj, gi, g2, g3, hbn, h2, h3, htk, hb24, gk, gj, gi, g2, g3, hbn, h5]; try simp only [gz])
         rfl
       apply LWP_run
       · repeat (simp -implicitDefEqProofs (maxSteps := 1000000) (disch := first | assumption | omega) [inE, Sg.w, htk, hb24, gk, gj, gi, g2, g3, hbn, h2, h3, htk, hb24, gk, gj, gi, g2, g3, hbn, h5]; try simp only [gz])
         rfl
       -- loop 0, round 2
       refine ⟨(k + 1, n2, o ++ [⟨v, i, k⟩]), ?_, ?_, ?_, ?_⟩
       · refine ⟨by simp only; omega, by simp only; omega, ?_, by simp only [List.length_append, List.length_cons, List.length_nil]; omega⟩
         simp only
         rw [d3, rowG_stop (fun _ => by omega)]
         simp
       · simp only; omega
       · simp (maxSteps := 1000000) (disch := first | assumption | omega) [leV, get_e0, get_e1, wkV.refl, wkV_int, wrap_i64, decT, decF, inE, Sg.w, htk, hb24, gk, gj, gi, g2, g3, hbn, h2, h3, htk, hb24, gk, gj, gi, g2, g3, hbn, h5]
       · simp [leH, get_e0, get_e1, htk, hb24, gk, gj, gi, g2, g3, hbn, h2, h3, htk, hb24, gk, gj, gi, g2, g3, hbn, h5]
         try simp [Sg.w]
 ·try simp only [bn, reduceCtorEq] at h2
  all_goals try (exfalso; omega)
  all_goals
   refine LWP_exit ?_
   refine LWP_seq ?_
   have ei : i = l.length := by omega
   subst ei
   rw [rowG_end (Nat.le_refl _), List.append_nil] at c3
   rw [c3]
   refine LWP_deep [(5, .tsl 3 (o.map Sg.w))] 5 ?_ ?_
   · simp only [deepL]
     exact ⟨⟨_, rfl, deep_rows (k := 3) (by simp [get_e1])⟩, trivial⟩
   apply LWP_run
   · repeat (simp -implicitDefEqProofs (maxSteps := 1000000) (disch := first | assumption | omega) [inE, Sg.w, htk, hb24, gk, gj, gi, g2, g3, hbn, h2]; try simp only [gz])
     rfl
   -- leaf 0
   refine LWP_ret ⟨_, rfl, ?_⟩
   refine wkV_of_eq ?_
   simp only [retV]
   all_goals
    rfl
end

end Go.AM.Bm
