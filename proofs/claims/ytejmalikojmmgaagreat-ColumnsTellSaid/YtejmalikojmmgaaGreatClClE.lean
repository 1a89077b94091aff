/- A part of a proof about the given program: what its name says. No premise beyond the statements'. -/
import Derived.Test.YtejmalikojmmgaaGreatClClB
set_option linter.unusedSimpArgs false
set_option linter.unusedVariables false
/- What a column has of a staff, told by the document. -/
namespace Go.AM.Cl
open Go.AM
open Go.AM.LineP

section
attribute [local simp ↓] List.map_nil List.map_cons
attribute [local simp] m_ o_ g_ stepsS stepS gd opEff appEff LArg.ev app_val app_new app_upd app_kill putV ins_e0 ins_e1 get_e0 get_e1 binV binI grd bnd ldCells AV.cells AV.scalar AV.known setAt fillL chunks elems mxI mnI del Nat.add_assoc nlt_self nne_self nne_self' List.take_of_length_le decT decF wrap_i64 stepsD stepD ST.as dEffF LOp.cls softOK LOp.args LOp.rds AV.ids appD_val appD_new appD_upd appD_kill AS.flush delAll
set_option maxHeartbeats 2000000 in
set_option maxRecDepth 20000 in
theorem rstaff_ok (c : Cl) (ls : List Ln) (st : Int) (hc : c.r.length ≤ 300) : ACalls Go.Proofs.Tryz.prog 13 [.agg c.e, .tsl 7 (ls.map Ln.e), .int .i64 st] [] 0 (fun r _ _ => r = .tsl 2 ((c.r.filter (thB ls st)).map Rf.v)) := by
 refine pure_body ok13 rfl ?_
 simp only [parV]
 refine LWP_seq ?_
 apply LWP_run
 · repeat (simp -implicitDefEqProofs (maxSteps := 1000000) (disch := first | assumption | omega) [Cl.e, Rf.v, Ln.e, fT_0]; try simp only [gz])
   rfl
 refine LWP_seq ?_
 apply LWP_run
 · repeat (simp -implicitDefEqProofs (maxSteps := 1000000) (disch := first | assumption | omega) [Cl.e, Rf.v, Ln.e, fT_0]; try simp only [gz])
   rfl
 refine LWP_seq ?_
 refine LWP_seq ?_
 apply LWP_run
 · repeat (simp -implicitDefEqProofs (maxSteps := 1000000) (disch := first | assumption | omega) [Cl.e, Rf.v, Ln.e, fT_0]; try simp only [gz])
   rfl
 refine LWP_block ?_
 refine LWP_for (fun (p : Nat × Nat) => [(1, .tsl 7 (ls.map Ln.e)), (2, .int .i64 st), (3, .ptr 5 0 0 0), (7, .sl 2 p.2 0 (fT ls st c.r p.1).length), (8, .int .i64 (p.1 : Nat))]) (fun (p : Nat × Nat) => [(p.2, Blk.rows 2 ((fT ls st c.r p.1).map Rf.v)), (0, Blk.rows 5 [c.e])]) (fun (p : Nat × Nat) n => p.1 ≤ c.r.length ∧ p.2 < n ∧ 0 < p.2) (fun (p : Nat × Nat) => c.r.length - p.1) (0, 1) ?_ ?_ ?_ ?_
 · simp (maxSteps := 1000000) (disch := first | assumption | omega) [leV, get_e0, get_e1, wkV.refl, wkV_int, decT, decF, Cl.e, Rf.v, Ln.e, fT_0]
   try rfl
 · simp [leH, get_e0, get_e1]
   try exact ⟨fT_0 _ _ _, rfl⟩
 · exact ⟨Nat.zero_le _, by simp, by simp⟩
 rintro ⟨i, b⟩ n ⟨c1, c2, c3⟩
 simp only at c1 c2 c3
 have g6 : ¬ b = 0 := by omega
 have g7 : ¬ 0 = b := by omega
 have g8 : 0 < n := by omega
 have g9 : ¬ n = 0 := by omega
 have sl := fT_len ls st c.r i
 have fy := fun hi hx => fT_yes (ls := ls) (st := st) (R := c.r) (i := i) hi hx
 have fn := fun hi hx => fT_no (ls := ls) (st := st) (R := c.r) (i := i) hi hx
 have fy2 := fun hi a b d e f => fT_y2 (ls := ls) (st := st) (R := c.r) (i := i) hi a b d e f
 have fn1 := fun hi a => fT_n1 (ls := ls) (st := st) (R := c.r) (i := i) hi a
 have fn2 := fun hi a b => fT_n2 (ls := ls) (st := st) (R := c.r) (i := i) hi a b
 have g2 : ¬ b = n := by omega
 have g3 : ¬ n = b := by omega
 have gk : ∀ k, b < n + k := fun k => by omega
 have gj : ∀ k, ¬ n + k = b := fun k => by omega
 have gi : ∀ k, ¬ b = n + k := fun k => by omega
 have hbn : b < n := by omega
 have htk : List.take (fT ls st c.r i).length (List.map Rf.v (fT ls st c.r i)) = List.map Rf.v (fT ls st c.r i) := List.take_of_length_le (by simp)
 have hb24 : ((fT ls st c.r i).length + 1) * 16 ≤ 17592186044416 := by omega
 refine LWP_seq ?_
 refine LWP_seq ?_
 apply LWP_run
 · repeat (simp -implicitDefEqProofs (maxSteps := 1000000) (disch := first | assumption | omega) [Cl.e, Rf.v, Ln.e, fT_0, g6, g7, g8, g9, g2, g3, gk, gj, gi, hbn, htk, hb24, fy, fn, fy2, fn1, fn2, beqF, beqT]; try simp only [gz])
   rfl
 refine LWP_cond rfl (fun h2 => ?_) (fun h2 => ?_)
 ·try simp only [bn, reduceCtorEq] at h2
  all_goals try (exfalso; omega)
  all_goals
   refine LWP_skip ?_
   refine LWP_seq ?_
   refine LWP_block ?_
   refine LWP_seq ?_
   apply LWP_run
   · repeat (simp -implicitDefEqProofs (maxSteps := 1000000) (disch := first | assumption | omega) [Cl.e, Rf.v, Ln.e, fT_0, g6, g7, g8, g9, g2, g3, gk, gj, gi, hbn, htk, hb24, fy, fn, fy2, fn1, fn2, beqF, beqT, h2]; try simp only [gz])
     rfl
   refine LWP_seq ?_
   refine LWP_regD' fun K hK => ?_
   apply rgnD_pre 4
   · repeat (simp -implicitDefEqProofs (maxSteps := 1000000) (disch := first | assumption | omega) [Cl.e, Rf.v, Ln.e, fT_0, g6, g7, g8, g9, g2, g3, gk, gj, gi, hbn, htk, hb24, fy, fn, fy2, fn1, fn2, beqF, beqT, h2]; try simp only [gz])
     rfl
   refine rgnD_guard (x := 25) (b := true) rfl (fun h3 => ?_) (fun h3 => ?_)
   ·try simp only [bn, reduceCtorEq] at h3
    all_goals try (exfalso; omega)
    all_goals
     apply rgnD_pre 7
     · repeat (simp -implicitDefEqProofs (maxSteps := 1000000) (disch := first | assumption | omega) [Cl.e, Rf.v, Ln.e, fT_0, g6, g7, g8, g9, g2, g3, gk, gj, gi, hbn, htk, hb24, fy, fn, fy2, fn1, fn2, beqF, beqT, h2, h3]; try simp only [gz])
       rfl
     refine rgnD_guard (x := 32) (b := true) rfl (fun h4 => ?_) (fun h4 => ?_)
     ·try simp only [bn, reduceCtorEq] at h4
      all_goals try (exfalso; omega)
      all_goals
       apply rgnD_pre 5
       · repeat (simp -implicitDefEqProofs (maxSteps := 1000000) (disch := first | assumption | omega) [Cl.e, Rf.v, Ln.e, fT_0, g6, g7, g8, g9, g2, g3, gk, gj, gi, hbn, htk, hb24, fy, fn, fy2, fn1, fn2, beqF, beqT, h2, h3, h4]; try simp only [gz])
         rfl
       refine rgnD_guard (x := 37) (b := true) rfl (fun h5 => ?_) (fun h5 => ?_)
       ·try simp only [bn, reduceCtorEq] at h5
        all_goals try (exfalso; omega)
        all_goals
         apply rgnD_pre 8
         · repeat (simp -implicitDefEqProofs (maxSteps := 1000000) (disch := first | assumption | omega) [Cl.e, Rf.v, Ln.e, fT_0, g6, g7, g8, g9, g2, g3, gk, gj, gi, hbn, htk, hb24, fy, fn, fy2, fn1, fn2, beqF, beqT, h2, h3, h4, h5]; try simp only [gz])
           rfl
         apply rgnD_pre 4
         · repeat (simp -implicitDefEqProofs (maxSteps := 1000000) (disch := first | assumption | omega) [Cl.e, Rf.v, Ln.e, fT_0, g6, g7, g8, g9, g2, g3, gk, gj, gi, hbn, htk, hb24, fy, fn, fy2, fn1, fn2, beqF, beqT, h2, h3, h4, h5]; try simp only [gz])
           rfl
         refine rgnD_guard (x := 49) (b := true) rfl (fun h6 => ?_) (fun h6 => ?_)
         ·try simp only [bn, reduceCtorEq] at h6
          all_goals try (exfalso; omega)
          all_goals
           apply rgnD_pre 8
           · repeat (simp -implicitDefEqProofs (maxSteps := 1000000) (disch := first | assumption | omega) [Cl.e, Rf.v, Ln.e, fT_0, g6, g7, g8, g9, g2, g3, gk, gj, gi, hbn, htk, hb24, fy, fn, fy2, fn1, fn2, beqF, beqT, h2, h3, h4, h5, h6]; try simp only [gz])
             rfl
           apply rgnD_pre 1
           · repeat (simp -implicitDefEqProofs (maxSteps := 1000000) (disch := first | assumption | omega) [Cl.e, Rf.v, Ln.e, fT_0, g6, g7, g8, g9, g2, g3, gk, gj, gi, hbn, htk, hb24, fy, fn, fy2, fn1, fn2, beqF, beqT, h2, h3, h4, h5, h6]; try simp only [gz])
             rfl
           refine hK _ _ (by simp [AS.fin, delAll, del, Nat.add_assoc]; rfl) ?_; clear hK
           refine LWP_cond rfl (fun h7 => ?_) (fun h7 => ?_)
           ·try simp only [bn, reduceCtorEq] at h7
            all_goals try (exfalso; omega)
            all_goals
             apply LWP_run
             · repeat (simp -implicitDefEqProofs (maxSteps := 1000000) (disch := first | assumption | omega) [Cl.e, Rf.v, Ln.e, fT_0, g6, g7, g8, g9, g2, g3, gk, gj, gi, hbn, htk, hb24, fy, fn, fy2, fn1, fn2, beqF, beqT, h2, h3, h4, h5, h6, h7]; try simp only [gz])
               rfl
             apply LWP_run
             · repeat (simp -implicitDefEqProofs (maxSteps := 1000000) (disch := first | assumption | omega) [Cl.e, Rf.v, Ln.e, fT_0, g6, g7, g8, g9, g2, g3, gk, gj, gi, hbn, htk, hb24, fy, fn, fy2, fn1, fn2, beqF, beqT, h2, h3, h4, h5, h6, h7]; try simp only [gz])
               rfl
             -- loop 0, round 0
             refine ⟨(i + 1, n + 38), ?_, ?_, ?_, ?_⟩
             · exact ⟨by simp only; omega, by simp only; omega, by simp only; omega⟩
             · simp only; omega
             · simp (maxSteps := 1000000) (disch := first | assumption | omega) [leV, get_e0, get_e1, wkV.refl, wkV_int, wrap_i64, decT, decF, Cl.e, Rf.v, Ln.e, fT_0, g6, g7, g8, g9, g2, g3, gk, gj, gi, hbn, htk, hb24, fy, fn, fy2, fn1, fn2, beqF, beqT, h2, h3, h4, h5, h6, h7]
             · simp [leH, get_e0, get_e1, g6, g7, g8, g9, g2, g3, gk, gj, gi, hbn, htk, hb24, fy, fn, fy2, fn1, fn2, beqF, beqT, h2, h3, h4, h5, h6, h7]
               try simp (disch := first | assumption | omega) [Cl.e, Rf.v, fy2, fn1, fn2]
           ·try simp only [bn, reduceCtorEq] at h7
            all_goals try (exfalso; omega)
            all_goals
             refine LWP_skip ?_
             apply LWP_run
             · repeat (simp -implicitDefEqProofs (maxSteps := 1000000) (disch := first | assumption | omega) [Cl.e, Rf.v, Ln.e, fT_0, g6, g7, g8, g9, g2, g3, gk, gj, gi, hbn, htk, hb24, fy, fn, fy2, fn1, fn2, beqF, beqT, h2, h3, h4, h5, h6, h7]; try simp only [gz])
               rfl
             -- loop 0, round 1
             refine ⟨(i + 1, b), ?_, ?_, ?_, ?_⟩
             · exact ⟨by simp only; omega, by simp only; omega, by simp only; omega⟩
             · simp only; omega
             · simp (maxSteps := 1000000) (disch := first | assumption | omega) [leV, get_e0, get_e1, wkV.refl, wkV_int, wrap_i64, decT, decF, Cl.e, Rf.v, Ln.e, fT_0, g6, g7, g8, g9, g2, g3, gk, gj, gi, hbn, htk, hb24, fy, fn, fy2, fn1, fn2, beqF, beqT, h2, h3, h4, h5, h6, h7]
             · simp [leH, get_e0, get_e1, g6, g7, g8, g9, g2, g3, gk, gj, gi, hbn, htk, hb24, fy, fn, fy2, fn1, fn2, beqF, beqT, h2, h3, h4, h5, h6, h7]
               try simp (disch := first | assumption | omega) [Cl.e, Rf.v, fy2, fn1, fn2]
         ·try simp only [bn, reduceCtorEq] at h6
          all_goals try (exfalso; omega)
          all_goals
           apply rgnD_pre 8
           · repeat (simp -implicitDefEqProofs (maxSteps := 1000000) (disch := first | assumption | omega) [Cl.e, Rf.v, Ln.e, fT_0, g6, g7, g8, g9, g2, g3, gk, gj, gi, hbn, htk, hb24, fy, fn, fy2, fn1, fn2, beqF, beqT, h2, h3, h4, h5, h6]; try simp only [gz])
             rfl
           refine hK _ _ (by simp [AS.fin, delAll, del, Nat.add_assoc]; rfl) ?_; clear hK
           refine LWP_cond (t := false) (by simp [LArg.ev, get_e0, get_e1, g6, g7, g8, g9, g2, g3, gk, gj, gi, hbn, htk, hb24, fy, fn, fy2, fn1, fn2, beqF, beqT, h2, h3, h4, h5, h6]) (fun h => by cases h) (fun _ => ?_)
           refine LWP_skip ?_
           apply LWP_run
           · repeat (simp -implicitDefEqProofs (maxSteps := 1000000) (disch := first | assumption | omega) [Cl.e, Rf.v, Ln.e, fT_0, g6, g7, g8, g9, g2, g3, gk, gj, gi, hbn, htk, hb24, fy, fn, fy2, fn1, fn2, beqF, beqT, h2, h3, h4, h5, h6]; try simp only [gz])
             rfl
           -- loop 0, round 2
           refine ⟨(i + 1, b), ?_, ?_, ?_, ?_⟩
           · exact ⟨by simp only; omega, by simp only; omega, by simp only; omega⟩
           · simp only; omega
           · simp (maxSteps := 1000000) (disch := first | assumption | omega) [leV, get_e0, get_e1, wkV.refl, wkV_int, wrap_i64, decT, decF, Cl.e, Rf.v, Ln.e, fT_0, g6, g7, g8, g9, g2, g3, gk, gj, gi, hbn, htk, hb24, fy, fn, fy2, fn1, fn2, beqF, beqT, h2, h3, h4, h5, h6]
           · simp [leH, get_e0, get_e1, g6, g7, g8, g9, g2, g3, gk, gj, gi, hbn, htk, hb24, fy, fn, fy2, fn1, fn2, beqF, beqT, h2, h3, h4, h5, h6]
             try simp (disch := first | assumption | omega) [Cl.e, Rf.v, fy2, fn1, fn2]
       ·try simp only [bn, reduceCtorEq] at h5
        all_goals try (exfalso; omega)
        all_goals
         apply rgnD_pre 8
         · repeat (simp -implicitDefEqProofs (maxSteps := 1000000) (disch := first | assumption | omega) [Cl.e, Rf.v, Ln.e, fT_0, g6, g7, g8, g9, g2, g3, gk, gj, gi, hbn, htk, hb24, fy, fn, fy2, fn1, fn2, beqF, beqT, h2, h3, h4, h5]; try simp only [gz])
           rfl
         apply rgnD_pre 8
         · repeat (simp -implicitDefEqProofs (maxSteps := 1000000) (disch := first | assumption | omega) [Cl.e, Rf.v, Ln.e, fT_0, g6, g7, g8, g9, g2, g3, gk, gj, gi, hbn, htk, hb24, fy, fn, fy2, fn1, fn2, beqF, beqT, h2, h3, h4, h5]; try simp only [gz])
           rfl
         apply rgnD_pre 4
         · repeat (simp -implicitDefEqProofs (maxSteps := 1000000) (disch := first | assumption | omega) [Cl.e, Rf.v, Ln.e, fT_0, g6, g7, g8, g9, g2, g3, gk, gj, gi, hbn, htk, hb24, fy, fn, fy2, fn1, fn2, beqF, beqT, h2, h3, h4, h5]; try simp only [gz])
           rfl
         refine hK _ _ (by simp [AS.fin, delAll, del, Nat.add_assoc]; rfl) ?_; clear hK
         refine LWP_cond (t := false) (by simp [LArg.ev, get_e0, get_e1, g6, g7, g8, g9, g2, g3, gk, gj, gi, hbn, htk, hb24, fy, fn, fy2, fn1, fn2, beqF, beqT, h2, h3, h4, h5]) (fun h => by cases h) (fun _ => ?_)
         refine LWP_skip ?_
         apply LWP_run
         · repeat (simp -implicitDefEqProofs (maxSteps := 1000000) (disch := first | assumption | omega) [Cl.e, Rf.v, Ln.e, fT_0, g6, g7, g8, g9, g2, g3, gk, gj, gi, hbn, htk, hb24, fy, fn, fy2, fn1, fn2, beqF, beqT, h2, h3, h4, h5]; try simp only [gz])
           rfl
         -- loop 0, round 3
         refine ⟨(i + 1, b), ?_, ?_, ?_, ?_⟩
         · exact ⟨by simp only; omega, by simp only; omega, by simp only; omega⟩
         · simp only; omega
         · simp (maxSteps := 1000000) (disch := first | assumption | omega) [leV, get_e0, get_e1, wkV.refl, wkV_int, wrap_i64, decT, decF, Cl.e, Rf.v, Ln.e, fT_0, g6, g7, g8, g9, g2, g3, gk, gj, gi, hbn, htk, hb24, fy, fn, fy2, fn1, fn2, beqF, beqT, h2, h3, h4, h5]
         · simp [leH, get_e0, get_e1, g6, g7, g8, g9, g2, g3, gk, gj, gi, hbn, htk, hb24, fy, fn, fy2, fn1, fn2, beqF, beqT, h2, h3, h4, h5]
           try simp (disch := first | assumption | omega) [Cl.e, Rf.v, fy2, fn1, fn2]
     ·try simp only [bn, reduceCtorEq] at h4
      all_goals try (exfalso; omega)
      all_goals
       apply rgnD_pre 8
       · repeat (simp -implicitDefEqProofs (maxSteps := 1000000) (disch := first | assumption | omega) [Cl.e, Rf.v, Ln.e, fT_0, g6, g7, g8, g9, g2, g3, gk, gj, gi, hbn, htk, hb24, fy, fn, fy2, fn1, fn2, beqF, beqT, h2, h3, h4]; try simp only [gz])
         rfl
       apply rgnD_pre 8
       · repeat (simp -implicitDefEqProofs (maxSteps := 1000000) (disch := first | assumption | omega) [Cl.e, Rf.v, Ln.e, fT_0, g6, g7, g8, g9, g2, g3, gk, gj, gi, hbn, htk, hb24, fy, fn, fy2, fn1, fn2, beqF, beqT, h2, h3, h4]; try simp only [gz])
         rfl
       apply rgnD_pre 8
       · repeat (simp -implicitDefEqProofs (maxSteps := 1000000) (disch := first | assumption | omega) [Cl.e, Rf.v, Ln.e, fT_0, g6, g7, g8, g9, g2, g3, gk, gj, gi, hbn, htk, hb24, fy, fn, fy2, fn1, fn2, beqF, beqT, h2, h3, h4]; try simp only [gz])
         rfl
       apply rgnD_pre 1
       · repeat (simp -implicitDefEqProofs (maxSteps := 1000000) (disch := first | assumption | omega) [Cl.e, Rf.v, Ln.e, fT_0, g6, g7, g8, g9, g2, g3, gk, gj, gi, hbn, htk, hb24, fy, fn, fy2, fn1, fn2, beqF, beqT, h2, h3, h4]; try simp only [gz])
         rfl
       refine hK _ _ (by simp [AS.fin, delAll, del, Nat.add_assoc]; rfl) ?_; clear hK
       refine LWP_cond (t := false) (by simp [LArg.ev, get_e0, get_e1, g6, g7, g8, g9, g2, g3, gk, gj, gi, hbn, htk, hb24, fy, fn, fy2, fn1, fn2, beqF, beqT, h2, h3, h4]) (fun h => by cases h) (fun _ => ?_)
       refine LWP_skip ?_
       apply LWP_run
       · repeat (simp -implicitDefEqProofs (maxSteps := 1000000) (disch := first | assumption | omega) [Cl.e, Rf.v, Ln.e, fT_0, g6, g7, g8, g9, g2, g3, gk, gj, gi, hbn, htk, hb24, fy, fn, fy2, fn1, fn2, beqF, beqT, h2, h3, h4]; try simp only [gz])
         rfl
       -- loop 0, round 4
       refine ⟨(i + 1, b), ?_, ?_, ?_, ?_⟩
       · exact ⟨by simp only; omega, by simp only; omega, by simp only; omega⟩
       · simp only; omega
       · simp (maxSteps := 1000000) (disch := first | assumption | omega) [leV, get_e0, get_e1, wkV.refl, wkV_int, wrap_i64, decT, decF, Cl.e, Rf.v, Ln.e, fT_0, g6, g7, g8, g9, g2, g3, gk, gj, gi, hbn, htk, hb24, fy, fn, fy2, fn1, fn2, beqF, beqT, h2, h3, h4]
       · simp [leH, get_e0, get_e1, g6, g7, g8, g9, g2, g3, gk, gj, gi, hbn, htk, hb24, fy, fn, fy2, fn1, fn2, beqF, beqT, h2, h3, h4]
         try simp (disch := first | assumption | omega) [Cl.e, Rf.v, fy2, fn1, fn2]
   ·try simp only [bn, reduceCtorEq] at h3
    all_goals try (exfalso; omega)
    all_goals
     apply rgnD_pre 8
     · repeat (simp -implicitDefEqProofs (maxSteps := 1000000) (disch := first | assumption | omega) [Cl.e, Rf.v, Ln.e, fT_0, g6, g7, g8, g9, g2, g3, gk, gj, gi, hbn, htk, hb24, fy, fn, fy2, fn1, fn2, beqF, beqT, h2, h3]; try simp only [gz])
       rfl
     apply rgnD_pre 8
     · repeat (simp -implicitDefEqProofs (maxSteps := 1000000) (disch := first | assumption | omega) [Cl.e, Rf.v, Ln.e, fT_0, g6, g7, g8, g9, g2, g3, gk, gj, gi, hbn, htk, hb24, fy, fn, fy2, fn1, fn2, beqF, beqT, h2, h3]; try simp only [gz])
       rfl
     apply rgnD_pre 8
     · repeat (simp -implicitDefEqProofs (maxSteps := 1000000) (disch := first | assumption | omega) [Cl.e, Rf.v, Ln.e, fT_0, g6, g7, g8, g9, g2, g3, gk, gj, gi, hbn, htk, hb24, fy, fn, fy2, fn1, fn2, beqF, beqT, h2, h3]; try simp only [gz])
       rfl
     apply rgnD_pre 8
     · repeat (simp -implicitDefEqProofs (maxSteps := 1000000) (disch := first | assumption | omega) [Cl.e, Rf.v, Ln.e, fT_0, g6, g7, g8, g9, g2, g3, gk, gj, gi, hbn, htk, hb24, fy, fn, fy2, fn1, fn2, beqF, beqT, h2, h3]; try simp only [gz])
       rfl
     refine hK _ _ (by simp [AS.fin, delAll, del, Nat.add_assoc]; rfl) ?_; clear hK
     refine LWP_cond (t := false) (by simp [LArg.ev, get_e0, get_e1, g6, g7, g8, g9, g2, g3, gk, gj, gi, hbn, htk, hb24, fy, fn, fy2, fn1, fn2, beqF, beqT, h2, h3]) (fun h => by cases h) (fun _ => ?_)
     refine LWP_skip ?_
     apply LWP_run
     · repeat (simp -implicitDefEqProofs (maxSteps := 1000000) (disch := first | assumption | omega) [Cl.e, Rf.v, Ln.e, fT_0, g6, g7, g8, g9, g2, g3, gk, gj, gi, hbn, htk, hb24, fy, fn, fy2, fn1, fn2, beqF, beqT, h2, h3]; try simp only [gz])
       rfl
     -- loop 0, round 5
     refine ⟨(i + 1, b), ?_, ?_, ?_, ?_⟩
     · exact ⟨by simp only; omega, by simp only; omega, by simp only; omega⟩
     · simp only; omega
     · simp (maxSteps := 1000000) (disch := first | assumption | omega) [leV, get_e0, get_e1, wkV.refl, wkV_int, wrap_i64, decT, decF, Cl.e, Rf.v, Ln.e, fT_0, g6, g7, g8, g9, g2, g3, gk, gj, gi, hbn, htk, hb24, fy, fn, fy2, fn1, fn2, beqF, beqT, h2, h3]
     · simp [leH, get_e0, get_e1, g6, g7, g8, g9, g2, g3, gk, gj, gi, hbn, htk, hb24, fy, fn, fy2, fn1, fn2, beqF, beqT, h2, h3]
       try simp (disch := first | assumption | omega) [Cl.e, Rf.v, fy2, fn1, fn2]
 ·try simp only [bn, reduceCtorEq] at h2
  all_goals try (exfalso; omega)
  all_goals
   refine LWP_exit ?_
   refine LWP_seq ?_
   have ei : i = c.r.length := by omega
   subst ei
   refine LWP_deep [(7, .tsl 2 ((c.r.filter (thB ls st)).map Rf.v))] 5 ?_ ?_
   · simp only [deepL]
     exact ⟨⟨_, rfl, deep_rowf (k := 3) (m := (fT ls st c.r c.r.length).length) (l := c.r.filter (thB ls st)) (Q := fT ls st c.r c.r.length) (by simp [get_e1]) (by rw [fT_all]; simp) (Nat.le_refl _)⟩, trivial⟩
   apply LWP_run
   · repeat (simp -implicitDefEqProofs (maxSteps := 1000000) (disch := first | assumption | omega) [Cl.e, Rf.v, Ln.e, fT_0, g6, g7, g8, g9, g2, g3, gk, gj, gi, hbn, htk, hb24, fy, fn, fy2, fn1, fn2, beqF, beqT, h2]; try simp only [gz])
     rfl
   -- leaf 0
   refine LWP_ret ⟨_, rfl, ?_⟩
   refine wkV_of_eq ?_
   simp only [retV]
   all_goals
    rfl
end

end Go.AM.Cl
