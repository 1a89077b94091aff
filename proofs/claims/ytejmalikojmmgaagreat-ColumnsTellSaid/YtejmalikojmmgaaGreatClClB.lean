/- A part of a proof about the given program: what its name says. No premise beyond the statements'. -/
import Derived.Test.YtejmalikojmmgaaGreatClClA
set_option linter.unusedSimpArgs false
set_option linter.unusedVariables false
/- What a column has of a staff. -/
namespace Go.AM.Cl
open Go.AM
open Go.AM.LineP
open Classical in
noncomputable def thB (ls : List Ln) (st : Int) (r : Rf) : Bool := decide (0 ≤ r.l ∧ 0 ≤ r.e ∧ ∃ h : r.l.toNat < ls.length, r.e < (ls[r.l.toNat].ev.length : Int) ∧ ls[r.l.toNat].st = st)
open Classical in
theorem th_yes {ls : List Ln} {st : Int} {r : Rf} (h1 : 0 ≤ r.l) (h2 : 0 ≤ r.e) (h3 : r.l.toNat < ls.length) (h4 : r.e < (ls[r.l.toNat].ev.length : Int)) (h5 : ls[r.l.toNat].st = st) : thB ls st r = true := decide_eq_true ⟨h1, h2, h3, h4, h5⟩
open Classical in
theorem th_n1 {ls : List Ln} {st : Int} {r : Rf} (h1 : ¬ (0 ≤ r.l ∧ 0 ≤ r.e ∧ r.l < (ls.length : Int))) : thB ls st r = false := decide_eq_false fun q => h1 ⟨q.1, q.2.1, by have := q.2.2.1; omega⟩
open Classical in
theorem th_n2 {ls : List Ln} {st : Int} {r : Rf} (h3 : r.l.toNat < ls.length) (h : ¬ (r.e < (ls[r.l.toNat].ev.length : Int) ∧ ls[r.l.toNat].st = st)) : thB ls st r = false := decide_eq_false fun q => h ⟨q.2.2.2.1, q.2.2.2.2⟩
noncomputable def fT (ls : List Ln) (st : Int) (R : List Rf) (i : Nat) : List Rf := (R.take i).filter (thB ls st)
theorem fT_0 (ls : List Ln) (st : Int) (R : List Rf) : fT ls st R 0 = [] := rfl
theorem fT_yes {ls : List Ln} {st : Int} {R : List Rf} {i : Nat} (h : i < R.length) (q : thB ls st R[i] = true) : fT ls st R (i + 1) = fT ls st R i ++ [R[i]] := by
  rw [fT, fT, List.take_succ_eq_append_getElem h, List.filter_append]
  simp [q]
theorem fT_no {ls : List Ln} {st : Int} {R : List Rf} {i : Nat} (h : i < R.length) (q : thB ls st R[i] = false) : fT ls st R (i + 1) = fT ls st R i := by
  rw [fT, fT, List.take_succ_eq_append_getElem h, List.filter_append]
  simp [q]
theorem fT_y2 {ls : List Ln} {st : Int} {R : List Rf} {i : Nat} (h : i < R.length) (h1 : 0 ≤ R[i].l) (h2 : 0 ≤ R[i].e) (h3 : R[i].l.toNat < ls.length) (h4 : R[i].e < (ls[R[i].l.toNat].ev.length : Int)) (h5 : ls[R[i].l.toNat].st = st) : fT ls st R (i + 1) = fT ls st R i ++ [R[i]] := fT_yes h (th_yes h1 h2 h3 h4 h5)
theorem fT_n1 {ls : List Ln} {st : Int} {R : List Rf} {i : Nat} (h : i < R.length) (h1 : ¬ (0 ≤ R[i].l ∧ 0 ≤ R[i].e ∧ R[i].l < (ls.length : Int))) : fT ls st R (i + 1) = fT ls st R i := fT_no h (th_n1 h1)
theorem fT_n2 {ls : List Ln} {st : Int} {R : List Rf} {i : Nat} (h : i < R.length) (h3 : R[i].l.toNat < ls.length) (h1 : ¬ (R[i].e < (ls[R[i].l.toNat].ev.length : Int) ∧ ls[R[i].l.toNat].st = st)) : fT ls st R (i + 1) = fT ls st R i := fT_no h (th_n2 h3 h1)
theorem fT_len (ls : List Ln) (st : Int) (R : List Rf) (i : Nat) : (fT ls st R i).length ≤ i := by
  have h1 := List.length_filter_le (thB ls st) (R.take i)
  have h2 : (R.take i).length ≤ i := by rw [List.length_take]; omega
  exact Nat.le_trans h1 h2
theorem fT_all (ls : List Ln) (st : Int) (R : List Rf) : fT ls st R R.length = R.filter (thB ls st) := by rw [fT, List.take_length]
theorem deep_rf {H : Heap} {m : Nat} : ∀ (l : List Rf), mapO (mapO (deepV H (m + 1))) (l.map Rf.v) = some (l.map Rf.v)
  | [] => rfl
  | s :: l => by
    have e : mapO (deepV H (m + 1)) s.v = some s.v := rfl
    simp only [List.map_cons, mapO, e, deep_rf l]
theorem deep_rowf {H : Heap} {b m k : Nat} {l Q : List Rf} (hb : get H b = some (.rows 2 (Q.map Rf.v))) (hq : Q.take m = l) (hm : m ≤ Q.length) : deepV H (k + 2) (.sl 2 b 0 m) = some (.tsl 2 (l.map Rf.v)) := by
  refine deepV_sl hb (by simpa using hm) ?_
  rw [List.drop_zero, ← List.map_take, hq]
  exact deep_rf l

section
attribute [local simp ↓] List.map_nil List.map_cons
attribute [local simp] m_ o_ g_ stepsS stepS gd opEff appEff LArg.ev app_val app_new app_upd app_kill putV ins_e0 ins_e1 get_e0 get_e1 binV binI grd bnd ldCells AV.cells AV.scalar AV.known setAt fillL chunks elems mxI mnI del Nat.add_assoc nlt_self nne_self nne_self' List.take_of_length_le decT decF wrap_i64 stepsD stepD ST.as dEffF LOp.cls softOK LOp.args LOp.rds AV.ids appD_val appD_new appD_upd appD_kill AS.flush delAll
set_option maxHeartbeats 2000000 in
set_option maxRecDepth 20000 in
theorem there_ok (q : Rf) (ls : List Ln) (st : Int)  : ACalls Go.Proofs.Tryz.prog 21 [.agg q.v, .tsl 7 (ls.map Ln.e), .int .i64 st] [] 0 (fun r _ _ => r = .bool (thB ls st q)) := by
 refine pure_body ok21 rfl ?_
 simp only [parV]
 refine LWP_seq ?_
 apply LWP_run
 · repeat (simp -implicitDefEqProofs (maxSteps := 1000000) (disch := first | assumption | omega) [Rf.v, Ln.e, beqF, beqT]; try simp only [gz])
   rfl
 refine LWP_seq ?_
 refine LWP_seq ?_
 refine LWP_reg fun K hK => ?_
 apply rgnS_pre 4
 · repeat (simp -implicitDefEqProofs (maxSteps := 1000000) (disch := first | assumption | omega) [Rf.v, Ln.e, beqF, beqT]; try simp only [gz])
   rfl
 refine rgnS_guard (x := 10) (b := false) rfl (fun h1 => ?_) (fun h1 => ?_)
 ·try simp only [bn, reduceCtorEq] at h1
  all_goals try (exfalso; omega)
  all_goals
   apply rgnS_pre 7
   · repeat (simp -implicitDefEqProofs (maxSteps := 1000000) (disch := first | assumption | omega) [Rf.v, Ln.e, beqF, beqT, h1]; try simp only [gz])
     rfl
   refine rgnS_guard (x := 17) (b := false) rfl (fun h2 => ?_) (fun h2 => ?_)
   ·try simp only [bn, reduceCtorEq] at h2
    all_goals try (exfalso; omega)
    all_goals
     apply rgnS_pre 4
     · repeat (simp -implicitDefEqProofs (maxSteps := 1000000) (disch := first | assumption | omega) [Rf.v, Ln.e, beqF, beqT, h1, h2]; try simp only [gz])
       rfl
     refine hK _ ?_; clear hK
     refine LWP_cond rfl (fun h3 => ?_) (fun h3 => ?_)
     ·try simp only [bn, reduceCtorEq] at h3
      all_goals try (exfalso; omega)
      all_goals
       refine LWP_seq ?_
       apply LWP_run
       · repeat (simp -implicitDefEqProofs (maxSteps := 1000000) (disch := first | assumption | omega) [Rf.v, Ln.e, beqF, beqT, h1, h2, h3]; try simp only [gz])
         rfl
       -- leaf 0
       refine LWP_ret ⟨_, rfl, ?_⟩
       refine wkV_of_eq ?_
       simp only [retV]
       all_goals
        first
          | (rw [th_n1 (by omega)]; done)
          | (rw [th_n2 (by omega) (by omega)]; done)
          | (rw [th_n2 (by omega) (by simp_all)]; done)
          | (rw [th_yes (by omega) (by omega) (by omega) (by omega) (by omega)]; done)
          | (by_cases he : (ls[q.l.toNat]'(by omega)).st = st
             · rw [th_yes (by omega) (by omega) (by omega) (by omega) he]; simp [he]
             · rw [th_n2 (by omega) (fun z => he z.2)]; simp [he])
          | (rw [th_yes (by omega) (by omega) (by omega) (by simp_all) (by simp_all)]; done)
          | trace_state
     ·try simp only [bn, reduceCtorEq] at h3
      all_goals try (exfalso; omega)
      all_goals
       refine LWP_skip ?_
       refine LWP_seq ?_
       refine LWP_regD' fun K hK => ?_
       apply rgnD_pre 8
       · repeat (simp -implicitDefEqProofs (maxSteps := 1000000) (disch := first | assumption | omega) [Rf.v, Ln.e, beqF, beqT, h1, h2, h3]; try simp only [gz])
         rfl
       apply rgnD_pre 3
       · repeat (simp -implicitDefEqProofs (maxSteps := 1000000) (disch := first | assumption | omega) [Rf.v, Ln.e, beqF, beqT, h1, h2, h3]; try simp only [gz])
         rfl
       refine rgnD_guard (x := 32) (b := true) rfl (fun h4 => ?_) (fun h4 => ?_)
       ·try simp only [bn, reduceCtorEq] at h4
        all_goals try (exfalso; omega)
        all_goals
         apply rgnD_pre 8
         · repeat (simp -implicitDefEqProofs (maxSteps := 1000000) (disch := first | assumption | omega) [Rf.v, Ln.e, beqF, beqT, h1, h2, h3, h4]; try simp only [gz])
           rfl
         apply rgnD_pre 2
         · repeat (simp -implicitDefEqProofs (maxSteps := 1000000) (disch := first | assumption | omega) [Rf.v, Ln.e, beqF, beqT, h1, h2, h3, h4]; try simp only [gz])
           rfl
         refine hK _ _ (by simp [AS.fin, delAll, del, Nat.add_assoc]; rfl) ?_; clear hK
         -- leaf 1
         refine LWP_ret ⟨_, rfl, ?_⟩
         refine wkV_of_eq ?_
         simp only [retV]
         all_goals
          first
            | (rw [th_n1 (by omega)]; done)
            | (rw [th_n2 (by omega) (by omega)]; done)
            | (rw [th_n2 (by omega) (by simp_all)]; done)
            | (rw [th_yes (by omega) (by omega) (by omega) (by omega) (by omega)]; done)
            | (by_cases he : (ls[q.l.toNat]'(by omega)).st = st
               · rw [th_yes (by omega) (by omega) (by omega) (by omega) he]; simp [he]
               · rw [th_n2 (by omega) (fun z => he z.2)]; simp [he])
            | (rw [th_yes (by omega) (by omega) (by omega) (by simp_all) (by simp_all)]; done)
            | trace_state
       ·try simp only [bn, reduceCtorEq] at h4
        all_goals try (exfalso; omega)
        all_goals
         apply rgnD_pre 8
         · repeat (simp -implicitDefEqProofs (maxSteps := 1000000) (disch := first | assumption | omega) [Rf.v, Ln.e, beqF, beqT, h1, h2, h3, h4]; try simp only [gz])
           rfl
         apply rgnD_pre 1
         · repeat (simp -implicitDefEqProofs (maxSteps := 1000000) (disch := first | assumption | omega) [Rf.v, Ln.e, beqF, beqT, h1, h2, h3, h4]; try simp only [gz])
           rfl
         refine hK _ _ (by simp [AS.fin, delAll, del, Nat.add_assoc]; rfl) ?_; clear hK
         -- leaf 2
         refine LWP_ret ⟨_, rfl, ?_⟩
         refine wkV_of_eq ?_
         simp only [retV]
         all_goals
          first
            | (rw [th_n1 (by omega)]; done)
            | (rw [th_n2 (by omega) (by omega)]; done)
            | (rw [th_n2 (by omega) (by simp_all)]; done)
            | (rw [th_yes (by omega) (by omega) (by omega) (by omega) (by omega)]; done)
            | (by_cases he : (ls[q.l.toNat]'(by omega)).st = st
               · rw [th_yes (by omega) (by omega) (by omega) (by omega) he]; simp [he]
               · rw [th_n2 (by omega) (fun z => he z.2)]; simp [he])
            | (rw [th_yes (by omega) (by omega) (by omega) (by simp_all) (by simp_all)]; done)
            | trace_state
   ·try simp only [bn, reduceCtorEq] at h2
    all_goals try (exfalso; omega)
    all_goals
     apply rgnS_pre 3
     · repeat (simp -implicitDefEqProofs (maxSteps := 1000000) (disch := first | assumption | omega) [Rf.v, Ln.e, beqF, beqT, h1, h2]; try simp only [gz])
       rfl
     refine hK _ ?_; clear hK
     refine LWP_cond (t := true) (by simp [LArg.ev, get_e0, get_e1, h1, h2]) (fun _ => ?_) (fun h => by cases h)
     refine LWP_seq ?_
     apply LWP_run
     · repeat (simp -implicitDefEqProofs (maxSteps := 1000000) (disch := first | assumption | omega) [Rf.v, Ln.e, beqF, beqT, h1, h2]; try simp only [gz])
       rfl
     -- leaf 3
     refine LWP_ret ⟨_, rfl, ?_⟩
     refine wkV_of_eq ?_
     simp only [retV]
     all_goals
      first
        | (rw [th_n1 (by omega)]; done)
        | (rw [th_n2 (by omega) (by omega)]; done)
        | (rw [th_n2 (by omega) (by simp_all)]; done)
        | (rw [th_yes (by omega) (by omega) (by omega) (by omega) (by omega)]; done)
        | (by_cases he : (ls[q.l.toNat]'(by omega)).st = st
           · rw [th_yes (by omega) (by omega) (by omega) (by omega) he]; simp [he]
           · rw [th_n2 (by omega) (fun z => he z.2)]; simp [he])
        | (rw [th_yes (by omega) (by omega) (by omega) (by simp_all) (by simp_all)]; done)
        | trace_state
 ·try simp only [bn, reduceCtorEq] at h1
  all_goals try (exfalso; omega)
  all_goals
   apply rgnS_pre 8
   · repeat (simp -implicitDefEqProofs (maxSteps := 1000000) (disch := first | assumption | omega) [Rf.v, Ln.e, beqF, beqT, h1]; try simp only [gz])
     rfl
   apply rgnS_pre 2
   · repeat (simp -implicitDefEqProofs (maxSteps := 1000000) (disch := first | assumption | omega) [Rf.v, Ln.e, beqF, beqT, h1]; try simp only [gz])
     rfl
   refine hK _ ?_; clear hK
   refine LWP_cond (t := true) (by simp [LArg.ev, get_e0, get_e1, h1]) (fun _ => ?_) (fun h => by cases h)
   refine LWP_seq ?_
   apply LWP_run
   · repeat (simp -implicitDefEqProofs (maxSteps := 1000000) (disch := first | assumption | omega) [Rf.v, Ln.e, beqF, beqT, h1]; try simp only [gz])
     rfl
   -- leaf 4
   refine LWP_ret ⟨_, rfl, ?_⟩
   refine wkV_of_eq ?_
   simp only [retV]
   all_goals
    first
      | (rw [th_n1 (by omega)]; done)
      | (rw [th_n2 (by omega) (by omega)]; done)
      | (rw [th_n2 (by omega) (by simp_all)]; done)
      | (rw [th_yes (by omega) (by omega) (by omega) (by omega) (by omega)]; done)
      | (by_cases he : (ls[q.l.toNat]'(by omega)).st = st
         · rw [th_yes (by omega) (by omega) (by omega) (by omega) he]; simp [he]
         · rw [th_n2 (by omega) (fun z => he z.2)]; simp [he])
      | (rw [th_yes (by omega) (by omega) (by omega) (by simp_all) (by simp_all)]; done)
      | trace_state
set_option maxHeartbeats 2000000 in
set_option maxRecDepth 20000 in
theorem staff_ok (c : Cl) (ls : List Ln) (st : Int) (hc : c.r.length ≤ 300) : ACalls Go.Proofs.Tryz.prog 12 [.agg c.e, .tsl 7 (ls.map Ln.e), .int .i64 st] [] 0 (fun r _ _ => r = .tsl 2 ((c.r.filter (thB ls st)).map Rf.v)) := by
 refine pure_body ok12 rfl ?_
 simp only [parV]
 refine LWP_seq ?_
 apply LWP_run
 · repeat (simp -implicitDefEqProofs (maxSteps := 1000000) (disch := first | assumption | omega) [Cl.e, Rf.v, Ln.e, fT_0]; try simp only [gz])
   rfl
 refine LWP_seq ?_
 apply LWP_run
 · repeat (simp -implicitDefEqProofs (maxSteps := 1000000) (disch := first | assumption | omega) [Cl.e, Rf.v, Ln.e, fT_0]; try simp only [gz])
   rfl
 refine LWP_seq ?_
 refine LWP_seq ?_
 apply LWP_run
 · repeat (simp -implicitDefEqProofs (maxSteps := 1000000) (disch := first | assumption | omega) [Cl.e, Rf.v, Ln.e, fT_0]; try simp only [gz])
   rfl
 refine LWP_block ?_
 refine LWP_for (fun (p : Nat × Nat) => [(1, .tsl 7 (ls.map Ln.e)), (2, .int .i64 st), (7, .sl 2 p.2 0 (fT ls st c.r p.1).length), (11, .tsl 2 (c.r.map Rf.v)), (12, .int .i64 (c.r.length : Nat)), (13, .int .i64 (p.1 : Nat))]) (fun (p : Nat × Nat) => [(p.2, Blk.rows 2 ((fT ls st c.r p.1).map Rf.v))]) (fun (p : Nat × Nat) n => p.1 ≤ c.r.length ∧ p.2 < n ∧ 0 < p.2) (fun (p : Nat × Nat) => c.r.length - p.1) (0, 1) ?_ ?_ ?_ ?_
 · simp (maxSteps := 1000000) (disch := first | assumption | omega) [leV, get_e0, get_e1, wkV.refl, wkV_int, decT, decF, Cl.e, Rf.v, Ln.e, fT_0]
   try rfl
 · simp [leH, get_e0, get_e1]
   try rfl
 · exact ⟨Nat.zero_le _, by simp, by simp⟩
 rintro ⟨i, b⟩ n ⟨c1, c2, c3⟩
 simp only at c1 c2 c3
 have g6 : ¬ b = 0 := by omega
 have g7 : ¬ 0 = b := by omega
 have g8 : 0 < n := by omega
 have g9 : ¬ n = 0 := by omega
 have sl := fT_len ls st c.r i
 have fy := fun hi hx => fT_yes (ls := ls) (st := st) (R := c.r) (i := i) hi hx
 have fn := fun hi hx => fT_no (ls := ls) (st := st) (R := c.r) (i := i) hi hx
 have g2 : ¬ b = n := by omega
 have g3 : ¬ n = b := by omega
 have gk : ∀ k, b < n + k := fun k => by omega
 have gj : ∀ k, ¬ n + k = b := fun k => by omega
 have gi : ∀ k, ¬ b = n + k := fun k => by omega
 have hbn : b < n := by omega
 have htk : List.take (fT ls st c.r i).length (List.map Rf.v (fT ls st c.r i)) = List.map Rf.v (fT ls st c.r i) := List.take_of_length_le (by simp)
 have hb24 : ((fT ls st c.r i).length + 1) * 16 ≤ 17592186044416 := by omega
 refine LWP_seq ?_
 apply LWP_run
 · repeat (simp -implicitDefEqProofs (maxSteps := 1000000) (disch := first | assumption | omega) [Cl.e, Rf.v, Ln.e, fT_0, g6, g7, g8, g9, g2, g3, gk, gj, gi, hbn, htk, hb24, fy, fn]; try simp only [gz])
   rfl
 refine LWP_seq ?_
 refine LWP_cond rfl (fun h2 => ?_) (fun h2 => ?_)
 ·try simp only [bn, reduceCtorEq] at h2
  all_goals try (exfalso; omega)
  all_goals
   refine LWP_skip ?_
   refine LWP_seq ?_
   refine LWP_block ?_
   refine LWP_seq ?_
   apply LWP_run
   · repeat (simp -implicitDefEqProofs (maxSteps := 1000000) (disch := first | assumption | omega) [Cl.e, Rf.v, Ln.e, fT_0, g6, g7, g8, g9, g2, g3, gk, gj, gi, hbn, htk, hb24, fy, fn, h2]; try simp only [gz])
     rfl
   refine LWP_seq ?_
   refine LWP_reg fun K hK => ?_
   apply rgnS_pre 3
   · repeat (simp -implicitDefEqProofs (maxSteps := 1000000) (disch := first | assumption | omega) [Cl.e, Rf.v, Ln.e, fT_0, g6, g7, g8, g9, g2, g3, gk, gj, gi, hbn, htk, hb24, fy, fn, h2]; try simp only [gz])
     rfl
   refine rgnS_call (there_ok (c.r[i]'(by omega)) ls st) rfl rfl (by simp [pureL, pureR, AV.pure, Cl.e, Rf.v, Ln.e, fT_0, Rf.v, pure_ln]) (by simp [pureL, pureR, AV.pure, Cl.e, Rf.v, Ln.e, fT_0, Rf.v, pure_ln]) (by simp [gd, get_e0, get_e1, LArg.ev, g6, g7, g8, g9, g2, g3, gk, gj, gi, hbn, htk, hb24, fy, fn, h2]) ?_
   refine hK _ ?_; clear hK
   refine LWP_cond rfl (fun h3 => ?_) (fun h3 => ?_)
   ·try simp only [bn, reduceCtorEq] at h3
    all_goals try (exfalso; omega)
    all_goals
     apply LWP_run
     · repeat (simp -implicitDefEqProofs (maxSteps := 1000000) (disch := first | assumption | omega) [Cl.e, Rf.v, Ln.e, fT_0, g6, g7, g8, g9, g2, g3, gk, gj, gi, hbn, htk, hb24, fy, fn, h2, h3]; try simp only [gz])
       rfl
     apply LWP_run
     · repeat (simp -implicitDefEqProofs (maxSteps := 1000000) (disch := first | assumption | omega) [Cl.e, Rf.v, Ln.e, fT_0, g6, g7, g8, g9, g2, g3, gk, gj, gi, hbn, htk, hb24, fy, fn, h2, h3]; try simp only [gz])
       rfl
     -- loop 0, round 0
     refine ⟨(i + 1, n + 1), ?_, ?_, ?_, ?_⟩
     · exact ⟨by simp only; omega, by simp only; omega, by simp only; omega⟩
     · simp only; omega
     · simp (maxSteps := 1000000) (disch := first | assumption | omega) [leV, get_e0, get_e1, wkV.refl, wkV_int, wrap_i64, decT, decF, Cl.e, Rf.v, Ln.e, fT_0, g6, g7, g8, g9, g2, g3, gk, gj, gi, hbn, htk, hb24, fy, fn, h2, h3]
     · simp [leH, get_e0, get_e1, g6, g7, g8, g9, g2, g3, gk, gj, gi, hbn, htk, hb24, fy, fn, h2, h3]
       try rfl
   ·try simp only [bn, reduceCtorEq] at h3
    all_goals try (exfalso; omega)
    all_goals
     refine LWP_skip ?_
     apply LWP_run
     · repeat (simp -implicitDefEqProofs (maxSteps := 1000000) (disch := first | assumption | omega) [Cl.e, Rf.v, Ln.e, fT_0, g6, g7, g8, g9, g2, g3, gk, gj, gi, hbn, htk, hb24, fy, fn, h2, h3]; try simp only [gz])
       rfl
     -- loop 0, round 1
     refine ⟨(i + 1, b), ?_, ?_, ?_, ?_⟩
     · exact ⟨by simp only; omega, by simp only; omega, by simp only; omega⟩
     · simp only; omega
     · simp (maxSteps := 1000000) (disch := first | assumption | omega) [leV, get_e0, get_e1, wkV.refl, wkV_int, wrap_i64, decT, decF, Cl.e, Rf.v, Ln.e, fT_0, g6, g7, g8, g9, g2, g3, gk, gj, gi, hbn, htk, hb24, fy, fn, h2, h3]
     · simp [leH, get_e0, get_e1, g6, g7, g8, g9, g2, g3, gk, gj, gi, hbn, htk, hb24, fy, fn, h2, h3]
       try rfl
 ·try simp only [bn, reduceCtorEq] at h2
  all_goals try (exfalso; omega)
  all_goals
   refine LWP_exit ?_
   refine LWP_seq ?_
   have ei : i = c.r.length := by omega
   subst ei
   refine LWP_deep [(7, .tsl 2 ((c.r.filter (thB ls st)).map Rf.v))] 5 ?_ ?_
   · simp only [deepL]
     exact ⟨⟨_, rfl, deep_rowf (k := 3) (m := (fT ls st c.r c.r.length).length) (l := c.r.filter (thB ls st)) (Q := fT ls st c.r c.r.length) (by simp [get_e1]) (by rw [fT_all]; simp) (Nat.le_refl _)⟩, trivial⟩
   apply LWP_run
   · repeat (simp -implicitDefEqProofs (maxSteps := 1000000) (disch := first | assumption | omega) [Cl.e, Rf.v, Ln.e, fT_0, g6, g7, g8, g9, g2, g3, gk, gj, gi, hbn, htk, hb24, fy, fn, h2]; try simp only [gz])
     rfl
   -- leaf 0
   refine LWP_ret ⟨_, rfl, ?_⟩
   refine wkV_of_eq ?_
   simp only [retV]
   all_goals
    rfl
end

end Go.AM.Cl
