/- A part of a proof about the given program: what its name says. No premise beyond the statements'. -/
import Derived.Test.YtejmalikojmmgaaGreatClCode
import Derived.Test.YtejmalikojmmgaaGreatFD
import Derived.Test.YtejmalikojmmgaaGreatLineP
set_option linter.unusedSimpArgs false
set_option linter.unusedVariables false
/- Columns: few, however they are; lines that are not long. -/
namespace Go.AM.Cl
open Go.AM
open Go.AM.LineP
theorem beqF {a b : Int} (h : a ≠ b) : (a == b) = false := by simp [h]
theorem beqT {a b : Int} (h : a = b) : (a == b) = true := by simp [h]
open Classical in
noncomputable def fewB (c : List Cl) : Bool := decide (c.length ≤ 300 ∧ ∀ (k : Nat) (h : k < c.length), c[k].r.length ≤ 300)
open Classical in
theorem few_yes {c : List Cl} (h1 : c.length ≤ 300) (h2 : ∀ (k : Nat) (h : k < c.length), c[k].r.length ≤ 300) : fewB c = true := decide_eq_true ⟨h1, h2⟩
open Classical in
theorem few_big {c : List Cl} (h1 : 300 < c.length) : fewB c = false := decide_eq_false fun h => by omega
open Classical in
theorem few_no {c : List Cl} {k : Nat} (h : k < c.length) (h1 : 300 < c[k].r.length) : fewB c = false := decide_eq_false fun q => by have := q.2 k h; omega
open Classical in
theorem few_of {c : List Cl} (h : fewB c = true) : c.length ≤ 300 ∧ ∀ (k : Nat) (h : k < c.length), c[k].r.length ≤ 300 := of_decide_eq_true h
def evS (e : Ev) : Prop := e.ps.length ≤ 30 ∧ e.tp.length ≤ 100
open Classical in
noncomputable def smB (x : Ln) : Bool := decide ((x.ev.length ≤ 300 ∧ x.tu.length ≤ 100 ∧ x.vs.length ≤ 10) ∧ (∀ (k : Nat) (h : k < x.ev.length), evS x.ev[k]) ∧ ∀ (k : Nat) (h : k < x.vs.length), x.vs[k].length ≤ 300)
open Classical in
theorem sm_yes {x : Ln} (h1 : x.ev.length ≤ 300 ∧ x.tu.length ≤ 100 ∧ x.vs.length ≤ 10) (h2 : ∀ (k : Nat) (h : k < x.ev.length), evS x.ev[k]) (h3 : ∀ (k : Nat) (h : k < x.vs.length), x.vs[k].length ≤ 300) : smB x = true := decide_eq_true ⟨h1, h2, h3⟩
open Classical in
theorem sm_big {x : Ln} (h1 : ¬ (x.ev.length ≤ 300 ∧ x.tu.length ≤ 100 ∧ x.vs.length ≤ 10)) : smB x = false := decide_eq_false fun h => h1 h.1
open Classical in
theorem sm_ev {x : Ln} {k : Nat} (h : k < x.ev.length) (h1 : ¬ evS x.ev[k]) : smB x = false := decide_eq_false fun q => h1 (q.2.1 k h)
open Classical in
theorem sm_vs {x : Ln} {k : Nat} (h : k < x.vs.length) (h1 : 300 < x.vs[k].length) : smB x = false := decide_eq_false fun q => by have := q.2.2 k h; omega
open Classical in
theorem sm_of {x : Ln} (h : smB x = true) : x.ev.length ≤ 300 := (of_decide_eq_true h).1.1
def evN (l : List Ln) (i : Nat) : Nat := ((l.take i).map fun x => x.ev.length).sum
theorem evN_0 (l : List Ln) : evN l 0 = 0 := rfl
theorem evN_1 {l : List Ln} {i : Nat} (h : i < l.length) : evN l (i + 1) = evN l i + l[i].ev.length := by
  rw [evN, evN, List.take_succ_eq_append_getElem h, List.map_append, List.sum_append]; simp only [List.map_cons, List.map_nil, List.sum_cons, List.sum_nil, Nat.add_zero]
theorem evN_w {l : List Ln} {i : Nat} (h : i < l.length) (hs : smB l[i] = true) (hn : evN l i ≤ 300 * i) (hl : i ≤ 80) : IntKind.i64.wrap ((evN l i : Int) + (l[i].ev.length : Int)) = (evN l (i + 1) : Int) := by
  have := sm_of hs
  rw [evN_1 h, wrap_i64 (by omega) (by omega)]; omega
open Classical in
noncomputable def smsB (l : List Ln) : Bool := decide (l.length ≤ 80 ∧ (∀ (k : Nat) (h : k < l.length), smB l[k] = true) ∧ evN l l.length ≤ 600)
open Classical in
theorem sms_big {l : List Ln} (h : 80 < l.length) : smsB l = false := decide_eq_false fun q => by omega
open Classical in
theorem sms_no {l : List Ln} {k : Nat} (h : k < l.length) (h1 : smB l[k] = false) : smsB l = false := decide_eq_false fun q => by have := q.2.1 k h; rw [h1] at this; cases this
open Classical in
theorem sms_end {l : List Ln} (h : l.length ≤ 80) (h1 : ∀ (k : Nat) (h : k < l.length), smB l[k] = true) : smsB l = decide (evN l l.length ≤ 600) := by
  by_cases q : evN l l.length ≤ 600
  · rw [decide_eq_true q]; exact decide_eq_true ⟨h, h1, q⟩
  · rw [decide_eq_false q]; exact decide_eq_false fun z => q z.2.2
open Classical in
theorem sms_of {l : List Ln} (h : smsB l = true) : l.length ≤ 80 ∧ ∀ (k : Nat) (h : k < l.length), l[k].ev.length ≤ 300 := by
  have := of_decide_eq_true h
  exact ⟨this.1, fun k hk => sm_of (this.2.1 k hk)⟩
theorem allk {P : Nat → Prop} {i : Nat} (h : ∀ k, k < i → P k) (hi : P i) : ∀ k, k < i + 1 → P k := fun k hk => by
  rcases Nat.lt_or_ge k i with q | q
  · exact h k q
  · have e : k = i := by omega
    subst e; exact hi

section
attribute [local simp ↓] List.map_nil List.map_cons
attribute [local simp] m_ o_ g_ stepsS stepS gd opEff appEff LArg.ev app_val app_new app_upd app_kill putV ins_e0 ins_e1 get_e0 get_e1 binV binI grd bnd ldCells AV.cells AV.scalar AV.known setAt fillL chunks elems mxI mnI del Nat.add_assoc nlt_self nne_self nne_self' List.take_of_length_le decT decF wrap_i64 stepsD stepD ST.as dEffF LOp.cls softOK LOp.args LOp.rds AV.ids appD_val appD_new appD_upd appD_kill AS.flush delAll
set_option maxHeartbeats 2000000 in
set_option maxRecDepth 20000 in
theorem few_ok (c : List Cl)  : ACalls Go.Proofs.Tryz.prog 4 [.tsl 5 (c.map Cl.e)] [] 0 (fun r _ _ => r = .bool (fewB c)) := by
 refine pure_body ok4 rfl ?_
 simp only [parV]
 refine LWP_seq ?_
 apply LWP_run
 · repeat (simp -implicitDefEqProofs (maxSteps := 1000000) (disch := first | assumption | omega) [Cl.e]; try simp only [gz])
   rfl
 refine LWP_seq ?_
 refine LWP_seq ?_
 apply LWP_run
 · repeat (simp -implicitDefEqProofs (maxSteps := 1000000) (disch := first | assumption | omega) [Cl.e]; try simp only [gz])
   rfl
 refine LWP_cond rfl (fun h1 => ?_) (fun h1 => ?_)
 ·try simp only [bn, reduceCtorEq] at h1
  all_goals try (exfalso; omega)
  all_goals
   refine LWP_seq ?_
   apply LWP_run
   · repeat (simp -implicitDefEqProofs (maxSteps := 1000000) (disch := first | assumption | omega) [Cl.e, h1]; try simp only [gz])
     rfl
   -- leaf 0
   refine LWP_ret ⟨_, rfl, ?_⟩
   refine wkV_of_eq ?_
   simp only [retV]
   all_goals
    first
      | (rw [few_big (by omega)]; done)
      | (rw [few_no (k := i) (by omega) (by omega)]; done)
      | (rw [few_yes (by omega) (fun k hk => c2 k (by omega) hk)]; done)
      | trace_state
 ·try simp only [bn, reduceCtorEq] at h1
  all_goals try (exfalso; omega)
  all_goals
   refine LWP_skip ?_
   refine LWP_seq ?_
   refine LWP_seq ?_
   apply LWP_run
   · repeat (simp -implicitDefEqProofs (maxSteps := 1000000) (disch := first | assumption | omega) [Cl.e, h1]; try simp only [gz])
     rfl
   refine LWP_block ?_
   refine LWP_for (fun (i : Nat) => [(0, .tsl 5 (c.map Cl.e)), (3, .int .i64 (i : Nat))]) (fun (i : Nat) => []) (fun (i : Nat) n => i ≤ c.length ∧ ∀ k, k < i → ∀ h : k < c.length, c[k].r.length ≤ 300) (fun (i : Nat) => c.length - i) 0 ?_ ?_ ?_ ?_
   · simp (maxSteps := 1000000) (disch := first | assumption | omega) [leV, get_e0, get_e1, wkV.refl, wkV_int, decT, decF, Cl.e, h1]
   · simp [leH, get_e0, get_e1, h1]
   · exact ⟨Nat.zero_le _, fun k h => absurd h (Nat.not_lt_zero _)⟩
   rintro i n ⟨c1, c2⟩
   try simp only at *
   refine LWP_seq ?_
   refine LWP_seq ?_
   apply LWP_run
   · repeat (simp -implicitDefEqProofs (maxSteps := 1000000) (disch := first | assumption | omega) [Cl.e, h1]; try simp only [gz])
     rfl
   refine LWP_cond rfl (fun h3 => ?_) (fun h3 => ?_)
   ·try simp only [bn, reduceCtorEq] at h3
    all_goals try (exfalso; omega)
    all_goals
     refine LWP_skip ?_
     refine LWP_seq ?_
     refine LWP_block ?_
     refine LWP_seq ?_
     apply LWP_run
     · repeat (simp -implicitDefEqProofs (maxSteps := 1000000) (disch := first | assumption | omega) [Cl.e, h1, h3]; try simp only [gz])
       rfl
     refine LWP_cond rfl (fun h4 => ?_) (fun h4 => ?_)
     ·try simp only [bn, reduceCtorEq] at h4
      all_goals try (exfalso; omega)
      all_goals
       refine LWP_seq ?_
       apply LWP_run
       · repeat (simp -implicitDefEqProofs (maxSteps := 1000000) (disch := first | assumption | omega) [Cl.e, h1, h3, h4]; try simp only [gz])
         rfl
       -- leaf 1
       refine LWP_ret ⟨_, rfl, ?_⟩
       refine wkV_of_eq ?_
       simp only [retV]
       all_goals
        first
          | (rw [few_big (by omega)]; done)
          | (rw [few_no (k := i) (by omega) (by omega)]; done)
          | (rw [few_yes (by omega) (fun k hk => c2 k (by omega) hk)]; done)
          | trace_state
     ·try simp only [bn, reduceCtorEq] at h4
      all_goals try (exfalso; omega)
      all_goals
       refine LWP_skip ?_
       apply LWP_run
       · repeat (simp -implicitDefEqProofs (maxSteps := 1000000) (disch := first | assumption | omega) [Cl.e, h1, h3, h4]; try simp only [gz])
         rfl
       -- loop 0, round 0
       refine ⟨i + 1, ?_, ?_, ?_, ?_⟩
       · exact ⟨by omega, allk c2 fun _ => by omega⟩
       · omega
       · simp (maxSteps := 1000000) (disch := first | assumption | omega) [leV, get_e0, get_e1, wkV.refl, wkV_int, wrap_i64, decT, decF, Cl.e, h1, h3, h4]
       · simp [leH, get_e0, get_e1, h1, h3, h4]
   ·try simp only [bn, reduceCtorEq] at h3
    all_goals try (exfalso; omega)
    all_goals
     refine LWP_exit ?_
     refine LWP_seq ?_
     apply LWP_run
     · repeat (simp -implicitDefEqProofs (maxSteps := 1000000) (disch := first | assumption | omega) [Cl.e, h1, h3]; try simp only [gz])
       rfl
     -- leaf 2
     refine LWP_ret ⟨_, rfl, ?_⟩
     refine wkV_of_eq ?_
     simp only [retV]
     all_goals
      first
        | (rw [few_big (by omega)]; done)
        | (rw [few_no (k := i) (by omega) (by omega)]; done)
        | (rw [few_yes (by omega) (fun k hk => c2 k (by omega) hk)]; done)
        | trace_state
set_option maxHeartbeats 2000000 in
set_option maxRecDepth 20000 in
theorem sm_ok (x : Ln)  : ACalls Go.Proofs.Tryz.prog 14 [.agg x.e] [] 0 (fun r _ _ => r = .bool (smB x)) := by
 refine pure_body ok14 rfl ?_
 simp only [parV]
 refine LWP_seq ?_
 apply LWP_run
 · repeat (simp -implicitDefEqProofs (maxSteps := 1000000) (disch := first | assumption | omega) [Ln.e, Ev.e, vsE]; try simp only [gz])
   rfl
 refine LWP_seq ?_
 refine LWP_seq ?_
 refine LWP_reg fun K hK => ?_
 apply rgnS_pre 5
 · repeat (simp -implicitDefEqProofs (maxSteps := 1000000) (disch := first | assumption | omega) [Ln.e, Ev.e, vsE]; try simp only [gz])
   rfl
 refine rgnS_guard (x := 9) (b := false) rfl (fun h1 => ?_) (fun h1 => ?_)
 ·try simp only [bn, reduceCtorEq] at h1
  all_goals try (exfalso; omega)
  all_goals
   apply rgnS_pre 6
   · repeat (simp -implicitDefEqProofs (maxSteps := 1000000) (disch := first | assumption | omega) [Ln.e, Ev.e, vsE, h1]; try simp only [gz])
     rfl
   refine rgnS_guard (x := 15) (b := false) rfl (fun h2 => ?_) (fun h2 => ?_)
   ·try simp only [bn, reduceCtorEq] at h2
    all_goals try (exfalso; omega)
    all_goals
     apply rgnS_pre 5
     · repeat (simp -implicitDefEqProofs (maxSteps := 1000000) (disch := first | assumption | omega) [Ln.e, Ev.e, vsE, h1, h2]; try simp only [gz])
       rfl
     refine hK _ ?_; clear hK
     refine LWP_cond rfl (fun h3 => ?_) (fun h3 => ?_)
     ·try simp only [bn, reduceCtorEq] at h3
      all_goals try (exfalso; omega)
      all_goals
       refine LWP_seq ?_
       apply LWP_run
       · repeat (simp -implicitDefEqProofs (maxSteps := 1000000) (disch := first | assumption | omega) [Ln.e, Ev.e, vsE, h1, h2, h3]; try simp only [gz])
         rfl
       -- leaf 0
       refine LWP_ret ⟨_, rfl, ?_⟩
       refine wkV_of_eq ?_
       simp only [retV]
       all_goals
        first
          | (rw [sm_big (by omega)]; done)
          | (rw [sm_ev (k := i) (by omega) (fun q => by have q1 := q.1; have q2 := q.2; omega)]; done)
          | (rw [sm_vs (k := i) (by omega) (by omega)]; done)
          | (rw [sm_yes (by omega) (fun k hk => c2 k (by omega) hk) (fun k hk => d2 k (by omega) hk)]; done)
          | trace_state
     ·try simp only [bn, reduceCtorEq] at h3
      all_goals try (exfalso; omega)
      all_goals
       refine LWP_skip ?_
       refine LWP_seq ?_
       refine LWP_seq ?_
       apply LWP_run
       · repeat (simp -implicitDefEqProofs (maxSteps := 1000000) (disch := first | assumption | omega) [Ln.e, Ev.e, vsE, h1, h2, h3]; try simp only [gz])
         rfl
       refine LWP_block ?_
       refine LWP_for (fun (i : Nat) => [(1, .ptr 7 0 0 0), (3, .int .i64 (i : Nat))]) (fun (i : Nat) => [(0, Blk.rows 7 [x.e])]) (fun (i : Nat) n => i ≤ x.ev.length ∧ ∀ k, k < i → ∀ h : k < x.ev.length, evS x.ev[k]) (fun (i : Nat) => x.ev.length - i) 0 ?_ ?_ ?_ ?_
       · simp (maxSteps := 1000000) (disch := first | assumption | omega) [leV, get_e0, get_e1, wkV.refl, wkV_int, decT, decF, Ln.e, Ev.e, vsE, h1, h2, h3]
       · simp [leH, get_e0, get_e1, h1, h2, h3]
         try rfl
       · exact ⟨Nat.zero_le _, fun k h => absurd h (Nat.not_lt_zero _)⟩
       rintro i n ⟨c1, c2⟩
       try simp only at *
       refine LWP_seq ?_
       refine LWP_seq ?_
       apply LWP_run
       · repeat (simp -implicitDefEqProofs (maxSteps := 1000000) (disch := first | assumption | omega) [Ln.e, Ev.e, vsE, h1, h2, h3]; try simp only [gz])
         rfl
       refine LWP_cond rfl (fun h5 => ?_) (fun h5 => ?_)
       ·try simp only [bn, reduceCtorEq] at h5
        all_goals try (exfalso; omega)
        all_goals
         refine LWP_skip ?_
         refine LWP_seq ?_
         refine LWP_block ?_
         refine LWP_seq ?_
         refine LWP_reg fun K hK => ?_
         apply rgnS_pre 8
         · repeat (simp -implicitDefEqProofs (maxSteps := 1000000) (disch := first | assumption | omega) [Ln.e, Ev.e, vsE, h1, h2, h3, h5]; try simp only [gz])
           rfl
         apply rgnS_pre 1
         · repeat (simp -implicitDefEqProofs (maxSteps := 1000000) (disch := first | assumption | omega) [Ln.e, Ev.e, vsE, h1, h2, h3, h5]; try simp only [gz])
           rfl
         refine rgnS_guard (x := 36) (b := false) rfl (fun h6 => ?_) (fun h6 => ?_)
         ·try simp only [bn, reduceCtorEq] at h6
          all_goals try (exfalso; omega)
          all_goals
           apply rgnS_pre 8
           · repeat (simp -implicitDefEqProofs (maxSteps := 1000000) (disch := first | assumption | omega) [Ln.e, Ev.e, vsE, h1, h2, h3, h5, h6]; try simp only [gz])
             rfl
           apply rgnS_pre 1
           · repeat (simp -implicitDefEqProofs (maxSteps := 1000000) (disch := first | assumption | omega) [Ln.e, Ev.e, vsE, h1, h2, h3, h5, h6]; try simp only [gz])
             rfl
           refine hK _ ?_; clear hK
           refine LWP_cond rfl (fun h7 => ?_) (fun h7 => ?_)
           ·try simp only [bn, reduceCtorEq] at h7
            all_goals try (exfalso; omega)
            all_goals
             refine LWP_seq ?_
             apply LWP_run
             · repeat (simp -implicitDefEqProofs (maxSteps := 1000000) (disch := first | assumption | omega) [Ln.e, Ev.e, vsE, h1, h2, h3, h5, h6, h7]; try simp only [gz])
               rfl
             -- leaf 1
             refine LWP_ret ⟨_, rfl, ?_⟩
             refine wkV_of_eq ?_
             simp only [retV]
             all_goals
              first
                | (rw [sm_big (by omega)]; done)
                | (rw [sm_ev (k := i) (by omega) (fun q => by have q1 := q.1; have q2 := q.2; omega)]; done)
                | (rw [sm_vs (k := i) (by omega) (by omega)]; done)
                | (rw [sm_yes (by omega) (fun k hk => c2 k (by omega) hk) (fun k hk => d2 k (by omega) hk)]; done)
                | trace_state
           ·try simp only [bn, reduceCtorEq] at h7
            all_goals try (exfalso; omega)
            all_goals
             refine LWP_skip ?_
             apply LWP_run
             · repeat (simp -implicitDefEqProofs (maxSteps := 1000000) (disch := first | assumption | omega) [Ln.e, Ev.e, vsE, h1, h2, h3, h5, h6, h7]; try simp only [gz])
               rfl
             -- loop 0, round 0
             refine ⟨i + 1, ?_, ?_, ?_, ?_⟩
             · exact ⟨by omega, allk c2 fun _ => ⟨by omega, by omega⟩⟩
             · omega
             · simp (maxSteps := 1000000) (disch := first | assumption | omega) [leV, get_e0, get_e1, wkV.refl, wkV_int, wrap_i64, decT, decF, Ln.e, Ev.e, vsE, h1, h2, h3, h5, h6, h7]
             · simp [leH, get_e0, get_e1, h1, h2, h3, h5, h6, h7]
               try rfl
         ·try simp only [bn, reduceCtorEq] at h6
          all_goals try (exfalso; omega)
          all_goals
           apply rgnS_pre 8
           · repeat (simp -implicitDefEqProofs (maxSteps := 1000000) (disch := first | assumption | omega) [Ln.e, Ev.e, vsE, h1, h2, h3, h5, h6]; try simp only [gz])
             rfl
           refine hK _ ?_; clear hK
           refine LWP_cond (t := true) (by simp [LArg.ev, get_e0, get_e1, h1, h2, h3, h5, h6]) (fun _ => ?_) (fun h => by cases h)
           refine LWP_seq ?_
           apply LWP_run
           · repeat (simp -implicitDefEqProofs (maxSteps := 1000000) (disch := first | assumption | omega) [Ln.e, Ev.e, vsE, h1, h2, h3, h5, h6]; try simp only [gz])
             rfl
           -- leaf 2
           refine LWP_ret ⟨_, rfl, ?_⟩
           refine wkV_of_eq ?_
           simp only [retV]
           all_goals
            first
              | (rw [sm_big (by omega)]; done)
              | (rw [sm_ev (k := i) (by omega) (fun q => by have q1 := q.1; have q2 := q.2; omega)]; done)
              | (rw [sm_vs (k := i) (by omega) (by omega)]; done)
              | (rw [sm_yes (by omega) (fun k hk => c2 k (by omega) hk) (fun k hk => d2 k (by omega) hk)]; done)
              | trace_state
       ·try simp only [bn, reduceCtorEq] at h5
        all_goals try (exfalso; omega)
        all_goals
         refine LWP_exit ?_
         refine LWP_seq ?_
         refine LWP_seq ?_
         apply LWP_run
         · repeat (simp -implicitDefEqProofs (maxSteps := 1000000) (disch := first | assumption | omega) [Ln.e, Ev.e, vsE, h1, h2, h3, h5]; try simp only [gz])
           rfl
         refine LWP_block ?_
         refine LWP_for (fun (i : Nat) => [(1, .ptr 7 0 0 0), (4, .int .i64 (i : Nat))]) (fun (i : Nat) => [(0, Blk.rows 7 [x.e])]) (fun (i : Nat) n => i ≤ x.vs.length ∧ ∀ k, k < i → ∀ h : k < x.vs.length, x.vs[k].length ≤ 300) (fun (i : Nat) => x.vs.length - i) 0 ?_ ?_ ?_ ?_
         · simp (maxSteps := 1000000) (disch := first | assumption | omega) [leV, get_e0, get_e1, wkV.refl, wkV_int, decT, decF, Ln.e, Ev.e, vsE, h1, h2, h3, h5]
         · simp [leH, get_e0, get_e1, h1, h2, h3, h5]
           try rfl
         · exact ⟨Nat.zero_le _, fun k h => absurd h (Nat.not_lt_zero _)⟩
         rintro i n ⟨d1, d2⟩
         try simp only at *
         refine LWP_seq ?_
         refine LWP_seq ?_
         apply LWP_run
         · repeat (simp -implicitDefEqProofs (maxSteps := 1000000) (disch := first | assumption | omega) [Ln.e, Ev.e, vsE, h1, h2, h3, h5]; try simp only [gz])
           rfl
         refine LWP_cond rfl (fun h9 => ?_) (fun h9 => ?_)
         ·try simp only [bn, reduceCtorEq] at h9
          all_goals try (exfalso; omega)
          all_goals
           refine LWP_skip ?_
           refine LWP_seq ?_
           refine LWP_block ?_
           refine LWP_seq ?_
           apply LWP_run
           · repeat (simp -implicitDefEqProofs (maxSteps := 1000000) (disch := first | assumption | omega) [Ln.e, Ev.e, vsE, h1, h2, h3, h5, h9]; try simp only [gz])
             rfl
           refine LWP_cond rfl (fun h10 => ?_) (fun h10 => ?_)
           ·try simp only [bn, reduceCtorEq] at h10
            all_goals try (exfalso; omega)
            all_goals
             refine LWP_seq ?_
             apply LWP_run
             · repeat (simp -implicitDefEqProofs (maxSteps := 1000000) (disch := first | assumption | omega) [Ln.e, Ev.e, vsE, h1, h2, h3, h5, h9, h10]; try simp only [gz])
               rfl
             -- leaf 3
             refine LWP_ret ⟨_, rfl, ?_⟩
             refine wkV_of_eq ?_
             simp only [retV]
             all_goals
              first
                | (rw [sm_big (by omega)]; done)
                | (rw [sm_ev (k := i) (by omega) (fun q => by have q1 := q.1; have q2 := q.2; omega)]; done)
                | (rw [sm_vs (k := i) (by omega) (by omega)]; done)
                | (rw [sm_yes (by omega) (fun k hk => c2 k (by omega) hk) (fun k hk => d2 k (by omega) hk)]; done)
                | trace_state
           ·try simp only [bn, reduceCtorEq] at h10
            all_goals try (exfalso; omega)
            all_goals
             refine LWP_skip ?_
             apply LWP_run
             · repeat (simp -implicitDefEqProofs (maxSteps := 1000000) (disch := first | assumption | omega) [Ln.e, Ev.e, vsE, h1, h2, h3, h5, h9, h10]; try simp only [gz])
               rfl
             -- loop 1, round 0
             refine ⟨i + 1, ?_, ?_, ?_, ?_⟩
             · exact ⟨by omega, allk d2 fun _ => by omega⟩
             · omega
             · simp (maxSteps := 1000000) (disch := first | assumption | omega) [leV, get_e0, get_e1, wkV.refl, wkV_int, wrap_i64, decT, decF, Ln.e, Ev.e, vsE, h1, h2, h3, h5, h9, h10]
             · simp [leH, get_e0, get_e1, h1, h2, h3, h5, h9, h10]
               try rfl
         ·try simp only [bn, reduceCtorEq] at h9
          all_goals try (exfalso; omega)
          all_goals
           refine LWP_exit ?_
           refine LWP_seq ?_
           apply LWP_run
           · repeat (simp -implicitDefEqProofs (maxSteps := 1000000) (disch := first | assumption | omega) [Ln.e, Ev.e, vsE, h1, h2, h3, h5, h9]; try simp only [gz])
             rfl
           -- leaf 4
           refine LWP_ret ⟨_, rfl, ?_⟩
           refine wkV_of_eq ?_
           simp only [retV]
           all_goals
            first
              | (rw [sm_big (by omega)]; done)
              | (rw [sm_ev (k := i) (by omega) (fun q => by have q1 := q.1; have q2 := q.2; omega)]; done)
              | (rw [sm_vs (k := i) (by omega) (by omega)]; done)
              | (rw [sm_yes (by omega) (fun k hk => c2 k (by omega) hk) (fun k hk => d2 k (by omega) hk)]; done)
              | trace_state
   ·try simp only [bn, reduceCtorEq] at h2
    all_goals try (exfalso; omega)
    all_goals
     apply rgnS_pre 4
     · repeat (simp -implicitDefEqProofs (maxSteps := 1000000) (disch := first | assumption | omega) [Ln.e, Ev.e, vsE, h1, h2]; try simp only [gz])
       rfl
     refine hK _ ?_; clear hK
     refine LWP_cond (t := true) (by simp [LArg.ev, get_e0, get_e1, h1, h2]) (fun _ => ?_) (fun h => by cases h)
     refine LWP_seq ?_
     apply LWP_run
     · repeat (simp -implicitDefEqProofs (maxSteps := 1000000) (disch := first | assumption | omega) [Ln.e, Ev.e, vsE, h1, h2]; try simp only [gz])
       rfl
     -- leaf 5
     refine LWP_ret ⟨_, rfl, ?_⟩
     refine wkV_of_eq ?_
     simp only [retV]
     all_goals
      first
        | (rw [sm_big (by omega)]; done)
        | (rw [sm_ev (k := i) (by omega) (fun q => by have q1 := q.1; have q2 := q.2; omega)]; done)
        | (rw [sm_vs (k := i) (by omega) (by omega)]; done)
        | (rw [sm_yes (by omega) (fun k hk => c2 k (by omega) hk) (fun k hk => d2 k (by omega) hk)]; done)
        | trace_state
 ·try simp only [bn, reduceCtorEq] at h1
  all_goals try (exfalso; omega)
  all_goals
   apply rgnS_pre 8
   · repeat (simp -implicitDefEqProofs (maxSteps := 1000000) (disch := first | assumption | omega) [Ln.e, Ev.e, vsE, h1]; try simp only [gz])
     rfl
   apply rgnS_pre 2
   · repeat (simp -implicitDefEqProofs (maxSteps := 1000000) (disch := first | assumption | omega) [Ln.e, Ev.e, vsE, h1]; try simp only [gz])
     rfl
   refine hK _ ?_; clear hK
   refine LWP_cond (t := true) (by simp [LArg.ev, get_e0, get_e1, h1]) (fun _ => ?_) (fun h => by cases h)
   refine LWP_seq ?_
   apply LWP_run
   · repeat (simp -implicitDefEqProofs (maxSteps := 1000000) (disch := first | assumption | omega) [Ln.e, Ev.e, vsE, h1]; try simp only [gz])
     rfl
   -- leaf 6
   refine LWP_ret ⟨_, rfl, ?_⟩
   refine wkV_of_eq ?_
   simp only [retV]
   all_goals
    first
      | (rw [sm_big (by omega)]; done)
      | (rw [sm_ev (k := i) (by omega) (fun q => by have q1 := q.1; have q2 := q.2; omega)]; done)
      | (rw [sm_vs (k := i) (by omega) (by omega)]; done)
      | (rw [sm_yes (by omega) (fun k hk => c2 k (by omega) hk) (fun k hk => d2 k (by omega) hk)]; done)
      | trace_state
set_option maxHeartbeats 2000000 in
set_option maxRecDepth 20000 in
theorem sms_ok (l : List Ln)  : ACalls Go.Proofs.Tryz.prog 5 [.tsl 7 (l.map Ln.e)] [] 0 (fun r _ _ => r = .bool (smsB l)) := by
 refine pure_body ok5 rfl ?_
 simp only [parV]
 refine LWP_seq ?_
 apply LWP_run
 · repeat (simp -implicitDefEqProofs (maxSteps := 1000000) (disch := first | assumption | omega) [Ln.e, evN_0]; try simp only [gz])
   rfl
 refine LWP_seq ?_
 refine LWP_seq ?_
 apply LWP_run
 · repeat (simp -implicitDefEqProofs (maxSteps := 1000000) (disch := first | assumption | omega) [Ln.e, evN_0]; try simp only [gz])
   rfl
 refine LWP_cond rfl (fun h1 => ?_) (fun h1 => ?_)
 ·try simp only [bn, reduceCtorEq] at h1
  all_goals try (exfalso; omega)
  all_goals
   refine LWP_seq ?_
   apply LWP_run
   · repeat (simp -implicitDefEqProofs (maxSteps := 1000000) (disch := first | assumption | omega) [Ln.e, evN_0, h1]; try simp only [gz])
     rfl
   -- leaf 0
   refine LWP_ret ⟨_, rfl, ?_⟩
   refine wkV_of_eq ?_
   simp only [retV]
   all_goals
    first
      | (rw [sms_big (by omega)]; done)
      | (rw [sms_no (k := i) (by omega) (by assumption)]; done)
      | (rw [sms_end (by omega) (fun k hk => c2 k (by omega) hk), show l.length = i by omega]; exact congrArg AV.bool (decide_eq_decide.2 (by omega)))
      | trace_state
 ·try simp only [bn, reduceCtorEq] at h1
  all_goals try (exfalso; omega)
  all_goals
   refine LWP_skip ?_
   refine LWP_seq ?_
   apply LWP_run
   · repeat (simp -implicitDefEqProofs (maxSteps := 1000000) (disch := first | assumption | omega) [Ln.e, evN_0, h1]; try simp only [gz])
     rfl
   refine LWP_seq ?_
   refine LWP_seq ?_
   apply LWP_run
   · repeat (simp -implicitDefEqProofs (maxSteps := 1000000) (disch := first | assumption | omega) [Ln.e, evN_0, h1]; try simp only [gz])
     rfl
   refine LWP_block ?_
   refine LWP_for (fun (i : Nat) => [(0, .tsl 7 (l.map Ln.e)), (3, .int .i64 (evN l i : Nat)), (4, .int .i64 (i : Nat))]) (fun (i : Nat) => []) (fun (i : Nat) n => i ≤ l.length ∧ (∀ k, k < i → ∀ h : k < l.length, smB l[k] = true) ∧ evN l i ≤ 300 * i) (fun (i : Nat) => l.length - i) 0 ?_ ?_ ?_ ?_
   · simp (maxSteps := 1000000) (disch := first | assumption | omega) [leV, get_e0, get_e1, wkV.refl, wkV_int, decT, decF, Ln.e, evN_0, h1]
   · simp [leH, get_e0, get_e1, h1]
   · exact ⟨Nat.zero_le _, fun k h => absurd h (Nat.not_lt_zero _), by simp [evN_0]⟩
   rintro i n ⟨c1, c2, c3⟩
   try simp only at *
   have e1 := fun h => evN_1 (l := l) (i := i) h
   have e2 := fun h => sm_of (x := (l[i]'(h : i < l.length)))
   have ew := fun h hs => evN_w (l := l) (i := i) h hs c3 (by omega)
   refine LWP_seq ?_
   refine LWP_seq ?_
   apply LWP_run
   · repeat (simp -implicitDefEqProofs (maxSteps := 1000000) (disch := first | assumption | omega) [Ln.e, evN_0, h1, ew]; try simp only [gz])
     rfl
   refine LWP_cond rfl (fun h3 => ?_) (fun h3 => ?_)
   ·try simp only [bn, reduceCtorEq] at h3
    all_goals try (exfalso; omega)
    all_goals
     refine LWP_skip ?_
     refine LWP_seq ?_
     refine LWP_block ?_
     refine LWP_seq ?_
     refine LWP_seq ?_
     refine LWP_reg fun K hK => ?_
     apply rgnS_pre 4
     · repeat (simp -implicitDefEqProofs (maxSteps := 1000000) (disch := first | assumption | omega) [Ln.e, evN_0, h1, ew, h3]; try simp only [gz])
       rfl
     refine rgnS_call (sm_ok (l[i]'(by omega))) rfl rfl (by simp [pureL, pureR, AV.pure, Ln.e, evN_0, Ln.e, pure_ev, pure_tu, pure_vs]) (by simp [pureL, pureR, AV.pure, Ln.e, evN_0, Ln.e, pure_ev, pure_tu, pure_vs]) (by simp [gd, get_e0, get_e1, LArg.ev, h1, ew, h3]) ?_
     apply rgnS_pre 1
     · repeat (simp -implicitDefEqProofs (maxSteps := 1000000) (disch := first | assumption | omega) [Ln.e, evN_0, h1, ew, h3]; try simp only [gz])
       rfl
     refine hK _ ?_; clear hK
     refine LWP_cond rfl (fun h4 => ?_) (fun h4 => ?_)
     ·try simp only [bn, reduceCtorEq] at h4
      all_goals try (exfalso; omega)
      all_goals
       refine LWP_seq ?_
       apply LWP_run
       · repeat (simp -implicitDefEqProofs (maxSteps := 1000000) (disch := first | assumption | omega) [Ln.e, evN_0, h1, ew, h3, h4]; try simp only [gz])
         rfl
       -- leaf 1
       refine LWP_ret ⟨_, rfl, ?_⟩
       refine wkV_of_eq ?_
       simp only [retV]
       all_goals
        first
          | (rw [sms_big (by omega)]; done)
          | (rw [sms_no (k := i) (by omega) (by assumption)]; done)
          | (rw [sms_end (by omega) (fun k hk => c2 k (by omega) hk), show l.length = i by omega]; exact congrArg AV.bool (decide_eq_decide.2 (by omega)))
          | trace_state
     ·try simp only [bn, reduceCtorEq] at h4
      all_goals try (exfalso; omega)
      all_goals
       refine LWP_skip ?_
       apply LWP_run
       · repeat (simp -implicitDefEqProofs (maxSteps := 1000000) (disch := first | assumption | omega) [Ln.e, evN_0, h1, ew, h3, h4]; try simp only [gz])
         rfl
       apply LWP_run
       · repeat (simp -implicitDefEqProofs (maxSteps := 1000000) (disch := first | assumption | omega) [Ln.e, evN_0, h1, ew, h3, h4]; try simp only [gz])
         rfl
       -- loop 0, round 0
       refine ⟨i + 1, ?_, ?_, ?_, ?_⟩
       · have e3 := e2 (by omega) (by assumption)
         exact ⟨by omega, allk c2 fun _ => by assumption, by rw [e1 (by omega)]; omega⟩
       · omega
       · simp (maxSteps := 1000000) (disch := first | assumption | omega) [leV, get_e0, get_e1, wkV.refl, wkV_int, wrap_i64, decT, decF, Ln.e, evN_0, h1, ew, h3, h4]
       · simp [leH, get_e0, get_e1, h1, ew, h3, h4]
   ·try simp only [bn, reduceCtorEq] at h3
    all_goals try (exfalso; omega)
    all_goals
     refine LWP_exit ?_
     refine LWP_seq ?_
     apply LWP_run
     · repeat (simp -implicitDefEqProofs (maxSteps := 1000000) (disch := first | assumption | omega) [Ln.e, evN_0, h1, ew, h3]; try simp only [gz])
       rfl
     -- leaf 2
     refine LWP_ret ⟨_, rfl, ?_⟩
     refine wkV_of_eq ?_
     simp only [retV]
     all_goals
      first
        | (rw [sms_big (by omega)]; done)
        | (rw [sms_no (k := i) (by omega) (by assumption)]; done)
        | (rw [sms_end (by omega) (fun k hk => c2 k (by omega) hk), show l.length = i by omega]; exact congrArg AV.bool (decide_eq_decide.2 (by omega)))
        | trace_state
end

end Go.AM.Cl
