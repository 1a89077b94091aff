/- A part of a proof about the given program: what its name says. No premise beyond the statements'. -/
import Derived.Test.YtejmalikojmmgaaGreatClClE
import Derived.Test.YtejmalikojmmgaaGreatFD
set_option linter.unusedSimpArgs false
set_option linter.unusedVariables false
/- Which column is the first that fits. -/
namespace Go.AM.Cl
open Go.AM
open Go.AM.LineP
def ixF (p : Cl → Bool) : List Cl → Nat → Int
  | [], _ => -1
  | x :: r, i => if p x = true then (i : Int) else ixF p r (i + 1)
theorem ixF_step {p : Cl → Bool} {l : List Cl} {i : Nat} (h : i < l.length) : ixF p (l.drop i) i = if p l[i] = true then (i : Int) else ixF p (l.drop (i + 1)) (i + 1) := by
  rw [List.drop_eq_getElem_cons h]; rfl
theorem ixF_yes {p : Cl → Bool} {l : List Cl} {i : Nat} (h : i < l.length) (q : p l[i] = true) : ixF p (l.drop i) i = (i : Int) := by rw [ixF_step h, if_pos q]
theorem ixF_no {p : Cl → Bool} {l : List Cl} {i : Nat} (h : i < l.length) (q : p l[i] = false) : ixF p (l.drop i) i = ixF p (l.drop (i + 1)) (i + 1) := by rw [ixF_step h, if_neg (by rw [q]; simp)]
theorem ixF_end {p : Cl → Bool} {l : List Cl} {i : Nat} (h : l.length ≤ i) : ixF p (l.drop i) i = -1 := by rw [List.drop_eq_nil_of_le h]; rfl
theorem ixF_rng (p : Cl → Bool) : ∀ (l : List Cl) (k : Nat), ixF p l k = -1 ∨ ((k : Int) ≤ ixF p l k ∧ ixF p l k < k + l.length)
  | [], k => .inl rfl
  | x :: r, k => by
    simp only [ixF]
    split
    · right; simp only [List.length_cons]; omega
    · rcases ixF_rng p r (k + 1) with h | h
      · exact .inl h
      · right; simp only [List.length_cons]; omega
theorem ixF_off (p : Cl → Bool) : ∀ (l : List Cl) (k m : Nat), ixF p l (k + m) = if ixF p l k < 0 then -1 else ixF p l k + m
  | [], k, m => by simp [ixF]
  | x :: r, k, m => by
    simp only [ixF]
    split
    · rw [if_neg (by omega)]; omega
    · have := ixF_off p r (k + 1) m
      rw [Nat.add_right_comm] at this
      exact this
def hitB (n d : Int) (ch : Bool) (x : Cl) : Bool := decide (x.n = n) && decide (x.d = d) && decide (x.ch = ch)
noncomputable def hasB (ls : List Ln) (st : Int) (x : Cl) : Bool := decide (0 < (x.r.filter (thB ls st)).length)
def eq2B (a b c d : Int) : Bool := decide (a = c) && decide (b = d)
theorem eq2 (a b a' b' : Int) : eqV (.ag [.i, .i]) (.agg [.int .i64 a, .int .i64 b]) (.agg [.int .i64 a', .int .i64 b']) = some (eq2B a b a' b') := by
  simp only [eqV, eqL, eqS, grd, eq2B, decide_true]
  by_cases h1 : a = a' <;> by_cases h2 : b = b' <;> simp [h1, h2, beqF]
theorem eqb (a b : Bool) : eqV (.sc .b) (.bool a) (.bool b) = some (decide (a = b)) := by cases a <;> cases b <;> rfl
theorem hit_yes {n d : Int} {ch : Bool} {x : Cl} (h1 : eq2B x.n x.d n d = true) (h2 : x.ch = ch) : hitB n d ch x = true := by
  simp only [eq2B, Bool.and_eq_true] at h1
  simp only [hitB, h1.1, h1.2, h2, decide_true, Bool.and_self]
theorem hit_n1 {n d : Int} {ch : Bool} {x : Cl} (h1 : eq2B x.n x.d n d = false) : hitB n d ch x = false := by
  simp only [eq2B] at h1
  simp only [hitB, h1, Bool.false_and]
theorem hit_n2 {n d : Int} {ch : Bool} {x : Cl} (h2 : ¬ x.ch = ch) : hitB n d ch x = false := by
  simp only [hitB, decide_eq_false h2, Bool.and_false]

section
attribute [local simp ↓] List.map_nil List.map_cons
attribute [local simp] m_ o_ g_ stepsS stepS gd opEff appEff LArg.ev app_val app_new app_upd app_kill putV ins_e0 ins_e1 get_e0 get_e1 binV binI grd bnd ldCells AV.cells AV.scalar AV.known setAt fillL chunks elems mxI mnI del Nat.add_assoc nlt_self nne_self nne_self' List.take_of_length_le decT decF wrap_i64 stepsD stepD ST.as dEffF LOp.cls softOK LOp.args LOp.rds AV.ids appD_val appD_new appD_upd appD_kill AS.flush delAll
set_option maxHeartbeats 2000000 in
set_option maxRecDepth 20000 in
theorem lit1_ok (c : Cl) (tn td : Int) (ch : Bool)  : ACalls Go.Proofs.Tryz.prog 19 [.agg c.e, .cptr [.int .i64 tn, .int .i64 td], .cptr [.bool ch]] [] 0 (fun r _ _ => r = .bool (hitB tn td ch c)) := by
 refine pure_body ok19 rfl ?_
 simp only [parV]
 refine LWP_seq ?_
 apply LWP_run
 · repeat (simp -implicitDefEqProofs (maxSteps := 1000000) (disch := first | assumption | omega) [Cl.e, eq2, eqb]; try simp only [gz])
   rfl
 refine LWP_seq ?_
 refine LWP_reg fun K hK => ?_
 apply rgnS_pre 5
 · repeat (simp -implicitDefEqProofs (maxSteps := 1000000) (disch := first | assumption | omega) [Cl.e, eq2, eqb]; try simp only [gz])
   rfl
 refine rgnS_guard (x := 9) (b := true) rfl (fun h1 => ?_) (fun h1 => ?_)
 ·try simp only [bn, reduceCtorEq] at h1
  all_goals try (exfalso; omega)
  all_goals
   apply rgnS_pre 6
   · repeat (simp -implicitDefEqProofs (maxSteps := 1000000) (disch := first | assumption | omega) [Cl.e, eq2, eqb, h1]; try simp only [gz])
     rfl
   refine hK _ ?_; clear hK
   -- leaf 0
   refine LWP_ret ⟨_, rfl, ?_⟩
   refine wkV_of_eq ?_
   simp only [retV]
   all_goals
    first
      | (rw [hit_n1 (by assumption)]; done)
      | (simp_all [hitB, eq2B]; done)
      | trace_state
 ·try simp only [bn, reduceCtorEq] at h1
  all_goals try (exfalso; omega)
  all_goals
   apply rgnS_pre 5
   · repeat (simp -implicitDefEqProofs (maxSteps := 1000000) (disch := first | assumption | omega) [Cl.e, eq2, eqb, h1]; try simp only [gz])
     rfl
   refine hK _ ?_; clear hK
   -- leaf 1
   refine LWP_ret ⟨_, rfl, ?_⟩
   refine wkV_of_eq ?_
   simp only [retV]
   all_goals
    first
      | (rw [hit_n1 (by assumption)]; done)
      | (simp_all [hitB, eq2B]; done)
      | trace_state
set_option maxHeartbeats 2000000 in
set_option maxRecDepth 20000 in
theorem lit2_ok (c : Cl) (ls : List Ln) (st : Int) (hc : c.r.length ≤ 300) : ACalls Go.Proofs.Tryz.prog 20 [.agg c.e, .cptr [.tsl 7 (ls.map Ln.e)], .cptr [.int .i64 st]] [] 0 (fun r _ _ => r = .bool (hasB ls st c)) := by
 refine pure_body ok20 rfl ?_
 simp only [parV]
 refine LWP_seq ?_
 apply LWP_run
 · repeat (simp -implicitDefEqProofs (maxSteps := 1000000) (disch := first | assumption | omega) [Cl.e, pure_ln, pure_rf]; try simp only [gz])
   rfl
 refine LWP_seq ?_
 refine LWP_reg fun K hK => ?_
 apply rgnS_pre 3
 · repeat (simp -implicitDefEqProofs (maxSteps := 1000000) (disch := first | assumption | omega) [Cl.e, pure_ln, pure_rf]; try simp only [gz])
   rfl
 refine rgnS_call (staff_ok c ls st hc) rfl rfl (by simp [pureL, pureR, AV.pure, Cl.e, pure_ln, pure_rf, pure_ln]) (by simp [pureL, pureR, AV.pure, Cl.e, pure_ln, pure_rf, pure_ln]) (by simp [gd, get_e0, get_e1, LArg.ev]) ?_
 apply rgnS_pre 3
 · repeat (simp -implicitDefEqProofs (maxSteps := 1000000) (disch := first | assumption | omega) [Cl.e, pure_ln, pure_rf]; try simp only [gz])
   rfl
 refine hK _ ?_; clear hK
 -- leaf 0
 refine LWP_ret ⟨_, rfl, ?_⟩
 refine wkV_of_eq ?_
 simp only [retV]
 all_goals
  first
    | (simp [hasB]; done)
    | trace_state
set_option maxHeartbeats 2000000 in
set_option maxRecDepth 20000 in
theorem ix1_ok (c : List Cl) (tn td : Int) (ch : Bool) (hl : c.length < 1000000) : ACalls Go.Proofs.Tryz.prog 18 [.tsl 5 (c.map Cl.e), .fn 19 [] [.cptr [.int .i64 tn, .int .i64 td], .cptr [.bool ch]]] [] 0 (fun r _ _ => r = .int .i64 (ixF (hitB tn td ch) c 0)) := by
 refine pure_body ok18 rfl ?_
 simp only [parV]
 refine LWP_seq ?_
 apply LWP_run
 · repeat (simp -implicitDefEqProofs (maxSteps := 1000000) (disch := first | assumption | omega) [Cl.e, pure_ln, pure_rf]; try simp only [gz])
   rfl
 refine LWP_seq ?_
 refine LWP_seq ?_
 apply LWP_run
 · repeat (simp -implicitDefEqProofs (maxSteps := 1000000) (disch := first | assumption | omega) [Cl.e, pure_ln, pure_rf]; try simp only [gz])
   rfl
 refine LWP_block ?_
 refine LWP_for (fun (i : Nat) => [(0, .tsl 5 (c.map Cl.e)), (1, .fn 19 [] [.cptr [.int .i64 tn, .int .i64 td], .cptr [.bool ch]]), (7, .int .i64 (c.length : Nat)), (8, .int .i64 (i : Nat))]) (fun (i : Nat) => []) (fun (i : Nat) n => i ≤ c.length ∧ ixF (hitB tn td ch) c 0 = ixF (hitB tn td ch) (c.drop i) i) (fun (i : Nat) => c.length - i) 0 ?_ ?_ ?_ ?_
 · simp (maxSteps := 1000000) (disch := first | assumption | omega) [leV, get_e0, get_e1, wkV.refl, wkV_int, decT, decF, Cl.e, pure_ln, pure_rf]
 · simp [leH, get_e0, get_e1]
 · exact ⟨Nat.zero_le _, by simp⟩
 rintro i n ⟨c1, c2⟩
 try simp only at *
 refine LWP_seq ?_
 apply LWP_run
 · repeat (simp -implicitDefEqProofs (maxSteps := 1000000) (disch := first | assumption | omega) [Cl.e, pure_ln, pure_rf]; try simp only [gz])
   rfl
 refine LWP_seq ?_
 refine LWP_cond rfl (fun h2 => ?_) (fun h2 => ?_)
 ·try simp only [bn, reduceCtorEq] at h2
  all_goals try (exfalso; omega)
  all_goals
   refine LWP_skip ?_
   refine LWP_seq ?_
   refine LWP_block ?_
   refine LWP_seq ?_
   apply LWP_run
   · repeat (simp -implicitDefEqProofs (maxSteps := 1000000) (disch := first | assumption | omega) [Cl.e, pure_ln, pure_rf, h2]; try simp only [gz])
     rfl
   refine LWP_seq ?_
   refine LWP_reg fun K hK => ?_
   apply rgnS_pre 5
   · repeat (simp -implicitDefEqProofs (maxSteps := 1000000) (disch := first | assumption | omega) [Cl.e, pure_ln, pure_rf, h2]; try simp only [gz])
     rfl
   refine rgnS_call (lit1_ok (c[i]'(by omega)) tn td ch) rfl rfl (by simp [pureL, pureR, AV.pure, Cl.e, pure_ln, pure_rf, Cl.e, pure_rf, pure_ln]) (by simp [pureL, pureR, AV.pure, Cl.e, pure_ln, pure_rf, Cl.e, pure_rf, pure_ln]) (by simp [gd, get_e0, get_e1, LArg.ev, h2]) ?_
   refine hK _ ?_; clear hK
   refine LWP_cond rfl (fun h3 => ?_) (fun h3 => ?_)
   ·try simp only [bn, reduceCtorEq] at h3
    all_goals try (exfalso; omega)
    all_goals
     refine LWP_seq ?_
     apply LWP_run
     · repeat (simp -implicitDefEqProofs (maxSteps := 1000000) (disch := first | assumption | omega) [Cl.e, pure_ln, pure_rf, h2, h3]; try simp only [gz])
       rfl
     -- leaf 0
     refine LWP_ret ⟨_, rfl, ?_⟩
     refine wkV_of_eq ?_
     simp only [retV]
     all_goals
      first
        | (rw [c2, ixF_yes (by omega) (by assumption)]; done)
        | (rw [c2, ixF_end (by omega)]; done)
        | trace_state
   ·try simp only [bn, reduceCtorEq] at h3
    all_goals try (exfalso; omega)
    all_goals
     refine LWP_skip ?_
     apply LWP_run
     · repeat (simp -implicitDefEqProofs (maxSteps := 1000000) (disch := first | assumption | omega) [Cl.e, pure_ln, pure_rf, h2, h3]; try simp only [gz])
       rfl
     -- loop 0, round 0
     refine ⟨i + 1, ?_, ?_, ?_, ?_⟩
     · exact ⟨by omega, by rw [c2, ixF_no (by omega) (by assumption)]⟩
     · omega
     · simp (maxSteps := 1000000) (disch := first | assumption | omega) [leV, get_e0, get_e1, wkV.refl, wkV_int, wrap_i64, decT, decF, Cl.e, pure_ln, pure_rf, h2, h3]
     · simp [leH, get_e0, get_e1, h2, h3]
 ·try simp only [bn, reduceCtorEq] at h2
  all_goals try (exfalso; omega)
  all_goals
   refine LWP_exit ?_
   refine LWP_seq ?_
   apply LWP_run
   · repeat (simp -implicitDefEqProofs (maxSteps := 1000000) (disch := first | assumption | omega) [Cl.e, pure_ln, pure_rf, h2]; try simp only [gz])
     rfl
   -- leaf 1
   refine LWP_ret ⟨_, rfl, ?_⟩
   refine wkV_of_eq ?_
   simp only [retV]
   all_goals
    first
      | (rw [c2, ixF_yes (by omega) (by assumption)]; done)
      | (rw [c2, ixF_end (by omega)]; done)
      | trace_state
set_option maxHeartbeats 2000000 in
set_option maxRecDepth 20000 in
theorem ix2_ok (c : List Cl) (ls : List Ln) (st : Int) (hl : c.length < 1000000) (hr : ∀ x ∈ c, x.r.length ≤ 300) : ACalls Go.Proofs.Tryz.prog 18 [.tsl 5 (c.map Cl.e), .fn 20 [] [.cptr [.tsl 7 (ls.map Ln.e)], .cptr [.int .i64 st]]] [] 0 (fun r _ _ => r = .int .i64 (ixF (hasB ls st) c 0)) := by
 refine pure_body ok18 rfl ?_
 simp only [parV]
 refine LWP_seq ?_
 apply LWP_run
 · repeat (simp -implicitDefEqProofs (maxSteps := 1000000) (disch := first | assumption | omega) [Cl.e, pure_ln, pure_rf]; try simp only [gz])
   rfl
 refine LWP_seq ?_
 refine LWP_seq ?_
 apply LWP_run
 · repeat (simp -implicitDefEqProofs (maxSteps := 1000000) (disch := first | assumption | omega) [Cl.e, pure_ln, pure_rf]; try simp only [gz])
   rfl
 refine LWP_block ?_
 refine LWP_for (fun (i : Nat) => [(0, .tsl 5 (c.map Cl.e)), (1, .fn 20 [] [.cptr [.tsl 7 (ls.map Ln.e)], .cptr [.int .i64 st]]), (7, .int .i64 (c.length : Nat)), (8, .int .i64 (i : Nat))]) (fun (i : Nat) => []) (fun (i : Nat) n => i ≤ c.length ∧ ixF (hasB ls st) c 0 = ixF (hasB ls st) (c.drop i) i) (fun (i : Nat) => c.length - i) 0 ?_ ?_ ?_ ?_
 · simp (maxSteps := 1000000) (disch := first | assumption | omega) [leV, get_e0, get_e1, wkV.refl, wkV_int, decT, decF, Cl.e, pure_ln, pure_rf]
 · simp [leH, get_e0, get_e1]
 · exact ⟨Nat.zero_le _, by simp⟩
 rintro i n ⟨c1, c2⟩
 try simp only at *
 refine LWP_seq ?_
 apply LWP_run
 · repeat (simp -implicitDefEqProofs (maxSteps := 1000000) (disch := first | assumption | omega) [Cl.e, pure_ln, pure_rf]; try simp only [gz])
   rfl
 refine LWP_seq ?_
 refine LWP_cond rfl (fun h2 => ?_) (fun h2 => ?_)
 ·try simp only [bn, reduceCtorEq] at h2
  all_goals try (exfalso; omega)
  all_goals
   refine LWP_skip ?_
   refine LWP_seq ?_
   refine LWP_block ?_
   refine LWP_seq ?_
   apply LWP_run
   · repeat (simp -implicitDefEqProofs (maxSteps := 1000000) (disch := first | assumption | omega) [Cl.e, pure_ln, pure_rf, h2]; try simp only [gz])
     rfl
   refine LWP_seq ?_
   refine LWP_reg fun K hK => ?_
   apply rgnS_pre 5
   · repeat (simp -implicitDefEqProofs (maxSteps := 1000000) (disch := first | assumption | omega) [Cl.e, pure_ln, pure_rf, h2]; try simp only [gz])
     rfl
   refine rgnS_call (lit2_ok (c[i]'(by omega)) ls st (hr _ (List.getElem_mem (by omega)))) rfl rfl (by simp [pureL, pureR, AV.pure, Cl.e, pure_ln, pure_rf, Cl.e, pure_rf, pure_ln]) (by simp [pureL, pureR, AV.pure, Cl.e, pure_ln, pure_rf, Cl.e, pure_rf, pure_ln]) (by simp [gd, get_e0, get_e1, LArg.ev, h2]) ?_
   refine hK _ ?_; clear hK
   refine LWP_cond rfl (fun h3 => ?_) (fun h3 => ?_)
   ·try simp only [bn, reduceCtorEq] at h3
    all_goals try (exfalso; omega)
    all_goals
     refine LWP_seq ?_
     apply LWP_run
     · repeat (simp -implicitDefEqProofs (maxSteps := 1000000) (disch := first | assumption | omega) [Cl.e, pure_ln, pure_rf, h2, h3]; try simp only [gz])
       rfl
     -- leaf 0
     refine LWP_ret ⟨_, rfl, ?_⟩
     refine wkV_of_eq ?_
     simp only [retV]
     all_goals
      first
        | (rw [c2, ixF_yes (by omega) (by assumption)]; done)
        | (rw [c2, ixF_end (by omega)]; done)
        | trace_state
   ·try simp only [bn, reduceCtorEq] at h3
    all_goals try (exfalso; omega)
    all_goals
     refine LWP_skip ?_
     apply LWP_run
     · repeat (simp -implicitDefEqProofs (maxSteps := 1000000) (disch := first | assumption | omega) [Cl.e, pure_ln, pure_rf, h2, h3]; try simp only [gz])
       rfl
     -- loop 0, round 0
     refine ⟨i + 1, ?_, ?_, ?_, ?_⟩
     · exact ⟨by omega, by rw [c2, ixF_no (by omega) (by assumption)]⟩
     · omega
     · simp (maxSteps := 1000000) (disch := first | assumption | omega) [leV, get_e0, get_e1, wkV.refl, wkV_int, wrap_i64, decT, decF, Cl.e, pure_ln, pure_rf, h2, h3]
     · simp [leH, get_e0, get_e1, h2, h3]
 ·try simp only [bn, reduceCtorEq] at h2
  all_goals try (exfalso; omega)
  all_goals
   refine LWP_exit ?_
   refine LWP_seq ?_
   apply LWP_run
   · repeat (simp -implicitDefEqProofs (maxSteps := 1000000) (disch := first | assumption | omega) [Cl.e, pure_ln, pure_rf, h2]; try simp only [gz])
     rfl
   -- leaf 1
   refine LWP_ret ⟨_, rfl, ?_⟩
   refine wkV_of_eq ?_
   simp only [retV]
   all_goals
    first
      | (rw [c2, ixF_yes (by omega) (by assumption)]; done)
      | (rw [c2, ixF_end (by omega)]; done)
      | trace_state
set_option maxHeartbeats 2000000 in
set_option maxRecDepth 20000 in
theorem find_ok (c : List Cl) (tn td : Int) (ch : Bool) (hl : c.length < 1000000) : ACalls Go.Proofs.Tryz.prog 7 [.tsl 5 (c.map Cl.e), .agg [.int .i64 tn, .int .i64 td], .bool ch] [] 0 (fun r _ _ => r = .int .i64 (ixF (hitB tn td ch) c 0)) := by
 refine pure_body ok7 rfl ?_
 simp only [parV]
 have hcl := pure_cl c
 refine LWP_seq ?_
 apply LWP_run
 · repeat (simp -implicitDefEqProofs (maxSteps := 1000000) (disch := first | assumption | omega) []; try simp only [gz])
   rfl
 refine LWP_seq ?_
 refine LWP_reg fun K hK => ?_
 apply rgnS_pre 2
 · repeat (simp -implicitDefEqProofs (maxSteps := 1000000) (disch := first | assumption | omega) []; try simp only [gz])
   rfl
 obtain ⟨m_, hm_⟩ := deep_lent (H := [(1, Blk.rows 1 [[AV.bool ch]]), (0, Blk.rows 2 [[AV.int .i64 tn, AV.int .i64 td]])]) (g := 19) (v := .tsl 5 (c.map Cl.e)) (c1 := .ptr 2 0 0 0) (c2 := .ptr 1 1 0 0) (by simp [AV.pure, hcl]) (deep_box (cs := [AV.int .i64 tn, AV.int .i64 td]) (by simp [get_e0, get_e1]) (by simp [pureL, AV.pure])) (deep_box (cs := [AV.bool ch]) (by simp [get_e0, get_e1]) (by simp [pureL, AV.pure]))
 refine rgnS_lend (m := m_) (ix1_ok c tn td ch hl) rfl rfl (by simp [pureL, pureR, AV.pure, pure_cl]) hm_ rfl (by simp [gd, get_e0, get_e1, LArg.ev]) ?_
 apply rgnS_pre 1
 · repeat (simp -implicitDefEqProofs (maxSteps := 1000000) (disch := first | assumption | omega) []; try simp only [gz])
   rfl
 refine hK _ ?_; clear hK
 -- leaf 0
 refine LWP_ret ⟨_, rfl, ?_⟩
 refine wkV_of_eq ?_
 simp only [retV]
 all_goals
  rfl
set_option maxHeartbeats 2000000 in
set_option maxRecDepth 20000 in
theorem rfind_ok (c : List Cl) (tn td : Int) (ch : Bool) (hl : c.length < 1000000) : ACalls Go.Proofs.Tryz.prog 8 [.tsl 5 (c.map Cl.e), .agg [.int .i64 tn, .int .i64 td], .bool ch] [] 0 (fun r _ _ => r = .int .i64 (ixF (hitB tn td ch) c 0)) := by
 refine pure_body ok8 rfl ?_
 simp only [parV]
 refine LWP_seq ?_
 apply LWP_run
 · repeat (simp -implicitDefEqProofs (maxSteps := 1000000) (disch := first | assumption | omega) [Cl.e, eq2, eqb]; try simp only [gz])
   rfl
 refine LWP_seq ?_
 refine LWP_seq ?_
 apply LWP_run
 · repeat (simp -implicitDefEqProofs (maxSteps := 1000000) (disch := first | assumption | omega) [Cl.e, eq2, eqb]; try simp only [gz])
   rfl
 refine LWP_block ?_
 refine LWP_for (fun (i : Nat) => [(0, .tsl 5 (c.map Cl.e)), (2, .bool ch), (4, .ptr 2 0 0 0), (7, .int .i64 (i : Nat))]) (fun (i : Nat) => [(0, Blk.rows 2 [[.int .i64 tn, .int .i64 td]])]) (fun (i : Nat) n => i ≤ c.length ∧ ixF (hitB tn td ch) c 0 = ixF (hitB tn td ch) (c.drop i) i ∧ 0 < n) (fun (i : Nat) => c.length - i) 0 ?_ ?_ ?_ ?_
 · simp (maxSteps := 1000000) (disch := first | assumption | omega) [leV, get_e0, get_e1, wkV.refl, wkV_int, decT, decF, Cl.e, eq2, eqb]
 · simp [leH, get_e0, get_e1]
   try rfl
 · exact ⟨Nat.zero_le _, by simp, by simp⟩
 rintro i n ⟨c1, c2, c0⟩
 try simp only at *
 refine LWP_seq ?_
 refine LWP_seq ?_
 apply LWP_run
 · repeat (simp -implicitDefEqProofs (maxSteps := 1000000) (disch := first | assumption | omega) [Cl.e, eq2, eqb, c0]; try simp only [gz])
   rfl
 refine LWP_cond rfl (fun h2 => ?_) (fun h2 => ?_)
 ·try simp only [bn, reduceCtorEq] at h2
  all_goals try (exfalso; omega)
  all_goals
   refine LWP_skip ?_
   refine LWP_seq ?_
   refine LWP_block ?_
   refine LWP_seq ?_
   refine LWP_regD' fun K hK => ?_
   apply rgnD_pre 8
   · repeat (simp -implicitDefEqProofs (maxSteps := 1000000) (disch := first | assumption | omega) [Cl.e, eq2, eqb, c0, h2]; try simp only [gz])
     rfl
   refine rgnD_guard (x := 21) (b := true) rfl (fun h3 => ?_) (fun h3 => ?_)
   ·try simp only [bn, reduceCtorEq] at h3
    all_goals try (exfalso; omega)
    all_goals
     apply rgnD_pre 8
     · repeat (simp -implicitDefEqProofs (maxSteps := 1000000) (disch := first | assumption | omega) [Cl.e, eq2, eqb, c0, h2, h3]; try simp only [gz])
       rfl
     refine hK _ _ (by simp [AS.fin, delAll, del, Nat.add_assoc]; rfl) ?_; clear hK
     refine LWP_cond rfl (fun h4 => ?_) (fun h4 => ?_)
     ·try simp only [bn, reduceCtorEq] at h4
      all_goals try (exfalso; omega)
      all_goals
       refine LWP_seq ?_
       apply LWP_run
       · repeat (simp -implicitDefEqProofs (maxSteps := 1000000) (disch := first | assumption | omega) [Cl.e, eq2, eqb, c0, h2, h3, h4]; try simp only [gz])
         rfl
       -- leaf 0
       refine LWP_ret ⟨_, rfl, ?_⟩
       refine wkV_of_eq ?_
       simp only [retV]
       all_goals
        first
          | (rw [c2, ixF_yes (by omega) (hit_yes (by assumption) (by simp_all))]; done)
          | (rw [c2, ixF_end (by omega)]; done)
          | trace_state
     ·try simp only [bn, reduceCtorEq] at h4
      all_goals try (exfalso; omega)
      all_goals
       refine LWP_skip ?_
       apply LWP_run
       · repeat (simp -implicitDefEqProofs (maxSteps := 1000000) (disch := first | assumption | omega) [Cl.e, eq2, eqb, c0, h2, h3, h4]; try simp only [gz])
         rfl
       -- loop 0, round 0
       refine ⟨i + 1, ?_, ?_, ?_, ?_⟩
       · refine ⟨by omega, ?_, by first | omega | (simp only; omega)⟩
         rw [c2, ixF_no (by omega) (by first | exact hit_n1 (by assumption) | exact hit_n2 (by simp_all))]
       · omega
       · simp (maxSteps := 1000000) (disch := first | assumption | omega) [leV, get_e0, get_e1, wkV.refl, wkV_int, wrap_i64, decT, decF, Cl.e, eq2, eqb, c0, h2, h3, h4]
       · simp [leH, get_e0, get_e1, c0, h2, h3, h4]
         try rfl
   ·try simp only [bn, reduceCtorEq] at h3
    all_goals try (exfalso; omega)
    all_goals
     apply rgnD_pre 7
     · repeat (simp -implicitDefEqProofs (maxSteps := 1000000) (disch := first | assumption | omega) [Cl.e, eq2, eqb, c0, h2, h3]; try simp only [gz])
       rfl
     refine hK _ _ (by simp [AS.fin, delAll, del, Nat.add_assoc]; rfl) ?_; clear hK
     refine LWP_cond (t := false) (by simp [LArg.ev, get_e0, get_e1, c0, h2, h3]) (fun h => by cases h) (fun _ => ?_)
     refine LWP_skip ?_
     apply LWP_run
     · repeat (simp -implicitDefEqProofs (maxSteps := 1000000) (disch := first | assumption | omega) [Cl.e, eq2, eqb, c0, h2, h3]; try simp only [gz])
       rfl
     -- loop 0, round 1
     refine ⟨i + 1, ?_, ?_, ?_, ?_⟩
     · refine ⟨by omega, ?_, by first | omega | (simp only; omega)⟩
       rw [c2, ixF_no (by omega) (by first | exact hit_n1 (by assumption) | exact hit_n2 (by simp_all))]
     · omega
     · simp (maxSteps := 1000000) (disch := first | assumption | omega) [leV, get_e0, get_e1, wkV.refl, wkV_int, wrap_i64, decT, decF, Cl.e, eq2, eqb, c0, h2, h3]
     · simp [leH, get_e0, get_e1, c0, h2, h3]
       try rfl
 ·try simp only [bn, reduceCtorEq] at h2
  all_goals try (exfalso; omega)
  all_goals
   refine LWP_exit ?_
   refine LWP_seq ?_
   apply LWP_run
   · repeat (simp -implicitDefEqProofs (maxSteps := 1000000) (disch := first | assumption | omega) [Cl.e, eq2, eqb, c0, h2]; try simp only [gz])
     rfl
   -- leaf 1
   refine LWP_ret ⟨_, rfl, ?_⟩
   refine wkV_of_eq ?_
   simp only [retV]
   all_goals
    first
      | (rw [c2, ixF_yes (by omega) (hit_yes (by assumption) (by simp_all))]; done)
      | (rw [c2, ixF_end (by omega)]; done)
      | trace_state
end

noncomputable def nxV (c : List Cl) (i : Int) (ls : List Ln) (st : Int) : Int := if i < -1 ∨ (c.length : Int) ≤ i then -1 else ixF (hasB ls st) (c.drop (i + 1).toNat) (i + 1).toNat
theorem nx_out {c : List Cl} {i : Int} {ls : List Ln} {st : Int} (h : i < -1 ∨ (c.length : Int) ≤ i) : nxV c i ls st = -1 := if_pos h
theorem nx_in {c : List Cl} {i : Int} {ls : List Ln} {st : Int} (h : ¬ (i < -1 ∨ (c.length : Int) ≤ i)) : nxV c i ls st = ixF (hasB ls st) (c.drop (i + 1).toNat) (i + 1).toNat := if_neg h
theorem nx_off {c : List Cl} {i : Int} {ls : List Ln} {st : Int} (h : ¬ (i < -1 ∨ (c.length : Int) ≤ i)) : nxV c i ls st = if ixF (hasB ls st) (c.drop (i + 1).toNat) 0 < 0 then -1 else ixF (hasB ls st) (c.drop (i + 1).toNat) 0 + (i + 1) := by
  rw [nx_in h]
  have := ixF_off (hasB ls st) (c.drop (i + 1).toNat) 0 (i + 1).toNat
  rw [Nat.zero_add] at this
  rw [this, show (((i + 1).toNat : Nat) : Int) = i + 1 by omega]
theorem mem_drop {c : List Cl} {k : Nat} (hr : ∀ x ∈ c, x.r.length ≤ 300) : ∀ x ∈ c.drop k, x.r.length ≤ 300 := fun x hx => hr x (List.mem_of_mem_drop hx)

section
attribute [local simp ↓] List.map_nil List.map_cons
attribute [local simp] m_ o_ g_ stepsS stepS gd opEff appEff LArg.ev app_val app_new app_upd app_kill putV ins_e0 ins_e1 get_e0 get_e1 binV binI grd bnd ldCells AV.cells AV.scalar AV.known setAt fillL chunks elems mxI mnI del Nat.add_assoc nlt_self nne_self nne_self' List.take_of_length_le decT decF wrap_i64 stepsD stepD ST.as dEffF LOp.cls softOK LOp.args LOp.rds AV.ids appD_val appD_new appD_upd appD_kill AS.flush delAll
set_option maxHeartbeats 2000000 in
set_option maxRecDepth 20000 in
theorem next_ok (c : List Cl) (i : Int) (ls : List Ln) (st : Int) (hl : c.length ≤ 300) (hr : ∀ x ∈ c, x.r.length ≤ 300) : ACalls Go.Proofs.Tryz.prog 9 [.tsl 5 (c.map Cl.e), .int .i64 i, .tsl 7 (ls.map Ln.e), .int .i64 st] [] 0 (fun r _ _ => r = .int .i64 (nxV c i ls st)) := by
 refine pure_body ok9 rfl ?_
 simp only [parV]
 have hz := ixF_rng (hasB ls st) (c.drop (i + 1).toNat) 0
 have hw : ¬ (i < -1 ∨ (c.length : Int) ≤ i) → IntKind.i64.wrap (i + 1) = i + 1 := fun h => wrap_i64 (by omega) (by omega)
 have hlen : (c.drop (i + 1).toNat).length = c.length - (i + 1).toNat := List.length_drop
 have hmap : List.map Cl.e (c.drop (i + 1).toNat) = (c.map Cl.e).drop (i + 1).toNat := List.map_drop
 have hpd : pureR (List.drop (i + 1).toNat (List.map Cl.e c)) = true := by rw [← hmap]; exact pure_cl _
 have hq : ¬ (i < -1 ∨ (c.length : Int) ≤ i) → List.take ((c.length : Int) - (i + 1)).toNat (List.drop (i + 1).toNat (List.map Cl.e c)) = List.drop (i + 1).toNat (List.map Cl.e c) := fun h => List.take_of_length_le (by simp; omega)
 have hix := ix2_ok (c.drop (i + 1).toNat) ls st (by omega) (mem_drop hr)
 rw [hmap] at hix
 refine LWP_seq ?_
 apply LWP_run
 · repeat (simp -implicitDefEqProofs (maxSteps := 1000000) (disch := first | assumption | omega) [pure_ln, hw, hq]; try simp only [gz])
   rfl
 refine LWP_seq ?_
 refine LWP_seq ?_
 refine LWP_reg fun K hK => ?_
 apply rgnS_pre 3
 · repeat (simp -implicitDefEqProofs (maxSteps := 1000000) (disch := first | assumption | omega) [pure_ln, hw, hq]; try simp only [gz])
   rfl
 refine rgnS_guard (x := 13) (b := false) rfl (fun h1 => ?_) (fun h1 => ?_)
 ·try simp only [bn, reduceCtorEq] at h1
  all_goals try (exfalso; omega)
  all_goals
   apply rgnS_pre 5
   · repeat (simp -implicitDefEqProofs (maxSteps := 1000000) (disch := first | assumption | omega) [pure_ln, hw, hq, h1]; try simp only [gz])
     rfl
   refine hK _ ?_; clear hK
   refine LWP_cond rfl (fun h2 => ?_) (fun h2 => ?_)
   ·try simp only [bn, reduceCtorEq] at h2
    all_goals try (exfalso; omega)
    all_goals
     refine LWP_seq ?_
     apply LWP_run
     · repeat (simp -implicitDefEqProofs (maxSteps := 1000000) (disch := first | assumption | omega) [pure_ln, hw, hq, h1, h2]; try simp only [gz])
       rfl
     -- leaf 0
     refine LWP_ret ⟨_, rfl, ?_⟩
     refine wkV_of_eq ?_
     simp only [retV]
     all_goals
      first
        | (rw [nx_out (by omega)]; done)
        | (rw [nx_off (by omega), if_pos (by assumption)]; done)
        | (rw [nx_off (by omega), if_neg (by omega)]; congr 1; omega)
        | trace_state
   ·try simp only [bn, reduceCtorEq] at h2
    all_goals try (exfalso; omega)
    all_goals
     refine LWP_skip ?_
     refine LWP_seq ?_
     apply LWP_run
     · repeat (simp -implicitDefEqProofs (maxSteps := 1000000) (disch := first | assumption | omega) [pure_ln, hw, hq, h1, h2]; try simp only [gz])
       rfl
     refine LWP_seq ?_
     refine LWP_reg fun K hK => ?_
     apply rgnS_pre 4
     · repeat (simp -implicitDefEqProofs (maxSteps := 1000000) (disch := first | assumption | omega) [pure_ln, hw, hq, h1, h2]; try simp only [gz])
       rfl
     obtain ⟨m_, hm_⟩ := deep_lent (H := [(1, Blk.rows 1 [[.int .i64 st]]), (0, Blk.rows 1 [[.tsl 7 (ls.map Ln.e)]])]) (g := 20) (v := .tsl 5 (List.drop (i + 1).toNat (List.map Cl.e c))) (c1 := .ptr 1 0 0 0) (c2 := .ptr 1 1 0 0) (by simp only [AV.pure]; exact hpd) (deep_box (cs := [.tsl 7 (ls.map Ln.e)]) (by simp [get_e0, get_e1]) (by simp [pureL, AV.pure, pure_ln])) (deep_box (cs := [.int .i64 st]) (by simp [get_e0, get_e1]) (by simp [pureL, AV.pure]))
     refine rgnS_lend (m := m_) (hix) rfl rfl (by simp [pureL, pureR, AV.pure, pure_ln, pure_cl, pure_ln, hpd]) hm_ rfl (by simp [gd, get_e0, get_e1, LArg.ev, h1, h2]) ?_
     apply rgnS_pre 1
     · repeat (simp -implicitDefEqProofs (maxSteps := 1000000) (disch := first | assumption | omega) [pure_ln, hw, hq, h1, h2]; try simp only [gz])
       rfl
     refine hK _ ?_; clear hK
     refine LWP_seq ?_
     refine LWP_seq ?_
     apply LWP_run
     · repeat (simp -implicitDefEqProofs (maxSteps := 1000000) (disch := first | assumption | omega) [pure_ln, hw, hq, h1, h2]; try simp only [gz])
       rfl
     refine LWP_cond rfl (fun h3 => ?_) (fun h3 => ?_)
     ·try simp only [bn, reduceCtorEq] at h3
      all_goals try (exfalso; omega)
      all_goals
       refine LWP_seq ?_
       apply LWP_run
       · repeat (simp -implicitDefEqProofs (maxSteps := 1000000) (disch := first | assumption | omega) [pure_ln, hw, hq, h1, h2, h3]; try simp only [gz])
         rfl
       -- leaf 1
       refine LWP_ret ⟨_, rfl, ?_⟩
       refine wkV_of_eq ?_
       simp only [retV]
       all_goals
        first
          | (rw [nx_out (by omega)]; done)
          | (rw [nx_off (by omega), if_pos (by assumption)]; done)
          | (rw [nx_off (by omega), if_neg (by omega)]; congr 1; omega)
          | trace_state
     ·try simp only [bn, reduceCtorEq] at h3
      all_goals try (exfalso; omega)
      all_goals
       refine LWP_skip ?_
       refine LWP_seq ?_
       apply LWP_run
       · repeat (simp -implicitDefEqProofs (maxSteps := 1000000) (disch := first | assumption | omega) [pure_ln, hw, hq, h1, h2, h3]; try simp only [gz])
         rfl
       -- leaf 2
       refine LWP_ret ⟨_, rfl, ?_⟩
       refine wkV_of_eq ?_
       simp only [retV]
       all_goals
        first
          | (rw [nx_out (by omega)]; done)
          | (rw [nx_off (by omega), if_pos (by assumption)]; done)
          | (rw [nx_off (by omega), if_neg (by omega)]; congr 1; omega)
          | trace_state
 ·try simp only [bn, reduceCtorEq] at h1
  all_goals try (exfalso; omega)
  all_goals
   apply rgnS_pre 4
   · repeat (simp -implicitDefEqProofs (maxSteps := 1000000) (disch := first | assumption | omega) [pure_ln, hw, hq, h1]; try simp only [gz])
     rfl
   refine hK _ ?_; clear hK
   refine LWP_cond (t := true) (by simp [LArg.ev, get_e0, get_e1, h1]) (fun _ => ?_) (fun h => by cases h)
   refine LWP_seq ?_
   apply LWP_run
   · repeat (simp -implicitDefEqProofs (maxSteps := 1000000) (disch := first | assumption | omega) [pure_ln, hw, hq, h1]; try simp only [gz])
     rfl
   -- leaf 3
   refine LWP_ret ⟨_, rfl, ?_⟩
   refine wkV_of_eq ?_
   simp only [retV]
   all_goals
    first
      | (rw [nx_out (by omega)]; done)
      | (rw [nx_off (by omega), if_pos (by assumption)]; done)
      | (rw [nx_off (by omega), if_neg (by omega)]; congr 1; omega)
      | trace_state
set_option maxHeartbeats 2000000 in
set_option maxRecDepth 20000 in
theorem rnext_ok (c : List Cl) (i : Int) (ls : List Ln) (st : Int) (hl : c.length ≤ 300) (hr : ∀ x ∈ c, x.r.length ≤ 300) : ACalls Go.Proofs.Tryz.prog 10 [.tsl 5 (c.map Cl.e), .int .i64 i, .tsl 7 (ls.map Ln.e), .int .i64 st] [] 0 (fun r _ _ => r = .int .i64 (nxV c i ls st)) := by
 refine pure_body ok10 rfl ?_
 simp only [parV]
 have hw : ¬ (i < -1 ∨ (c.length : Int) ≤ i) → IntKind.i64.wrap (i + 1) = i + 1 := fun h => wrap_i64 (by omega) (by omega)
 refine LWP_seq ?_
 apply LWP_run
 · repeat (simp -implicitDefEqProofs (maxSteps := 1000000) (disch := first | assumption | omega) [Cl.e, pure_ln, pure_rf, hw]; try simp only [gz])
   rfl
 refine LWP_seq ?_
 refine LWP_seq ?_
 refine LWP_reg fun K hK => ?_
 apply rgnS_pre 3
 · repeat (simp -implicitDefEqProofs (maxSteps := 1000000) (disch := first | assumption | omega) [Cl.e, pure_ln, pure_rf, hw]; try simp only [gz])
   rfl
 refine rgnS_guard (x := 12) (b := false) rfl (fun h1 => ?_) (fun h1 => ?_)
 ·try simp only [bn, reduceCtorEq] at h1
  all_goals try (exfalso; omega)
  all_goals
   apply rgnS_pre 5
   · repeat (simp -implicitDefEqProofs (maxSteps := 1000000) (disch := first | assumption | omega) [Cl.e, pure_ln, pure_rf, hw, h1]; try simp only [gz])
     rfl
   refine hK _ ?_; clear hK
   refine LWP_cond rfl (fun h2 => ?_) (fun h2 => ?_)
   ·try simp only [bn, reduceCtorEq] at h2
    all_goals try (exfalso; omega)
    all_goals
     refine LWP_seq ?_
     apply LWP_run
     · repeat (simp -implicitDefEqProofs (maxSteps := 1000000) (disch := first | assumption | omega) [Cl.e, pure_ln, pure_rf, hw, h1, h2]; try simp only [gz])
       rfl
     -- leaf 0
     refine LWP_ret ⟨_, rfl, ?_⟩
     refine wkV_of_eq ?_
     simp only [retV]
     all_goals
      first
        | (rw [nx_out (by omega)]; done)
        | (rw [c2, ixF_yes (by omega) (by simp only [hasB]; exact decide_eq_true (by simp_all))]; done)
        | (rw [c2, ixF_end (by omega)]; done)
        | trace_state
   ·try simp only [bn, reduceCtorEq] at h2
    all_goals try (exfalso; omega)
    all_goals
     refine LWP_skip ?_
     refine LWP_seq ?_
     refine LWP_seq ?_
     apply LWP_run
     · repeat (simp -implicitDefEqProofs (maxSteps := 1000000) (disch := first | assumption | omega) [Cl.e, pure_ln, pure_rf, hw, h1, h2]; try simp only [gz])
       rfl
     refine LWP_block ?_
     refine LWP_for (fun (k : Nat) => [(0, .tsl 5 (c.map Cl.e)), (2, .tsl 7 (ls.map Ln.e)), (3, .int .i64 st), (9, .int .i64 (k : Nat))]) (fun (k : Nat) => []) (fun (k : Nat) n => k ≤ c.length ∧ nxV c i ls st = ixF (hasB ls st) (c.drop k) k) (fun (k : Nat) => c.length - k) (i + 1).toNat ?_ ?_ ?_ ?_
     · simp (maxSteps := 1000000) (disch := first | assumption | omega) [leV, get_e0, get_e1, wkV.refl, wkV_int, decT, decF, Cl.e, pure_ln, pure_rf, hw, h1, h2]
     · simp [leH, get_e0, get_e1, h1, h2]
     · exact ⟨by omega, nx_in (by omega)⟩
     rintro k n ⟨c1, c2⟩
     try simp only at *
     refine LWP_seq ?_
     refine LWP_seq ?_
     apply LWP_run
     · repeat (simp -implicitDefEqProofs (maxSteps := 1000000) (disch := first | assumption | omega) [Cl.e, pure_ln, pure_rf, hw, h1, h2]; try simp only [gz])
       rfl
     refine LWP_cond rfl (fun h4 => ?_) (fun h4 => ?_)
     ·try simp only [bn, reduceCtorEq] at h4
      all_goals try (exfalso; omega)
      all_goals
       refine LWP_skip ?_
       refine LWP_seq ?_
       refine LWP_block ?_
       refine LWP_seq ?_
       refine LWP_reg fun K hK => ?_
       apply rgnS_pre 6
       · repeat (simp -implicitDefEqProofs (maxSteps := 1000000) (disch := first | assumption | omega) [Cl.e, pure_ln, pure_rf, hw, h1, h2, h4]; try simp only [gz])
         rfl
       refine rgnS_call (rstaff_ok (c[k]'(by omega)) ls st (hr _ (List.getElem_mem (by omega)))) rfl rfl (by simp [pureL, pureR, AV.pure, Cl.e, pure_ln, pure_rf, Cl.e, pure_rf, pure_ln]) (by simp [pureL, pureR, AV.pure, Cl.e, pure_ln, pure_rf, Cl.e, pure_rf, pure_ln]) (by simp [gd, get_e0, get_e1, LArg.ev, h1, h2, h4]) ?_
       apply rgnS_pre 2
       · repeat (simp -implicitDefEqProofs (maxSteps := 1000000) (disch := first | assumption | omega) [Cl.e, pure_ln, pure_rf, hw, h1, h2, h4]; try simp only [gz])
         rfl
       refine hK _ ?_; clear hK
       refine LWP_cond rfl (fun h5 => ?_) (fun h5 => ?_)
       ·try simp only [bn, reduceCtorEq] at h5
        all_goals try (exfalso; omega)
        all_goals
         refine LWP_seq ?_
         apply LWP_run
         · repeat (simp -implicitDefEqProofs (maxSteps := 1000000) (disch := first | assumption | omega) [Cl.e, pure_ln, pure_rf, hw, h1, h2, h4, h5]; try simp only [gz])
           rfl
         -- leaf 1
         refine LWP_ret ⟨_, rfl, ?_⟩
         refine wkV_of_eq ?_
         simp only [retV]
         all_goals
          first
            | (rw [nx_out (by omega)]; done)
            | (rw [c2, ixF_yes (by omega) (by simp only [hasB]; exact decide_eq_true (by simp_all))]; done)
            | (rw [c2, ixF_end (by omega)]; done)
            | trace_state
       ·try simp only [bn, reduceCtorEq] at h5
        all_goals try (exfalso; omega)
        all_goals
         refine LWP_skip ?_
         apply LWP_run
         · repeat (simp -implicitDefEqProofs (maxSteps := 1000000) (disch := first | assumption | omega) [Cl.e, pure_ln, pure_rf, hw, h1, h2, h4, h5]; try simp only [gz])
           rfl
         -- loop 0, round 0
         refine ⟨k + 1, ?_, ?_, ?_, ?_⟩
         · refine ⟨by omega, ?_⟩
           rw [c2, ixF_no (by omega) (by simp only [hasB]; exact decide_eq_false (by simp_all))]
         · omega
         · simp (maxSteps := 1000000) (disch := first | assumption | omega) [leV, get_e0, get_e1, wkV.refl, wkV_int, wrap_i64, decT, decF, Cl.e, pure_ln, pure_rf, hw, h1, h2, h4, h5]
         · simp [leH, get_e0, get_e1, h1, h2, h4, h5]
     ·try simp only [bn, reduceCtorEq] at h4
      all_goals try (exfalso; omega)
      all_goals
       refine LWP_exit ?_
       refine LWP_seq ?_
       apply LWP_run
       · repeat (simp -implicitDefEqProofs (maxSteps := 1000000) (disch := first | assumption | omega) [Cl.e, pure_ln, pure_rf, hw, h1, h2, h4]; try simp only [gz])
         rfl
       -- leaf 2
       refine LWP_ret ⟨_, rfl, ?_⟩
       refine wkV_of_eq ?_
       simp only [retV]
       all_goals
        first
          | (rw [nx_out (by omega)]; done)
          | (rw [c2, ixF_yes (by omega) (by simp only [hasB]; exact decide_eq_true (by simp_all))]; done)
          | (rw [c2, ixF_end (by omega)]; done)
          | trace_state
 ·try simp only [bn, reduceCtorEq] at h1
  all_goals try (exfalso; omega)
  all_goals
   apply rgnS_pre 4
   · repeat (simp -implicitDefEqProofs (maxSteps := 1000000) (disch := first | assumption | omega) [Cl.e, pure_ln, pure_rf, hw, h1]; try simp only [gz])
     rfl
   refine hK _ ?_; clear hK
   refine LWP_cond (t := true) (by simp [LArg.ev, get_e0, get_e1, h1]) (fun _ => ?_) (fun h => by cases h)
   refine LWP_seq ?_
   apply LWP_run
   · repeat (simp -implicitDefEqProofs (maxSteps := 1000000) (disch := first | assumption | omega) [Cl.e, pure_ln, pure_rf, hw, h1]; try simp only [gz])
     rfl
   -- leaf 3
   refine LWP_ret ⟨_, rfl, ?_⟩
   refine wkV_of_eq ?_
   simp only [retV]
   all_goals
    first
      | (rw [nx_out (by omega)]; done)
      | (rw [c2, ixF_yes (by omega) (by simp only [hasB]; exact decide_eq_true (by simp_all))]; done)
      | (rw [c2, ixF_end (by omega)]; done)
      | trace_state
set_option maxHeartbeats 2000000 in
set_option maxRecDepth 20000 in
theorem refs_ok (a : List Rf) (ha : a.length < 1000000) : ACalls Go.Proofs.Tryz.prog 11 [.tsl 2 (a.map Rf.v), .tsl 2 (a.map Rf.v)] [] 0 (fun r _ _ => r = .bool true) := by
 refine pure_body ok11 rfl ?_
 simp only [parV]
 refine LWP_seq ?_
 apply LWP_run
 · repeat (simp -implicitDefEqProofs (maxSteps := 1000000) (disch := first | assumption | omega) [Rf.v, eq2, show ∀ x y : Int, eq2B x y x y = true from fun x y => by simp [eq2B]]; try simp only [gz])
   rfl
 refine LWP_seq ?_
 refine LWP_seq ?_
 apply LWP_run
 · repeat (simp -implicitDefEqProofs (maxSteps := 1000000) (disch := first | assumption | omega) [Rf.v, eq2, show ∀ x y : Int, eq2B x y x y = true from fun x y => by simp [eq2B]]; try simp only [gz])
   rfl
 refine LWP_cond rfl (fun h1 => ?_) (fun h1 => ?_)
 ·try simp only [bn, reduceCtorEq] at h1
  all_goals try (exfalso; omega)
  all_goals
   refine LWP_seq ?_
   apply LWP_run
   · repeat (simp -implicitDefEqProofs (maxSteps := 1000000) (disch := first | assumption | omega) [Rf.v, eq2, show ∀ x y : Int, eq2B x y x y = true from fun x y => by simp [eq2B], h1]; try simp only [gz])
     rfl
   -- leaf 0
   refine LWP_ret ⟨_, rfl, ?_⟩
   refine wkV_of_eq ?_
   simp only [retV]
   all_goals
    rfl
 ·try simp only [bn, reduceCtorEq] at h1
  all_goals try (exfalso; omega)
  all_goals
   refine LWP_skip ?_
   refine LWP_seq ?_
   refine LWP_seq ?_
   apply LWP_run
   · repeat (simp -implicitDefEqProofs (maxSteps := 1000000) (disch := first | assumption | omega) [Rf.v, eq2, show ∀ x y : Int, eq2B x y x y = true from fun x y => by simp [eq2B], h1]; try simp only [gz])
     rfl
   refine LWP_block ?_
   refine LWP_for (fun (i : Nat) => [(0, .tsl 2 (a.map Rf.v)), (1, .tsl 2 (a.map Rf.v)), (5, .int .i64 (i : Nat))]) (fun (i : Nat) => []) (fun (i : Nat) n => i ≤ a.length) (fun (i : Nat) => a.length - i) 0 ?_ ?_ ?_ ?_
   · simp (maxSteps := 1000000) (disch := first | assumption | omega) [leV, get_e0, get_e1, wkV.refl, wkV_int, decT, decF, Rf.v, eq2, show ∀ x y : Int, eq2B x y x y = true from fun x y => by simp [eq2B], h1]
   · simp [leH, get_e0, get_e1, h1]
   · exact Nat.zero_le _
   rintro i n c1
   try simp only at *
   refine LWP_seq ?_
   refine LWP_seq ?_
   apply LWP_run
   · repeat (simp -implicitDefEqProofs (maxSteps := 1000000) (disch := first | assumption | omega) [Rf.v, eq2, show ∀ x y : Int, eq2B x y x y = true from fun x y => by simp [eq2B], h1]; try simp only [gz])
     rfl
   refine LWP_cond rfl (fun h3 => ?_) (fun h3 => ?_)
   ·try simp only [bn, reduceCtorEq] at h3
    all_goals try (exfalso; omega)
    all_goals
     refine LWP_skip ?_
     refine LWP_seq ?_
     refine LWP_block ?_
     refine LWP_seq ?_
     apply LWP_runD
     · repeat (simp -implicitDefEqProofs (maxSteps := 1000000) (disch := first | assumption | omega) [Rf.v, eq2, show ∀ x y : Int, eq2B x y x y = true from fun x y => by simp [eq2B], h1, h3]; try simp only [gz])
       rfl
     · simp [AS.fin, delAll, del, Nat.add_assoc]; rfl
     refine LWP_cond rfl (fun h4 => ?_) (fun h4 => ?_)
     ·try simp only [bn, reduceCtorEq] at h4
      all_goals try (exfalso; omega)
      all_goals
       refine LWP_seq ?_
       apply LWP_run
       · repeat (simp -implicitDefEqProofs (maxSteps := 1000000) (disch := first | assumption | omega) [Rf.v, eq2, show ∀ x y : Int, eq2B x y x y = true from fun x y => by simp [eq2B], h1, h3, h4]; try simp only [gz])
         rfl
       -- leaf 1
       refine LWP_ret ⟨_, rfl, ?_⟩
       refine wkV_of_eq ?_
       simp only [retV]
       all_goals
        rfl
     ·try simp only [bn, reduceCtorEq] at h4
      all_goals try (exfalso; omega)
      all_goals
       refine LWP_skip ?_
       apply LWP_run
       · repeat (simp -implicitDefEqProofs (maxSteps := 1000000) (disch := first | assumption | omega) [Rf.v, eq2, show ∀ x y : Int, eq2B x y x y = true from fun x y => by simp [eq2B], h1, h3, h4]; try simp only [gz])
         rfl
       -- loop 0, round 0
       refine ⟨i + 1, ?_, ?_, ?_, ?_⟩
       · omega
       · omega
       · simp (maxSteps := 1000000) (disch := first | assumption | omega) [leV, get_e0, get_e1, wkV.refl, wkV_int, wrap_i64, decT, decF, Rf.v, eq2, show ∀ x y : Int, eq2B x y x y = true from fun x y => by simp [eq2B], h1, h3, h4]
       · simp [leH, get_e0, get_e1, h1, h3, h4]
   ·try simp only [bn, reduceCtorEq] at h3
    all_goals try (exfalso; omega)
    all_goals
     refine LWP_exit ?_
     refine LWP_seq ?_
     apply LWP_run
     · repeat (simp -implicitDefEqProofs (maxSteps := 1000000) (disch := first | assumption | omega) [Rf.v, eq2, show ∀ x y : Int, eq2B x y x y = true from fun x y => by simp [eq2B], h1, h3]; try simp only [gz])
       rfl
     -- leaf 2
     refine LWP_ret ⟨_, rfl, ?_⟩
     refine wkV_of_eq ?_
     simp only [retV]
     all_goals
      rfl
end

end Go.AM.Cl
