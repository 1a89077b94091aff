/- A part of a proof about the given program: what its name says. No premise beyond the statements'. -/
import Derived.Test.YtjmcolfdpbohpaaGreatBmBmB
import Derived.Test.YtjmcolfdpbohpaaGreatBmHs
set_option linter.unusedSimpArgs false
set_option linter.unusedVariables false
/- The law on the beams of some levels. -/
namespace Go.AM.Bm
open Go.AM
open Go.AM.BeamQ
noncomputable def sgX : XP := ⟨hsZ, hsT0, hsG, kp.find⟩
theorem seg_nil : ACalls Go.Proofs.Tryz.prog 14 [.nils] [] 0 (fun r _ _ => r = .tsl 3 []) := (runOKX_sound (fun _ _ h => Tr.find_ok tr_ok h) hsT0_ok (show runOKX tr.find sgX 2000 14 [.nils] (.tsl 3 []) = true by kernel_rfl)).2
def eq3B (a b c a' b' c' : Int) : Bool := decide (a = a' ∧ b = b' ∧ c = c')
theorem eq3 (a b c a' b' c' : Int) : eqV (.ag [.i, .i, .i]) (.agg [.int .i64 a, .int .i64 b, .int .i64 c]) (.agg [.int .i64 a', .int .i64 b', .int .i64 c']) = some (eq3B a b c a' b' c') := by
  simp only [eqV, eqL, eqS, grd, eq3B, decide_true]
  by_cases h1 : a = a' <;> by_cases h2 : b = b' <;> by_cases h3 : c = c' <;> simp [h1, h2, h3, beqG]
theorem eq3_in {a b c a' b' c' : Int} (h : a = a' ∧ b = b' ∧ c = c') : eq3B a b c a' b' c' = true := decide_eq_true h

section
attribute [local simp ↓] List.map_nil List.map_cons
attribute [local simp] m_ o_ g_ stepsS stepS gd opEff appEff LArg.ev app_val app_new app_upd app_kill putV ins_e0 ins_e1 get_e0 get_e1 binV binI grd bnd ldCells AV.cells AV.scalar AV.known setAt fillL chunks elems mxI mnI del Nat.add_assoc nlt_self nne_self nne_self' List.take_of_length_le decT decF wrap_i64 stepsD stepD ST.as dEffF LOp.cls softOK LOp.args LOp.rds AV.ids appD_val appD_new appD_upd appD_kill AS.flush delAll
set_option maxHeartbeats 2000000 in
set_option maxRecDepth 20000 in
theorem lev_big (l : List Int) (h : 300 < l.length) : ACalls Go.Proofs.Tryz.prog 4 [.tsl 1 (l.map inE)] [] 0 (fun r _ _ => r = .bool true) := by
 refine pure_body ok4 rfl ?_
 simp only [parV]
 refine LWP_seq ?_
 apply LWP_run
 · repeat (simp -implicitDefEqProofs (maxSteps := 1000000) (disch := first | assumption | omega) [inE, h]; try simp only [gz])
   rfl
 refine LWP_seq ?_
 refine LWP_seq ?_
 refine LWP_reg fun K hK => ?_
 apply rgnS_pre 8
 · repeat (simp -implicitDefEqProofs (maxSteps := 1000000) (disch := first | assumption | omega) [inE, h]; try simp only [gz])
   rfl
 refine hK _ ?_; clear hK
 refine LWP_cond (t := true) (by simp [LArg.ev, get_e0, get_e1]) (fun _ => ?_) (fun h => by cases h)
 refine LWP_seq ?_
 refine LWP_reg fun K hK => ?_
 refine rgnS_call (seg_nil) rfl rfl (by simp [pureL, pureR, AV.pure, inE]) (by simp [pureL, pureR, AV.pure, inE]) (by simp [gd, get_e0, get_e1, LArg.ev]) ?_
 apply rgnS_pre 3
 · repeat (simp -implicitDefEqProofs (maxSteps := 1000000) (disch := first | assumption | omega) [inE, h]; try simp only [gz])
   rfl
 refine rgnS_guard (x := 19) (b := true) rfl (fun h1 => ?_) (fun h1 => ?_)
 ·try simp only [bn, reduceCtorEq] at h1
  all_goals try (exfalso; omega)
  all_goals
   refine rgnS_call (hsheads) rfl rfl (by simp [pureL, pureR, AV.pure, inE]) (by simp [pureL, pureR, AV.pure, inE]) (by simp [gd, get_e0, get_e1, LArg.ev, h1]) ?_
   apply rgnS_pre 2
   · repeat (simp -implicitDefEqProofs (maxSteps := 1000000) (disch := first | assumption | omega) [inE, h, h1]; try simp only [gz])
     rfl
   refine hK _ ?_; clear hK
   -- leaf 0
   refine LWP_ret ⟨_, rfl, ?_⟩
   refine wkV_of_eq ?_
   simp only [retV]
   all_goals
    rfl
 ·try simp only [bn, reduceCtorEq] at h1
  all_goals try (exfalso; omega)
  all_goals
   apply rgnS_pre 2
   · repeat (simp -implicitDefEqProofs (maxSteps := 1000000) (disch := first | assumption | omega) [inE, h, h1]; try simp only [gz])
     rfl
   refine hK _ ?_; clear hK
   -- leaf 1
   refine LWP_ret ⟨_, rfl, ?_⟩
   refine wkV_of_eq ?_
   simp only [retV]
   all_goals
    rfl
set_option maxHeartbeats 2000000 in
set_option maxRecDepth 20000 in
theorem lev_0   : ACalls Go.Proofs.Tryz.prog 4 [.tsl 1 []] [] 0 (fun r _ _ => r = .bool true) := by
 refine pure_body ok4 rfl ?_
 simp only [parV]
 refine LWP_seq ?_
 apply LWP_run
 · repeat (simp -implicitDefEqProofs (maxSteps := 1000000) (disch := first | assumption | omega) [inE]; try simp only [gz])
   rfl
 refine LWP_seq ?_
 refine LWP_seq ?_
 refine LWP_reg fun K hK => ?_
 apply rgnS_pre 8
 · repeat (simp -implicitDefEqProofs (maxSteps := 1000000) (disch := first | assumption | omega) [inE]; try simp only [gz])
   rfl
 refine hK _ ?_; clear hK
 refine LWP_cond (t := true) (by simp [LArg.ev, get_e0, get_e1]) (fun _ => ?_) (fun h => by cases h)
 refine LWP_seq ?_
 refine LWP_reg fun K hK => ?_
 refine rgnS_call (seg_nil) rfl rfl (by simp [pureL, pureR, AV.pure, inE]) (by simp [pureL, pureR, AV.pure, inE]) (by simp [gd, get_e0, get_e1, LArg.ev]) ?_
 apply rgnS_pre 3
 · repeat (simp -implicitDefEqProofs (maxSteps := 1000000) (disch := first | assumption | omega) [inE]; try simp only [gz])
   rfl
 refine rgnS_guard (x := 19) (b := true) rfl (fun h1 => ?_) (fun h1 => ?_)
 ·try simp only [bn, reduceCtorEq] at h1
  all_goals try (exfalso; omega)
  all_goals
   refine rgnS_call (hsheads) rfl rfl (by simp [pureL, pureR, AV.pure, inE]) (by simp [pureL, pureR, AV.pure, inE]) (by simp [gd, get_e0, get_e1, LArg.ev, h1]) ?_
   apply rgnS_pre 2
   · repeat (simp -implicitDefEqProofs (maxSteps := 1000000) (disch := first | assumption | omega) [inE, h1]; try simp only [gz])
     rfl
   refine hK _ ?_; clear hK
   -- leaf 0
   refine LWP_ret ⟨_, rfl, ?_⟩
   refine wkV_of_eq ?_
   simp only [retV]
   all_goals
    rfl
 ·try simp only [bn, reduceCtorEq] at h1
  all_goals try (exfalso; omega)
  all_goals
   apply rgnS_pre 2
   · repeat (simp -implicitDefEqProofs (maxSteps := 1000000) (disch := first | assumption | omega) [inE, h1]; try simp only [gz])
     rfl
   refine hK _ ?_; clear hK
   -- leaf 1
   refine LWP_ret ⟨_, rfl, ?_⟩
   refine wkV_of_eq ?_
   simp only [retV]
   all_goals
    rfl
set_option maxHeartbeats 2000000 in
set_option maxRecDepth 20000 in
theorem lev_no (l : List Int) (k0 : Nat) (hl : l.length ≤ 300) (h0 : k0 < l.length) (hb : ¬ lvB l[k0]) : ACalls Go.Proofs.Tryz.prog 4 [.tsl 1 (l.map inE)] [] 0 (fun r _ _ => r = .bool true) := by
 refine pure_body ok4 rfl ?_
 simp only [parV]
 have hne : ¬ l = [] := fun e => by subst e; simp at h0
 refine LWP_seq ?_
 apply LWP_run
 · repeat (simp -implicitDefEqProofs (maxSteps := 1000000) (disch := first | assumption | omega) [inE, hl, hne, beqG, beqU]; try simp only [gz])
   rfl
 refine LWP_seq ?_
 refine LWP_seq ?_
 refine LWP_reg fun K hK => ?_
 apply rgnS_pre 8
 · repeat (simp -implicitDefEqProofs (maxSteps := 1000000) (disch := first | assumption | omega) [inE, hl, hne, beqG, beqU]; try simp only [gz])
   rfl
 refine hK _ ?_; clear hK
 refine LWP_cond (t := false) (by simp [LArg.ev, get_e0, get_e1]) (fun h => by cases h) (fun _ => ?_)
 refine LWP_skip ?_
 refine LWP_seq ?_
 refine LWP_seq ?_
 apply LWP_run
 · repeat (simp -implicitDefEqProofs (maxSteps := 1000000) (disch := first | assumption | omega) [inE, hl, hne, beqG, beqU]; try simp only [gz])
   rfl
 refine LWP_block ?_
 refine LWP_for (fun (i : Nat) => [(0, .tsl 1 (l.map inE)), (3, .int .i64 (i : Nat))]) (fun (i : Nat) => []) (fun (i : Nat) n => i ≤ l.length ∧ ∀ k, k < i → ∀ h : k < l.length, lvB l[k]) (fun (i : Nat) => l.length - i) 0 ?_ ?_ ?_ ?_
 · simp (maxSteps := 1000000) (disch := first | assumption | omega) [leV, get_e0, get_e1, wkV.refl, wkV_int, decT, decF, inE, hl, hne, beqG, beqU]
 · simp [leH, get_e0, get_e1]
 · exact ⟨Nat.zero_le _, fun k h => absurd h (Nat.not_lt_zero _)⟩
 rintro i n ⟨c1, c2⟩
 try simp only at *
 refine LWP_seq ?_
 refine LWP_seq ?_
 apply LWP_run
 · repeat (simp -implicitDefEqProofs (maxSteps := 1000000) (disch := first | assumption | omega) [inE, hl, hne, beqG, beqU]; try simp only [gz])
   rfl
 refine LWP_cond rfl (fun h2 => ?_) (fun h2 => ?_)
 ·try simp only [bn, reduceCtorEq] at h2
  all_goals try (exfalso; omega)
  all_goals
   refine LWP_skip ?_
   refine LWP_seq ?_
   refine LWP_block ?_
   refine LWP_seq ?_
   refine LWP_reg fun K hK => ?_
   apply rgnS_pre 6
   · repeat (simp -implicitDefEqProofs (maxSteps := 1000000) (disch := first | assumption | omega) [inE, hl, hne, beqG, beqU, h2]; try simp only [gz])
     rfl
   refine rgnS_guard (x := 33) (b := false) rfl (fun h3 => ?_) (fun h3 => ?_)
   ·try simp only [bn, reduceCtorEq] at h3
    all_goals try (exfalso; omega)
    all_goals
     apply rgnS_pre 6
     · repeat (simp -implicitDefEqProofs (maxSteps := 1000000) (disch := first | assumption | omega) [inE, hl, hne, beqG, beqU, h2, h3]; try simp only [gz])
       rfl
     refine hK _ ?_; clear hK
     refine LWP_cond rfl (fun h4 => ?_) (fun h4 => ?_)
     ·try simp only [bn, reduceCtorEq] at h4
      all_goals try (exfalso; omega)
      all_goals
       refine LWP_seq ?_
       refine LWP_reg fun K hK => ?_
       apply rgnS_pre 1
       · repeat (simp -implicitDefEqProofs (maxSteps := 1000000) (disch := first | assumption | omega) [inE, hl, hne, beqG, beqU, h2, h3, h4]; try simp only [gz])
         rfl
       refine rgnS_call (seg_no l k0 (by omega) h0 hb) rfl rfl (by simp [pureL, pureR, AV.pure, inE, pureR_in]) (by simp [pureL, pureR, AV.pure, inE, pureR_in]) (by simp [gd, get_e0, get_e1, LArg.ev, h2, h3, h4]) ?_
       apply rgnS_pre 3
       · repeat (simp -implicitDefEqProofs (maxSteps := 1000000) (disch := first | assumption | omega) [inE, hl, hne, beqG, beqU, h2, h3, h4]; try simp only [gz])
         rfl
       refine rgnS_guard (x := 44) (b := true) rfl (fun h5 => ?_) (fun h5 => ?_)
       ·try simp only [bn, reduceCtorEq] at h5
        all_goals try (exfalso; omega)
        all_goals
         refine rgnS_call (hsheads) rfl rfl (by simp [pureL, pureR, AV.pure, inE]) (by simp [pureL, pureR, AV.pure, inE]) (by simp [gd, get_e0, get_e1, LArg.ev, h2, h3, h4, h5]) ?_
         apply rgnS_pre 2
         · repeat (simp -implicitDefEqProofs (maxSteps := 1000000) (disch := first | assumption | omega) [inE, hl, hne, beqG, beqU, h2, h3, h4, h5]; try simp only [gz])
           rfl
         refine hK _ ?_; clear hK
         -- leaf 0
         refine LWP_ret ⟨_, rfl, ?_⟩
         refine wkV_of_eq ?_
         simp only [retV]
         all_goals
          first | rfl | exact absurd (c2 k0 (by omega) h0) hb
       ·try simp only [bn, reduceCtorEq] at h5
        all_goals try (exfalso; omega)
        all_goals
         apply rgnS_pre 2
         · repeat (simp -implicitDefEqProofs (maxSteps := 1000000) (disch := first | assumption | omega) [inE, hl, hne, beqG, beqU, h2, h3, h4, h5]; try simp only [gz])
           rfl
         refine hK _ ?_; clear hK
         -- leaf 1
         refine LWP_ret ⟨_, rfl, ?_⟩
         refine wkV_of_eq ?_
         simp only [retV]
         all_goals
          first | rfl | exact absurd (c2 k0 (by omega) h0) hb
     ·try simp only [bn, reduceCtorEq] at h4
      all_goals try (exfalso; omega)
      all_goals
       refine LWP_skip ?_
       apply LWP_run
       · repeat (simp -implicitDefEqProofs (maxSteps := 1000000) (disch := first | assumption | omega) [inE, hl, hne, beqG, beqU, h2, h3, h4]; try simp only [gz])
         rfl
       -- loop 0, round 0
       refine ⟨i + 1, ?_, ?_, ?_, ?_⟩
       · refine ⟨by omega, fun k hk hkl => ?_⟩
         rcases Nat.lt_or_ge k i with q | q
         · exact c2 k q hkl
         · have e : k = i := by omega
           subst e
           exact ⟨by omega, by omega⟩
       · omega
       · simp (maxSteps := 1000000) (disch := first | assumption | omega) [leV, get_e0, get_e1, wkV.refl, wkV_int, wrap_i64, decT, decF, inE, hl, hne, beqG, beqU, h2, h3, h4]
       · simp [leH, get_e0, get_e1, h2, h3, h4]
   ·try simp only [bn, reduceCtorEq] at h3
    all_goals try (exfalso; omega)
    all_goals
     apply rgnS_pre 5
     · repeat (simp -implicitDefEqProofs (maxSteps := 1000000) (disch := first | assumption | omega) [inE, hl, hne, beqG, beqU, h2, h3]; try simp only [gz])
       rfl
     refine hK _ ?_; clear hK
     refine LWP_cond (t := true) (by simp [LArg.ev, get_e0, get_e1, h2, h3]) (fun _ => ?_) (fun h => by cases h)
     refine LWP_seq ?_
     refine LWP_reg fun K hK => ?_
     apply rgnS_pre 1
     · repeat (simp -implicitDefEqProofs (maxSteps := 1000000) (disch := first | assumption | omega) [inE, hl, hne, beqG, beqU, h2, h3]; try simp only [gz])
       rfl
     refine rgnS_call (seg_no l k0 (by omega) h0 hb) rfl rfl (by simp [pureL, pureR, AV.pure, inE, pureR_in]) (by simp [pureL, pureR, AV.pure, inE, pureR_in]) (by simp [gd, get_e0, get_e1, LArg.ev, h2, h3]) ?_
     apply rgnS_pre 3
     · repeat (simp -implicitDefEqProofs (maxSteps := 1000000) (disch := first | assumption | omega) [inE, hl, hne, beqG, beqU, h2, h3]; try simp only [gz])
       rfl
     refine rgnS_guard (x := 44) (b := true) rfl (fun h6 => ?_) (fun h6 => ?_)
     ·try simp only [bn, reduceCtorEq] at h6
      all_goals try (exfalso; omega)
      all_goals
       refine rgnS_call (hsheads) rfl rfl (by simp [pureL, pureR, AV.pure, inE]) (by simp [pureL, pureR, AV.pure, inE]) (by simp [gd, get_e0, get_e1, LArg.ev, h2, h3, h6]) ?_
       apply rgnS_pre 2
       · repeat (simp -implicitDefEqProofs (maxSteps := 1000000) (disch := first | assumption | omega) [inE, hl, hne, beqG, beqU, h2, h3, h6]; try simp only [gz])
         rfl
       refine hK _ ?_; clear hK
       -- leaf 2
       refine LWP_ret ⟨_, rfl, ?_⟩
       refine wkV_of_eq ?_
       simp only [retV]
       all_goals
        first | rfl | exact absurd (c2 k0 (by omega) h0) hb
     ·try simp only [bn, reduceCtorEq] at h6
      all_goals try (exfalso; omega)
      all_goals
       apply rgnS_pre 2
       · repeat (simp -implicitDefEqProofs (maxSteps := 1000000) (disch := first | assumption | omega) [inE, hl, hne, beqG, beqU, h2, h3, h6]; try simp only [gz])
         rfl
       refine hK _ ?_; clear hK
       -- leaf 3
       refine LWP_ret ⟨_, rfl, ?_⟩
       refine wkV_of_eq ?_
       simp only [retV]
       all_goals
        first | rfl | exact absurd (c2 k0 (by omega) h0) hb
 ·try simp only [bn, reduceCtorEq] at h2
  all_goals try (exfalso; omega)
  all_goals
   refine LWP_exit ?_
   refine LWP_seq ?_
   refine LWP_reg fun K hK => ?_
   apply rgnS_pre 1
   · repeat (simp -implicitDefEqProofs (maxSteps := 1000000) (disch := first | assumption | omega) [inE, hl, hne, beqG, beqU, h2]; try simp only [gz])
     rfl
   refine rgnS_call (seg_no l k0 (by omega) h0 hb) rfl rfl (by simp [pureL, pureR, AV.pure, inE, pureR_in]) (by simp [pureL, pureR, AV.pure, inE, pureR_in]) (by simp [gd, get_e0, get_e1, LArg.ev, h2]) ?_
   apply rgnS_pre 1
   · repeat (simp -implicitDefEqProofs (maxSteps := 1000000) (disch := first | assumption | omega) [inE, hl, hne, beqG, beqU, h2]; try simp only [gz])
     rfl
   refine hK _ ?_; clear hK
   refine LWP_seq ?_
   refine LWP_seq ?_
   refine LWP_reg fun K hK => ?_
   apply rgnS_pre 8
   · repeat (simp -implicitDefEqProofs (maxSteps := 1000000) (disch := first | assumption | omega) [inE, hl, hne, beqG, beqU, h2]; try simp only [gz])
     rfl
   apply rgnS_pre 5
   · repeat (simp -implicitDefEqProofs (maxSteps := 1000000) (disch := first | assumption | omega) [inE, hl, hne, beqG, beqU, h2]; try simp only [gz])
     rfl
   refine hK _ ?_; clear hK
   refine LWP_cond (t := true) (by simp [LArg.ev, get_e0, get_e1, h2]) (fun _ => ?_) (fun h => by cases h)
   refine LWP_seq ?_
   apply LWP_run
   · repeat (simp -implicitDefEqProofs (maxSteps := 1000000) (disch := first | assumption | omega) [inE, hl, hne, beqG, beqU, h2]; try simp only [gz])
     rfl
   -- leaf 4
   refine LWP_ret ⟨_, rfl, ?_⟩
   refine wkV_of_eq ?_
   simp only [retV]
   all_goals
    first | rfl | exact absurd (c2 k0 (by omega) h0) hb
set_option maxHeartbeats 2000000 in
set_option maxRecDepth 20000 in
theorem lev_in (l : List Int) (S : List Sg) (hl : l.length ≤ 300) (h0 : 0 < l.length) (ha : ∀ (k : Nat) (h : k < l.length), lvB l[k]) (hS : ACalls Go.Proofs.Tryz.prog 14 [.tsl 1 (l.map inE)] [] 0 (fun r _ _ => r = .tsl 3 (S.map Sg.w))) (s0 : 0 < S.length) (sl : S.length ≤ 1200) (s1 : (S[0]'s0).v = 1) (s2 : (S[0]'s0).f = 0) (s3 : (S[0]'s0).e = l.length - 1) (sc : ∀ (k : Nat) (h : k < l.length), (S.countP (on k) : Int) = l[k]) : ACalls Go.Proofs.Tryz.prog 4 [.tsl 1 (l.map inE)] [] 0 (fun r _ _ => r = .bool true) := by
 refine pure_body ok4 rfl ?_
 simp only [parV]
 have hne : ¬ l = [] := fun e => by subst e; simp at h0
 have hsn : ¬ S = [] := fun e => by subst e; simp at s0
 have es : eq3B 1 0 ((l.length - 1 : Nat) : Int) 1 0 (IntKind.i64.wrap ((l.length : Int) - 1)) = true := eq3_in ⟨rfl, rfl, by rw [wrap_i64 (by omega) (by omega)]; omega⟩
 have es2 := es
 rw [wrap_i64 (by omega) (by omega)] at es2
 refine LWP_seq ?_
 apply LWP_run
 · repeat (simp -implicitDefEqProofs (maxSteps := 1000000) (disch := first | assumption | omega) [inE, Sg.w, eq3, hl, hne, hsn, s1, s2, s3, es, es2, sc, beqG, beqU]; try simp only [gz])
   rfl
 refine LWP_seq ?_
 refine LWP_seq ?_
 refine LWP_reg fun K hK => ?_
 apply rgnS_pre 8
 · repeat (simp -implicitDefEqProofs (maxSteps := 1000000) (disch := first | assumption | omega) [inE, Sg.w, eq3, hl, hne, hsn, s1, s2, s3, es, es2, sc, beqG, beqU]; try simp only [gz])
   rfl
 refine hK _ ?_; clear hK
 refine LWP_cond (t := false) (by simp [LArg.ev, get_e0, get_e1]) (fun h => by cases h) (fun _ => ?_)
 refine LWP_skip ?_
 refine LWP_seq ?_
 refine LWP_seq ?_
 apply LWP_run
 · repeat (simp -implicitDefEqProofs (maxSteps := 1000000) (disch := first | assumption | omega) [inE, Sg.w, eq3, hl, hne, hsn, s1, s2, s3, es, es2, sc, beqG, beqU]; try simp only [gz])
   rfl
 refine LWP_block ?_
 refine LWP_for (fun (i : Nat) => [(0, .tsl 1 (l.map inE)), (3, .int .i64 (i : Nat))]) (fun (i : Nat) => []) (fun (i : Nat) n => i ≤ l.length ∧ ∀ k, k < i → ∀ h : k < l.length, lvB l[k]) (fun (i : Nat) => l.length - i) 0 ?_ ?_ ?_ ?_
 · simp (maxSteps := 1000000) (disch := first | assumption | omega) [leV, get_e0, get_e1, wkV.refl, wkV_int, decT, decF, inE, Sg.w, eq3, hl, hne, hsn, s1, s2, s3, es, es2, sc, beqG, beqU]
 · simp [leH, get_e0, get_e1]
 · exact ⟨Nat.zero_le _, fun k h => absurd h (Nat.not_lt_zero _)⟩
 rintro i n ⟨c1, c2⟩
 try simp only at *
 refine LWP_seq ?_
 refine LWP_seq ?_
 apply LWP_run
 · repeat (simp -implicitDefEqProofs (maxSteps := 1000000) (disch := first | assumption | omega) [inE, Sg.w, eq3, hl, hne, hsn, s1, s2, s3, es, es2, sc, beqG, beqU]; try simp only [gz])
   rfl
 refine LWP_cond rfl (fun h2 => ?_) (fun h2 => ?_)
 ·try simp only [bn, reduceCtorEq] at h2
  all_goals try (exfalso; omega)
  all_goals
   refine LWP_skip ?_
   refine LWP_seq ?_
   refine LWP_block ?_
   refine LWP_seq ?_
   refine LWP_reg fun K hK => ?_
   apply rgnS_pre 6
   · repeat (simp -implicitDefEqProofs (maxSteps := 1000000) (disch := first | assumption | omega) [inE, Sg.w, eq3, hl, hne, hsn, s1, s2, s3, es, es2, sc, beqG, beqU, h2]; try simp only [gz])
     rfl
   refine rgnS_guard (x := 33) (b := false) rfl (fun h3 => ?_) (fun h3 => ?_)
   ·try simp only [bn, reduceCtorEq] at h3
    all_goals try (exfalso; omega)
    all_goals
     apply rgnS_pre 6
     · repeat (simp -implicitDefEqProofs (maxSteps := 1000000) (disch := first | assumption | omega) [inE, Sg.w, eq3, hl, hne, hsn, s1, s2, s3, es, es2, sc, beqG, beqU, h2, h3]; try simp only [gz])
       rfl
     refine hK _ ?_; clear hK
     refine LWP_cond rfl (fun h4 => ?_) (fun h4 => ?_)
     ·try simp only [bn, reduceCtorEq] at h4
      all_goals try (exfalso; omega)
      all_goals
       refine LWP_seq ?_
       refine LWP_reg fun K hK => ?_
       apply rgnS_pre 1
       · repeat (simp -implicitDefEqProofs (maxSteps := 1000000) (disch := first | assumption | omega) [inE, Sg.w, eq3, hl, hne, hsn, s1, s2, s3, es, es2, sc, beqG, beqU, h2, h3, h4]; try simp only [gz])
         rfl
       refine rgnS_call (hS) rfl rfl (by simp [pureL, pureR, AV.pure, inE, Sg.w, eq3, pureR_in, pureR_sg]) (by simp [pureL, pureR, AV.pure, inE, Sg.w, eq3, pureR_in, pureR_sg]) (by simp [gd, get_e0, get_e1, LArg.ev, h2, h3, h4]) ?_
       apply rgnS_pre 3
       · repeat (simp -implicitDefEqProofs (maxSteps := 1000000) (disch := first | assumption | omega) [inE, Sg.w, eq3, hl, hne, hsn, s1, s2, s3, es, es2, sc, beqG, beqU, h2, h3, h4]; try simp only [gz])
         rfl
       refine rgnS_guard (x := 44) (b := true) rfl (fun h5 => ?_) (fun h5 => ?_)
       ·try simp only [bn, reduceCtorEq] at h5
        all_goals try (exfalso; omega)
        all_goals
         refine rgnS_call (hsheads) rfl rfl (by simp [pureL, pureR, AV.pure, inE, Sg.w, eq3]) (by simp [pureL, pureR, AV.pure, inE, Sg.w, eq3]) (by simp [gd, get_e0, get_e1, LArg.ev, h2, h3, h4, h5]) ?_
         apply rgnS_pre 2
         · repeat (simp -implicitDefEqProofs (maxSteps := 1000000) (disch := first | assumption | omega) [inE, Sg.w, eq3, hl, hne, hsn, s1, s2, s3, es, es2, sc, beqG, beqU, h2, h3, h4, h5]; try simp only [gz])
           rfl
         refine hK _ ?_; clear hK
         -- leaf 0
         refine LWP_ret ⟨_, rfl, ?_⟩
         refine wkV_of_eq ?_
         simp only [retV]
         all_goals
          first | rfl | (exfalso; exact lv_no ha (i := i) (by omega) (by omega)) | trace_state
       ·try simp only [bn, reduceCtorEq] at h5
        all_goals try (exfalso; omega)
        all_goals
         apply rgnS_pre 2
         · repeat (simp -implicitDefEqProofs (maxSteps := 1000000) (disch := first | assumption | omega) [inE, Sg.w, eq3, hl, hne, hsn, s1, s2, s3, es, es2, sc, beqG, beqU, h2, h3, h4, h5]; try simp only [gz])
           rfl
         refine hK _ ?_; clear hK
         -- leaf 1
         refine LWP_ret ⟨_, rfl, ?_⟩
         refine wkV_of_eq ?_
         simp only [retV]
         all_goals
          first | rfl | (exfalso; exact lv_no ha (i := i) (by omega) (by omega)) | trace_state
     ·try simp only [bn, reduceCtorEq] at h4
      all_goals try (exfalso; omega)
      all_goals
       refine LWP_skip ?_
       apply LWP_run
       · repeat (simp -implicitDefEqProofs (maxSteps := 1000000) (disch := first | assumption | omega) [inE, Sg.w, eq3, hl, hne, hsn, s1, s2, s3, es, es2, sc, beqG, beqU, h2, h3, h4]; try simp only [gz])
         rfl
       -- loop 0, round 0
       refine ⟨i + 1, ?_, ?_, ?_, ?_⟩
       · refine ⟨by omega, fun k hk hkl => ?_⟩
         rcases Nat.lt_or_ge k i with q | q
         · exact c2 k q hkl
         · have e : k = i := by omega
           subst e
           exact ⟨by omega, by omega⟩
       · omega
       · simp (maxSteps := 1000000) (disch := first | assumption | omega) [leV, get_e0, get_e1, wkV.refl, wkV_int, wrap_i64, decT, decF, inE, Sg.w, eq3, hl, hne, hsn, s1, s2, s3, es, es2, sc, beqG, beqU, h2, h3, h4]
       · simp [leH, get_e0, get_e1, h2, h3, h4]
   ·try simp only [bn, reduceCtorEq] at h3
    all_goals try (exfalso; omega)
    all_goals
     apply rgnS_pre 5
     · repeat (simp -implicitDefEqProofs (maxSteps := 1000000) (disch := first | assumption | omega) [inE, Sg.w, eq3, hl, hne, hsn, s1, s2, s3, es, es2, sc, beqG, beqU, h2, h3]; try simp only [gz])
       rfl
     refine hK _ ?_; clear hK
     refine LWP_cond (t := true) (by simp [LArg.ev, get_e0, get_e1, h2, h3]) (fun _ => ?_) (fun h => by cases h)
     refine LWP_seq ?_
     refine LWP_reg fun K hK => ?_
     apply rgnS_pre 1
     · repeat (simp -implicitDefEqProofs (maxSteps := 1000000) (disch := first | assumption | omega) [inE, Sg.w, eq3, hl, hne, hsn, s1, s2, s3, es, es2, sc, beqG, beqU, h2, h3]; try simp only [gz])
       rfl
     refine rgnS_call (hS) rfl rfl (by simp [pureL, pureR, AV.pure, inE, Sg.w, eq3, pureR_in, pureR_sg]) (by simp [pureL, pureR, AV.pure, inE, Sg.w, eq3, pureR_in, pureR_sg]) (by simp [gd, get_e0, get_e1, LArg.ev, h2, h3]) ?_
     apply rgnS_pre 3
     · repeat (simp -implicitDefEqProofs (maxSteps := 1000000) (disch := first | assumption | omega) [inE, Sg.w, eq3, hl, hne, hsn, s1, s2, s3, es, es2, sc, beqG, beqU, h2, h3]; try simp only [gz])
       rfl
     refine rgnS_guard (x := 44) (b := true) rfl (fun h6 => ?_) (fun h6 => ?_)
     ·try simp only [bn, reduceCtorEq] at h6
      all_goals try (exfalso; omega)
      all_goals
       refine rgnS_call (hsheads) rfl rfl (by simp [pureL, pureR, AV.pure, inE, Sg.w, eq3]) (by simp [pureL, pureR, AV.pure, inE, Sg.w, eq3]) (by simp [gd, get_e0, get_e1, LArg.ev, h2, h3, h6]) ?_
       apply rgnS_pre 2
       · repeat (simp -implicitDefEqProofs (maxSteps := 1000000) (disch := first | assumption | omega) [inE, Sg.w, eq3, hl, hne, hsn, s1, s2, s3, es, es2, sc, beqG, beqU, h2, h3, h6]; try simp only [gz])
         rfl
       refine hK _ ?_; clear hK
       -- leaf 2
       refine LWP_ret ⟨_, rfl, ?_⟩
       refine wkV_of_eq ?_
       simp only [retV]
       all_goals
        first | rfl | (exfalso; exact lv_no ha (i := i) (by omega) (by omega)) | trace_state
     ·try simp only [bn, reduceCtorEq] at h6
      all_goals try (exfalso; omega)
      all_goals
       apply rgnS_pre 2
       · repeat (simp -implicitDefEqProofs (maxSteps := 1000000) (disch := first | assumption | omega) [inE, Sg.w, eq3, hl, hne, hsn, s1, s2, s3, es, es2, sc, beqG, beqU, h2, h3, h6]; try simp only [gz])
         rfl
       refine hK _ ?_; clear hK
       -- leaf 3
       refine LWP_ret ⟨_, rfl, ?_⟩
       refine wkV_of_eq ?_
       simp only [retV]
       all_goals
        first | rfl | (exfalso; exact lv_no ha (i := i) (by omega) (by omega)) | trace_state
 ·try simp only [bn, reduceCtorEq] at h2
  all_goals try (exfalso; omega)
  all_goals
   refine LWP_exit ?_
   refine LWP_seq ?_
   refine LWP_reg fun K hK => ?_
   apply rgnS_pre 1
   · repeat (simp -implicitDefEqProofs (maxSteps := 1000000) (disch := first | assumption | omega) [inE, Sg.w, eq3, hl, hne, hsn, s1, s2, s3, es, es2, sc, beqG, beqU, h2]; try simp only [gz])
     rfl
   refine rgnS_call (hS) rfl rfl (by simp [pureL, pureR, AV.pure, inE, Sg.w, eq3, pureR_in, pureR_sg]) (by simp [pureL, pureR, AV.pure, inE, Sg.w, eq3, pureR_in, pureR_sg]) (by simp [gd, get_e0, get_e1, LArg.ev, h2]) ?_
   apply rgnS_pre 1
   · repeat (simp -implicitDefEqProofs (maxSteps := 1000000) (disch := first | assumption | omega) [inE, Sg.w, eq3, hl, hne, hsn, s1, s2, s3, es, es2, sc, beqG, beqU, h2]; try simp only [gz])
     rfl
   refine hK _ ?_; clear hK
   refine LWP_seq ?_
   refine LWP_seq ?_
   refine LWP_reg fun K hK => ?_
   apply rgnS_pre 8
   · repeat (simp -implicitDefEqProofs (maxSteps := 1000000) (disch := first | assumption | omega) [inE, Sg.w, eq3, hl, hne, hsn, s1, s2, s3, es, es2, sc, beqG, beqU, h2]; try simp only [gz])
     rfl
   apply rgnS_pre 5
   · repeat (simp -implicitDefEqProofs (maxSteps := 1000000) (disch := first | assumption | omega) [inE, Sg.w, eq3, hl, hne, hsn, s1, s2, s3, es, es2, sc, beqG, beqU, h2]; try simp only [gz])
     rfl
   refine hK _ ?_; clear hK
   refine LWP_cond (t := false) (by simp [LArg.ev, get_e0, get_e1, h2]) (fun h => by cases h) (fun _ => ?_)
   refine LWP_skip ?_
   refine LWP_seq ?_
   refine LWP_seq ?_
   apply LWP_run
   · repeat (simp -implicitDefEqProofs (maxSteps := 1000000) (disch := first | assumption | omega) [inE, Sg.w, eq3, hl, hne, hsn, s1, s2, s3, es, es2, sc, beqG, beqU, h2]; try simp only [gz])
     rfl
   refine LWP_block ?_
   refine LWP_for (fun (i : Nat) => [(0, .tsl 1 (l.map inE)), (4, .tsl 3 (S.map Sg.w)), (5, .int .i64 (i : Nat))]) (fun (i : Nat) => []) (fun (i : Nat) n => i ≤ l.length) (fun (i : Nat) => l.length - i) 0 ?_ ?_ ?_ ?_
   · simp (maxSteps := 1000000) (disch := first | assumption | omega) [leV, get_e0, get_e1, wkV.refl, wkV_int, decT, decF, inE, Sg.w, eq3, hl, hne, hsn, s1, s2, s3, es, es2, sc, beqG, beqU, h2]
   · simp [leH, get_e0, get_e1, h2]
   · exact Nat.zero_le _
   rintro i n e1
   try simp only at *
   refine LWP_seq ?_
   refine LWP_seq ?_
   apply LWP_run
   · repeat (simp -implicitDefEqProofs (maxSteps := 1000000) (disch := first | assumption | omega) [inE, Sg.w, eq3, hl, hne, hsn, s1, s2, s3, es, es2, sc, beqG, beqU, h2]; try simp only [gz])
     rfl
   refine LWP_cond rfl (fun h8 => ?_) (fun h8 => ?_)
   ·try simp only [bn, reduceCtorEq] at h8
    all_goals try (exfalso; omega)
    all_goals
     refine LWP_skip ?_
     refine LWP_seq ?_
     refine LWP_block ?_
     refine LWP_seq ?_
     apply LWP_run
     · repeat (simp -implicitDefEqProofs (maxSteps := 1000000) (disch := first | assumption | omega) [inE, Sg.w, eq3, hl, hne, hsn, s1, s2, s3, es, es2, sc, beqG, beqU, h2, h8]; try simp only [gz])
       rfl
     refine LWP_seq ?_
     refine LWP_seq ?_
     apply LWP_run
     · repeat (simp -implicitDefEqProofs (maxSteps := 1000000) (disch := first | assumption | omega) [inE, Sg.w, eq3, hl, hne, hsn, s1, s2, s3, es, es2, sc, beqG, beqU, h2, h8]; try simp only [gz])
       rfl
     refine LWP_block ?_
     refine LWP_for (fun (k : Nat) => [(0, .tsl 1 (l.map inE)), (4, .tsl 3 (S.map Sg.w)), (5, .int .i64 (i : Nat)), (6, .int .i64 ((S.take k).countP (on i) : Nat)), (7, .int .i64 (k : Nat))]) (fun (k : Nat) => []) (fun (k : Nat) n2 => k ≤ S.length) (fun (k : Nat) => S.length - k) 0 ?_ ?_ ?_ ?_
     · simp (maxSteps := 1000000) (disch := first | assumption | omega) [leV, get_e0, get_e1, wkV.refl, wkV_int, decT, decF, inE, Sg.w, eq3, hl, hne, hsn, s1, s2, s3, es, es2, sc, beqG, beqU, h2, h8]
     · simp [leH, get_e0, get_e1, h2, h8]
     · exact Nat.zero_le _
     rintro k n2 f1
     try simp only at *
     have hcl : (S.take k).countP (on i) ≤ k := Nat.le_trans List.countP_le_length (by rw [List.length_take]; omega)
     have cty := fun h a b => cnt_yes (S := S) (i := i) (k := k) h a b
     have ctn := fun h a => cnt_no (S := S) (i := i) (k := k) h a
     refine LWP_seq ?_
     refine LWP_seq ?_
     apply LWP_run
     · repeat (simp -implicitDefEqProofs (maxSteps := 1000000) (disch := first | assumption | omega) [inE, Sg.w, eq3, hl, hne, hsn, s1, s2, s3, es, es2, sc, beqG, beqU, h2, h8, cty, ctn]; try simp only [gz])
       rfl
     refine LWP_cond rfl (fun h10 => ?_) (fun h10 => ?_)
     ·try simp only [bn, reduceCtorEq] at h10
      all_goals try (exfalso; omega)
      all_goals
       refine LWP_skip ?_
       refine LWP_seq ?_
       refine LWP_block ?_
       refine LWP_seq ?_
       refine LWP_reg fun K hK => ?_
       apply rgnS_pre 8
       · repeat (simp -implicitDefEqProofs (maxSteps := 1000000) (disch := first | assumption | omega) [inE, Sg.w, eq3, hl, hne, hsn, s1, s2, s3, es, es2, sc, beqG, beqU, h2, h8, cty, ctn, h10]; try simp only [gz])
         rfl
       refine rgnS_guard (x := 81) (b := true) rfl (fun h11 => ?_) (fun h11 => ?_)
       ·try simp only [bn, reduceCtorEq] at h11
        all_goals try (exfalso; omega)
        all_goals
         apply rgnS_pre 8
         · repeat (simp -implicitDefEqProofs (maxSteps := 1000000) (disch := first | assumption | omega) [inE, Sg.w, eq3, hl, hne, hsn, s1, s2, s3, es, es2, sc, beqG, beqU, h2, h8, cty, ctn, h10, h11]; try simp only [gz])
           rfl
         refine hK _ ?_; clear hK
         refine LWP_cond rfl (fun h12 => ?_) (fun h12 => ?_)
         ·try simp only [bn, reduceCtorEq] at h12
          all_goals try (exfalso; omega)
          all_goals
           apply LWP_run
           · repeat (simp -implicitDefEqProofs (maxSteps := 1000000) (disch := first | assumption | omega) [inE, Sg.w, eq3, hl, hne, hsn, s1, s2, s3, es, es2, sc, beqG, beqU, h2, h8, cty, ctn, h10, h11, h12]; try simp only [gz])
             rfl
           apply LWP_run
           · repeat (simp -implicitDefEqProofs (maxSteps := 1000000) (disch := first | assumption | omega) [inE, Sg.w, eq3, hl, hne, hsn, s1, s2, s3, es, es2, sc, beqG, beqU, h2, h8, cty, ctn, h10, h11, h12]; try simp only [gz])
             rfl
           -- loop 2, round 0
           refine ⟨k + 1, ?_, ?_, ?_, ?_⟩
           · omega
           · omega
           · simp (maxSteps := 1000000) (disch := first | assumption | omega) [leV, get_e0, get_e1, wkV.refl, wkV_int, wrap_i64, decT, decF, inE, Sg.w, eq3, hl, hne, hsn, s1, s2, s3, es, es2, sc, beqG, beqU, h2, h8, cty, ctn, h10, h11, h12]
           · simp [leH, get_e0, get_e1, h2, h8, cty, ctn, h10, h11, h12]
         ·try simp only [bn, reduceCtorEq] at h12
          all_goals try (exfalso; omega)
          all_goals
           refine LWP_skip ?_
           apply LWP_run
           · repeat (simp -implicitDefEqProofs (maxSteps := 1000000) (disch := first | assumption | omega) [inE, Sg.w, eq3, hl, hne, hsn, s1, s2, s3, es, es2, sc, beqG, beqU, h2, h8, cty, ctn, h10, h11, h12]; try simp only [gz])
             rfl
           -- loop 2, round 1
           refine ⟨k + 1, ?_, ?_, ?_, ?_⟩
           · omega
           · omega
           · simp (maxSteps := 1000000) (disch := first | assumption | omega) [leV, get_e0, get_e1, wkV.refl, wkV_int, wrap_i64, decT, decF, inE, Sg.w, eq3, hl, hne, hsn, s1, s2, s3, es, es2, sc, beqG, beqU, h2, h8, cty, ctn, h10, h11, h12]
           · simp [leH, get_e0, get_e1, h2, h8, cty, ctn, h10, h11, h12]
       ·try simp only [bn, reduceCtorEq] at h11
        all_goals try (exfalso; omega)
        all_goals
         apply rgnS_pre 7
         · repeat (simp -implicitDefEqProofs (maxSteps := 1000000) (disch := first | assumption | omega) [inE, Sg.w, eq3, hl, hne, hsn, s1, s2, s3, es, es2, sc, beqG, beqU, h2, h8, cty, ctn, h10, h11]; try simp only [gz])
           rfl
         refine hK _ ?_; clear hK
         refine LWP_cond (t := false) (by simp [LArg.ev, get_e0, get_e1, h2, h8, cty, ctn, h10, h11]) (fun h => by cases h) (fun _ => ?_)
         refine LWP_skip ?_
         apply LWP_run
         · repeat (simp -implicitDefEqProofs (maxSteps := 1000000) (disch := first | assumption | omega) [inE, Sg.w, eq3, hl, hne, hsn, s1, s2, s3, es, es2, sc, beqG, beqU, h2, h8, cty, ctn, h10, h11]; try simp only [gz])
           rfl
         -- loop 2, round 2
         refine ⟨k + 1, ?_, ?_, ?_, ?_⟩
         · omega
         · omega
         · simp (maxSteps := 1000000) (disch := first | assumption | omega) [leV, get_e0, get_e1, wkV.refl, wkV_int, wrap_i64, decT, decF, inE, Sg.w, eq3, hl, hne, hsn, s1, s2, s3, es, es2, sc, beqG, beqU, h2, h8, cty, ctn, h10, h11]
         · simp [leH, get_e0, get_e1, h2, h8, cty, ctn, h10, h11]
     ·try simp only [bn, reduceCtorEq] at h10
      all_goals try (exfalso; omega)
      all_goals
       refine LWP_exit ?_
       refine LWP_seq ?_
       have ek : k = S.length := by omega
       subst ek
       rw [List.take_length]
       apply LWP_run
       · repeat (simp -implicitDefEqProofs (maxSteps := 1000000) (disch := first | assumption | omega) [inE, Sg.w, eq3, hl, hne, hsn, s1, s2, s3, es, es2, sc, beqG, beqU, h2, h8, cty, ctn, h10]; try simp only [gz])
         rfl
       refine LWP_cond rfl (fun h13 => ?_) (fun h13 => ?_)
       ·try simp only [bn, reduceCtorEq] at h13
        all_goals try (exfalso; omega)
        all_goals
         refine LWP_seq ?_
         apply LWP_run
         · repeat (simp -implicitDefEqProofs (maxSteps := 1000000) (disch := first | assumption | omega) [inE, Sg.w, eq3, hl, hne, hsn, s1, s2, s3, es, es2, sc, beqG, beqU, h2, h8, cty, ctn, h10, h13]; try simp only [gz])
           rfl
         -- leaf 4
         refine LWP_ret ⟨_, rfl, ?_⟩
         refine wkV_of_eq ?_
         simp only [retV]
         all_goals
          first | rfl | (exfalso; exact lv_no ha (i := i) (by omega) (by omega)) | trace_state
       ·try simp only [bn, reduceCtorEq] at h13
        all_goals try (exfalso; omega)
        all_goals
         refine LWP_skip ?_
         apply LWP_run
         · repeat (simp -implicitDefEqProofs (maxSteps := 1000000) (disch := first | assumption | omega) [inE, Sg.w, eq3, hl, hne, hsn, s1, s2, s3, es, es2, sc, beqG, beqU, h2, h8, cty, ctn, h10, h13]; try simp only [gz])
           rfl
         -- loop 1, round 0
         refine ⟨i + 1, ?_, ?_, ?_, ?_⟩
         · omega
         · omega
         · simp (maxSteps := 1000000) (disch := first | assumption | omega) [leV, get_e0, get_e1, wkV.refl, wkV_int, wrap_i64, decT, decF, inE, Sg.w, eq3, hl, hne, hsn, s1, s2, s3, es, es2, sc, beqG, beqU, h2, h8, cty, ctn, h10, h13]
         · simp [leH, get_e0, get_e1, h2, h8, cty, ctn, h10, h13]
   ·try simp only [bn, reduceCtorEq] at h8
    all_goals try (exfalso; omega)
    all_goals
     refine LWP_exit ?_
     refine LWP_seq ?_
     refine LWP_reg fun K hK => ?_
     refine rgnS_call (hsheads) rfl rfl (by simp [pureL, pureR, AV.pure, inE, Sg.w, eq3]) (by simp [pureL, pureR, AV.pure, inE, Sg.w, eq3]) (by simp [gd, get_e0, get_e1, LArg.ev, h2, h8]) ?_
     apply rgnS_pre 1
     · repeat (simp -implicitDefEqProofs (maxSteps := 1000000) (disch := first | assumption | omega) [inE, Sg.w, eq3, hl, hne, hsn, s1, s2, s3, es, es2, sc, beqG, beqU, h2, h8]; try simp only [gz])
       rfl
     refine hK _ ?_; clear hK
     -- leaf 5
     refine LWP_ret ⟨_, rfl, ?_⟩
     refine wkV_of_eq ?_
     simp only [retV]
     all_goals
      first | rfl | (exfalso; exact lv_no ha (i := i) (by omega) (by omega)) | trace_state
end

theorem levels_ok (l : List Int) : ACalls Go.Proofs.Tryz.prog 4 [.tsl 1 (l.map inE)] [] 0 (fun r _ _ => r = .bool true) := by
  by_cases hl : l.length ≤ 300
  · by_cases h0 : l = []
    · subst h0; exact lev_0
    · by_cases ha : ∀ (k : Nat) (h : k < l.length), lvB l[k]
      · have ha' : ∀ x ∈ l, 1 ≤ x ∧ x ≤ 4 := fun x hx => by
          obtain ⟨k, hk, rfl⟩ := List.getElem_of_mem hx
          exact ha k hk
        obtain ⟨r, hr⟩ := segs_0 h0 ha'
        have hp := List.length_pos_iff.2 h0
        refine lev_in l (segs l) hl hp ha (seg_ok l hl ha) (by rw [hr]; simp) (by have := segs_len l; omega) ?_ ?_ ?_ fun k hk => segs_cov ha' hk
        · simp only [hr, List.getElem_cons_zero]
        · simp only [hr, List.getElem_cons_zero]
        · simp only [hr, List.getElem_cons_zero]
      · simp only [Classical.not_forall] at ha
        obtain ⟨k, hk, hb⟩ := ha
        exact lev_no l k hl hk hb
  · exact lev_big l (by omega)
end Go.AM.Bm
