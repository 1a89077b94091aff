/- A part of a proof about the given program: what its name says. No premise beyond the statements'. -/
import Derived.Test.YtejmalikojmmgaaGreatClClC
import Derived.Test.YtejmalikojmmgaaGreatClHs
set_option linter.unusedSimpArgs false
set_option linter.unusedVariables false
/- The law on columns: the walk. -/
namespace Go.AM.Cl
open Go.AM
open Go.AM.LineP
theorem fil_le {c : Cl} {p : Rf → Bool} (h : c.r.length ≤ 300) : (c.r.filter p).length < 1000000 := by
  have := List.length_filter_le p c.r
  omega

section
attribute [local simp ↓] List.map_nil List.map_cons
attribute [local simp] m_ o_ g_ stepsS stepS gd opEff appEff LArg.ev app_val app_new app_upd app_kill putV ins_e0 ins_e1 get_e0 get_e1 binV binI grd bnd ldCells AV.cells AV.scalar AV.known setAt fillL chunks elems mxI mnI del Nat.add_assoc nlt_self nne_self nne_self' List.take_of_length_le decT decF wrap_i64 stepsD stepD ST.as dEffF LOp.cls softOK LOp.args LOp.rds AV.ids appD_val appD_new appD_upd appD_kill AS.flush delAll
set_option maxHeartbeats 2000000 in
set_option maxRecDepth 20000 in
theorem law_few (c : List Cl) (ls : List Ln) (n d i st : Int) (hf : fewB c = false) : ACalls Go.Proofs.Tryz.prog 3 [.tsl 5 (c.map Cl.e), .tsl 7 (ls.map Ln.e), .agg [.int .i64 n, .int .i64 d], .int .i64 i, .int .i64 st] [] 0 (fun r _ _ => r = .bool true) := by
 refine pure_body ok3 rfl ?_
 simp only [parV]
 refine LWP_seq ?_
 apply LWP_run
 · repeat (simp -implicitDefEqProofs (maxSteps := 1000000) (disch := first | assumption | omega) [hf]; try simp only [gz])
   rfl
 refine LWP_seq ?_
 refine LWP_seq ?_
 refine LWP_reg fun K hK => ?_
 apply rgnS_pre 1
 · repeat (simp -implicitDefEqProofs (maxSteps := 1000000) (disch := first | assumption | omega) [hf]; try simp only [gz])
   rfl
 refine rgnS_call (few_ok c) rfl rfl (by simp [pureL, pureR, AV.pure, pure_cl]) (by simp [pureL, pureR, AV.pure, pure_cl]) (by simp [gd, get_e0, get_e1, LArg.ev]) ?_
 apply rgnS_pre 6
 · repeat (simp -implicitDefEqProofs (maxSteps := 1000000) (disch := first | assumption | omega) [hf]; try simp only [gz])
   rfl
 refine hK _ ?_; clear hK
 refine LWP_cond (t := true) (by simp [LArg.ev, get_e0, get_e1]) (fun _ => ?_) (fun h => by cases h)
 refine LWP_seq ?_
 refine LWP_reg fun K hK => ?_
 refine rgnS_call (hsheads) rfl rfl (by simp [pureL, pureR, AV.pure]) (by simp [pureL, pureR, AV.pure]) (by simp [gd, get_e0, get_e1, LArg.ev]) ?_
 apply rgnS_pre 1
 · repeat (simp -implicitDefEqProofs (maxSteps := 1000000) (disch := first | assumption | omega) [hf]; try simp only [gz])
   rfl
 refine hK _ ?_; clear hK
 -- leaf 0
 refine LWP_ret ⟨_, rfl, ?_⟩
 refine wkV_of_eq ?_
 simp only [retV]
 all_goals
  rfl
set_option maxHeartbeats 2000000 in
set_option maxRecDepth 20000 in
theorem law_sms (c : List Cl) (ls : List Ln) (n d i st : Int) (hf : fewB c = true) (hs : smsB ls = false) : ACalls Go.Proofs.Tryz.prog 3 [.tsl 5 (c.map Cl.e), .tsl 7 (ls.map Ln.e), .agg [.int .i64 n, .int .i64 d], .int .i64 i, .int .i64 st] [] 0 (fun r _ _ => r = .bool true) := by
 refine pure_body ok3 rfl ?_
 simp only [parV]
 refine LWP_seq ?_
 apply LWP_run
 · repeat (simp -implicitDefEqProofs (maxSteps := 1000000) (disch := first | assumption | omega) [hf, hs]; try simp only [gz])
   rfl
 refine LWP_seq ?_
 refine LWP_seq ?_
 refine LWP_reg fun K hK => ?_
 apply rgnS_pre 1
 · repeat (simp -implicitDefEqProofs (maxSteps := 1000000) (disch := first | assumption | omega) [hf, hs]; try simp only [gz])
   rfl
 refine rgnS_call (few_ok c) rfl rfl (by simp [pureL, pureR, AV.pure, pure_cl]) (by simp [pureL, pureR, AV.pure, pure_cl]) (by simp [gd, get_e0, get_e1, LArg.ev]) ?_
 apply rgnS_pre 3
 · repeat (simp -implicitDefEqProofs (maxSteps := 1000000) (disch := first | assumption | omega) [hf, hs]; try simp only [gz])
   rfl
 refine rgnS_call (sms_ok ls) rfl rfl (by simp [pureL, pureR, AV.pure, pure_ln]) (by simp [pureL, pureR, AV.pure, pure_ln]) (by simp [gd, get_e0, get_e1, LArg.ev]) ?_
 apply rgnS_pre 2
 · repeat (simp -implicitDefEqProofs (maxSteps := 1000000) (disch := first | assumption | omega) [hf, hs]; try simp only [gz])
   rfl
 refine hK _ ?_; clear hK
 refine LWP_cond (t := true) (by simp [LArg.ev, get_e0, get_e1]) (fun _ => ?_) (fun h => by cases h)
 refine LWP_seq ?_
 refine LWP_reg fun K hK => ?_
 refine rgnS_call (hsheads) rfl rfl (by simp [pureL, pureR, AV.pure]) (by simp [pureL, pureR, AV.pure]) (by simp [gd, get_e0, get_e1, LArg.ev]) ?_
 apply rgnS_pre 1
 · repeat (simp -implicitDefEqProofs (maxSteps := 1000000) (disch := first | assumption | omega) [hf, hs]; try simp only [gz])
   rfl
 refine hK _ ?_; clear hK
 -- leaf 0
 refine LWP_ret ⟨_, rfl, ?_⟩
 refine wkV_of_eq ?_
 simp only [retV]
 all_goals
  rfl
set_option maxHeartbeats 2000000 in
set_option maxRecDepth 20000 in
theorem law_in (c : List Cl) (ls : List Ln) (n d i st : Int) (hf : fewB c = true) (hs : smsB ls = true) (hl : c.length ≤ 300) (hr : ∀ x ∈ c, x.r.length ≤ 300) : ACalls Go.Proofs.Tryz.prog 3 [.tsl 5 (c.map Cl.e), .tsl 7 (ls.map Ln.e), .agg [.int .i64 n, .int .i64 d], .int .i64 i, .int .i64 st] [] 0 (fun r _ _ => r = .bool true) := by
 refine pure_body ok3 rfl ?_
 simp only [parV]
 refine LWP_seq ?_
 apply LWP_run
 · repeat (simp -implicitDefEqProofs (maxSteps := 1000000) (disch := first | assumption | omega) [Cl.e, hf, hs]; try simp only [gz])
   rfl
 refine LWP_seq ?_
 refine LWP_seq ?_
 refine LWP_reg fun K hK => ?_
 apply rgnS_pre 1
 · repeat (simp -implicitDefEqProofs (maxSteps := 1000000) (disch := first | assumption | omega) [Cl.e, hf, hs]; try simp only [gz])
   rfl
 refine rgnS_call (few_ok c) rfl rfl (by simp [pureL, pureR, AV.pure, Cl.e, pure_cl]) (by simp [pureL, pureR, AV.pure, Cl.e, pure_cl]) (by simp [gd, get_e0, get_e1, LArg.ev]) ?_
 apply rgnS_pre 3
 · repeat (simp -implicitDefEqProofs (maxSteps := 1000000) (disch := first | assumption | omega) [Cl.e, hf, hs]; try simp only [gz])
   rfl
 refine rgnS_call (sms_ok ls) rfl rfl (by simp [pureL, pureR, AV.pure, Cl.e, pure_ln]) (by simp [pureL, pureR, AV.pure, Cl.e, pure_ln]) (by simp [gd, get_e0, get_e1, LArg.ev]) ?_
 apply rgnS_pre 2
 · repeat (simp -implicitDefEqProofs (maxSteps := 1000000) (disch := first | assumption | omega) [Cl.e, hf, hs]; try simp only [gz])
   rfl
 refine hK _ ?_; clear hK
 refine LWP_cond (t := false) (by simp [LArg.ev, get_e0, get_e1]) (fun h => by cases h) (fun _ => ?_)
 refine LWP_skip ?_
 refine LWP_seq ?_
 refine LWP_seq ?_
 refine LWP_regD' fun K hK => ?_
 apply rgnD_pre 5
 · repeat (simp -implicitDefEqProofs (maxSteps := 1000000) (disch := first | assumption | omega) [Cl.e, hf, hs]; try simp only [gz])
   rfl
 refine rgnD_call (find_ok c n d _ (by omega)) rfl rfl (by simp [pureL, pureR, AV.pure, Cl.e, pure_cl]) (by simp [pureL, pureR, AV.pure, Cl.e, pure_cl]) (by simp [gd, get_e0, get_e1, LArg.ev]) (by simp (maxSteps := 1000000) (disch := first | assumption | omega) [Cl.e, hf, hs]) ?_
 apply rgnD_pre 5
 · repeat (simp -implicitDefEqProofs (maxSteps := 1000000) (disch := first | assumption | omega) [Cl.e, hf, hs]; try simp only [gz])
   rfl
 refine rgnD_call (rfind_ok c n d _ (by omega)) rfl rfl (by simp [pureL, pureR, AV.pure, Cl.e, pure_cl]) (by simp [pureL, pureR, AV.pure, Cl.e, pure_cl]) (by simp [gd, get_e0, get_e1, LArg.ev]) (by simp (maxSteps := 1000000) (disch := first | assumption | omega) [Cl.e, hf, hs]) ?_
 apply rgnD_pre 6
 · repeat (simp -implicitDefEqProofs (maxSteps := 1000000) (disch := first | assumption | omega) [Cl.e, hf, hs]; try simp only [gz])
   rfl
 refine rgnD_call (next_ok c i ls st hl hr) rfl rfl (by simp [pureL, pureR, AV.pure, Cl.e, pure_cl, pure_ln]) (by simp [pureL, pureR, AV.pure, Cl.e, pure_cl, pure_ln]) (by simp [gd, get_e0, get_e1, LArg.ev]) (by simp (maxSteps := 1000000) (disch := first | assumption | omega) [Cl.e, hf, hs]) ?_
 apply rgnD_pre 4
 · repeat (simp -implicitDefEqProofs (maxSteps := 1000000) (disch := first | assumption | omega) [Cl.e, hf, hs]; try simp only [gz])
   rfl
 refine rgnD_call (rnext_ok c i ls st hl hr) rfl rfl (by simp [pureL, pureR, AV.pure, Cl.e, pure_cl, pure_ln]) (by simp [pureL, pureR, AV.pure, Cl.e, pure_cl, pure_ln]) (by simp [gd, get_e0, get_e1, LArg.ev]) (by simp (maxSteps := 1000000) (disch := first | assumption | omega) [Cl.e, hf, hs]) ?_
 apply rgnD_pre 2
 · repeat (simp -implicitDefEqProofs (maxSteps := 1000000) (disch := first | assumption | omega) [Cl.e, hf, hs]; try simp only [gz])
   rfl
 refine hK _ _ (by simp [AS.fin, delAll, del, Nat.add_assoc]; rfl) ?_; clear hK
 refine LWP_cond (t := false) (by simp [LArg.ev, get_e0, get_e1]) (fun h => by cases h) (fun _ => ?_)
 refine LWP_skip ?_
 refine LWP_seq ?_
 refine LWP_regD' fun K hK => ?_
 apply rgnD_pre 3
 · repeat (simp -implicitDefEqProofs (maxSteps := 1000000) (disch := first | assumption | omega) [Cl.e, hf, hs]; try simp only [gz])
   rfl
 refine rgnD_guard (x := 48) (b := false) rfl (fun h1 => ?_) (fun h1 => ?_)
 ·try simp only [bn, reduceCtorEq] at h1
  all_goals try (exfalso; omega)
  all_goals
   apply rgnD_pre 6
   · repeat (simp -implicitDefEqProofs (maxSteps := 1000000) (disch := first | assumption | omega) [Cl.e, hf, hs, h1]; try simp only [gz])
     rfl
   refine rgnD_guard (x := 54) (b := false) rfl (fun h2 => ?_) (fun h2 => ?_)
   ·try simp only [bn, reduceCtorEq] at h2
    all_goals try (exfalso; omega)
    all_goals
     apply rgnD_pre 6
     · repeat (simp -implicitDefEqProofs (maxSteps := 1000000) (disch := first | assumption | omega) [Cl.e, hf, hs, h1, h2]; try simp only [gz])
       rfl
     refine rgnD_call (staff_ok (c[i.toNat]'(by omega)) ls st (hr _ (List.getElem_mem (by omega)))) rfl rfl (by simp [pureL, pureR, AV.pure, Cl.e, Cl.e, pure_rf, pure_ln]) (by simp [pureL, pureR, AV.pure, Cl.e, Cl.e, pure_rf, pure_ln]) (by simp [gd, get_e0, get_e1, LArg.ev, h1, h2]) (by simp (maxSteps := 1000000) (disch := first | assumption | omega) [Cl.e, hf, hs]) ?_
     apply rgnD_pre 6
     · repeat (simp -implicitDefEqProofs (maxSteps := 1000000) (disch := first | assumption | omega) [Cl.e, hf, hs, h1, h2]; try simp only [gz])
       rfl
     refine rgnD_call (rstaff_ok (c[i.toNat]'(by omega)) ls st (hr _ (List.getElem_mem (by omega)))) rfl rfl (by simp [pureL, pureR, AV.pure, Cl.e, Cl.e, pure_rf, pure_ln]) (by simp [pureL, pureR, AV.pure, Cl.e, Cl.e, pure_rf, pure_ln]) (by simp [gd, get_e0, get_e1, LArg.ev, h1, h2]) (by simp (maxSteps := 1000000) (disch := first | assumption | omega) [Cl.e, hf, hs]) ?_
     refine rgnD_call (refs_ok ((c[i.toNat]'(by omega)).r.filter (thB ls st)) (fil_le (hr _ (List.getElem_mem (by omega))))) rfl rfl (by simp [pureL, pureR, AV.pure, Cl.e, pure_rf]) (by simp [pureL, pureR, AV.pure, Cl.e, pure_rf]) (by simp [gd, get_e0, get_e1, LArg.ev, h1, h2]) (by simp (maxSteps := 1000000) (disch := first | assumption | omega) [Cl.e, hf, hs]) ?_
     apply rgnD_pre 2
     · repeat (simp -implicitDefEqProofs (maxSteps := 1000000) (disch := first | assumption | omega) [Cl.e, hf, hs, h1, h2]; try simp only [gz])
       rfl
     refine rgnD_guard (x := 71) (b := true) rfl (fun h3 => ?_) (fun h3 => ?_)
     ·try simp only [bn, reduceCtorEq] at h3
      all_goals try (exfalso; omega)
      all_goals
       refine rgnD_call (hsheads) rfl rfl (by simp [pureL, pureR, AV.pure, Cl.e]) (by simp [pureL, pureR, AV.pure, Cl.e]) (by simp [gd, get_e0, get_e1, LArg.ev, h1, h2, h3]) (by simp (maxSteps := 1000000) (disch := first | assumption | omega) [Cl.e, hf, hs]) ?_
       apply rgnD_pre 2
       · repeat (simp -implicitDefEqProofs (maxSteps := 1000000) (disch := first | assumption | omega) [Cl.e, hf, hs, h1, h2, h3]; try simp only [gz])
         rfl
       refine hK _ _ (by simp [AS.fin, delAll, del, Nat.add_assoc]; rfl) ?_; clear hK
       -- leaf 0
       refine LWP_ret ⟨_, rfl, ?_⟩
       refine wkV_of_eq ?_
       simp only [retV]
       all_goals
        rfl
     ·try simp only [bn, reduceCtorEq] at h3
      all_goals try (exfalso; omega)
      all_goals
       apply rgnD_pre 2
       · repeat (simp -implicitDefEqProofs (maxSteps := 1000000) (disch := first | assumption | omega) [Cl.e, hf, hs, h1, h2, h3]; try simp only [gz])
         rfl
       refine hK _ _ (by simp [AS.fin, delAll, del, Nat.add_assoc]; rfl) ?_; clear hK
       -- leaf 1
       refine LWP_ret ⟨_, rfl, ?_⟩
       refine wkV_of_eq ?_
       simp only [retV]
       all_goals
        rfl
   ·try simp only [bn, reduceCtorEq] at h2
    all_goals try (exfalso; omega)
    all_goals
     apply rgnD_pre 8
     · repeat (simp -implicitDefEqProofs (maxSteps := 1000000) (disch := first | assumption | omega) [Cl.e, hf, hs, h1, h2]; try simp only [gz])
       rfl
     apply rgnD_pre 8
     · repeat (simp -implicitDefEqProofs (maxSteps := 1000000) (disch := first | assumption | omega) [Cl.e, hf, hs, h1, h2]; try simp only [gz])
       rfl
     refine rgnD_call (hsheads) rfl rfl (by simp [pureL, pureR, AV.pure, Cl.e]) (by simp [pureL, pureR, AV.pure, Cl.e]) (by simp [gd, get_e0, get_e1, LArg.ev, h1, h2]) (by simp (maxSteps := 1000000) (disch := first | assumption | omega) [Cl.e, hf, hs]) ?_
     apply rgnD_pre 2
     · repeat (simp -implicitDefEqProofs (maxSteps := 1000000) (disch := first | assumption | omega) [Cl.e, hf, hs, h1, h2]; try simp only [gz])
       rfl
     refine hK _ _ (by simp [AS.fin, delAll, del, Nat.add_assoc]; rfl) ?_; clear hK
     -- leaf 2
     refine LWP_ret ⟨_, rfl, ?_⟩
     refine wkV_of_eq ?_
     simp only [retV]
     all_goals
      rfl
 ·try simp only [bn, reduceCtorEq] at h1
  all_goals try (exfalso; omega)
  all_goals
   apply rgnD_pre 8
   · repeat (simp -implicitDefEqProofs (maxSteps := 1000000) (disch := first | assumption | omega) [Cl.e, hf, hs, h1]; try simp only [gz])
     rfl
   apply rgnD_pre 8
   · repeat (simp -implicitDefEqProofs (maxSteps := 1000000) (disch := first | assumption | omega) [Cl.e, hf, hs, h1]; try simp only [gz])
     rfl
   apply rgnD_pre 6
   · repeat (simp -implicitDefEqProofs (maxSteps := 1000000) (disch := first | assumption | omega) [Cl.e, hf, hs, h1]; try simp only [gz])
     rfl
   refine rgnD_call (hsheads) rfl rfl (by simp [pureL, pureR, AV.pure, Cl.e]) (by simp [pureL, pureR, AV.pure, Cl.e]) (by simp [gd, get_e0, get_e1, LArg.ev, h1]) (by simp (maxSteps := 1000000) (disch := first | assumption | omega) [Cl.e, hf, hs]) ?_
   apply rgnD_pre 2
   · repeat (simp -implicitDefEqProofs (maxSteps := 1000000) (disch := first | assumption | omega) [Cl.e, hf, hs, h1]; try simp only [gz])
     rfl
   refine hK _ _ (by simp [AS.fin, delAll, del, Nat.add_assoc]; rfl) ?_; clear hK
   -- leaf 3
   refine LWP_ret ⟨_, rfl, ?_⟩
   refine wkV_of_eq ?_
   simp only [retV]
   all_goals
    rfl
end

theorem tells_ok (c : List Cl) (ls : List Ln) (n d i st : Int) : ACalls Go.Proofs.Tryz.prog 3 [.tsl 5 (c.map Cl.e), .tsl 7 (ls.map Ln.e), .agg [.int .i64 n, .int .i64 d], .int .i64 i, .int .i64 st] [] 0 (fun r _ _ => r = .bool true) := by
  cases hf : fewB c
  · exact law_few c ls n d i st hf
  · cases hs : smsB ls
    · exact law_sms c ls n d i st hf hs
    · obtain ⟨h1, h2⟩ := few_of hf
      refine law_in c ls n d i st hf hs h1 fun x hx => ?_
      obtain ⟨k, hk, rfl⟩ := List.getElem_of_mem hx
      exact h2 k hk
end Go.AM.Cl
