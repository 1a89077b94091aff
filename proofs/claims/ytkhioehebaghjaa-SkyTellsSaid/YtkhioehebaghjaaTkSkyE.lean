/- A part of a proof about the given program: what its name says. No premise beyond the statements'. -/
import Derived.Test.YtkhioehebaghjaaTkSkyA
set_option linter.unusedSimpArgs false
set_option linter.unusedVariables false
/- Comparisons of numbers and of steps. -/
namespace Go.AM.Sk
open Go.AM
open Go.AM.SkyP
def cmpI (x y : Int) : Int:=if x < y then -1 else if y < x then 1 else 0

section
attribute [local simp ↓] List.map_nil List.map_cons
attribute [local simp] m_ o_ g_ stepsS stepS gd opEff appEff LArg.ev app_val app_new app_upd app_kill putV ins_e0 ins_e1 get_e0 get_e1 binV binI grd bnd ldCells AV.cells AV.scalar AV.known setAt fillL chunks elems mxI mnI del Nat.add_assoc nlt_self nne_self nne_self' List.take_of_length_le decT decF wrap_i64 stepsD stepD ST.as dEffF LOp.cls softOK LOp.args LOp.rds AV.ids appD_val appD_new appD_upd appD_kill AS.flush delAll
set_option maxHeartbeats 2000000 in
set_option maxRecDepth 20000 in
theorem nan_ok (x : Int)  : ACalls Go.Proofs.Try.prog 55 [.int .i64 x] [] 0 (fun r _ _ => r = .bool false):=by
 refine pure_body ok55 rfl ?_
 simp only [parV]
 refine LWP_seq ?_
 apply LWP_run
 · repeat (simp -implicitDefEqProofs (disch:=omega) []; try simp only [gz])
   rfl
 refine LWP_seq ?_
 apply LWP_run
 · repeat (simp -implicitDefEqProofs (disch:=omega) []; try simp only [gz])
   rfl
 -- leaf 0
 refine LWP_ret ⟨_,rfl,?_⟩
 refine wkV_of_eq ?_
 simp only [retV]
 all_goals
  simp
set_option maxHeartbeats 2000000 in
set_option maxRecDepth 20000 in
theorem less_ok (x y : Int)  : ACalls Go.Proofs.Try.prog 64 [.int .i64 x,.int .i64 y] [] 0 (fun r _ _ => r = .bool (decide (x < y))):=by
 refine pure_body ok64 rfl ?_
 simp only [parV]
 refine LWP_seq ?_
 apply LWP_run
 · repeat (simp -implicitDefEqProofs (disch:=omega) []; try simp only [gz])
   rfl
 refine LWP_seq ?_
 refine LWP_reg fun K hK => ?_
 apply rgnS_pre 1
 · repeat (simp -implicitDefEqProofs (disch:=omega) []; try simp only [gz])
   rfl
 refine rgnS_call (nan_ok _) rfl rfl (by simp [pureL,pureR,AV.pure]) (by simp [pureL,pureR,AV.pure]) (by simp [gd,get_e0,get_e1,LArg.ev]) ?_
 apply rgnS_pre 1
 · repeat (simp -implicitDefEqProofs (disch:=omega) []; try simp only [gz])
   rfl
 refine rgnS_guard (x:=7) (b:=true) rfl (fun h1 => ?_) (fun h1 => ?_)
 ·try simp only [bn,reduceCtorEq] at h1
  all_goals try (exfalso; omega)
  all_goals
   apply rgnS_pre 1
   · repeat (simp -implicitDefEqProofs (disch:=omega) [h1]; try simp only [gz])
     rfl
   refine rgnS_call (nan_ok _) rfl rfl (by simp [pureL,pureR,AV.pure]) (by simp [pureL,pureR,AV.pure]) (by simp [gd,get_e0,get_e1,LArg.ev,h1]) ?_
   apply rgnS_pre 3
   · repeat (simp -implicitDefEqProofs (disch:=omega) [h1]; try simp only [gz])
     rfl
   refine rgnS_guard (x:=12) (b:=false) rfl (fun h2 => ?_) (fun h2 => ?_)
   ·try simp only [bn,reduceCtorEq] at h2
    all_goals try (exfalso; omega)
    all_goals
     apply rgnS_pre 5
     · repeat (simp -implicitDefEqProofs (disch:=omega) [h1,h2]; try simp only [gz])
       rfl
     refine hK _ ?_; clear hK
     -- leaf 0
     refine LWP_ret ⟨_,rfl,?_⟩
     refine wkV_of_eq ?_
     simp only [retV]
     all_goals
      simp
   ·try simp only [bn,reduceCtorEq] at h2
    all_goals try (exfalso; omega)
    all_goals
     apply rgnS_pre 4
     · repeat (simp -implicitDefEqProofs (disch:=omega) [h1,h2]; try simp only [gz])
       rfl
     refine hK _ ?_; clear hK
     -- leaf 1
     refine LWP_ret ⟨_,rfl,?_⟩
     refine wkV_of_eq ?_
     simp only [retV]
     all_goals
      simp
 ·try simp only [bn,reduceCtorEq] at h1
  all_goals try (exfalso; omega)
  all_goals
   apply rgnS_pre 8
   · repeat (simp -implicitDefEqProofs (disch:=omega) [h1]; try simp only [gz])
     rfl
   apply rgnS_pre 1
   · repeat (simp -implicitDefEqProofs (disch:=omega) [h1]; try simp only [gz])
     rfl
   refine hK _ ?_; clear hK
   -- leaf 2
   refine LWP_ret ⟨_,rfl,?_⟩
   refine wkV_of_eq ?_
   simp only [retV]
   all_goals
    simp
set_option maxHeartbeats 2000000 in
set_option maxRecDepth 20000 in
theorem compare_ok (x y : Int)  : ACalls Go.Proofs.Try.prog 44 [.int .i64 x,.int .i64 y] [] 0 (fun r _ _ => r = .int .i64 (cmpI x y)):=by
 refine pure_body ok44 rfl ?_
 simp only [parV]
 refine LWP_seq ?_
 apply LWP_run
 · repeat (simp -implicitDefEqProofs (disch:=omega) []; try simp only [gz])
   rfl
 refine LWP_seq ?_
 refine LWP_reg fun K hK => ?_
 apply rgnS_pre 1
 · repeat (simp -implicitDefEqProofs (disch:=omega) []; try simp only [gz])
   rfl
 refine rgnS_call (nan_ok _) rfl rfl (by simp [pureL,pureR,AV.pure]) (by simp [pureL,pureR,AV.pure]) (by simp [gd,get_e0,get_e1,LArg.ev]) ?_
 apply rgnS_pre 1
 · repeat (simp -implicitDefEqProofs (disch:=omega) []; try simp only [gz])
   rfl
 refine hK _ ?_; clear hK
 refine LWP_seq ?_
 refine LWP_reg fun K hK => ?_
 apply rgnS_pre 1
 · repeat (simp -implicitDefEqProofs (disch:=omega) []; try simp only [gz])
   rfl
 refine rgnS_call (nan_ok _) rfl rfl (by simp [pureL,pureR,AV.pure]) (by simp [pureL,pureR,AV.pure]) (by simp [gd,get_e0,get_e1,LArg.ev]) ?_
 apply rgnS_pre 1
 · repeat (simp -implicitDefEqProofs (disch:=omega) []; try simp only [gz])
   rfl
 refine hK _ ?_; clear hK
 refine LWP_seq ?_
 refine LWP_seq ?_
 apply LWP_run
 · repeat (simp -implicitDefEqProofs (disch:=omega) []; try simp only [gz])
   rfl
 refine LWP_cond rfl (fun h1 => ?_) (fun h1 => ?_)
 ·try simp only [bn,reduceCtorEq] at h1
  all_goals try (exfalso; omega)
  all_goals
   refine LWP_seq ?_
   refine LWP_seq ?_
   apply LWP_run
   · repeat (simp -implicitDefEqProofs (disch:=omega) [h1]; try simp only [gz])
     rfl
   refine LWP_cond rfl (fun h2 => ?_) (fun h2 => ?_)
   ·try simp only [bn,reduceCtorEq] at h2
    all_goals try (exfalso; omega)
    all_goals
     refine LWP_seq ?_
     apply LWP_run
     · repeat (simp -implicitDefEqProofs (disch:=omega) [h1,h2]; try simp only [gz])
       rfl
     -- leaf 0
     refine LWP_ret ⟨_,rfl,?_⟩
     refine wkV_of_eq ?_
     simp only [retV]
     all_goals
      unfold cmpI
      (repeat' split) <;> first | rfl | omega
   ·try simp only [bn,reduceCtorEq] at h2
    all_goals try (exfalso; omega)
    all_goals
     refine LWP_skip ?_
     refine LWP_seq ?_
     apply LWP_run
     · repeat (simp -implicitDefEqProofs (disch:=omega) [h1,h2]; try simp only [gz])
       rfl
     -- leaf 1
     refine LWP_ret ⟨_,rfl,?_⟩
     refine wkV_of_eq ?_
     simp only [retV]
     all_goals
      unfold cmpI
      (repeat' split) <;> first | rfl | omega
 ·try simp only [bn,reduceCtorEq] at h1
  all_goals try (exfalso; omega)
  all_goals
   refine LWP_skip ?_
   refine LWP_seq ?_
   refine LWP_seq ?_
   apply LWP_run
   · repeat (simp -implicitDefEqProofs (disch:=omega) [h1]; try simp only [gz])
     rfl
   refine LWP_cond rfl (fun h3 => ?_) (fun h3 => ?_)
   ·try simp only [bn,reduceCtorEq] at h3
    all_goals try (exfalso; omega)
    all_goals
     refine LWP_seq ?_
     apply LWP_run
     · repeat (simp -implicitDefEqProofs (disch:=omega) [h1,h3]; try simp only [gz])
       rfl
     -- leaf 2
     refine LWP_ret ⟨_,rfl,?_⟩
     refine wkV_of_eq ?_
     simp only [retV]
     all_goals
      unfold cmpI
      (repeat' split) <;> first | rfl | omega
   ·try simp only [bn,reduceCtorEq] at h3
    all_goals try (exfalso; omega)
    all_goals
     refine LWP_skip ?_
     refine LWP_seq ?_
     refine LWP_seq ?_
     apply LWP_run
     · repeat (simp -implicitDefEqProofs (disch:=omega) [h1,h3]; try simp only [gz])
       rfl
     refine LWP_cond rfl (fun h4 => ?_) (fun h4 => ?_)
     ·try simp only [bn,reduceCtorEq] at h4
      all_goals try (exfalso; omega)
      all_goals
       refine LWP_seq ?_
       apply LWP_run
       · repeat (simp -implicitDefEqProofs (disch:=omega) [h1,h3,h4]; try simp only [gz])
         rfl
       -- leaf 3
       refine LWP_ret ⟨_,rfl,?_⟩
       refine wkV_of_eq ?_
       simp only [retV]
       all_goals
        unfold cmpI
        (repeat' split) <;> first | rfl | omega
     ·try simp only [bn,reduceCtorEq] at h4
      all_goals try (exfalso; omega)
      all_goals
       refine LWP_skip ?_
       refine LWP_seq ?_
       refine LWP_seq ?_
       apply LWP_run
       · repeat (simp -implicitDefEqProofs (disch:=omega) [h1,h3,h4]; try simp only [gz])
         rfl
       refine LWP_cond rfl (fun h5 => ?_) (fun h5 => ?_)
       ·try simp only [bn,reduceCtorEq] at h5
        all_goals try (exfalso; omega)
        all_goals
         refine LWP_seq ?_
         apply LWP_run
         · repeat (simp -implicitDefEqProofs (disch:=omega) [h1,h3,h4,h5]; try simp only [gz])
           rfl
         -- leaf 4
         refine LWP_ret ⟨_,rfl,?_⟩
         refine wkV_of_eq ?_
         simp only [retV]
         all_goals
          unfold cmpI
          (repeat' split) <;> first | rfl | omega
       ·try simp only [bn,reduceCtorEq] at h5
        all_goals try (exfalso; omega)
        all_goals
         refine LWP_skip ?_
         refine LWP_seq ?_
         apply LWP_run
         · repeat (simp -implicitDefEqProofs (disch:=omega) [h1,h3,h4,h5]; try simp only [gz])
           rfl
         -- leaf 5
         refine LWP_ret ⟨_,rfl,?_⟩
         refine wkV_of_eq ?_
         simp only [retV]
         all_goals
          unfold cmpI
          (repeat' split) <;> first | rfl | omega
set_option maxHeartbeats 2000000 in
set_option maxRecDepth 20000 in
theorem lit1_ok (a b : St)  : ACalls Go.Proofs.Try.prog 43 [.agg a.e,.agg b.e] [] 0 (fun r _ _ => r = .int .i64 (cmpI a.x0 b.x0)):=by
 refine pure_body ok43 rfl ?_
 simp only [parV]
 refine LWP_seq ?_
 apply LWP_run
 · repeat (simp -implicitDefEqProofs (disch:=omega) [St.e]; try simp only [gz])
   rfl
 refine LWP_seq ?_
 refine LWP_reg fun K hK => ?_
 apply rgnS_pre 4
 · repeat (simp -implicitDefEqProofs (disch:=omega) [St.e]; try simp only [gz])
   rfl
 refine rgnS_call (compare_ok _ _) rfl rfl (by simp [pureL,pureR,AV.pure,St.e]) (by simp [pureL,pureR,AV.pure,St.e]) (by simp [gd,get_e0,get_e1,LArg.ev]) ?_
 apply rgnS_pre 1
 · repeat (simp -implicitDefEqProofs (disch:=omega) [St.e]; try simp only [gz])
   rfl
 refine hK _ ?_; clear hK
 -- leaf 0
 refine LWP_ret ⟨_,rfl,?_⟩
 refine wkV_of_eq ?_
 simp only [retV]
 all_goals
  rfl
set_option maxHeartbeats 2000000 in
set_option maxRecDepth 20000 in
theorem lit3_ok (a b : St)  : ACalls Go.Proofs.Try.prog 48 [.agg a.e,.agg b.e] [] 0 (fun r _ _ => r = .int .i64 (cmpI a.h b.h)):=by
 refine pure_body ok48 rfl ?_
 simp only [parV]
 refine LWP_seq ?_
 apply LWP_run
 · repeat (simp -implicitDefEqProofs (disch:=omega) [St.e]; try simp only [gz])
   rfl
 refine LWP_seq ?_
 refine LWP_reg fun K hK => ?_
 apply rgnS_pre 4
 · repeat (simp -implicitDefEqProofs (disch:=omega) [St.e]; try simp only [gz])
   rfl
 refine rgnS_call (compare_ok _ _) rfl rfl (by simp [pureL,pureR,AV.pure,St.e]) (by simp [pureL,pureR,AV.pure,St.e]) (by simp [gd,get_e0,get_e1,LArg.ev]) ?_
 apply rgnS_pre 1
 · repeat (simp -implicitDefEqProofs (disch:=omega) [St.e]; try simp only [gz])
   rfl
 refine hK _ ?_; clear hK
 -- leaf 0
 refine LWP_ret ⟨_,rfl,?_⟩
 refine wkV_of_eq ?_
 simp only [retV]
 all_goals
  rfl
set_option maxHeartbeats 2000000 in
set_option maxRecDepth 20000 in
theorem lit2_ok (a : St) (x : Int)  : ACalls Go.Proofs.Try.prog 46 [.agg a.e,.cptr [.int .i64 x]] [] 0 (fun r _ _ => r = .bool (decide (a.x1 ≤ x))):=by
 refine pure_body ok46 rfl ?_
 simp only [parV]
 refine LWP_seq ?_
 apply LWP_run
 · repeat (simp -implicitDefEqProofs (disch:=omega) [St.e]; try simp only [gz])
   rfl
 refine LWP_seq ?_
 apply LWP_run
 · repeat (simp -implicitDefEqProofs (disch:=omega) [St.e]; try simp only [gz])
   rfl
 -- leaf 0
 refine LWP_ret ⟨_,rfl,?_⟩
 refine wkV_of_eq ?_
 simp only [retV]
 all_goals
  rfl
end

end Go.AM.Sk
