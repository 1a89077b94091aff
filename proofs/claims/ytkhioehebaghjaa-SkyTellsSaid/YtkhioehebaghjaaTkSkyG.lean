/- A part of a proof about the given program: what its name says. No premise beyond the statements'. -/
import Derived.Test.YtkhioehebaghjaaTkSkyE
import Derived.Test.YtkhioehebaghjaaGD
set_option linter.unusedSimpArgs false
set_option linter.unusedVariables false
/- The highest of some steps. -/
namespace Go.AM.Sk
open Go.AM
open Go.AM.SkyP
def hi2 (m s : St) : St:=if m.h < s.h then s else m
def maxS : List St → St
  | [] => ⟨0,0,0⟩
  | a :: r => r.foldl hi2 a
theorem maxS_app {l : List St} (y : St) (h : l ≠ []) : maxS (l ++ [y]) = hi2 (maxS l) y:=by
  cases l with
  | nil => exact absurd rfl h
  | cons a r => simp [maxS,List.foldl_append]
theorem maxS_take {l : List St} {i : Nat} (h : i < l.length) (h1 : 1 ≤ i) : maxS (l.take (i + 1)) = hi2 (maxS (l.take i)) l[i]:=by
  rw [List.take_succ_eq_append_getElem h]
  exact maxS_app _ (fun e => by have:=congrArg List.length e; rw [List.length_take,List.length_nil] at this; omega)
theorem cmpI_gt (a b : Int) : 0 < cmpI a b ↔ b < a:=by
  unfold cmpI
  (repeat' split) <;> omega
theorem foldl_hi2 : ∀ (l : List St) (m : St),(l.foldl hi2 m = m ∨ l.foldl hi2 m ∈ l) ∧ m.h ≤ (l.foldl hi2 m).h ∧ ∀ s ∈ l,s.h ≤ (l.foldl hi2 m).h
  | [],m => ⟨.inl rfl,Int.le_refl _,by simp⟩
  | a :: r,m => by
    obtain ⟨h1,h2,h3⟩:=foldl_hi2 r (hi2 m a)
    have hm : m.h ≤ (hi2 m a).h ∧ a.h ≤ (hi2 m a).h ∧ (hi2 m a = m ∨ hi2 m a = a):=by
      unfold hi2
      split
      · exact ⟨by omega,Int.le_refl _,.inr rfl⟩
      · exact ⟨Int.le_refl _,by omega,.inl rfl⟩
    simp only [List.foldl_cons]
    refine ⟨?_,Int.le_trans hm.1 h2,fun s hs => ?_⟩
    · rcases h1 with h1 | h1
      · rw [h1]
        rcases hm.2.2 with e | e
        · exact .inl e
        · rw [e]; exact .inr (by simp)
      · exact .inr (List.mem_cons_of_mem _ h1)
    · rcases List.mem_cons.1 hs with rfl | hs
      · exact Int.le_trans hm.2.1 h2
      · exact h3 s hs
theorem maxS_spec {l : List St} (h : l ≠ []) : maxS l ∈ l ∧ ∀ s ∈ l,s.h ≤ (maxS l).h:=by
  cases l with
  | nil => exact absurd rfl h
  | cons a r =>
    obtain ⟨h1,h2,h3⟩:=foldl_hi2 r a
    refine ⟨?_,fun s hs => ?_⟩
    · rcases h1 with h1 | h1
      · simp only [maxS]; rw [h1]; simp
      · exact List.mem_cons_of_mem _ h1
    · rcases List.mem_cons.1 hs with rfl | hs
      · exact h2
      · exact h3 s hs

section
attribute [local simp ↓] List.map_nil List.map_cons
attribute [local simp] m_ o_ g_ stepsS stepS gd opEff appEff LArg.ev app_val app_new app_upd app_kill putV ins_e0 ins_e1 get_e0 get_e1 binV binI grd bnd ldCells AV.cells AV.scalar AV.known setAt fillL chunks elems mxI mnI del Nat.add_assoc nlt_self nne_self nne_self' List.take_of_length_le decT decF wrap_i64 stepsD stepD ST.as dEffF LOp.cls softOK LOp.args LOp.rds AV.ids appD_val appD_new appD_upd appD_kill AS.flush delAll
set_option maxHeartbeats 2000000 in
set_option maxRecDepth 20000 in
theorem maxfunc_ok (l : List St) (h0 : 0 < l.length) (hl : l.length < 1000000) : ACalls Go.Proofs.Try.prog 47 [.tsl 3 (l.map St.e),.fn 48 [] []] [] 0 (fun r _ _ => r = .agg (maxS l).e):=by
 refine pure_body ok47 rfl ?_
 simp only [parV]
 refine LWP_seq ?_
 apply LWP_run
 · repeat (simp -implicitDefEqProofs (disch:=omega) [St.e]; try simp only [gz])
   rfl
 refine LWP_seq ?_
 refine LWP_seq ?_
 apply LWP_run
 · repeat (simp -implicitDefEqProofs (disch:=omega) [St.e]; try simp only [gz])
   rfl
 refine LWP_cond rfl (fun h1 => ?_) (fun h1 => ?_)
 ·try simp only [bn,reduceCtorEq] at h1
  all_goals try (exfalso; omega)
  all_goals
   apply LWP_run
   · repeat (simp -implicitDefEqProofs (disch:=omega) [St.e,h1]; try simp only [gz])
     rfl
   refine LWP_seq ?_
   apply LWP_run
   · repeat (simp -implicitDefEqProofs (disch:=omega) [St.e,h1]; try simp only [gz])
     rfl
   refine LWP_seq ?_
   refine LWP_seq ?_
   apply LWP_run
   · repeat (simp -implicitDefEqProofs (disch:=omega) [St.e,h1]; try simp only [gz])
     rfl
   refine LWP_block ?_
   refine LWP_for (fun (p : Nat × St) => [(0,.tsl 3 (l.map St.e)),(1,.fn 48 [] []),(4,.ptr 3 0 0 0),(5,.ptr 3 1 0 0),(6,.int .i64 (p.1 : Nat))]) (fun (p : Nat × St) => [(1,Blk.rows 3 [[.int .i64 p.2.x0,.int .i64 p.2.x1,.int .i64 p.2.h]]),(0,Blk.rows 3 [[.int .i64 0,.int .i64 0,.int .i64 0]])]) (fun (p : Nat × St) n => 2 ≤ n ∧ 1 ≤ p.1 ∧ p.1 ≤ l.length ∧ p.2 = maxS (l.take p.1)) (fun (p : Nat × St) => l.length - p.1) (1,l[0]'h0) ?_ ?_ ?_ ?_
   · simp (disch:=omega) [leV,get_e0,get_e1,wkV.refl,wkV_int,decT,decF,St.e,h1]
   · simp [leH,get_e0,get_e1,h1]
     try rfl
   · refine ⟨Nat.le_refl 2,Nat.le_refl 1,h0,?_⟩
     cases l with
     | nil => exact absurd h0 (by simp)
     | cons a r => rfl
   rintro ⟨i,m⟩ n ⟨c0,c1,c2,c3⟩
   simp only at c0 c1 c2 c3
   have k0 : 0 < n:=by omega
   have k1 : ¬ n = 0:=by omega
   have k2 : ¬ n = 1:=by omega
   have k3 : 1 < n:=by omega
   refine LWP_seq ?_
   refine LWP_seq ?_
   apply LWP_run
   · repeat (simp -implicitDefEqProofs (disch:=omega) [St.e,h1,k0,k1,k2,k3]; try simp only [gz])
     rfl
   refine LWP_cond rfl (fun h3 => ?_) (fun h3 => ?_)
   ·try simp only [bn,reduceCtorEq] at h3
    all_goals try (exfalso; omega)
    all_goals
     refine LWP_skip ?_
     refine LWP_seq ?_
     refine LWP_block ?_
     refine LWP_seq ?_
     refine LWP_regD' fun K hK => ?_
     apply rgnD_pre 6
     · repeat (simp -implicitDefEqProofs (disch:=omega) [St.e,h1,k0,k1,k2,k3,h3]; try simp only [gz])
       rfl
     refine rgnD_call (lit3_ok (l[i]'(by omega)) m) rfl rfl (by simp [pureL,pureR,AV.pure,St.e,St.e]) (by simp [pureL,pureR,AV.pure,St.e,St.e]) (by simp [gd,get_e0,get_e1,LArg.ev,h1,k0,k1,k2,k3,h3]) (by simp (disch:=omega) [St.e]) ?_
     apply rgnD_pre 1
     · repeat (simp -implicitDefEqProofs (disch:=omega) [St.e,h1,k0,k1,k2,k3,h3]; try simp only [gz])
       rfl
     refine hK _ _ (by simp [AS.fin,delAll,del,Nat.add_assoc]; rfl) ?_; clear hK
     refine LWP_cond rfl (fun h4 => ?_) (fun h4 => ?_)
     ·try simp only [bn,reduceCtorEq] at h4
      all_goals try (exfalso; omega)
      all_goals
       apply LWP_run
       · repeat (simp -implicitDefEqProofs (disch:=omega) [St.e,h1,k0,k1,k2,k3,h3,h4]; try simp only [gz])
         rfl
       apply LWP_run
       · repeat (simp -implicitDefEqProofs (disch:=omega) [St.e,h1,k0,k1,k2,k3,h3,h4]; try simp only [gz])
         rfl
       -- loop 0,round 0
       refine ⟨(i + 1,l[i]'(by omega)),?_,?_,?_,?_⟩
       · have hg:=(cmpI_gt _ _).1 (by assumption)
         exact ⟨by simp only; omega,by simp only; omega,by simp only; omega,by simp only; rw [maxS_take (by omega) c1,← c3,hi2,if_pos hg]⟩
       · simp only; omega
       · simp (disch:=omega) [leV,get_e0,get_e1,wkV.refl,wkV_int,wrap_i64,decT,decF,St.e,h1,k0,k1,k2,k3,h3,h4]
       · simp [leH,get_e0,get_e1,h1,k0,k1,k2,k3,h3,h4]
         try rfl
     ·try simp only [bn,reduceCtorEq] at h4
      all_goals try (exfalso; omega)
      all_goals
       refine LWP_skip ?_
       apply LWP_run
       · repeat (simp -implicitDefEqProofs (disch:=omega) [St.e,h1,k0,k1,k2,k3,h3,h4]; try simp only [gz])
         rfl
       -- loop 0,round 1
       refine ⟨(i + 1,m),?_,?_,?_,?_⟩
       · have hg : ¬ m.h < (l[i]'(by omega)).h:=fun q => by
           have:=(cmpI_gt _ _).2 q
           omega
         exact ⟨by simp only; omega,by simp only; omega,by simp only; omega,by simp only; rw [maxS_take (by omega) c1,← c3,hi2,if_neg hg]⟩
       · simp only; omega
       · simp (disch:=omega) [leV,get_e0,get_e1,wkV.refl,wkV_int,wrap_i64,decT,decF,St.e,h1,k0,k1,k2,k3,h3,h4]
       · simp [leH,get_e0,get_e1,h1,k0,k1,k2,k3,h3,h4]
         try rfl
   ·try simp only [bn,reduceCtorEq] at h3
    all_goals try (exfalso; omega)
    all_goals
     refine LWP_exit ?_
     refine LWP_seq ?_
     apply LWP_run
     · repeat (simp -implicitDefEqProofs (disch:=omega) [St.e,h1,k0,k1,k2,k3,h3]; try simp only [gz])
       rfl
     -- leaf 0
     refine LWP_ret ⟨_,rfl,?_⟩
     refine wkV_of_eq ?_
     simp only [retV]
     all_goals
      have e : i = l.length:=by omega
      subst e
      rw [List.take_length] at c3
      rw [← c3]
      simp [St.e]
 ·try simp only [bn,reduceCtorEq] at h1
  all_goals try (exfalso; omega)
  all_goals
   refine LWP_skip ?_
   refine LWP_seq ?_
   apply LWP_run
   · repeat (simp -implicitDefEqProofs (disch:=omega) [St.e,h1]; try simp only [gz])
     rfl
   refine LWP_seq ?_
   refine LWP_seq ?_
   apply LWP_run
   · repeat (simp -implicitDefEqProofs (disch:=omega) [St.e,h1]; try simp only [gz])
     rfl
   refine LWP_block ?_
   refine LWP_for (fun (p : Nat × St) => [(0,.tsl 3 (l.map St.e)),(1,.fn 48 [] []),(4,.ptr 3 0 0 0),(5,.ptr 3 1 0 0),(6,.int .i64 (p.1 : Nat))]) (fun (p : Nat × St) => [(1,Blk.rows 3 [[.int .i64 p.2.x0,.int .i64 p.2.x1,.int .i64 p.2.h]]),(0,Blk.rows 3 [[.int .i64 0,.int .i64 0,.int .i64 0]])]) (fun (p : Nat × St) n => 2 ≤ n ∧ 1 ≤ p.1 ∧ p.1 ≤ l.length ∧ p.2 = maxS (l.take p.1)) (fun (p : Nat × St) => l.length - p.1) (1,l[0]'h0) ?_ ?_ ?_ ?_
   · simp (disch:=omega) [leV,get_e0,get_e1,wkV.refl,wkV_int,decT,decF,St.e,h1]
   · simp [leH,get_e0,get_e1,h1]
     try rfl
   · refine ⟨Nat.le_refl 2,Nat.le_refl 1,h0,?_⟩
     cases l with
     | nil => exact absurd h0 (by simp)
     | cons a r => rfl
   rintro ⟨i,m⟩ n ⟨c0,c1,c2,c3⟩
   simp only at c0 c1 c2 c3
   have k0 : 0 < n:=by omega
   have k1 : ¬ n = 0:=by omega
   have k2 : ¬ n = 1:=by omega
   have k3 : 1 < n:=by omega
   refine LWP_seq ?_
   refine LWP_seq ?_
   apply LWP_run
   · repeat (simp -implicitDefEqProofs (disch:=omega) [St.e,h1,k0,k1,k2,k3]; try simp only [gz])
     rfl
   refine LWP_cond rfl (fun h6 => ?_) (fun h6 => ?_)
   ·try simp only [bn,reduceCtorEq] at h6
    all_goals try (exfalso; omega)
    all_goals
     refine LWP_skip ?_
     refine LWP_seq ?_
     refine LWP_block ?_
     refine LWP_seq ?_
     refine LWP_regD' fun K hK => ?_
     apply rgnD_pre 6
     · repeat (simp -implicitDefEqProofs (disch:=omega) [St.e,h1,k0,k1,k2,k3,h6]; try simp only [gz])
       rfl
     refine rgnD_call (lit3_ok (l[i]'(by omega)) m) rfl rfl (by simp [pureL,pureR,AV.pure,St.e,St.e]) (by simp [pureL,pureR,AV.pure,St.e,St.e]) (by simp [gd,get_e0,get_e1,LArg.ev,h1,k0,k1,k2,k3,h6]) (by simp (disch:=omega) [St.e]) ?_
     apply rgnD_pre 1
     · repeat (simp -implicitDefEqProofs (disch:=omega) [St.e,h1,k0,k1,k2,k3,h6]; try simp only [gz])
       rfl
     refine hK _ _ (by simp [AS.fin,delAll,del,Nat.add_assoc]; rfl) ?_; clear hK
     refine LWP_cond rfl (fun h7 => ?_) (fun h7 => ?_)
     ·try simp only [bn,reduceCtorEq] at h7
      all_goals try (exfalso; omega)
      all_goals
       apply LWP_run
       · repeat (simp -implicitDefEqProofs (disch:=omega) [St.e,h1,k0,k1,k2,k3,h6,h7]; try simp only [gz])
         rfl
       apply LWP_run
       · repeat (simp -implicitDefEqProofs (disch:=omega) [St.e,h1,k0,k1,k2,k3,h6,h7]; try simp only [gz])
         rfl
       -- loop 0,round 0
       refine ⟨(i + 1,l[i]'(by omega)),?_,?_,?_,?_⟩
       · have hg:=(cmpI_gt _ _).1 (by assumption)
         exact ⟨by simp only; omega,by simp only; omega,by simp only; omega,by simp only; rw [maxS_take (by omega) c1,← c3,hi2,if_pos hg]⟩
       · simp only; omega
       · simp (disch:=omega) [leV,get_e0,get_e1,wkV.refl,wkV_int,wrap_i64,decT,decF,St.e,h1,k0,k1,k2,k3,h6,h7]
       · simp [leH,get_e0,get_e1,h1,k0,k1,k2,k3,h6,h7]
         try rfl
     ·try simp only [bn,reduceCtorEq] at h7
      all_goals try (exfalso; omega)
      all_goals
       refine LWP_skip ?_
       apply LWP_run
       · repeat (simp -implicitDefEqProofs (disch:=omega) [St.e,h1,k0,k1,k2,k3,h6,h7]; try simp only [gz])
         rfl
       -- loop 0,round 1
       refine ⟨(i + 1,m),?_,?_,?_,?_⟩
       · have hg : ¬ m.h < (l[i]'(by omega)).h:=fun q => by
           have:=(cmpI_gt _ _).2 q
           omega
         exact ⟨by simp only; omega,by simp only; omega,by simp only; omega,by simp only; rw [maxS_take (by omega) c1,← c3,hi2,if_neg hg]⟩
       · simp only; omega
       · simp (disch:=omega) [leV,get_e0,get_e1,wkV.refl,wkV_int,wrap_i64,decT,decF,St.e,h1,k0,k1,k2,k3,h6,h7]
       · simp [leH,get_e0,get_e1,h1,k0,k1,k2,k3,h6,h7]
         try rfl
   ·try simp only [bn,reduceCtorEq] at h6
    all_goals try (exfalso; omega)
    all_goals
     refine LWP_exit ?_
     refine LWP_seq ?_
     apply LWP_run
     · repeat (simp -implicitDefEqProofs (disch:=omega) [St.e,h1,k0,k1,k2,k3,h6]; try simp only [gz])
       rfl
     -- leaf 1
     refine LWP_ret ⟨_,rfl,?_⟩
     refine wkV_of_eq ?_
     simp only [retV]
     all_goals
      have e : i = l.length:=by omega
      subst e
      rw [List.take_length] at c3
      rw [← c3]
      simp [St.e]
end

end Go.AM.Sk
