/- A part of a proof about the given program: what its name says. No premise beyond the statements'. -/
import Derived.Test.YtkhioehebaghjaaTkSkyB0
set_option linter.unusedSimpArgs false
set_option linter.unusedVariables false
/- Skylines: how far two must be apart. -/
namespace Go.AM.Sk
open Go.AM
open Go.AM.SkyP
theorem hadd_ok {a b : List St} (ha : chkB a = true) (hb : chkB b = true) (i k : Nat) (hi : i < a.length) (hk : k < b.length) : IntKind.i64.wrap ((a[i]'hi).h + (b[k]'hk).h) = (a[i]'hi).h + (b[k]'hk).h:=by
  have h1:=chk_h ha hi
  have h2:=chk_h hb hk
  exact wrap_i64 (by omega) (by omega)
theorem chk_sorted {l : List St} (h : chkB l = true) : sorted l:=by
  refine sorted_of l (fun a ha => ?_) fun i hi => ?_
  · obtain ⟨k,hk,rfl⟩:=List.getElem_of_mem ha
    exact (snd_h (chk_okAt h k hk).1).2
  · have:=(chk_okAt h (i + 1) hi).2 (by omega)
    simp only [Nat.add_sub_cancel,folB] at this
    split at this
    · omega
    · simp only [decide_eq_true_eq] at this; omega
theorem dis_step {a b : List St} {i k : Nat} (d : Int) (hi : i < a.length) (hk : k < b.length) : dis (a.drop i) (b.drop k) d = if a[i].x1 ≤ b[k].x1 then dis (a.drop (i + 1)) (b.drop k) (nxd a[i] b[k] d) else dis (a.drop i) (b.drop (k + 1)) (nxd a[i] b[k] d):=by
  rw [List.drop_eq_getElem_cons hi,List.drop_eq_getElem_cons hk]
  rw [dis]
theorem dis_end {a b : List St} {i k : Nat} (d : Int) (h : ¬ (i < a.length ∧ k < b.length)) : dis (a.drop i) (b.drop k) d = d:=by
  rcases Nat.lt_or_ge i a.length with q | q
  · rw [List.drop_eq_nil_of_le (show b.length ≤ k by omega)]
    cases a.drop i <;> rw [dis] <;> simp
  · rw [List.drop_eq_nil_of_le q,dis]
    simp

section
attribute [local simp ↓] List.map_nil List.map_cons
attribute [local simp] m_ o_ g_ stepsS stepS gd opEff appEff LArg.ev app_val app_new app_upd app_kill putV ins_e0 ins_e1 get_e0 get_e1 binV binI grd bnd ldCells AV.cells AV.scalar AV.known setAt fillL chunks elems mxI mnI del Nat.add_assoc nlt_self nne_self nne_self' List.take_of_length_le decT decF wrap_i64 stepsD stepD ST.as dEffF LOp.cls softOK LOp.args LOp.rds AV.ids appD_val appD_new appD_upd appD_kill AS.flush delAll
set_option maxHeartbeats 2000000 in
set_option maxRecDepth 20000 in
theorem distance_ok (a b : List St) (la : a.length < 1000000) (lb : b.length < 1000000) (ca : chkB a = true) (cb : chkB b = true) : ACalls Go.Proofs.Try.prog 22 [.tsl 3 (a.map St.e),.tsl 3 (b.map St.e)] [] 0 (fun r _ _ => r = .int .i64 (dis a b 0)):=by
 refine pure_body ok22 rfl ?_
 simp only [parV]
 have hadd:=hadd_ok ca cb
 have CA:=check_ok a la
 have CB:=check_ok b lb
 rw [ca] at CA
 rw [cb] at CB
 refine LWP_seq ?_
 apply LWP_run
 · repeat (simp -implicitDefEqProofs (disch:=omega) [St.e,mx_ite,mn_ite,hadd]; try simp only [gz])
   rfl
 refine LWP_seq ?_
 refine LWP_seq ?_
 refine LWP_reg fun K hK => ?_
 apply rgnS_pre 1
 · repeat (simp -implicitDefEqProofs (disch:=omega) [St.e,mx_ite,mn_ite,hadd]; try simp only [gz])
   rfl
 refine rgnS_call (CA) rfl rfl (by simp [pureL,pureR,AV.pure,St.e,mx_ite,mn_ite,pureR_st]) (by simp [pureL,pureR,AV.pure,St.e,mx_ite,mn_ite,pureR_st]) (by simp [gd,get_e0,get_e1,LArg.ev]) ?_
 apply rgnS_pre 2
 · repeat (simp -implicitDefEqProofs (disch:=omega) [St.e,mx_ite,mn_ite,hadd]; try simp only [gz])
   rfl
 refine rgnS_guard (x:=13) (b:=false) rfl (fun h1 => ?_) (fun h1 => ?_)
 ·try simp only [bn,reduceCtorEq] at h1
  all_goals try (exfalso; omega)
  all_goals
   apply rgnS_pre 1
   · repeat (simp -implicitDefEqProofs (disch:=omega) [St.e,mx_ite,mn_ite,hadd,h1]; try simp only [gz])
     rfl
   refine rgnS_call (CB) rfl rfl (by simp [pureL,pureR,AV.pure,St.e,mx_ite,mn_ite,pureR_st]) (by simp [pureL,pureR,AV.pure,St.e,mx_ite,mn_ite,pureR_st]) (by simp [gd,get_e0,get_e1,LArg.ev,h1]) ?_
   apply rgnS_pre 2
   · repeat (simp -implicitDefEqProofs (disch:=omega) [St.e,mx_ite,mn_ite,hadd,h1]; try simp only [gz])
     rfl
   refine hK _ ?_; clear hK
   refine LWP_cond rfl (fun h2 => ?_) (fun h2 => ?_)
   ·try simp only [bn,reduceCtorEq] at h2
    all_goals try (exfalso; omega)
    all_goals
     refine LWP_seq ?_
     apply LWP_run
     · repeat (simp -implicitDefEqProofs (disch:=omega) [St.e,mx_ite,mn_ite,hadd,h1,h2]; try simp only [gz])
       rfl
     -- leaf 0
     refine LWP_ret ⟨_,rfl,?_⟩
     refine wkV_of_eq ?_
     simp only [retV]
     all_goals
      rw [c3,dis_end d (by omega)]
   ·try simp only [bn,reduceCtorEq] at h2
    all_goals try (exfalso; omega)
    all_goals
     refine LWP_skip ?_
     refine LWP_seq ?_
     apply LWP_run
     · repeat (simp -implicitDefEqProofs (disch:=omega) [St.e,mx_ite,mn_ite,hadd,h1,h2]; try simp only [gz])
       rfl
     refine LWP_seq ?_
     apply LWP_run
     · repeat (simp -implicitDefEqProofs (disch:=omega) [St.e,mx_ite,mn_ite,hadd,h1,h2]; try simp only [gz])
       rfl
     refine LWP_seq ?_
     refine LWP_block ?_
     refine LWP_for (fun (p : Nat × Nat × Int) => [(0,.tsl 3 (a.map St.e)),(1,.tsl 3 (b.map St.e)),(5,.int .i64 p.2.2),(6,.int .i64 (p.1 : Nat)),(7,.int .i64 (p.2.1 : Nat))]) (fun (p : Nat × Nat × Int) => []) (fun (p : Nat × Nat × Int) n => p.1 ≤ a.length ∧ p.2.1 ≤ b.length ∧ dis a b 0 = dis (a.drop p.1) (b.drop p.2.1) p.2.2) (fun (p : Nat × Nat × Int) => (a.length - p.1) + (b.length - p.2.1)) (0,0,0) ?_ ?_ ?_ ?_
     · simp (disch:=omega) [leV,get_e0,get_e1,wkV.refl,wkV_int,decT,decF,St.e,mx_ite,mn_ite,hadd,h1,h2]
     · simp [leH,get_e0,get_e1,h1,h2]
     · exact ⟨Nat.zero_le _,Nat.zero_le _,rfl⟩
     rintro ⟨i,k,d⟩ n ⟨c1,c2,c3⟩
     simp only at c1 c2 c3
     refine LWP_seq ?_
     refine LWP_seq ?_
     refine LWP_reg fun K hK => ?_
     apply rgnS_pre 5
     · repeat (simp -implicitDefEqProofs (disch:=omega) [St.e,mx_ite,mn_ite,hadd,h1,h2]; try simp only [gz])
       rfl
     refine rgnS_guard (x:=22) (b:=true) rfl (fun h4 => ?_) (fun h4 => ?_)
     ·try simp only [bn,reduceCtorEq] at h4
      all_goals try (exfalso; omega)
      all_goals
       apply rgnS_pre 5
       · repeat (simp -implicitDefEqProofs (disch:=omega) [St.e,mx_ite,mn_ite,hadd,h1,h2,h4]; try simp only [gz])
         rfl
       refine hK _ ?_; clear hK
       refine LWP_cond rfl (fun h5 => ?_) (fun h5 => ?_)
       ·try simp only [bn,reduceCtorEq] at h5
        all_goals try (exfalso; omega)
        all_goals
         refine LWP_skip ?_
         refine LWP_block ?_
         refine LWP_seq ?_
         apply LWP_runDX ([(10,(n + 8,0,0,3))]) (by simp [okAdL,okAd1])
         · repeat (simp -implicitDefEqProofs (disch:=omega) [St.e,mx_ite,mn_ite,hadd,h1,h2,h4,h5,stepsF,stepF,effX,effF,okIdB,LOp.fp,fpV,opEffK_eq,LOper.looks,LArg.slot,Nat.add_sub_cancel_left]; try simp only [gz])
           rfl
         · simp [AS.fin,delAll,del,Nat.add_assoc]; rfl
         refine LWP_seq ?_
         refine LWP_seq ?_
         refine LWP_reg fun K hK => ?_
         apply rgnS_pre 8
         · repeat (simp -implicitDefEqProofs (disch:=omega) [St.e,mx_ite,mn_ite,hadd,h1,h2,h4,h5]; try simp only [gz])
           rfl
         apply rgnS_pre 3
         · repeat (simp -implicitDefEqProofs (disch:=omega) [St.e,mx_ite,mn_ite,hadd,h1,h2,h4,h5]; try simp only [gz])
           rfl
         refine hK _ ?_; clear hK
         refine LWP_cond rfl (fun h6 => ?_) (fun h6 => ?_)
         ·try simp only [bn,reduceCtorEq] at h6
          all_goals try (exfalso; omega)
          all_goals
           apply LWP_run
           · repeat (simp -implicitDefEqProofs (disch:=omega) [St.e,mx_ite,mn_ite,hadd,h1,h2,h4,h5,h6]; try simp only [gz])
             rfl
           refine LWP_seq ?_
           apply LWP_run
           · repeat (simp -implicitDefEqProofs (disch:=omega) [St.e,mx_ite,mn_ite,hadd,h1,h2,h4,h5,h6]; try simp only [gz])
             rfl
           refine LWP_cond rfl (fun h7 => ?_) (fun h7 => ?_)
           ·try simp only [bn,reduceCtorEq] at h7
            all_goals try (exfalso; omega)
            all_goals
             apply LWP_run
             · repeat (simp -implicitDefEqProofs (disch:=omega) [St.e,mx_ite,mn_ite,hadd,h1,h2,h4,h5,h6,h7]; try simp only [gz])
               rfl
             -- loop 0,round 0
             refine ⟨(i + 1,k,max d ((a[i]'(by omega)).h + (b[k]'(by omega)).h)),?_,?_,?_,?_⟩
             · refine ⟨by simp only; omega,by simp only; omega,?_⟩
               simp only
               rw [c3,dis_step d (by omega) (by omega),if_pos (by omega),nxd,if_pos (by unfold ov; omega)]
             · simp only; omega
             · simp (disch:=omega) [leV,get_e0,get_e1,wkV.refl,wkV_int,wrap_i64,decT,decF,St.e,mx_ite,mn_ite,hadd,h1,h2,h4,h5,h6,h7]
             · simp [leH,get_e0,get_e1,h1,h2,h4,h5,h6,h7]
           ·try simp only [bn,reduceCtorEq] at h7
            all_goals try (exfalso; omega)
            all_goals
             apply LWP_run
             · repeat (simp -implicitDefEqProofs (disch:=omega) [St.e,mx_ite,mn_ite,hadd,h1,h2,h4,h5,h6,h7]; try simp only [gz])
               rfl
             -- loop 0,round 1
             refine ⟨(i,k + 1,max d ((a[i]'(by omega)).h + (b[k]'(by omega)).h)),?_,?_,?_,?_⟩
             · refine ⟨by simp only; omega,by simp only; omega,?_⟩
               simp only
               rw [c3,dis_step d (by omega) (by omega),if_neg (by omega),nxd,if_pos (by unfold ov; omega)]
             · simp only; omega
             · simp (disch:=omega) [leV,get_e0,get_e1,wkV.refl,wkV_int,wrap_i64,decT,decF,St.e,mx_ite,mn_ite,hadd,h1,h2,h4,h5,h6,h7]
             · simp [leH,get_e0,get_e1,h1,h2,h4,h5,h6,h7]
         ·try simp only [bn,reduceCtorEq] at h6
          all_goals try (exfalso; omega)
          all_goals
           refine LWP_skip ?_
           refine LWP_seq ?_
           apply LWP_run
           · repeat (simp -implicitDefEqProofs (disch:=omega) [St.e,mx_ite,mn_ite,hadd,h1,h2,h4,h5,h6]; try simp only [gz])
             rfl
           refine LWP_cond rfl (fun h8 => ?_) (fun h8 => ?_)
           ·try simp only [bn,reduceCtorEq] at h8
            all_goals try (exfalso; omega)
            all_goals
             apply LWP_run
             · repeat (simp -implicitDefEqProofs (disch:=omega) [St.e,mx_ite,mn_ite,hadd,h1,h2,h4,h5,h6,h8]; try simp only [gz])
               rfl
             -- loop 0,round 2
             refine ⟨(i + 1,k,d),?_,?_,?_,?_⟩
             · refine ⟨by simp only; omega,by simp only; omega,?_⟩
               simp only
               rw [c3,dis_step d (by omega) (by omega),if_pos (by omega),nxd,if_neg (by unfold ov; omega)]
             · simp only; omega
             · simp (disch:=omega) [leV,get_e0,get_e1,wkV.refl,wkV_int,wrap_i64,decT,decF,St.e,mx_ite,mn_ite,hadd,h1,h2,h4,h5,h6,h8]
             · simp [leH,get_e0,get_e1,h1,h2,h4,h5,h6,h8]
           ·try simp only [bn,reduceCtorEq] at h8
            all_goals try (exfalso; omega)
            all_goals
             apply LWP_run
             · repeat (simp -implicitDefEqProofs (disch:=omega) [St.e,mx_ite,mn_ite,hadd,h1,h2,h4,h5,h6,h8]; try simp only [gz])
               rfl
             -- loop 0,round 3
             refine ⟨(i,k + 1,d),?_,?_,?_,?_⟩
             · refine ⟨by simp only; omega,by simp only; omega,?_⟩
               simp only
               rw [c3,dis_step d (by omega) (by omega),if_neg (by omega),nxd,if_neg (by unfold ov; omega)]
             · simp only; omega
             · simp (disch:=omega) [leV,get_e0,get_e1,wkV.refl,wkV_int,wrap_i64,decT,decF,St.e,mx_ite,mn_ite,hadd,h1,h2,h4,h5,h6,h8]
             · simp [leH,get_e0,get_e1,h1,h2,h4,h5,h6,h8]
       ·try simp only [bn,reduceCtorEq] at h5
        all_goals try (exfalso; omega)
        all_goals
         refine LWP_exit ?_
         refine LWP_seq ?_
         apply LWP_run
         · repeat (simp -implicitDefEqProofs (disch:=omega) [St.e,mx_ite,mn_ite,hadd,h1,h2,h4,h5]; try simp only [gz])
           rfl
         -- leaf 1
         refine LWP_ret ⟨_,rfl,?_⟩
         refine wkV_of_eq ?_
         simp only [retV]
         all_goals
          rw [c3,dis_end d (by omega)]
     ·try simp only [bn,reduceCtorEq] at h4
      all_goals try (exfalso; omega)
      all_goals
       apply rgnS_pre 4
       · repeat (simp -implicitDefEqProofs (disch:=omega) [St.e,mx_ite,mn_ite,hadd,h1,h2,h4]; try simp only [gz])
         rfl
       refine hK _ ?_; clear hK
       refine LWP_cond (t:=false) (by simp [LArg.ev,get_e0,get_e1,h1,h2,h4]) (fun h => by cases h) (fun _ => ?_)
       refine LWP_exit ?_
       refine LWP_seq ?_
       apply LWP_run
       · repeat (simp -implicitDefEqProofs (disch:=omega) [St.e,mx_ite,mn_ite,hadd,h1,h2,h4]; try simp only [gz])
         rfl
       -- leaf 2
       refine LWP_ret ⟨_,rfl,?_⟩
       refine wkV_of_eq ?_
       simp only [retV]
       all_goals
        rw [c3,dis_end d (by omega)]
 ·try simp only [bn,reduceCtorEq] at h1
  all_goals try (exfalso; omega)
  all_goals
   apply rgnS_pre 3
   · repeat (simp -implicitDefEqProofs (disch:=omega) [St.e,mx_ite,mn_ite,hadd,h1]; try simp only [gz])
     rfl
   refine hK _ ?_; clear hK
   refine LWP_cond (t:=true) (by simp [LArg.ev,get_e0,get_e1,h1]) (fun _ => ?_) (fun h => by cases h)
   refine LWP_seq ?_
   apply LWP_run
   · repeat (simp -implicitDefEqProofs (disch:=omega) [St.e,mx_ite,mn_ite,hadd,h1]; try simp only [gz])
     rfl
   -- leaf 3
   refine LWP_ret ⟨_,rfl,?_⟩
   refine wkV_of_eq ?_
   simp only [retV]
   all_goals
    rw [c3,dis_end d (by omega)]
end

end Go.AM.Sk
