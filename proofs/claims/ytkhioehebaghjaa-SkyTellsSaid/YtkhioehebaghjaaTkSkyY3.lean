/- A part of a proof about the given program: what its name says. No premise beyond the statements'. -/
import Derived.Test.YtkhioehebaghjaaTkSkyY2
import Derived.Test.YtkhioehebaghjaaTkSkyX4
import Derived.Test.YtkhioehebaghjaaTkSkyU2
import Derived.Test.YtkhioehebaghjaaTkSkySm
import Derived.Test.YtkhioehebaghjaaGD
import Derived.Test.YtkhioehebaghjaaGC
set_option linter.unusedSimpArgs false
set_option linter.unusedVariables false
/- What skylines tell, and become: the second opinion on merging; the law. -/
namespace Go.AM.Sk
open Go.AM
open Go.AM.SkyP
theorem chk_nums2 {l : List St} (h : chkB l = true) : ∀ s ∈ l,s.x0 < s.x1 ∧ okF s.x0 = true ∧ okF s.x1 = true ∧ okF s.h = true:=by
  intro s hs
  obtain ⟨i,hi,rfl⟩:=List.getElem_of_mem hs
  have:=(chk_okAt h i hi).1
  simp only [sndB,Bool.and_eq_true,decide_eq_true_eq] at this
  exact ⟨this.2,this.1.1.1,this.1.1.2,this.1.2⟩
theorem app_nums2 {a b : List St} (ha : chkB a = true) (hb : chkB b = true) : ∀ s ∈ a ++ b,s.x0 < s.x1 ∧ okF s.x0 = true ∧ okF s.x1 = true ∧ okF s.h = true:=by
  intro s hs
  rcases List.mem_append.1 hs with h | h
  · exact chk_nums2 ha s h
  · exact chk_nums2 hb s h
theorem deep_tree {H : Heap} (l : List St) : deepV H 5 (.tsl 3 (l.map St.e)) = some (.tsl 3 (l.map St.e)):=by
  show (mapO (mapO (deepV H 4)) (l.map St.e)).map (AV.tsl 3) = _
  rw [deep_st (m:=3)]
  rfl
theorem mapO_app {f : List AV → Option (List AV)} : ∀ {a b c d : List (List AV)},mapO f a = some c → mapO f b = some d → mapO f (a ++ b) = some (c ++ d)
  | [],b,c,d,h,k => by cases h; exact k
  | x :: a,b,c,d,h,k => by
    obtain ⟨y,m,h1,h2,rfl⟩:=mapO_cons h
    simp only [List.cons_append,mapO,h1,mapO_app h2 k]
section
attribute [local simp ↓] List.map_nil List.map_cons
attribute [local simp] m_ o_ g_ stepsS stepS gd opEff appEff LArg.ev app_val app_new app_upd app_kill putV ins_e0 ins_e1 get_e0 get_e1 binV binI grd bnd ldCells AV.cells AV.scalar AV.known setAt fillL chunks elems mxI mnI del Nat.add_assoc nlt_self nne_self nne_self' List.take_of_length_le decT decF wrap_i64 stepsD stepD ST.as dEffF LOp.cls softOK LOp.args LOp.rds AV.ids appD_val appD_new appD_upd appD_kill AS.flush delAll
set_option maxHeartbeats 2000000 in
theorem rmerge_in (a b : List St) (la : a.length ≤ 60) (lb : b.length ≤ 60) (ca : chkB a = true) (cb : chkB b = true) : ACalls Go.Proofs.Try.prog 15 [.tsl 3 (a.map St.e),.tsl 3 (b.map St.e)] [] 0 (fun r _ _ => r = .tup [.tsl 3 ((mergeV a b).1.map St.e),.int .i64 (mergeV a b).2]):=by
  have CA:=rchk_ok a (by omega)
  rw [ca] at CA
  have CB:=rchk_ok b (by omega)
  rw [cb] at CB
  have hL:=rline_ok (a ++ b) (by rw [List.length_append]; omega)
  rw [rl_line (fun s hs => (app_nums2 ca cb s hs).1),List.map_append] at hL
  have hlen:=lineS_len (a ++ b)
  rw [List.length_append] at hlen
  have ha24 : a.length * 24 ≤ 17592186044416:=by omega
  have hab24 : (a.length + b.length) * 24 ≤ 17592186044416:=by omega
  have hta : List.take a.length (a.map St.e) = a.map St.e:=List.take_of_length_le (by simp)
  have hpu : pureL [AV.tsl 3 (a.map St.e ++ b.map St.e)] = true:=by
    have:=pureR_st (a ++ b)
    rw [List.map_append] at this
    simp only [pureL,AV.pure,this,Bool.and_true]
  refine pure_body ok15 rfl ?_
  simp only [parV]
  refine LWP_seq ?_
  apply LWP_run
  · repeat (simp -implicitDefEqProofs (maxSteps:=1000000)(disch:=first|assumption|omega) []; try simp only [gz])
    rfl
  refine LWP_seq (LWP_seq ?_)
  refine LWP_reg fun K hK => ?_
  apply rgnS_pre 1
  · repeat (simp -implicitDefEqProofs (maxSteps:=1000000)(disch:=first|assumption|omega) []; try simp only [gz])
    rfl
  refine rgnS_call (CA) rfl rfl (by simp [pureL,pureR,AV.pure,pureR_st]) (by simp [pureL,pureR,AV.pure,pureR_st]) (by simp [gd,get_e0,get_e1,LArg.ev,pureR_st]) ?_
  apply rgnS_pre 3
  · repeat (simp -implicitDefEqProofs (maxSteps:=1000000)(disch:=first|assumption|omega) []; try simp only [gz])
    rfl
  refine rgnS_guard (x:=10) (b:=false) rfl (fun _ => ?_) (fun h => by cases h)
  refine rgnS_call (CB) rfl rfl (by simp [pureL,pureR,AV.pure,pureR_st]) (by simp [pureL,pureR,AV.pure,pureR_st]) (by simp [gd,get_e0,get_e1,LArg.ev,pureR_st]) ?_
  apply rgnS_pre 2
  · repeat (simp -implicitDefEqProofs (maxSteps:=1000000)(disch:=first|assumption|omega) []; try simp only [gz])
    rfl
  refine hK _ ?_; clear hK
  refine LWP_cond (t:=false) (by simp [LArg.ev,get_e0,get_e1]) (fun h => by cases h) (fun _ => LWP_skip ?_)
  refine LWP_seq ?_
  refine LWP_reg fun K hK => ?_
  apply rgnS_pre 5
  · repeat (simp -implicitDefEqProofs (maxSteps:=1000000)(disch:=first|assumption|omega) [ha24,hab24,hta]; try simp only [gz])
    rfl
  refine rgnS_eat (m:=5) hL rfl rfl hpu ?_ (by simp only [AV.pure,pureR_st]) (by simp [gd,get_e0,get_e1,LArg.ev]) ?_
  · have e : deepV [(2,Blk.rows 3 (a.map St.e ++ b.map St.e))] 5 (.sl 3 2 0 (a.length + b.length)) = some (.tsl 3 (a.map St.e ++ b.map St.e)):=by
      refine deepV_sl (n:=4) (es:=a.map St.e ++ b.map St.e) (by simp [get_e1]) (by simp) ?_
      rw [List.drop_zero,List.take_of_length_le (by simp)]
      exact mapO_app (deep_st (m:=3) a) (deep_st (m:=3) b)
    show mapO (deepV _ 5) [.sl 3 2 0 (a.length + b.length)] = _
    simp only [mapO,e]
  apply rgnS_pre 1
  · repeat (simp -implicitDefEqProofs (maxSteps:=1000000)(disch:=first|assumption|omega) []; try simp only [gz])
    rfl
  refine hK _ ?_; clear hK
  refine LWP_seq (LWP_seq ?_)
  apply LWP_run
  · repeat (simp -implicitDefEqProofs (maxSteps:=1000000)(disch:=first|assumption|omega) []; try simp only [gz])
    rfl
  refine LWP_cond (t:=false) (by simp [LArg.ev,get_e0,get_e1]; try omega) (fun h => by cases h) (fun _ => LWP_skip ?_)
  refine LWP_seq ?_
  apply LWP_run
  · repeat (simp -implicitDefEqProofs (maxSteps:=1000000)(disch:=first|assumption|omega) []; try simp only [gz])
    rfl
  refine LWP_ret ⟨_,rfl,?_⟩
  rw [mergeV,if_pos ⟨ca,cb⟩]
  exact wkV.refl _
set_option maxHeartbeats 2000000 in
set_option maxRecDepth 20000 in
theorem dist_na (a b : List St) (la : a.length < 90000) (lb : b.length < 90000) (ca : chkB a = false) : ACalls Go.Proofs.Try.prog 22 [.tsl 3 (a.map St.e),.tsl 3 (b.map St.e)] [] 0 (fun r _ _ => r = .int .i64 0):=by
 refine pure_body ok22 rfl ?_
 simp only [parV]
 have CA:=check_ok a (by omega)
 rw [ca] at CA
 have CB:=check_ok b (by omega)
 refine LWP_seq ?_
 apply LWP_run
 · repeat (simp -implicitDefEqProofs (maxSteps:=1000000)(disch:=first|assumption|omega) [St.e]; try simp only [gz])
   rfl
 refine LWP_seq ?_
 refine LWP_seq ?_
 refine LWP_reg fun K hK => ?_
 apply rgnS_pre 1
 · repeat (simp -implicitDefEqProofs (maxSteps:=1000000)(disch:=first|assumption|omega) [St.e]; try simp only [gz])
   rfl
 refine rgnS_call (CA) rfl rfl (by simp [pureL,pureR,AV.pure,St.e,pureR_st]) (by simp [pureL,pureR,AV.pure,St.e,pureR_st]) (by simp [gd,get_e0,get_e1,LArg.ev]) ?_
 apply rgnS_pre 2
 · repeat (simp -implicitDefEqProofs (maxSteps:=1000000)(disch:=first|assumption|omega) [St.e]; try simp only [gz])
   rfl
 refine rgnS_guard (x:=13) (b:=false) rfl (fun h1 => ?_) (fun h1 => ?_)
 ·try simp only [bn,reduceCtorEq] at h1
  all_goals try (exfalso; omega)
  all_goals
   apply rgnS_pre 1
   · repeat (simp -implicitDefEqProofs (maxSteps:=1000000)(disch:=first|assumption|omega) [St.e,h1]; try simp only [gz])
     rfl
   refine rgnS_call (CB) rfl rfl (by simp [pureL,pureR,AV.pure,St.e,pureR_st]) (by simp [pureL,pureR,AV.pure,St.e,pureR_st]) (by simp [gd,get_e0,get_e1,LArg.ev,h1]) ?_
   apply rgnS_pre 2
   · repeat (simp -implicitDefEqProofs (maxSteps:=1000000)(disch:=first|assumption|omega) [St.e,h1]; try simp only [gz])
     rfl
   refine hK _ ?_; clear hK
   refine LWP_cond (t:=true) (by simp [LArg.ev,get_e0,get_e1,h1]) (fun _ => ?_) (fun h => by cases h)
   refine LWP_seq ?_
   apply LWP_run
   · repeat (simp -implicitDefEqProofs (maxSteps:=1000000)(disch:=first|assumption|omega) [St.e,h1]; try simp only [gz])
     rfl
   -- leaf 0
   refine LWP_ret ⟨_,rfl,?_⟩
   refine wkV_of_eq ?_
   simp only [retV]
   all_goals
    rfl
 ·try simp only [bn,reduceCtorEq] at h1
  all_goals try (exfalso; omega)
  all_goals
   apply rgnS_pre 3
   · repeat (simp -implicitDefEqProofs (maxSteps:=1000000)(disch:=first|assumption|omega) [St.e,h1]; try simp only [gz])
     rfl
   refine hK _ ?_; clear hK
   refine LWP_cond (t:=true) (by simp [LArg.ev,get_e0,get_e1,h1]) (fun _ => ?_) (fun h => by cases h)
   refine LWP_seq ?_
   apply LWP_run
   · repeat (simp -implicitDefEqProofs (maxSteps:=1000000)(disch:=first|assumption|omega) [St.e,h1]; try simp only [gz])
     rfl
   -- leaf 1
   refine LWP_ret ⟨_,rfl,?_⟩
   refine wkV_of_eq ?_
   simp only [retV]
   all_goals
    rfl
set_option maxHeartbeats 2000000 in
set_option maxRecDepth 20000 in
theorem dist_nb (a b : List St) (la : a.length < 90000) (lb : b.length < 90000) (ca : chkB a = true) (cb : chkB b = false) : ACalls Go.Proofs.Try.prog 22 [.tsl 3 (a.map St.e),.tsl 3 (b.map St.e)] [] 0 (fun r _ _ => r = .int .i64 0):=by
 refine pure_body ok22 rfl ?_
 simp only [parV]
 have CA:=check_ok a (by omega)
 rw [ca] at CA
 have CB:=check_ok b (by omega)
 rw [cb] at CB
 refine LWP_seq ?_
 apply LWP_run
 · repeat (simp -implicitDefEqProofs (maxSteps:=1000000)(disch:=first|assumption|omega) [St.e]; try simp only [gz])
   rfl
 refine LWP_seq ?_
 refine LWP_seq ?_
 refine LWP_reg fun K hK => ?_
 apply rgnS_pre 1
 · repeat (simp -implicitDefEqProofs (maxSteps:=1000000)(disch:=first|assumption|omega) [St.e]; try simp only [gz])
   rfl
 refine rgnS_call (CA) rfl rfl (by simp [pureL,pureR,AV.pure,St.e,pureR_st]) (by simp [pureL,pureR,AV.pure,St.e,pureR_st]) (by simp [gd,get_e0,get_e1,LArg.ev]) ?_
 apply rgnS_pre 2
 · repeat (simp -implicitDefEqProofs (maxSteps:=1000000)(disch:=first|assumption|omega) [St.e]; try simp only [gz])
   rfl
 refine rgnS_guard (x:=13) (b:=false) rfl (fun h1 => ?_) (fun h1 => ?_)
 ·try simp only [bn,reduceCtorEq] at h1
  all_goals try (exfalso; omega)
  all_goals
   apply rgnS_pre 1
   · repeat (simp -implicitDefEqProofs (maxSteps:=1000000)(disch:=first|assumption|omega) [St.e,h1]; try simp only [gz])
     rfl
   refine rgnS_call (CB) rfl rfl (by simp [pureL,pureR,AV.pure,St.e,pureR_st]) (by simp [pureL,pureR,AV.pure,St.e,pureR_st]) (by simp [gd,get_e0,get_e1,LArg.ev,h1]) ?_
   apply rgnS_pre 2
   · repeat (simp -implicitDefEqProofs (maxSteps:=1000000)(disch:=first|assumption|omega) [St.e,h1]; try simp only [gz])
     rfl
   refine hK _ ?_; clear hK
   refine LWP_cond (t:=true) (by simp [LArg.ev,get_e0,get_e1,h1]) (fun _ => ?_) (fun h => by cases h)
   refine LWP_seq ?_
   apply LWP_run
   · repeat (simp -implicitDefEqProofs (maxSteps:=1000000)(disch:=first|assumption|omega) [St.e,h1]; try simp only [gz])
     rfl
   -- leaf 0
   refine LWP_ret ⟨_,rfl,?_⟩
   refine wkV_of_eq ?_
   simp only [retV]
   all_goals
    rfl
 ·try simp only [bn,reduceCtorEq] at h1
  all_goals try (exfalso; omega)
  all_goals
   apply rgnS_pre 3
   · repeat (simp -implicitDefEqProofs (maxSteps:=1000000)(disch:=first|assumption|omega) [St.e,h1]; try simp only [gz])
     rfl
   refine hK _ ?_; clear hK
   refine LWP_cond (t:=true) (by simp [LArg.ev,get_e0,get_e1,h1]) (fun _ => ?_) (fun h => by cases h)
   refine LWP_seq ?_
   apply LWP_run
   · repeat (simp -implicitDefEqProofs (maxSteps:=1000000)(disch:=first|assumption|omega) [St.e,h1]; try simp only [gz])
     rfl
   -- leaf 1
   refine LWP_ret ⟨_,rfl,?_⟩
   refine wkV_of_eq ?_
   simp only [retV]
   all_goals
    rfl
set_option maxHeartbeats 2000000 in
set_option maxRecDepth 20000 in
theorem rmerge_na (a b : List St) (la : a.length ≤ 60) (lb : b.length ≤ 60) (ca : chkB a = false) : ACalls Go.Proofs.Try.prog 15 [.tsl 3 (a.map St.e),.tsl 3 (b.map St.e)] [] 0 (fun r _ _ => r = .tup [.tsl 3 [],.int .i64 2]):=by
 refine pure_body ok15 rfl ?_
 simp only [parV]
 have CA:=rchk_ok a (by omega)
 rw [ca] at CA
 have CB:=rchk_ok b (by omega)
 refine LWP_seq ?_
 apply LWP_run
 · repeat (simp -implicitDefEqProofs (maxSteps:=1000000)(disch:=first|assumption|omega) []; try simp only [gz])
   rfl
 refine LWP_seq ?_
 refine LWP_seq ?_
 refine LWP_reg fun K hK => ?_
 apply rgnS_pre 1
 · repeat (simp -implicitDefEqProofs (maxSteps:=1000000)(disch:=first|assumption|omega) []; try simp only [gz])
   rfl
 refine rgnS_call (CA) rfl rfl (by simp [pureL,pureR,AV.pure,pureR_st]) (by simp [pureL,pureR,AV.pure,pureR_st]) (by simp [gd,get_e0,get_e1,LArg.ev]) ?_
 apply rgnS_pre 2
 · repeat (simp -implicitDefEqProofs (maxSteps:=1000000)(disch:=first|assumption|omega) []; try simp only [gz])
   rfl
 refine rgnS_guard (x:=10) (b:=false) rfl (fun h1 => ?_) (fun h1 => ?_)
 ·try simp only [bn,reduceCtorEq] at h1
  all_goals try (exfalso; omega)
  all_goals
   apply rgnS_pre 1
   · repeat (simp -implicitDefEqProofs (maxSteps:=1000000)(disch:=first|assumption|omega) [h1]; try simp only [gz])
     rfl
   refine rgnS_call (CB) rfl rfl (by simp [pureL,pureR,AV.pure,pureR_st]) (by simp [pureL,pureR,AV.pure,pureR_st]) (by simp [gd,get_e0,get_e1,LArg.ev,h1]) ?_
   apply rgnS_pre 2
   · repeat (simp -implicitDefEqProofs (maxSteps:=1000000)(disch:=first|assumption|omega) [h1]; try simp only [gz])
     rfl
   refine hK _ ?_; clear hK
   refine LWP_cond (t:=true) (by simp [LArg.ev,get_e0,get_e1,h1]) (fun _ => ?_) (fun h => by cases h)
   refine LWP_seq ?_
   apply LWP_run
   · repeat (simp -implicitDefEqProofs (maxSteps:=1000000)(disch:=first|assumption|omega) [h1]; try simp only [gz])
     rfl
   -- leaf 0
   refine LWP_ret ⟨_,rfl,wkV.tup2 (wkV.nils 3) (wkV.refl _)⟩
 ·try simp only [bn,reduceCtorEq] at h1
  all_goals try (exfalso; omega)
  all_goals
   apply rgnS_pre 3
   · repeat (simp -implicitDefEqProofs (maxSteps:=1000000)(disch:=first|assumption|omega) [h1]; try simp only [gz])
     rfl
   refine hK _ ?_; clear hK
   refine LWP_cond (t:=true) (by simp [LArg.ev,get_e0,get_e1,h1]) (fun _ => ?_) (fun h => by cases h)
   refine LWP_seq ?_
   apply LWP_run
   · repeat (simp -implicitDefEqProofs (maxSteps:=1000000)(disch:=first|assumption|omega) [h1]; try simp only [gz])
     rfl
   -- leaf 1
   refine LWP_ret ⟨_,rfl,wkV.tup2 (wkV.nils 3) (wkV.refl _)⟩
set_option maxHeartbeats 2000000 in
set_option maxRecDepth 20000 in
theorem rmerge_nb (a b : List St) (la : a.length ≤ 60) (lb : b.length ≤ 60) (ca : chkB a = true) (cb : chkB b = false) : ACalls Go.Proofs.Try.prog 15 [.tsl 3 (a.map St.e),.tsl 3 (b.map St.e)] [] 0 (fun r _ _ => r = .tup [.tsl 3 [],.int .i64 2]):=by
 refine pure_body ok15 rfl ?_
 simp only [parV]
 have CA:=rchk_ok a (by omega)
 rw [ca] at CA
 have CB:=rchk_ok b (by omega)
 rw [cb] at CB
 refine LWP_seq ?_
 apply LWP_run
 · repeat (simp -implicitDefEqProofs (maxSteps:=1000000)(disch:=first|assumption|omega) []; try simp only [gz])
   rfl
 refine LWP_seq ?_
 refine LWP_seq ?_
 refine LWP_reg fun K hK => ?_
 apply rgnS_pre 1
 · repeat (simp -implicitDefEqProofs (maxSteps:=1000000)(disch:=first|assumption|omega) []; try simp only [gz])
   rfl
 refine rgnS_call (CA) rfl rfl (by simp [pureL,pureR,AV.pure,pureR_st]) (by simp [pureL,pureR,AV.pure,pureR_st]) (by simp [gd,get_e0,get_e1,LArg.ev]) ?_
 apply rgnS_pre 2
 · repeat (simp -implicitDefEqProofs (maxSteps:=1000000)(disch:=first|assumption|omega) []; try simp only [gz])
   rfl
 refine rgnS_guard (x:=10) (b:=false) rfl (fun h1 => ?_) (fun h1 => ?_)
 ·try simp only [bn,reduceCtorEq] at h1
  all_goals try (exfalso; omega)
  all_goals
   apply rgnS_pre 1
   · repeat (simp -implicitDefEqProofs (maxSteps:=1000000)(disch:=first|assumption|omega) [h1]; try simp only [gz])
     rfl
   refine rgnS_call (CB) rfl rfl (by simp [pureL,pureR,AV.pure,pureR_st]) (by simp [pureL,pureR,AV.pure,pureR_st]) (by simp [gd,get_e0,get_e1,LArg.ev,h1]) ?_
   apply rgnS_pre 2
   · repeat (simp -implicitDefEqProofs (maxSteps:=1000000)(disch:=first|assumption|omega) [h1]; try simp only [gz])
     rfl
   refine hK _ ?_; clear hK
   refine LWP_cond (t:=true) (by simp [LArg.ev,get_e0,get_e1,h1]) (fun _ => ?_) (fun h => by cases h)
   refine LWP_seq ?_
   apply LWP_run
   · repeat (simp -implicitDefEqProofs (maxSteps:=1000000)(disch:=first|assumption|omega) [h1]; try simp only [gz])
     rfl
   -- leaf 0
   refine LWP_ret ⟨_,rfl,wkV.tup2 (wkV.nils 3) (wkV.refl _)⟩
 ·try simp only [bn,reduceCtorEq] at h1
  all_goals try (exfalso; omega)
  all_goals
   apply rgnS_pre 3
   · repeat (simp -implicitDefEqProofs (maxSteps:=1000000)(disch:=first|assumption|omega) [h1]; try simp only [gz])
     rfl
   refine hK _ ?_; clear hK
   refine LWP_cond (t:=true) (by simp [LArg.ev,get_e0,get_e1,h1]) (fun _ => ?_) (fun h => by cases h)
   refine LWP_seq ?_
   apply LWP_run
   · repeat (simp -implicitDefEqProofs (maxSteps:=1000000)(disch:=first|assumption|omega) [h1]; try simp only [gz])
     rfl
   -- leaf 1
   refine LWP_ret ⟨_,rfl,wkV.tup2 (wkV.nils 3) (wkV.refl _)⟩
set_option maxHeartbeats 2000000 in
set_option maxRecDepth 20000 in
theorem tells_ba (a b : List St) (x h : Int) (la : 60 < a.length) : ACalls Go.Proofs.Try.prog 4 [.tsl 3 (a.map St.e),.tsl 3 (b.map St.e),.int .i64 x,.int .i64 h] [] 0 (fun r _ _ => r = .bool true):=by
 refine pure_body ok4 rfl ?_
 simp only [parV]
 refine LWP_seq ?_
 apply LWP_run
 · repeat (simp -implicitDefEqProofs (maxSteps:=1000000)(disch:=first|assumption|omega) [la]; try simp only [gz])
   rfl
 refine LWP_seq ?_
 refine LWP_seq ?_
 refine LWP_reg fun K hK => ?_
 apply rgnS_pre 8
 · repeat (simp -implicitDefEqProofs (maxSteps:=1000000)(disch:=first|assumption|omega) [la]; try simp only [gz])
   rfl
 refine hK _ ?_; clear hK
 refine LWP_cond (t:=true) (by simp [LArg.ev,get_e0,get_e1]) (fun _ => ?_) (fun h => by cases h)
 refine LWP_seq ?_
 refine LWP_reg fun K hK => ?_
 refine rgnS_call (hsheads) rfl rfl (by simp [pureL,pureR,AV.pure]) (by simp [pureL,pureR,AV.pure]) (by simp [gd,get_e0,get_e1,LArg.ev]) ?_
 apply rgnS_pre 1
 · repeat (simp -implicitDefEqProofs (maxSteps:=1000000)(disch:=first|assumption|omega) [la]; try simp only [gz])
   rfl
 refine hK _ ?_; clear hK
 -- leaf 0
 refine LWP_ret ⟨_,rfl,?_⟩
 refine wkV_of_eq ?_
 simp only [retV]
 all_goals
  rfl
set_option maxHeartbeats 2000000 in
set_option maxRecDepth 20000 in
theorem tells_bb (a b : List St) (x h : Int) (la : a.length ≤ 60) (lb : 60 < b.length) : ACalls Go.Proofs.Try.prog 4 [.tsl 3 (a.map St.e),.tsl 3 (b.map St.e),.int .i64 x,.int .i64 h] [] 0 (fun r _ _ => r = .bool true):=by
 refine pure_body ok4 rfl ?_
 simp only [parV]
 refine LWP_seq ?_
 apply LWP_run
 · repeat (simp -implicitDefEqProofs (maxSteps:=1000000)(disch:=first|assumption|omega) [la,lb]; try simp only [gz])
   rfl
 refine LWP_seq ?_
 refine LWP_seq ?_
 refine LWP_reg fun K hK => ?_
 apply rgnS_pre 8
 · repeat (simp -implicitDefEqProofs (maxSteps:=1000000)(disch:=first|assumption|omega) [la,lb]; try simp only [gz])
   rfl
 refine hK _ ?_; clear hK
 refine LWP_cond (t:=true) (by simp [LArg.ev,get_e0,get_e1]) (fun _ => ?_) (fun h => by cases h)
 refine LWP_seq ?_
 refine LWP_reg fun K hK => ?_
 refine rgnS_call (hsheads) rfl rfl (by simp [pureL,pureR,AV.pure]) (by simp [pureL,pureR,AV.pure]) (by simp [gd,get_e0,get_e1,LArg.ev]) ?_
 apply rgnS_pre 1
 · repeat (simp -implicitDefEqProofs (maxSteps:=1000000)(disch:=first|assumption|omega) [la,lb]; try simp only [gz])
   rfl
 refine hK _ ?_; clear hK
 -- leaf 0
 refine LWP_ret ⟨_,rfl,?_⟩
 refine wkV_of_eq ?_
 simp only [retV]
 all_goals
  rfl
set_option maxHeartbeats 2000000 in
set_option maxRecDepth 20000 in
theorem tells_in (a b c p : List St) (x h e g n0 D : Int) (k0 k1 : Bool) (la : a.length ≤ 60) (lb : b.length ≤ 60) (d37 : ACalls Go.Proofs.Try.prog 14 [.tsl 3 (a.map St.e),.tsl 3 (b.map St.e)] [] 0 (fun r _ _ => r = .tup [.tsl 3 (c.map St.e),.int .i64 e])) (d43 : ACalls Go.Proofs.Try.prog 15 [.tsl 3 (a.map St.e),.tsl 3 (b.map St.e)] [] 0 (fun r _ _ => r = .tup [.tsl 3 (c.map St.e),.int .i64 e])) (d50 : ACalls Go.Proofs.Try.prog 16 [.tsl 3 (a.map St.e),.int .i64 x,.int .i64 h] [] 0 (fun r _ _ => r = .tup [.tsl 3 (p.map St.e),.int .i64 g])) (d57 : ACalls Go.Proofs.Try.prog 17 [.tsl 3 (a.map St.e),.int .i64 x,.int .i64 h] [] 0 (fun r _ _ => r = .tup [.tsl 3 (p.map St.e),.int .i64 g])) (d63 : ACalls Go.Proofs.Try.prog 18 [.tsl 3 (a.map St.e),.int .i64 x] [] 0 (fun r _ _ => r = .tup [.int .i64 n0,.bool k0])) (d69 : ACalls Go.Proofs.Try.prog 19 [.tsl 3 (a.map St.e),.int .i64 x] [] 0 (fun r _ _ => r = .tup [.int .i64 n0,.bool k0])) (d74 : ACalls Go.Proofs.Try.prog 13 [.tsl 3 (c.map St.e),.tsl 3 (c.map St.e)] [] 0 (fun r _ _ => r = .bool true)) (d84 : ACalls Go.Proofs.Try.prog 13 [.tsl 3 (p.map St.e),.tsl 3 (p.map St.e)] [] 0 (fun r _ _ => r = .bool true)) (d103 : ACalls Go.Proofs.Try.prog 20 [.tsl 3 (a.map St.e)] [] 0 (fun r _ _ => r = .bool k1)) (d105 : ACalls Go.Proofs.Try.prog 21 [.tsl 3 (a.map St.e)] [] 0 (fun r _ _ => r = .bool k1)) (d110 : ACalls Go.Proofs.Try.prog 22 [.tsl 3 (a.map St.e),.tsl 3 (b.map St.e)] [] 0 (fun r _ _ => r = .int .i64 D)) (d113 : ACalls Go.Proofs.Try.prog 23 [.tsl 3 (a.map St.e),.tsl 3 (b.map St.e)] [] 0 (fun r _ _ => r = .int .i64 D)) (d119 : ACalls Go.Proofs.Try.prog 13 [.tsl 3 (a.map St.e),.tsl 3 (a.map St.e)] [] 0 (fun r _ _ => r = .bool true)) : ACalls Go.Proofs.Try.prog 4 [.tsl 3 (a.map St.e),.tsl 3 (b.map St.e),.int .i64 x,.int .i64 h] [] 0 (fun r _ _ => r = .bool true):=by
 refine pure_body ok4 rfl ?_
 simp only [parV]
 have ha24 : a.length * 24 ≤ 17592186044416:=by omega
 have hta : List.take a.length (a.map St.e) = a.map St.e:=List.take_of_length_le (by simp)
 refine LWP_seq ?_
 apply LWP_run
 · repeat (simp -implicitDefEqProofs (maxSteps:=1000000)(disch:=first|assumption|omega) [eqV,eqS,la,lb,ha24,hta]; try simp only [gz])
   rfl
 refine LWP_seq ?_
 refine LWP_seq ?_
 refine LWP_reg fun K hK => ?_
 apply rgnS_pre 8
 · repeat (simp -implicitDefEqProofs (maxSteps:=1000000)(disch:=first|assumption|omega) [eqV,eqS,la,lb,ha24,hta]; try simp only [gz])
   rfl
 refine hK _ ?_; clear hK
 refine LWP_cond (t:=false) (by simp [LArg.ev,get_e0,get_e1]) (fun h => by cases h) (fun _ => ?_)
 refine LWP_skip ?_
 refine LWP_seq ?_
 apply LWP_run
 · repeat (simp -implicitDefEqProofs (maxSteps:=1000000)(disch:=first|assumption|omega) [eqV,eqS,la,lb,ha24,hta]; try simp only [gz])
   rfl
 refine LWP_seq ?_
 refine LWP_deep [(0,.tsl 3 (a.map St.e)),(1,.tsl 3 (b.map St.e)),(2,.int .i64 x),(3,.int .i64 h),(9,.tsl 3 (a.map St.e))] 5 ?_ ?_
 · simp only [deepL]
   have da : deepV [(1,Blk.rows 3 (a.map St.e))] 5 (.tsl 3 (a.map St.e)) = some (.tsl 3 (a.map St.e)):=deep_tree _
   have db : deepV [(1,Blk.rows 3 (a.map St.e))] 5 (.tsl 3 (b.map St.e)) = some (.tsl 3 (b.map St.e)):=deep_tree _
   exact ⟨⟨_,rfl,da⟩,⟨_,rfl,db⟩,⟨_,rfl,rfl⟩,⟨_,rfl,rfl⟩,⟨_,rfl,deep_row (k:=3) (by simp [get_e1]) rfl⟩,trivial⟩
 refine LWP_reg fun K hK => ?_
 apply rgnS_pre 2
 · repeat (simp -implicitDefEqProofs (maxSteps:=1000000)(disch:=first|assumption|omega) [eqV,eqS,la,lb,ha24,hta]; try simp only [gz])
   rfl
 refine rgnS_call (d37) rfl rfl (by simp [pureL,pureR,AV.pure,eqV,eqS,pureR_st]) (by simp [pureL,pureR,AV.pure,eqV,eqS,pureR_st]) (by simp [gd,get_e0,get_e1,LArg.ev]) ?_
 apply rgnS_pre 5
 · repeat (simp -implicitDefEqProofs (maxSteps:=1000000)(disch:=first|assumption|omega) [eqV,eqS,la,lb,ha24,hta]; try simp only [gz])
   rfl
 refine hK _ ?_; clear hK
 refine LWP_seq ?_
 refine LWP_reg fun K hK => ?_
 apply rgnS_pre 2
 · repeat (simp -implicitDefEqProofs (maxSteps:=1000000)(disch:=first|assumption|omega) [eqV,eqS,la,lb,ha24,hta]; try simp only [gz])
   rfl
 refine rgnS_call (d43) rfl rfl (by simp [pureL,pureR,AV.pure,eqV,eqS,pureR_st]) (by simp [pureL,pureR,AV.pure,eqV,eqS,pureR_st]) (by simp [gd,get_e0,get_e1,LArg.ev]) ?_
 apply rgnS_pre 5
 · repeat (simp -implicitDefEqProofs (maxSteps:=1000000)(disch:=first|assumption|omega) [eqV,eqS,la,lb,ha24,hta]; try simp only [gz])
   rfl
 refine hK _ ?_; clear hK
 refine LWP_seq ?_
 refine LWP_reg fun K hK => ?_
 apply rgnS_pre 3
 · repeat (simp -implicitDefEqProofs (maxSteps:=1000000)(disch:=first|assumption|omega) [eqV,eqS,la,lb,ha24,hta]; try simp only [gz])
   rfl
 refine rgnS_call (d50) rfl rfl (by simp [pureL,pureR,AV.pure,eqV,eqS,pureR_st]) (by simp [pureL,pureR,AV.pure,eqV,eqS,pureR_st]) (by simp [gd,get_e0,get_e1,LArg.ev]) ?_
 apply rgnS_pre 5
 · repeat (simp -implicitDefEqProofs (maxSteps:=1000000)(disch:=first|assumption|omega) [eqV,eqS,la,lb,ha24,hta]; try simp only [gz])
   rfl
 refine hK _ ?_; clear hK
 refine LWP_seq ?_
 refine LWP_reg fun K hK => ?_
 apply rgnS_pre 3
 · repeat (simp -implicitDefEqProofs (maxSteps:=1000000)(disch:=first|assumption|omega) [eqV,eqS,la,lb,ha24,hta]; try simp only [gz])
   rfl
 refine rgnS_call (d57) rfl rfl (by simp [pureL,pureR,AV.pure,eqV,eqS,pureR_st]) (by simp [pureL,pureR,AV.pure,eqV,eqS,pureR_st]) (by simp [gd,get_e0,get_e1,LArg.ev]) ?_
 apply rgnS_pre 5
 · repeat (simp -implicitDefEqProofs (maxSteps:=1000000)(disch:=first|assumption|omega) [eqV,eqS,la,lb,ha24,hta]; try simp only [gz])
   rfl
 refine hK _ ?_; clear hK
 refine LWP_seq ?_
 refine LWP_reg fun K hK => ?_
 apply rgnS_pre 2
 · repeat (simp -implicitDefEqProofs (maxSteps:=1000000)(disch:=first|assumption|omega) [eqV,eqS,la,lb,ha24,hta]; try simp only [gz])
   rfl
 refine rgnS_call (d63) rfl rfl (by simp [pureL,pureR,AV.pure,eqV,eqS,pureR_st]) (by simp [pureL,pureR,AV.pure,eqV,eqS,pureR_st]) (by simp [gd,get_e0,get_e1,LArg.ev]) ?_
 apply rgnS_pre 5
 · repeat (simp -implicitDefEqProofs (maxSteps:=1000000)(disch:=first|assumption|omega) [eqV,eqS,la,lb,ha24,hta]; try simp only [gz])
   rfl
 refine hK _ ?_; clear hK
 refine LWP_seq ?_
 refine LWP_reg fun K hK => ?_
 apply rgnS_pre 2
 · repeat (simp -implicitDefEqProofs (maxSteps:=1000000)(disch:=first|assumption|omega) [eqV,eqS,la,lb,ha24,hta]; try simp only [gz])
   rfl
 refine rgnS_call (d69) rfl rfl (by simp [pureL,pureR,AV.pure,eqV,eqS,pureR_st]) (by simp [pureL,pureR,AV.pure,eqV,eqS,pureR_st]) (by simp [gd,get_e0,get_e1,LArg.ev]) ?_
 apply rgnS_pre 5
 · repeat (simp -implicitDefEqProofs (maxSteps:=1000000)(disch:=first|assumption|omega) [eqV,eqS,la,lb,ha24,hta]; try simp only [gz])
   rfl
 refine hK _ ?_; clear hK
 refine LWP_seq ?_
 refine LWP_seq ?_
 refine LWP_reg fun K hK => ?_
 apply rgnS_pre 2
 · repeat (simp -implicitDefEqProofs (maxSteps:=1000000)(disch:=first|assumption|omega) [eqV,eqS,la,lb,ha24,hta]; try simp only [gz])
   rfl
 refine rgnS_call (d74) rfl rfl (by simp [pureL,pureR,AV.pure,eqV,eqS,pureR_st]) (by simp [pureL,pureR,AV.pure,eqV,eqS,pureR_st]) (by simp [gd,get_e0,get_e1,LArg.ev]) ?_
 apply rgnS_pre 8
 · repeat (simp -implicitDefEqProofs (maxSteps:=1000000)(disch:=first|assumption|omega) [eqV,eqS,la,lb,ha24,hta]; try simp only [gz])
   rfl
 apply rgnS_pre 1
 · repeat (simp -implicitDefEqProofs (maxSteps:=1000000)(disch:=first|assumption|omega) [eqV,eqS,la,lb,ha24,hta]; try simp only [gz])
   rfl
 refine rgnS_call (d84) rfl rfl (by simp [pureL,pureR,AV.pure,eqV,eqS,pureR_st]) (by simp [pureL,pureR,AV.pure,eqV,eqS,pureR_st]) (by simp [gd,get_e0,get_e1,LArg.ev]) ?_
 apply rgnS_pre 8
 · repeat (simp -implicitDefEqProofs (maxSteps:=1000000)(disch:=first|assumption|omega) [eqV,eqS,la,lb,ha24,hta]; try simp only [gz])
   rfl
 apply rgnS_pre 8
 · repeat (simp -implicitDefEqProofs (maxSteps:=1000000)(disch:=first|assumption|omega) [eqV,eqS,la,lb,ha24,hta]; try simp only [gz])
   rfl
 apply rgnS_pre 1
 · repeat (simp -implicitDefEqProofs (maxSteps:=1000000)(disch:=first|assumption|omega) [eqV,eqS,la,lb,ha24,hta]; try simp only [gz])
   rfl
 refine hK _ ?_; clear hK
 refine LWP_cond (t:=false) (by simp [LArg.ev,get_e0,get_e1]) (fun h => by cases h) (fun _ => ?_)
 refine LWP_skip ?_
 refine LWP_seq ?_
 refine LWP_reg fun K hK => ?_
 apply rgnS_pre 1
 · repeat (simp -implicitDefEqProofs (maxSteps:=1000000)(disch:=first|assumption|omega) [eqV,eqS,la,lb,ha24,hta]; try simp only [gz])
   rfl
 refine rgnS_call (d103) rfl rfl (by simp [pureL,pureR,AV.pure,eqV,eqS,pureR_st]) (by simp [pureL,pureR,AV.pure,eqV,eqS,pureR_st]) (by simp [gd,get_e0,get_e1,LArg.ev]) ?_
 apply rgnS_pre 1
 · repeat (simp -implicitDefEqProofs (maxSteps:=1000000)(disch:=first|assumption|omega) [eqV,eqS,la,lb,ha24,hta]; try simp only [gz])
   rfl
 refine rgnS_call (d105) rfl rfl (by simp [pureL,pureR,AV.pure,eqV,eqS,pureR_st]) (by simp [pureL,pureR,AV.pure,eqV,eqS,pureR_st]) (by simp [gd,get_e0,get_e1,LArg.ev]) ?_
 apply rgnS_pre 4
 · repeat (simp -implicitDefEqProofs (maxSteps:=1000000)(disch:=first|assumption|omega) [eqV,eqS,la,lb,ha24,hta]; try simp only [gz])
   rfl
 refine rgnS_call (d110) rfl rfl (by simp [pureL,pureR,AV.pure,eqV,eqS,pureR_st]) (by simp [pureL,pureR,AV.pure,eqV,eqS,pureR_st]) (by simp [gd,get_e0,get_e1,LArg.ev]) ?_
 apply rgnS_pre 2
 · repeat (simp -implicitDefEqProofs (maxSteps:=1000000)(disch:=first|assumption|omega) [eqV,eqS,la,lb,ha24,hta]; try simp only [gz])
   rfl
 refine rgnS_call (d113) rfl rfl (by simp [pureL,pureR,AV.pure,eqV,eqS,pureR_st]) (by simp [pureL,pureR,AV.pure,eqV,eqS,pureR_st]) (by simp [gd,get_e0,get_e1,LArg.ev]) ?_
 apply rgnS_pre 5
 · repeat (simp -implicitDefEqProofs (maxSteps:=1000000)(disch:=first|assumption|omega) [eqV,eqS,la,lb,ha24,hta]; try simp only [gz])
   rfl
 refine rgnS_call (d119) rfl rfl (by simp [pureL,pureR,AV.pure,eqV,eqS,pureR_st]) (by simp [pureL,pureR,AV.pure,eqV,eqS,pureR_st]) (by simp [gd,get_e0,get_e1,LArg.ev]) ?_
 apply rgnS_pre 2
 · repeat (simp -implicitDefEqProofs (maxSteps:=1000000)(disch:=first|assumption|omega) [eqV,eqS,la,lb,ha24,hta]; try simp only [gz])
   rfl
 refine rgnS_call (hsheads) rfl rfl (by simp [pureL,pureR,AV.pure,eqV,eqS]) (by simp [pureL,pureR,AV.pure,eqV,eqS]) (by simp [gd,get_e0,get_e1,LArg.ev]) ?_
 apply rgnS_pre 2
 · repeat (simp -implicitDefEqProofs (maxSteps:=1000000)(disch:=first|assumption|omega) [eqV,eqS,la,lb,ha24,hta]; try simp only [gz])
   rfl
 refine hK _ ?_; clear hK
 -- leaf 0
 refine LWP_ret ⟨_,rfl,?_⟩
 refine wkV_of_eq ?_
 simp only [retV]
 all_goals
  rfl
end

theorem rmerge_ok (a b : List St) (la : a.length ≤ 60) (lb : b.length ≤ 60) : ACalls Go.Proofs.Try.prog 15 [.tsl 3 (a.map St.e),.tsl 3 (b.map St.e)] [] 0 (fun r _ _ => r = .tup [.tsl 3 ((mergeV a b).1.map St.e),.int .i64 (mergeV a b).2]):=by
  cases ca : chkB a with
  | false =>
    have:=rmerge_na a b la lb ca
    rwa [mergeV,if_neg (by rw [ca]; simp)]
  | true =>
    cases cb : chkB b with
    | false =>
      have:=rmerge_nb a b la lb ca cb
      rwa [mergeV,if_neg (by rw [cb]; simp)]
    | true => exact rmerge_in a b la lb ca cb
noncomputable def raiseR (l : List St) (x h : Int) : List St × Int:=if chkB l = true then (if okF x = true ∧ okF h = true then (if (l.map (shS x h)).all sndB = true then (l.map (shS x h),0) else ([],3)) else ([],3)) else ([],2)
theorem raises (l : List St) (x h : Int) (hl : l.length < 90000) : ACalls Go.Proofs.Try.prog 16 [.tsl 3 (l.map St.e),.int .i64 x,.int .i64 h] [] 0 (fun r _ _ => r = .tup [.tsl 3 ((raiseR l x h).1.map St.e),.int .i64 (raiseR l x h).2]) ∧ ACalls Go.Proofs.Try.prog 17 [.tsl 3 (l.map St.e),.int .i64 x,.int .i64 h] [] 0 (fun r _ _ => r = .tup [.tsl 3 ((raiseR l x h).1.map St.e),.int .i64 (raiseR l x h).2]):=by
  cases ca : chkB l with
  | false => rw [raiseR,if_neg (by rw [ca]; simp)]; exact ⟨raise_no l x h hl ca,rraise_no l x h hl ca⟩
  | true =>
    rw [raiseR,if_pos ca]
    cases hx : okF x with
    | false => rw [if_neg (by simp)]; exact ⟨raise_x l x h hl ca hx,rraise_x l x h hl ca hx⟩
    | true =>
      cases hh : okF h with
      | false => rw [if_neg (by simp)]; exact ⟨raise_h l x h hl ca hx hh,rraise_h l x h hl ca hx hh⟩
      | true =>
        have h1:=raise_in l x h hl ca hx hh
        have h2:=rraise_in l x h hl ca hx hh
        rw [if_pos ⟨rfl,rfl⟩]
        unfold rV at h1 h2
        split
        · rename_i q; rw [if_pos q] at h1 h2; exact ⟨h1,h2⟩
        · rename_i q; rw [if_neg q] at h1 h2; exact ⟨h1,h2⟩
theorem raiseR_len (l : List St) (x h : Int) : (raiseR l x h).1.length ≤ l.length:=by
  unfold raiseR
  (repeat' split) <;> simp
theorem dists (a b : List St) (la : a.length ≤ 60) (lb : b.length ≤ 60) : ∃ D,ACalls Go.Proofs.Try.prog 22 [.tsl 3 (a.map St.e),.tsl 3 (b.map St.e)] [] 0 (fun r _ _ => r = .int .i64 D) ∧ ACalls Go.Proofs.Try.prog 23 [.tsl 3 (a.map St.e),.tsl 3 (b.map St.e)] [] 0 (fun r _ _ => r = .int .i64 D):=by
  cases ca : chkB a with
  | false => exact ⟨0,dist_na a b (by omega) (by omega) ca,rdist_na a b (by omega) (by omega) ca⟩
  | true =>
    cases cb : chkB b with
    | false => exact ⟨0,dist_nb a b (by omega) (by omega) ca cb,rdist_nb a b (by omega) (by omega) ca cb⟩
    | true =>
      have:=rdist_in a b (by omega) (by omega) ca cb
      rw [rdis_dis ca cb] at this
      exact ⟨_,distance_ok a b (by omega) (by omega) ca cb,this⟩
open Classical in
theorem same_me (a : List St) (h : a.length ≤ 1000) : ACalls Go.Proofs.Try.prog 13 [.tsl 3 (a.map St.e),.tsl 3 (a.map St.e)] [] 0 (fun r _ _ => r = .bool true):=by
  have:=same_ok a a (by omega) (by omega)
  rwa [show sameS a a = true from decide_eq_true rfl] at this
theorem skyTells_ok (a b : List St) (x h : Int) : ACalls Go.Proofs.Try.prog 4 [.tsl 3 (a.map St.e),.tsl 3 (b.map St.e),.int .i64 x,.int .i64 h] [] 0 (fun r _ _ => r = .bool true):=by
  by_cases la : 60 < a.length
  · exact tells_ba a b x h la
  by_cases lb : 60 < b.length
  · exact tells_bb a b x h (by omega) lb
  have la : a.length ≤ 60:=by omega
  have lb : b.length ≤ 60:=by omega
  obtain ⟨D,d1,d2⟩:=dists a b la lb
  obtain ⟨r1,r2⟩:=raises a x h (by omega)
  have hc : (mergeV a b).1.length ≤ 1000:=by
    unfold mergeV
    split
    · have:=lineS_len (a ++ b)
      rw [List.length_append] at this
      simp only; omega
    · simp
  have hr:=raiseR_len a x h
  exact tells_in a b (mergeV a b).1 (raiseR a x h).1 x h (mergeV a b).2 (raiseR a x h).2 (atV a x).1 D (atV a x).2 (chkB a) la lb (merge_ok a b la lb) (rmerge_ok a b la lb) r1 r2 (at_ok a x (by omega)) (rat_ok a x (by omega)) (same_me _ hc) (same_me _ (by omega)) (check_ok a (by omega)) (rchk_ok a (by omega)) d1 d2 (same_me a (by omega))
end Go.AM.Sk
