/- A part of a proof about the given program: what its name says. No premise beyond the statements'. -/
import Derived.Test.YtkhioehebaghjaaTkSkyU
set_option linter.unusedSimpArgs false
set_option linter.unusedVariables false
/- Merging: the walk. -/
namespace Go.AM.Sk
open Go.AM
open Go.AM.SkyP
def lf29n : LFunc:=⟨36,1,
 (.seq
  (.region [
    ⟨(some 2),.mv (.c (.nils)),none⟩] false)
  (.seq
   (.region [
     ⟨(some 3),.mv (.c (.int .i64 0)),none⟩] false)
   (.seq
    (.seq
     (.region [
       ⟨(some 9),.mv (.t 0),none⟩,
       ⟨(some 10),.len .sli (.t 9),none⟩,
       ⟨(some 11),.mv (.c (.int .i64 0)),none⟩] false)
     (.block 0
      (.loop
       (.seq
        (.region [
          ⟨(some 12),.bin .lss (.t 11) (.t 10),none⟩] false)
        (.seq
         (.cond (.t 12)
          .skip
          (.exit 0))
         (.seq
          (.block 1
           (.seq
            (.region [
              ⟨(some 13),.idxa 1 (.t 9) (.t 11),none⟩,
              ⟨(some 14),.load false 1 (.t 13),none⟩,
              ⟨(some 5),.mv (.t 14),none⟩] false)
            (.seq
             (.region [
               ⟨(some 15),.mv (.t 3),none⟩,
               ⟨(some 16),.mv (.t 5),none⟩,
               ⟨(some 17),.len .sli (.t 16),none⟩,
               ⟨(some 18),.bin .add (.t 15) (.t 17),none⟩,
               ⟨(some 3),.mv (.t 18),none⟩] false)
             (.seq
              (.region [
                ⟨(some 19),.mv (.t 3),none⟩,
                ⟨(some 20),.bin .lss (.t 19) (.c (.int .i64 0)),none⟩] false)
              (.cond (.t 20)
               (.region [
                 ⟨(some 21),.bad,none⟩,
                 ⟨none,.bad,none⟩] false)
               .skip)))))
          (.region [
            ⟨(some 22),.bin .add (.t 11) (.c (.int .i64 1)),none⟩,
            ⟨(some 11),.mv (.t 22),none⟩] false)))))))
    (.seq
     (.region [
       ⟨(some 23),.mv (.t 3),none⟩,
       ⟨(some 24),.call false (.c (.fn 49 [] [])) [.c (.nils),.t 23],none⟩,
       ⟨(some 6),.mv (.t 24),none⟩] false)
     (.seq
      (.seq
       (.region [
         ⟨(some 25),.mv (.t 0),none⟩,
         ⟨(some 26),.len .sli (.t 25),none⟩,
         ⟨(some 27),.mv (.c (.int .i64 0)),none⟩] false)
       (.block 2
        (.loop
         (.seq
          (.region [
            ⟨(some 28),.bin .lss (.t 27) (.t 26),none⟩] false)
          (.seq
           (.cond (.t 28)
            .skip
            (.exit 2))
           (.seq
            (.block 3
             (.seq
              (.region [
                ⟨(some 29),.idxa 1 (.t 25) (.t 27),none⟩,
                ⟨(some 30),.load false 1 (.t 29),none⟩,
                ⟨(some 8),.mv (.t 30),none⟩] false)
              (.region [
                ⟨(some 31),.mv (.t 6),none⟩,
                ⟨(some 32),.mv (.t 8),none⟩,
                ⟨(some 33),.appn 3 (.t 31) (.t 32),none⟩,
                ⟨(some 6),.mv (.t 33),none⟩] false)))
            (.region [
              ⟨(some 34),.bin .add (.t 27) (.c (.int .i64 1)),none⟩,
              ⟨(some 27),.mv (.t 34),none⟩] false)))))))
      (.seq
       (.region [
         ⟨(some 35),.mv (.t 6),none⟩,
         ⟨(some 2),.mv (.t 35),none⟩] false)
       .ret)))))),
 [.t 2]⟩
theorem ok29n : okFunc Go.Proofs.Try.prog 29 lf29n = true:=by kernel_rfl
section
attribute [local simp ↓] List.map_nil List.map_cons
attribute [local simp] m_ o_ g_ stepsS stepS gd opEff appEff LArg.ev app_val app_new app_upd app_kill putV ins_e0 ins_e1 get_e0 get_e1 binV binI grd bnd ldCells AV.cells AV.scalar AV.known setAt fillL chunks elems mxI mnI del Nat.add_assoc nlt_self nne_self nne_self' List.take_of_length_le decT decF wrap_i64 stepsD stepD ST.as dEffF LOp.cls softOK LOp.args LOp.rds AV.ids appD_val appD_new appD_upd appD_kill AS.flush delAll
set_option maxHeartbeats 2000000 in
theorem concat_nil : ACalls Go.Proofs.Try.prog 29 [.tsl 1 [[.tsl 3 []],[.tsl 3 []]]] [] 0 (fun r _ _ => r = .nils):=by
  refine pure_body ok29n rfl ?_
  simp only [parV]
  refine LWP_seq ?_
  apply LWP_run
  · repeat (simp -implicitDefEqProofs (disch:=omega) []; try simp only [gz])
    rfl
  refine LWP_seq ?_
  apply LWP_run
  · repeat (simp -implicitDefEqProofs (disch:=omega) []; try simp only [gz])
    rfl
  refine LWP_seq (LWP_seq ?_)
  apply LWP_run
  · repeat (simp -implicitDefEqProofs (disch:=omega) []; try simp only [gz])
    rfl
  refine LWP_block (LWP_inv (fun q : Nat × Nat => ⟨[(0,.tsl 1 [[.tsl 3 []],[.tsl 3 []]]),(3,.int .i64 0),(9,.tsl 1 [[.tsl 3 []],[.tsl 3 []]]),(10,.int .i64 2),(11,.int .i64 (q.1 : Nat))],[],q.2⟩) (fun q => 2 - q.1) (fun q => q.1 ≤ 2) (0,0) ?_ (Nat.zero_le _) ?_)
  · exact .mk' (by simp [leV,get_e0,get_e1,wkV.refl]) (fun c v h => h) rfl
  rintro ⟨i,nx⟩ c1
  simp only at c1 ⊢
  have hi : i = 0 ∨ i = 1 ∨ i = 2:=by omega
  rcases hi with rfl | rfl | rfl
  · refine LWP_seq ?_
    apply LWP_run
    · repeat (simp -implicitDefEqProofs (disch:=omega) []; try simp only [gz])
      rfl
    refine LWP_seq ?_
    refine LWP_cond (t:=true) (by simp [LArg.ev,get_e0,get_e1]) (fun _ => LWP_skip ?_) (fun h => by cases h)
    refine LWP_seq (LWP_block (LWP_seq ?_))
    apply LWP_run
    · repeat (simp -implicitDefEqProofs (disch:=omega) []; try simp only [gz])
      rfl
    refine LWP_seq ?_
    apply LWP_run
    · repeat (simp -implicitDefEqProofs (disch:=omega) []; try simp only [gz])
      rfl
    refine LWP_seq ?_
    apply LWP_run
    · repeat (simp -implicitDefEqProofs (disch:=omega) []; try simp only [gz])
      rfl
    refine LWP_cond (t:=false) (by simp [LArg.ev,get_e0,get_e1]) (fun h => by cases h) (fun _ => LWP_skip ?_)
    apply LWP_run
    · repeat (simp -implicitDefEqProofs (disch:=omega) []; try simp only [gz])
      rfl
    exact ⟨(1,nx),by simp,by simp,.mk' (by simp [leV,get_e0,get_e1,wkV.refl]) (fun c v h => h) rfl⟩
  · refine LWP_seq ?_
    apply LWP_run
    · repeat (simp -implicitDefEqProofs (disch:=omega) []; try simp only [gz])
      rfl
    refine LWP_seq ?_
    refine LWP_cond (t:=true) (by simp [LArg.ev,get_e0,get_e1]) (fun _ => LWP_skip ?_) (fun h => by cases h)
    refine LWP_seq (LWP_block (LWP_seq ?_))
    apply LWP_run
    · repeat (simp -implicitDefEqProofs (disch:=omega) []; try simp only [gz])
      rfl
    refine LWP_seq ?_
    apply LWP_run
    · repeat (simp -implicitDefEqProofs (disch:=omega) []; try simp only [gz])
      rfl
    refine LWP_seq ?_
    apply LWP_run
    · repeat (simp -implicitDefEqProofs (disch:=omega) []; try simp only [gz])
      rfl
    refine LWP_cond (t:=false) (by simp [LArg.ev,get_e0,get_e1]) (fun h => by cases h) (fun _ => LWP_skip ?_)
    apply LWP_run
    · repeat (simp -implicitDefEqProofs (disch:=omega) []; try simp only [gz])
      rfl
    exact ⟨(2,nx),by simp,by simp,.mk' (by simp [leV,get_e0,get_e1,wkV.refl]) (fun c v h => h) rfl⟩
  refine LWP_seq ?_
  apply LWP_run
  · repeat (simp -implicitDefEqProofs (disch:=omega) []; try simp only [gz])
    rfl
  refine LWP_seq ?_
  refine LWP_cond (t:=false) (by simp [LArg.ev,get_e0,get_e1]) (fun h => by cases h) (fun _ => LWP_exit ?_)
  refine LWP_seq ?_
  refine LWP_reg fun K hK => ?_
  apply rgnS_pre 1
  · repeat (simp -implicitDefEqProofs (disch:=omega) []; try simp only [gz])
    rfl
  refine rgnS_call (grow_0) rfl rfl (by simp [pureL,pureR,AV.pure]) (by simp [pureL,pureR,AV.pure]) (by simp [gd,get_e0,get_e1,LArg.ev]) ?_
  apply rgnS_pre 1
  · repeat (simp -implicitDefEqProofs (disch:=omega) []; try simp only [gz])
    rfl
  refine hK _ ?_; clear hK
  refine LWP_seq (LWP_seq ?_)
  apply LWP_run
  · repeat (simp -implicitDefEqProofs (disch:=omega) []; try simp only [gz])
    rfl
  refine LWP_block (LWP_inv (fun q : Nat × Nat => ⟨[(6,.nils),(25,.tsl 1 [[.tsl 3 []],[.tsl 3 []]]),(26,.int .i64 2),(27,.int .i64 (q.1 : Nat))],[],q.2⟩) (fun q => 2 - q.1) (fun q => q.1 ≤ 2) (0,nx) ?_ (Nat.zero_le _) ?_)
  · exact .mk' (by simp [leV,get_e0,get_e1,wkV.refl]) (fun c v h => h) rfl
  rintro ⟨i,nx⟩ c1
  simp only at c1 ⊢
  have hi : i = 0 ∨ i = 1 ∨ i = 2:=by omega
  rcases hi with rfl | rfl | rfl
  · refine LWP_seq ?_
    apply LWP_run
    · repeat (simp -implicitDefEqProofs (disch:=omega) []; try simp only [gz])
      rfl
    refine LWP_seq ?_
    refine LWP_cond (t:=true) (by simp [LArg.ev,get_e0,get_e1]) (fun _ => LWP_skip ?_) (fun h => by cases h)
    refine LWP_seq (LWP_block (LWP_seq ?_))
    apply LWP_run
    · repeat (simp -implicitDefEqProofs (disch:=omega) []; try simp only [gz])
      rfl
    apply LWP_run
    · repeat (simp -implicitDefEqProofs (disch:=omega) []; try simp only [gz])
      rfl
    apply LWP_run
    · repeat (simp -implicitDefEqProofs (disch:=omega) []; try simp only [gz])
      rfl
    exact ⟨(1,nx),by simp,by simp,.mk' (by simp [leV,get_e0,get_e1,wkV.refl]) (fun c v h => h) rfl⟩
  · refine LWP_seq ?_
    apply LWP_run
    · repeat (simp -implicitDefEqProofs (disch:=omega) []; try simp only [gz])
      rfl
    refine LWP_seq ?_
    refine LWP_cond (t:=true) (by simp [LArg.ev,get_e0,get_e1]) (fun _ => LWP_skip ?_) (fun h => by cases h)
    refine LWP_seq (LWP_block (LWP_seq ?_))
    apply LWP_run
    · repeat (simp -implicitDefEqProofs (disch:=omega) []; try simp only [gz])
      rfl
    apply LWP_run
    · repeat (simp -implicitDefEqProofs (disch:=omega) []; try simp only [gz])
      rfl
    apply LWP_run
    · repeat (simp -implicitDefEqProofs (disch:=omega) []; try simp only [gz])
      rfl
    exact ⟨(2,nx),by simp,by simp,.mk' (by simp [leV,get_e0,get_e1,wkV.refl]) (fun c v h => h) rfl⟩
  refine LWP_seq ?_
  apply LWP_run
  · repeat (simp -implicitDefEqProofs (disch:=omega) []; try simp only [gz])
    rfl
  refine LWP_seq ?_
  refine LWP_cond (t:=false) (by simp [LArg.ev,get_e0,get_e1]) (fun h => by cases h) (fun _ => LWP_exit ?_)
  refine LWP_seq ?_
  apply LWP_run
  · repeat (simp -implicitDefEqProofs (disch:=omega) []; try simp only [gz])
    rfl
  refine LWP_ret ⟨_,rfl,?_⟩
  refine wkV_of_eq ?_
  simp only [retV]
end
noncomputable def mergeV (a b : List St) : List St × Int:=if chkB a = true ∧ chkB b = true then (lineS (a ++ b),0) else ([],2)
theorem concat2 (a b : List St) (h : a ++ b ≠ []) (hl : (a ++ b).length ≤ 20000) : ACalls Go.Proofs.Try.prog 29 [.tsl 1 [[.tsl 3 (a.map St.e)],[.tsl 3 (b.map St.e)]]] [] 0 (fun r _ _ => r = .tsl 3 ((a ++ b).map St.e)):=by
  have:=concat_ok [a,b] (by rw [show fls [a,b] [a,b].length = a ++ b by simp [fls]]; exact List.length_pos_iff.2 h) (by rw [show fls [a,b] [a,b].length = a ++ b by simp [fls]]; exact hl) (by simp)
  rw [show fls [a,b] [a,b].length = a ++ b by simp [fls]] at this
  simpa [rowE] using this
theorem line_full (l : List St) (h0 : l ≠ []) (hl : l.length < 1000) : ACalls Go.Proofs.Try.prog 28 [.tsl 3 (l.map St.e)] [] 0 (fun r _ _ => r = .tsl 3 ((lineS l).map St.e)):=by
  have:=line_ok l h0 hl
  rwa [lineS,if_neg h0]
theorem line_nilS : ACalls Go.Proofs.Try.prog 28 [.nils] [] 0 (fun r _ _ => r = .tsl 3 ((lineS ([] ++ [])).map St.e)):=by
  have:=line_nil
  rwa [List.append_nil,lineS,if_pos rfl]

section
attribute [local simp ↓] List.map_nil List.map_cons
attribute [local simp] m_ o_ g_ stepsS stepS gd opEff appEff LArg.ev app_val app_new app_upd app_kill putV ins_e0 ins_e1 get_e0 get_e1 binV binI grd bnd ldCells AV.cells AV.scalar AV.known setAt fillL chunks elems mxI mnI del Nat.add_assoc nlt_self nne_self nne_self' List.take_of_length_le decT decF wrap_i64 stepsD stepD ST.as dEffF LOp.cls softOK LOp.args LOp.rds AV.ids appD_val appD_new appD_upd appD_kill AS.flush delAll
set_option maxHeartbeats 2000000 in
set_option maxRecDepth 20000 in
theorem merge_any (a b : List St) (la : a.length ≤ 60) (lb : b.length ≤ 60) (X : AV) (hX : X.pure = true) (hC : ACalls Go.Proofs.Try.prog 29 [.tsl 1 [[.tsl 3 (a.map St.e)],[.tsl 3 (b.map St.e)]]] [] 0 (fun r _ _ => r = X))
  (hL : ACalls Go.Proofs.Try.prog 28 [X] [] 0 (fun r _ _ => r = .tsl 3 ((lineS (a ++ b)).map St.e))) : ACalls Go.Proofs.Try.prog 14 [.tsl 3 (a.map St.e),.tsl 3 (b.map St.e)] [] 0 (fun r _ _ => r = .tup [.tsl 3 ((mergeV a b).1.map St.e),.int .i64 (mergeV a b).2]):=by
 refine pure_body ok14 rfl ?_
 simp only [parV]
 have CA:=check_ok a (by omega)
 have CB:=check_ok b (by omega)
 refine LWP_seq ?_
 apply LWP_run
 · repeat (simp -implicitDefEqProofs (disch:=omega) [pureR]; try simp only [gz])
   rfl
 refine LWP_seq ?_
 refine LWP_seq ?_
 refine LWP_reg fun K hK => ?_
 apply rgnS_pre 1
 · repeat (simp -implicitDefEqProofs (disch:=omega) [pureR]; try simp only [gz])
   rfl
 refine rgnS_call (CA) rfl rfl (by simp [pureL,pureR,AV.pure,pureR,pureR_st]) (by simp [pureL,pureR,AV.pure,pureR,pureR_st]) (by simp [gd,get_e0,get_e1,LArg.ev]) ?_
 apply rgnS_pre 2
 · repeat (simp -implicitDefEqProofs (disch:=omega) [pureR]; try simp only [gz])
   rfl
 refine rgnS_guard (x:=10) (b:=false) rfl (fun h1 => ?_) (fun h1 => ?_)
 ·try simp only [bn,reduceCtorEq] at h1
  all_goals try (exfalso; omega)
  all_goals
   apply rgnS_pre 1
   · repeat (simp -implicitDefEqProofs (disch:=omega) [pureR,h1]; try simp only [gz])
     rfl
   refine rgnS_call (CB) rfl rfl (by simp [pureL,pureR,AV.pure,pureR,pureR_st]) (by simp [pureL,pureR,AV.pure,pureR,pureR_st]) (by simp [gd,get_e0,get_e1,LArg.ev,h1]) ?_
   apply rgnS_pre 2
   · repeat (simp -implicitDefEqProofs (disch:=omega) [pureR,h1]; try simp only [gz])
     rfl
   refine hK _ ?_; clear hK
   refine LWP_cond rfl (fun h2 => ?_) (fun h2 => ?_)
   ·try simp only [bn,reduceCtorEq] at h2
    all_goals try (exfalso; omega)
    all_goals
     refine LWP_seq ?_
     apply LWP_run
     · repeat (simp -implicitDefEqProofs (disch:=omega) [pureR,h1,h2]; try simp only [gz])
       rfl
     -- leaf 0
     refine LWP_ret ⟨_,rfl,?_⟩
     rw [mergeV,if_neg (by simp_all)]
     exact wkV.tup2 (wkV.nils 3) (wkV.refl _)
   ·try simp only [bn,reduceCtorEq] at h2
    all_goals try (exfalso; omega)
    all_goals
     refine LWP_skip ?_
     refine LWP_seq ?_
     refine LWP_reg fun K hK => ?_
     apply rgnS_pre 3
     · repeat (simp -implicitDefEqProofs (disch:=omega) [pureR,h1,h2]; try simp only [gz])
       rfl
     refine rgnS_call (hC) rfl rfl (by simp [pureL,pureR,AV.pure,pureR,pureR,AV.pure,pureL,pureR_st,hX]) (by simp [pureL,pureR,AV.pure,pureR,pureR,AV.pure,pureL,pureR_st,hX]) (by simp [gd,get_e0,get_e1,LArg.ev,h1,h2]) ?_
     refine rgnS_call (hL) rfl rfl (by simp [pureL,pureR,AV.pure,pureR,pureR_st,pureR,hX]) (by simp [pureL,pureR,AV.pure,pureR,pureR_st,pureR,hX]) (by simp [gd,get_e0,get_e1,LArg.ev,h1,h2]) ?_
     apply rgnS_pre 1
     · repeat (simp -implicitDefEqProofs (disch:=omega) [pureR,h1,h2]; try simp only [gz])
       rfl
     refine hK _ ?_; clear hK
     refine LWP_seq ?_
     refine LWP_seq ?_
     apply LWP_run
     · repeat (simp -implicitDefEqProofs (disch:=omega) [pureR,h1,h2]; try simp only [gz])
       rfl
     refine LWP_cond rfl (fun h3 => ?_) (fun h3 => ?_)
     ·try simp only [bn,reduceCtorEq] at h3
      all_goals try (exfalso; omega)
      all_goals
       refine LWP_seq ?_
       apply LWP_run
       · repeat (simp -implicitDefEqProofs (disch:=omega) [pureR,h1,h2,h3]; try simp only [gz])
         rfl
       -- leaf 1
       exfalso
       have q:=lineS_len (a ++ b)
       rw [List.length_append] at q
       omega
     ·try simp only [bn,reduceCtorEq] at h3
      all_goals try (exfalso; omega)
      all_goals
       refine LWP_skip ?_
       refine LWP_seq ?_
       apply LWP_run
       · repeat (simp -implicitDefEqProofs (disch:=omega) [pureR,h1,h2,h3]; try simp only [gz])
         rfl
       -- leaf 2
       refine LWP_ret ⟨_,rfl,?_⟩
       rw [mergeV,if_pos ⟨by assumption,by assumption⟩]
       exact wkV.tup2 (wkV.refl _) (wkV.refl _)
 ·try simp only [bn,reduceCtorEq] at h1
  all_goals try (exfalso; omega)
  all_goals
   apply rgnS_pre 3
   · repeat (simp -implicitDefEqProofs (disch:=omega) [pureR,h1]; try simp only [gz])
     rfl
   refine hK _ ?_; clear hK
   refine LWP_cond (t:=true) (by simp [LArg.ev,get_e0,get_e1,h1]) (fun _ => ?_) (fun h => by cases h)
   refine LWP_seq ?_
   apply LWP_run
   · repeat (simp -implicitDefEqProofs (disch:=omega) [pureR,h1]; try simp only [gz])
     rfl
   -- leaf 3
   refine LWP_ret ⟨_,rfl,?_⟩
   rw [mergeV,if_neg (by simp_all)]
   exact wkV.tup2 (wkV.nils 3) (wkV.refl _)
end

theorem merge_ok (a b : List St) (la : a.length ≤ 60) (lb : b.length ≤ 60) : ACalls Go.Proofs.Try.prog 14 [.tsl 3 (a.map St.e),.tsl 3 (b.map St.e)] [] 0 (fun r _ _ => r = .tup [.tsl 3 ((mergeV a b).1.map St.e),.int .i64 (mergeV a b).2]):=by
  by_cases h : a ++ b = []
  · obtain ⟨rfl,rfl⟩:=List.append_eq_nil_iff.1 h
    exact merge_any [] [] la lb .nils rfl concat_nil line_nilS
  · exact merge_any a b la lb _ (by simp only [AV.pure,pureR_st]) (concat2 a b h (by simp only [List.length_append]; omega)) (line_full _ h (by simp only [List.length_append]; omega))

end Go.AM.Sk
