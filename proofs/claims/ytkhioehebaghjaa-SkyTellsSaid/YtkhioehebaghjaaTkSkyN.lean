/- A part of a proof about the given program: what its name says. No premise beyond the statements'. -/
import Derived.Test.YtkhioehebaghjaaTkSkyM
set_option linter.unusedSimpArgs false
set_option linter.unusedVariables false
/- The skyline of steps: the walk. -/
namespace Go.AM.Sk
open Go.AM
open Go.AM.SkyP
section
attribute [local simp ↓] List.map_nil List.map_cons
attribute [local simp] m_ o_ g_ stepsS stepS gd opEff appEff LArg.ev app_val app_new app_upd app_kill putV ins_e0 ins_e1 get_e0 get_e1 binV binI grd bnd ldCells AV.cells AV.scalar AV.known setAt fillL chunks elems mxI mnI del Nat.add_assoc nlt_self nne_self nne_self' List.take_of_length_le decT decF wrap_i64 stepsD stepD ST.as dEffF LOp.cls softOK LOp.args LOp.rds AV.ids appD_val appD_new appD_upd appD_kill AS.flush delAll
set_option maxHeartbeats 2000000 in
theorem line_main (E : List Int) (O : List St) (n : Nat) (hEl : E.length < 3000) (hO : O.length < 1000) :
    LWP Go.Proofs.Try.prog 121 0 (seqTail 7 lf28.body) ⟨[(3,.tsl 1 (E.map inE)),(6,.tsl 3 (O.map St.e))],[],n⟩ (retQ [.t 2] (.tsl 3 ((lineL mxS E [] O []).map St.e))):=by
  obtain ⟨H0,hH0,hHe⟩ : ∃ H0 : Heap,(∀ c,get H0 c = none) ∧ [] = H0:=⟨[],fun _ => rfl,rfl⟩
  rw [hHe]
  clear hHe
  obtain ⟨R,hR⟩ : ∃ R,lineL mxS E [] O [] = R:=⟨_,rfl⟩
  rw [hR]
  refine LWP_seq ?_
  apply LWP_run
  · repeat (simp -implicitDefEqProofs (disch:=omega) []; try simp only [gz])
    rfl
  refine LWP_seq (LWP_seq ?_)
  have hm1 : max (0 : Int) ((E.length : Int) - 1) = ((E.length - 1 : Nat) : Int):=by omega
  apply LWP_run
  · repeat (simp -implicitDefEqProofs (disch:=omega) [mx_ite,hm1]; try simp only [gz])
    rfl
  refine LWP_block (LWP_inv (fun s : LQ => s.T E H0) (fun s => E.length - s.j) (LQ.C E 1000 R) ⟨0,O,[],[],[],n,n + 1,n + 2⟩ ?_ ⟨Nat.zero_le _,by simp,by simp,by simp,by simp; omega,by simp,hR⟩ ?_)
  · refine .mk' ?_ (fun c v h => ?_) rfl
    · simp [LQ.T,leV,get_e0,get_e1,wkV.refl]
      exact wkV_int (by split <;> omega)
    · simp only [LQ.T,get_ins,hH0,List.map_nil,List.nil_append] at h ⊢
      (repeat' split at h) <;> (repeat' split) <;> first | exact h | omega
  rintro ⟨j,O,op,out,Z,p,q,nx⟩ ⟨c1,c2,c3,c4,c5,c6,c7⟩
  simp only [LQ.T] at c1 c2 c3 c4 c5 c6 c7 ⊢
  refine LWP_seq ?_
  apply LWP_run
  · repeat (simp -implicitDefEqProofs (disch:=omega) []; try simp only [gz])
    rfl
  refine LWP_seq ?_
  refine LWP_cond (t:=decide (j < E.length - 1)) (by simp [LArg.ev,get_e0,get_e1]) (fun hc => LWP_skip ?_) (fun hc => LWP_exit ?_)
  · have hc' : j < E.length - 1:=by simpa using hc
    have hj0 : j < E.length:=by omega
    have hj1 : j + 1 < E.length:=by omega
    have wj:=wrap_succ (n:=j) (by omega)
    refine LWP_seq (LWP_block (LWP_seq ?_))
    apply LWP_run
    · repeat (simp -implicitDefEqProofs (disch:=omega) []; try simp only [gz])
      rfl
    refine LWP_seq ?_
    apply LWP_runDX ([(10,(nx + 9,0,0,1))]) (by simp [okAdL,okAd1])
    · repeat (simp -implicitDefEqProofs (disch:=omega) [stepsF,stepF,effX,effF,okIdB,LOp.fp,fpV,opEffK_eq,LOper.looks,LArg.slot,Nat.add_sub_cancel_left,get_ins,wj,hj0,hj1,inE]; try simp only [gz])
      rfl
    · simp [AS.fin,delAll,del,Nat.add_assoc]; rfl
    have hpq1 : ¬ nx + 9 = p:=by omega
    have hpq2 : ¬ nx + 9 = q:=by omega
    refine LWP_frzT (T:=LI.T E H0 j out E[j] E[j + 1] p ⟨O,op,Z,q,nx + 12⟩) (nx + 9) (sz:=1) (es:=[[.int .i64 E[j]]]) (by simp [get_ins]) ?_ (fun c v h => ?_) rfl ?_
    · simp [LI.T,mapS,frzV,frzL,frzR_st,frzR_in,leV,get_e0,get_e1,wkV.refl]
      rw [if_neg (Ne.symm hpq1),if_neg (Ne.symm hpq2)]
      exact ⟨wkV.refl _,wkV.refl _⟩
    · simp only [LI.T,get_ins,hH0] at h ⊢
      split at h
      · injection h with h
        subst h
        exact ⟨by omega,.rows 3 (out.map St.e),by rename_i k; simp [← k,hpq1],by simp only [frzB,frzR_st]⟩
      · split at h
        · injection h with h
          subst h
          exact ⟨by omega,.rows 3 (op.map St.e ++ Z.map St.e),by rename_i k0 k; rw [if_neg (by omega),if_neg (by omega),if_neg k0,if_pos k],by rw [← List.map_append]; simp only [frzB,frzR_st]⟩
        · cases h
    obtain ⟨x0,hx0⟩ : ∃ x,E[j] = x:=⟨_,rfl⟩
    obtain ⟨x1,hx1⟩ : ∃ x,E[j + 1] = x:=⟨_,rfl⟩
    rw [hx0,hx1]
    refine LWP_cut (fun s : LI => s.T E H0 j out x0 x1 p) (fun s => LI.C p s ∧ s.op = op ++ O.takeWhile (SkyP.early x0) ∧ s.O = O.dropWhile (SkyP.early x0)) ?_ ?_
    · exact line_inner hH0 j out x0 x1 p O op Z q (nx + 12) (by omega) (by omega) c4 c5 _
    · rintro ⟨O1,op1,Z1,q1,nx1⟩ ⟨⟨d1,d2,d3,d4⟩,e1,e2⟩
      simp only at d1 d2 d3 d4 e1 e2
      refine line_rest hH0 j out x0 x1 p O1 op1 Z1 q1 nx1 d1 d2 d3 d4 (by omega) _ fun S out2 Z2 p2 q2 nx2 h1 h2 h3 h4 h5 hle => ?_
      refine LWP_sub hle ?_
      simp only [LI.T]
      apply LWP_run
      · repeat (simp -implicitDefEqProofs (disch:=omega) [wj]; try simp only [gz])
        rfl
      have hdr : E.drop j = x0 :: x1 :: E.drop (j + 2):=by rw [List.drop_eq_getElem_cons hj0,List.drop_eq_getElem_cons hj1,hx0,hx1]
      have hdr2 : E.drop (j + 1) = x1 :: E.drop (j + 2):=by rw [List.drop_eq_getElem_cons hj1,hx1]
      refine ⟨⟨j + 1,O1,op1.filter (stays x0),out2,Z2,p2,q2,nx2⟩,⟨by simp only; omega,h3,h4,h5,?_,by simp only; omega,?_⟩,by simp only; omega,.mk' ?_ (fun c v h => h) rfl⟩
      · have:=List.length_filter_le (stays x0) op1
        simp only; omega
      · simp only
        rw [← c7,hdr,hdr2,lineL,← e1,← e2,h1]
        rfl
      · simp [leV,get_e0,get_e1,wkV.refl]
  · have hc' : ¬ j < E.length - 1:=by simpa using hc
    have hR2 : out = R:=by
      rw [← c7]
      have hd : E.drop j = [] ∨ ∃ x,E.drop j = [x]:=by
        have hl : (E.drop j).length ≤ 1:=by rw [List.length_drop]; omega
        match E.drop j,hl with
        | [],_ => exact .inl rfl
        | [x],_ => exact .inr ⟨x,rfl⟩
      rcases hd with hd | ⟨x,hd⟩ <;> rw [hd,lineL]
      all_goals (intro _ _ _ h; cases h)
    subst hR2
    refine LWP_deep [(7,.tsl 3 (out.map St.e))] 5 ?_ ?_
    · simp only [deepL]
      refine ⟨⟨.sl 3 p 0 out.length,by simp [get_e1],deep_rowz (k:=3) (l:=out) (Q:=out) (by simp [get_ins]) (by simp) (Nat.le_refl _)⟩,trivial⟩
    have ht : List.take out.length (out.map St.e) = out.map St.e:=List.take_of_length_le (by simp)
    refine LWP_seq ?_
    apply LWP_run
    · repeat (simp -implicitDefEqProofs (disch:=omega) [ht]; try simp only [gz])
      rfl
    refine LWP_ret ⟨_,rfl,?_⟩
    refine wkV_of_eq ?_
    simp only [retV]
end
end Go.AM.Sk
