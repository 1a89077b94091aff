/- A part of a proof about the given program: what its name says. No premise beyond the statements'. -/
import Derived.Test.YtkhioehebaghjaaTkSkyX2
set_option linter.unusedSimpArgs false
set_option linter.unusedVariables false
/- The second opinion's skyline: the walk. -/
namespace Go.AM.Sk
open Go.AM
open Go.AM.SkyP
def rlL (l : List St) : List Int → List St → List St
  | x0 :: x1 :: E,out => rlL l (x1 :: E) (if (hiF l x0 x1).2 = true then put out x0 x1 (hiF l x0 x1).1 else out)
  | _,out => out
def RT (l : List St) (E : List Int) (i : Nat) (out : List St) (p nx : Nat) : ST:=⟨[(0,.tsl 3 (l.map St.e)),(3,.tsl 1 (E.map inE)),(4,.sl 3 p 0 out.length),(5,.int .i64 (i : Nat))],[(p,.rows 3 (out.map St.e))],nx⟩
section
attribute [local simp ↓] List.map_nil List.map_cons
attribute [local simp] m_ o_ g_ stepsS stepS gd opEff appEff LArg.ev app_val app_new app_upd app_kill putV ins_e0 ins_e1 get_e0 get_e1 binV binI grd bnd ldCells AV.cells AV.scalar AV.known setAt fillL chunks elems mxI mnI del Nat.add_assoc nlt_self nne_self nne_self' List.take_of_length_le decT decF wrap_i64 stepsD stepD ST.as dEffF LOp.cls softOK LOp.args LOp.rds AV.ids appD_val appD_new appD_upd appD_kill AS.flush delAll
set_option maxHeartbeats 4000000 in
theorem rline_ok (l : List St) (hl : l.length ≤ 10000) : ACalls Go.Proofs.Try.prog 30 [.tsl 3 (l.map St.e)] [] 0 (fun r _ _ => r = .tsl 3 ((rlL l (edgI l) []).map St.e)):=by
  have hEl : (edgI l).length ≤ 2 * l.length:=by
    have:=edgI_len l l.length (Nat.le_refl _)
    rwa [List.take_length] at this
  have hed:=edges_ok l (by omega)
  obtain ⟨E,hE⟩ : ∃ E,edgI l = E:=⟨_,rfl⟩
  rw [hE] at hEl hed ⊢
  refine pure_body ok30 rfl ?_
  simp only [parV]
  refine LWP_seq ?_
  apply LWP_run
  · repeat (simp -implicitDefEqProofs (maxSteps:=1000000)(disch:=first|assumption|omega) []; try simp only [gz])
    rfl
  refine LWP_seq ?_
  refine LWP_reg fun K hK => ?_
  apply rgnS_pre 1
  · repeat (simp -implicitDefEqProofs (maxSteps:=1000000)(disch:=first|assumption|omega) []; try simp only [gz])
    rfl
  refine rgnS_call (hed) rfl rfl (by simp [pureL,pureR,AV.pure,pureR_st,pureR_in]) (by simp [pureL,pureR,AV.pure,pureR_st,pureR_in]) (by simp [gd,get_e0,get_e1,LArg.ev,pureR_st,pureR_in]) ?_
  apply rgnS_pre 1
  · repeat (simp -implicitDefEqProofs (maxSteps:=1000000)(disch:=first|assumption|omega) []; try simp only [gz])
    rfl
  refine hK _ ?_; clear hK
  refine LWP_seq ?_
  apply LWP_run
  · repeat (simp -implicitDefEqProofs (maxSteps:=1000000)(disch:=first|assumption|omega) []; try simp only [gz])
    rfl
  refine LWP_seq (LWP_seq ?_)
  apply LWP_run
  · repeat (simp -implicitDefEqProofs (maxSteps:=1000000)(disch:=first|assumption|omega) []; try simp only [gz])
    rfl
  obtain ⟨R,hR⟩ : ∃ R,rlL l E [] = R:=⟨_,rfl⟩
  rw [hR]
  refine LWP_block (LWP_inv (fun q : Nat × List St × Nat × Nat => RT l E q.1 q.2.1 q.2.2.1 q.2.2.2) (fun q => E.length - q.1) (fun q => q.1 ≤ E.length ∧ q.2.1.length ≤ q.1 ∧ q.2.2.1 < q.2.2.2 ∧ rlL l (E.drop q.1) q.2.1 = R) (0,[],0,1) ?_ ⟨Nat.zero_le _,by simp,by simp,hR⟩ ?_)
  · refine .mk' (by simp [RT,leV,get_e0,get_e1,wkV.refl]) (fun c v h => by simpa [RT] using h) rfl
  rintro ⟨i,out,p,nx⟩ ⟨c1,c2,c3,c4⟩
  simp only [RT] at c1 c2 c3 c4 ⊢
  have wi:=wrap_succ (n:=i) (by omega)
  refine LWP_seq (LWP_seq ?_)
  apply LWP_run
  · repeat (simp -implicitDefEqProofs (maxSteps:=1000000)(disch:=first|assumption|omega) [wi]; try simp only [gz])
    rfl
  refine LWP_cond (t:=decide (i + 1 < E.length)) (by simp [LArg.ev,get_e0,get_e1]; omega) (fun hc => LWP_skip ?_) (fun hc => LWP_exit ?_)
  · have hc' : i + 1 < E.length:=by simpa using hc
    have h0 : i < E.length:=by omega
    have hdr : E.drop i = E[i] :: E[i + 1] :: E.drop (i + 2):=by rw [List.drop_eq_getElem_cons h0,List.drop_eq_getElem_cons hc']
    have hdr2 : E.drop (i + 1) = E[i + 1] :: E.drop (i + 2):=by rw [List.drop_eq_getElem_cons hc']
    obtain ⟨x0,hx0⟩ : ∃ x,E[i] = x:=⟨_,rfl⟩
    obtain ⟨x1,hx1⟩ : ∃ x,E[i + 1] = x:=⟨_,rfl⟩
    rw [hx0,hx1] at hdr
    rw [hx1] at hdr2
    rw [hdr,rlL,← hdr2] at c4
    refine LWP_seq (LWP_block (LWP_seq ?_))
    refine LWP_regD' fun K hK => ?_
    apply rgnD_pre 10
    · repeat (simp -implicitDefEqProofs (maxSteps:=1000000)(disch:=first|assumption|omega) [h0,hc',wi,inE,hx0,hx1]; try simp only [gz])
      rfl
    refine rgnD_call (highest_ok l x0 x1 (by omega)) rfl rfl (by simp [pureL,pureR,AV.pure,pureR_st]) (by simp [pureL,pureR,AV.pure,pureR_st]) (by simp [gd,get_e0,get_e1,LArg.ev,pureR_st]) (by simp (maxSteps:=1000000)(disch:=first|assumption|omega) []) ?_
    apply rgnD_pre 5
    · repeat (simp -implicitDefEqProofs (maxSteps:=1000000)(disch:=first|assumption|omega) []; try simp only [gz])
      rfl
    refine hK _ _ (by simp [AS.fin,delAll,del,Nat.add_assoc]; rfl) ?_; clear hK
    cases hok : (hiF l x0 x1).2 with
    | false =>
      refine LWP_seq (LWP_seq ?_)
      apply LWP_run
      · repeat (simp -implicitDefEqProofs (maxSteps:=1000000)(disch:=first|assumption|omega) [hok]; try simp only [gz])
        rfl
      refine LWP_cond (t:=true) (by simp [LArg.ev,get_e0,get_e1]) (fun _ => LWP_exit ?_) (fun h => by cases h)
      apply LWP_run
      · repeat (simp -implicitDefEqProofs (maxSteps:=1000000)(disch:=first|assumption|omega) [wi]; try simp only [gz])
        rfl
      rw [hok] at c4
      refine ⟨(i + 1,out,p,nx + 16),⟨by simp only; omega,by simp only; omega,?_,by simpa using c4⟩,by simp only; omega,?_⟩
      · simp only; omega
      · exact .mk' (by simp [RT,leV,get_e0,get_e1,wkV.refl]) (fun c v h => h) rfl
    | true =>
      rw [hok,if_pos rfl] at c4
      obtain ⟨h,hh⟩ : ∃ h,(hiF l x0 x1).1 = h:=⟨_,rfl⟩
      rw [hh] at c4
      refine LWP_seq (LWP_seq ?_)
      apply LWP_run
      · repeat (simp -implicitDefEqProofs (maxSteps:=1000000)(disch:=first|assumption|omega) [hok,hh]; try simp only [gz])
        rfl
      refine LWP_cond (t:=false) (by simp [LArg.ev,get_e0,get_e1]) (fun h => by cases h) (fun _ => LWP_skip ?_)
      refine LWP_seq ?_
      apply LWP_run
      · repeat (simp -implicitDefEqProofs (maxSteps:=1000000)(disch:=first|assumption|omega) []; try simp only [gz])
        rfl
      rcases List.eq_nil_or_concat out with rfl | ⟨A,s,rfl⟩
      · refine LWP_seq ?_
        apply LWP_runD
        · repeat (simp -implicitDefEqProofs (maxSteps:=1000000)(disch:=first|assumption|omega) []; try simp only [gz])
          rfl
        · simp [AS.fin,delAll,del,Nat.add_assoc]; rfl
        refine LWP_cond (t:=false) (by simp [LArg.ev,get_e0,get_e1]) (fun h => by cases h) (fun _ => ?_)
        apply LWP_runD
        · repeat (simp -implicitDefEqProofs (maxSteps:=1000000)(disch:=first|assumption|omega) [h0,hc',wi,inE,hx0,hx1]; try simp only [gz])
          rfl
        · simp [AS.fin,delAll,del,Nat.add_assoc]; rfl
        apply LWP_run
        · repeat (simp -implicitDefEqProofs (maxSteps:=1000000)(disch:=first|assumption|omega) [wi]; try simp only [gz])
          rfl
        refine ⟨(i + 1,[⟨x0,x1,h⟩],nx + 54,nx + 56),⟨by simp only; omega,by simp,by simp only; omega,by simp only; rw [← c4]; rfl⟩,by simp only; omega,?_⟩
        refine .mk' (by simp [RT,leV,get_e0,get_e1,wkV.refl]) (fun c v hq => ?_) rfl
        simp [RT,St.e] at hq ⊢
        have g4 : p < nx + 54:=by omega
        have g5 : ¬ nx + 54 = p:=by omega
        simp only [ins_e1,if_pos g4,del,if_neg g5,if_true]
        simpa [get_e0,get_e1] using hq
      · rw [List.concat_eq_append] at *
        have g4 : p < nx + 54:=by omega
        have g5 : ¬ nx + 54 = p:=by omega
        have hAn : (A ++ [s]).length = A.length + 1:=by simp
        have hAl : A.length ≤ 30000:=by omega
        have wA : IntKind.i64.wrap ((A.length : Int)) = (A.length : Int):=wrap_i64 (by omega) (by omega)
        have hg : (List.map St.e A ++ [[AV.int .i64 s.x0,AV.int .i64 s.x1,AV.int .i64 s.h]])[A.length]?.getD [] = [AV.int .i64 s.x0,AV.int .i64 s.x1,AV.int .i64 s.h]:=by simp
        have hlp : (0 : Int) < (A.length : Int) + 1:=by omega
        have hb24 : (A.length + 1 + 1) * 24 ≤ 17592186044416:=by omega
        have htk : List.take (A.length + 1) (List.map St.e A ++ [[AV.int .i64 s.x0,AV.int .i64 s.x1,AV.int .i64 s.h]]) = List.map St.e A ++ [[AV.int .i64 s.x0,AV.int .i64 s.x1,AV.int .i64 s.h]]:=List.take_of_length_le (by simp)
        have hpl : put (A ++ [s]) x0 x1 h = if s.x1 = x0 ∧ s.h = h then A ++ [⟨s.x0,x1,h⟩] else A ++ [s] ++ [⟨x0,x1,h⟩]:=by simp [put]
        refine LWP_seq ?_
        by_cases q1 : s.x1 = x0
        · by_cases q2 : s.h = h
          · apply LWP_runD
            · repeat (simp -implicitDefEqProofs (maxSteps:=1000000)(disch:=first|assumption|omega) [hAn,wA,hg,hlp,St.e,beqT q1,beqT q2,h0,hx0,inE]; try simp only [gz])
              rfl
            · simp [AS.fin,delAll,del,Nat.add_assoc]; rfl
            refine LWP_cond (t:=true) (by simp [LArg.ev,get_e0,get_e1]) (fun _ => ?_) (fun h => by cases h)
            apply LWP_run
            · repeat (simp -implicitDefEqProofs (maxSteps:=1000000)(disch:=first|assumption|omega) [hAn,wA,hg,hlp,St.e,h0,hc',wi,hx0,hx1,inE]; try simp only [gz])
              rfl
            apply LWP_run
            · repeat (simp -implicitDefEqProofs (maxSteps:=1000000)(disch:=first|assumption|omega) [wi]; try simp only [gz])
              rfl
            refine ⟨(i + 1,A ++ [⟨s.x0,x1,h⟩],p,nx + 41),⟨by simp only; omega,by simp only [List.length_append,List.length_cons,List.length_nil] at *; omega,by simp only; omega,by simp only; rw [← c4,hpl,if_pos ⟨q1,q2⟩]⟩,by simp only; omega,?_⟩
            refine .mk' (by simp [RT,leV,get_e0,get_e1,wkV.refl]) (fun c v hq => ?_) rfl
            simp [RT,St.e] at hq ⊢
            simpa [get_e0,get_e1,q2] using hq
          · apply LWP_runD
            · repeat (simp -implicitDefEqProofs (maxSteps:=1000000)(disch:=first|assumption|omega) [hAn,wA,hg,hlp,St.e,beqT q1,beqF q2,h0,hx0,inE]; try simp only [gz])
              rfl
            · simp [AS.fin,delAll,del,Nat.add_assoc]; rfl
            refine LWP_cond (t:=false) (by simp [LArg.ev,get_e0,get_e1]) (fun h => by cases h) (fun _ => ?_)
            apply LWP_runD
            · repeat (simp -implicitDefEqProofs (maxSteps:=1000000)(disch:=first|assumption|omega) [h0,hc',wi,inE,hx0,hx1,hAn,htk,St.e,hb24]; try simp only [gz])
              rfl
            · simp [AS.fin,delAll,del,Nat.add_assoc]; rfl
            apply LWP_run
            · repeat (simp -implicitDefEqProofs (maxSteps:=1000000)(disch:=first|assumption|omega) [wi]; try simp only [gz])
              rfl
            refine ⟨(i + 1,A ++ [s] ++ [⟨x0,x1,h⟩],nx + 54,nx + 56),⟨by simp only; omega,by simp only [List.length_append,List.length_cons,List.length_nil] at *; omega,by simp only; omega,by simp only; rw [← c4,hpl,if_neg (fun q => q2 q.2)]⟩,by simp only; omega,?_⟩
            refine .mk' (by simp [RT,leV,get_e0,get_e1,wkV.refl]) (fun c v hq => ?_) rfl
            simp [RT,St.e] at hq ⊢
            simp only [ins_e1,if_pos g4,del,if_neg g5,if_true]
            simpa [get_e0,get_e1] using hq
        · apply LWP_runD
          · repeat (simp -implicitDefEqProofs (maxSteps:=1000000)(disch:=first|assumption|omega) [hAn,wA,hg,hlp,St.e,beqF q1,h0,hx0,inE]; try simp only [gz])
            rfl
          · simp [AS.fin,delAll,del,Nat.add_assoc]; rfl
          refine LWP_cond (t:=false) (by simp [LArg.ev,get_e0,get_e1]) (fun h => by cases h) (fun _ => ?_)
          apply LWP_runD
          · repeat (simp -implicitDefEqProofs (maxSteps:=1000000)(disch:=first|assumption|omega) [h0,hc',wi,inE,hx0,hx1,hAn,htk,St.e,hb24]; try simp only [gz])
            rfl
          · simp [AS.fin,delAll,del,Nat.add_assoc]; rfl
          apply LWP_run
          · repeat (simp -implicitDefEqProofs (maxSteps:=1000000)(disch:=first|assumption|omega) [wi]; try simp only [gz])
            rfl
          refine ⟨(i + 1,A ++ [s] ++ [⟨x0,x1,h⟩],nx + 54,nx + 56),⟨by simp only; omega,by simp only [List.length_append,List.length_cons,List.length_nil] at *; omega,by simp only; omega,by simp only; rw [← c4,hpl,if_neg (fun q => q1 q.1)]⟩,by simp only; omega,?_⟩
          refine .mk' (by simp [RT,leV,get_e0,get_e1,wkV.refl]) (fun c v hq => ?_) rfl
          simp [RT,St.e] at hq ⊢
          simp only [ins_e1,if_pos g4,del,if_neg g5,if_true]
          simpa [get_e0,get_e1] using hq
  · have hc' : ¬ i + 1 < E.length:=by simpa using hc
    have hR2 : out = R:=by
      rw [← c4]
      have hd : E.drop i = [] ∨ ∃ x,E.drop i = [x]:=by
        have hl : (E.drop i).length ≤ 1:=by rw [List.length_drop]; omega
        match E.drop i,hl with
        | [],_ => exact .inl rfl
        | [x],_ => exact .inr ⟨x,rfl⟩
      rcases hd with hd | ⟨x,hd⟩ <;> rw [hd,rlL]
      all_goals (intro _ _ _ h; cases h)
    subst hR2
    refine LWP_deep [(4,.tsl 3 (out.map St.e))] 5 ?_ ?_
    · simp only [deepL]
      exact ⟨⟨_,rfl,deep_rowz (k:=3) (m:=out.length) (l:=out) (Q:=out) (by simp [get_e1]) (by simp) (Nat.le_refl _)⟩,trivial⟩
    refine LWP_seq ?_
    apply LWP_run
    · repeat (simp -implicitDefEqProofs (maxSteps:=1000000)(disch:=first|assumption|omega) []; try simp only [gz])
      rfl
    refine LWP_ret ⟨_,rfl,?_⟩
    refine wkV_of_eq ?_
    simp only [retV]
end
end Go.AM.Sk
