/- A part of a proof about the given program: what its name says. No premise beyond the statements'. -/
import Derived.Test.YtkhioehebaghjaaTkSkyI
set_option linter.unusedSimpArgs false
set_option linter.unusedVariables false
/- Steps that end ahead of a place are taken out, in place, of a row that is longer than the slice. -/
namespace Go.AM.Sk
open Go.AM
open Go.AM.SkyP
theorem deep_rowz {H : Heap} {b m k : Nat} {l Q : List St} (hb : get H b = some (.rows 3 (Q.map St.e))) (hq : Q.take m = l) (hm : m ≤ Q.length) : deepV H (k + 2) (.sl 3 b 0 m) = some (.tsl 3 (l.map St.e)):=by
  refine deepV_sl hb (by simpa using hm) ?_
  rw [List.drop_zero,← List.map_take,hq]
  exact deep_st l
section
attribute [local simp ↓] List.map_nil List.map_cons
attribute [local simp] m_ o_ g_ stepsS stepS gd opEff appEff LArg.ev app_val app_new app_upd app_kill putV ins_e0 ins_e1 get_e0 get_e1 binV binI grd bnd ldCells AV.cells AV.scalar AV.known setAt fillL chunks elems mxI mnI del Nat.add_assoc nlt_self nne_self nne_self' List.take_of_length_le decT decF wrap_i64 stepsD stepD ST.as dEffF LOp.cls softOK LOp.args LOp.rds AV.ids appD_val appD_new appD_upd appD_kill AS.flush delAll
set_option maxHeartbeats 2000000 in
theorem deletez_ok {H : Heap} {n b m : Nat} {l Z : List St} {x : Int} (hbn : b < n) (hm : l.length = m) (hd : m < 1000000) (hb : get H b = some (.rows 3 ((l ++ Z).map St.e))) :
    ACalls Go.Proofs.Try.prog 45 [.sl 3 b 0 m,.fn 46 [] [.cptr [.int .i64 x]]] H n (postO n (.sl 3 b 0 (l.filter (stays x)).length) (ins b (.rows 3 ((delR x l ++ Z).map St.e)) H)):=by
  refine own_body ok45 rfl ?_
  simp only [parV]
  refine LWP_seq ?_
  apply LWP_run
  · repeat (simp -implicitDefEqProofs (disch:=omega) []; try simp only [gz])
    rfl
  refine LWP_seq ?_
  refine LWP_reg fun K hK => ?_
  apply rgnS_pre 2
  · repeat (simp -implicitDefEqProofs (disch:=omega) []; try simp only [gz])
    rfl
  refine rgnS_lend (m:=5) (indexd_ok l x (by omega)) rfl rfl (by simp [pureL,AV.pure,pureR_st]) ?_ rfl rfl ?_
  · have e:=deep_rowz (k:=3) hb (m:=m) (l:=l) (by rw [← hm]; simp) (by simp; omega)
    show mapO (deepV H 5) [.sl 3 b 0 m,.fn 46 [] [.cptr [.int .i64 x]]] = _
    simp only [mapO,e]
    rfl
  apply rgnS_pre 1
  · repeat (simp -implicitDefEqProofs (disch:=omega) []; try simp only [gz])
    rfl
  refine hK _ ?_; clear hK
  refine LWP_seq (LWP_seq ?_)
  rcases fstD_spec x l 0 with ⟨h1,h2⟩ | ⟨i0,hi0,h1,h2,h3⟩
  · rw [h1]
    apply LWP_run
    · repeat (simp -implicitDefEqProofs (disch:=omega) []; try simp only [gz])
      rfl
    refine LWP_cond (t:=true) (by simp [LArg.ev,get_e0,get_e1]) (fun _ => ?_) (fun h => by cases h)
    refine LWP_seq ?_
    apply LWP_run
    · repeat (simp -implicitDefEqProofs (disch:=omega) []; try simp only [gz])
      rfl
    refine LWP_ret ?_
    show retO [.t 4] n _ _ Exit.ret _
    refine ⟨by simp only; omega,⟨_,rfl,?_⟩,fun c v h => ?_⟩
    · rw [h2,hm]; exact wkV.refl _
    · have e : delR x l = l:=by simp [delR,h2]
      rw [e] at h
      exact get_ins_same hb h
  · rw [h1,Nat.zero_add]
    have w0:=wrap_succ (n:=i0) (by omega)
    apply LWP_run
    · repeat (simp -implicitDefEqProofs (disch:=omega) []; try simp only [gz])
      rfl
    refine LWP_cond (t:=false) (by simp [LArg.ev,get_e0,get_e1]) (fun h => by cases h) (fun _ => LWP_skip ?_)
    refine LWP_seq (LWP_seq ?_)
    apply LWP_run
    · repeat (simp -implicitDefEqProofs (disch:=omega) [w0]; try simp only [gz])
      rfl
    refine LWP_block (LWP_inv (fun q : Nat × Nat × List St × Nat => ⟨[(0,.sl 3 b 0 m),(1,.fn 46 [] [.cptr [.int .i64 x]]),(5,.int .i64 (q.1 : Nat)),(6,.int .i64 (q.2.1 : Nat))],ins b (.rows 3 (q.2.2.1.map St.e)) H,q.2.2.2⟩) (fun q => m - q.2.1)
      (fun q => q.1 < q.2.1 ∧ q.2.1 ≤ m ∧ q.2.2.1.length = m + Z.length ∧ n ≤ q.2.2.2 ∧ q.2.2.1.take q.1 = (l.take q.2.1).filter (stays x) ∧ q.2.2.1.drop q.2.1 = l.drop q.2.1 ++ Z) (i0,i0 + 1,l ++ Z,n) ?_ ⟨by simp only; omega,by simp only; omega,by simp only [List.length_append]; omega,Nat.le_refl _,by simp only; rw [List.take_append_of_le_length (by omega)]; exact h3.symm,by simp only; rw [List.drop_append_of_le_length (by omega)]⟩ ?_)
    · refine .mk' ?_ (fun c v h => get_ins_same hb h) (by simp)
      simp [leV,get_e0,get_e1,wkV.refl,w0]
    rintro ⟨i,j,A,nx⟩ ⟨c1,c2,c3,c4,c5,c6⟩
    simp only at c1 c2 c3 c4 c5 c6 ⊢
    have hb2 : ¬ b = nx:=by omega
    have hb3 : ¬ nx = b:=by omega
    have wj:=wrap_succ (n:=j) (by omega)
    have wi:=wrap_succ (n:=i) (by omega)
    refine LWP_keys fun hkeys => ?_
    simp only at hkeys
    refine LWP_seq (LWP_seq ?_)
    apply LWP_run
    · repeat (simp -implicitDefEqProofs (disch:=omega) []; try simp only [gz])
      rfl
    refine LWP_cond (t:=decide (j < m)) (by simp [LArg.ev,get_e0,get_e1]) (fun hc => LWP_skip ?_) (fun hc => LWP_exit ?_)
    · have hc' : j < m:=by simpa using hc
      have hjA : j < A.length:=by omega
      have hjl : j < l.length:=by omega
      have e2 : (j : Int) < (m : Int):=by omega
      have e3 : (i : Int) < (m : Int):=by omega
      have e4 : i < A.length:=by omega
      have hmz : m ≤ m + Z.length:=by omega
      have hjz : j < m + Z.length:=by omega
      have hiz : i < m + Z.length:=by omega
      have hAj : A[j] = l[j]:=by
        have h:=c6
        rw [List.drop_eq_getElem_cons hjA,List.drop_eq_getElem_cons hjl,List.cons_append] at h
        exact (List.cons.inj h).1
      have hAj2 : (A.map St.e)[j]?.getD [] = [.int .i64 l[j].x0,.int .i64 l[j].x1,.int .i64 l[j].h]:=by
        simp [List.getElem?_eq_getElem hjA,hAj,St.e]
      refine LWP_seq (LWP_block (LWP_seq ?_))
      apply LWP_run
      · repeat (simp -implicitDefEqProofs (disch:=omega) [get_ins,hb2,hb3,e2,hjA,c3,hmz,hjz,St.e,hAj,Go.AM.ins_ins]; try simp only [gz])
        rfl
      refine LWP_seq ?_
      refine LWP_reg fun K hK => ?_
      apply rgnS_pre 2
      · repeat (simp -implicitDefEqProofs (disch:=omega) [get_ins,hb2,hb3,Go.AM.ins_ins]; try simp only [gz])
        rfl
      refine rgnS_call (lit2_ok l[j] x) rfl rfl (by simp [pureL,pureR,AV.pure,St.e]) (by simp [pureL,pureR,AV.pure,St.e]) (by simp [gd,get_e0,get_e1,LArg.ev,St.e]) ?_
      apply rgnS_pre 1
      · repeat (simp -implicitDefEqProofs (disch:=omega) []; try simp only [gz])
        rfl
      refine hK _ ?_; clear hK
      have hnx : ∀ c v,get (ins b (.rows 3 (A.map St.e)) H) c = some v → c ≠ nx:=fun c v h => by have:=hkeys c v h; omega
      by_cases hk : l[j].x1 ≤ x
      · have hst : stays x l[j] = false:=by simp only [stays,decide_eq_false_iff_not]; omega
        refine LWP_cond (t:=false) (by simp [LArg.ev,get_e0,get_e1,hk]) (fun h => by cases h) (fun _ => LWP_skip ?_)
        apply LWP_run
        · repeat (simp -implicitDefEqProofs (disch:=omega) [wj]; try simp only [gz])
          rfl
        refine ⟨(i,j + 1,A,_),⟨by simp only; omega,by simp only; omega,c3,?_,by simp only; rw [take_drop_ hjl hst]; exact c5,?_⟩,by simp only; omega,.mk' ?_ (fun c v h => ?_) rfl⟩
        · simp only; omega
        · have h:=congrArg (List.drop 1) c6
          simp only [List.drop_drop] at h ⊢
          rw [h,List.drop_append_of_le_length (by rw [List.length_drop]; omega),List.drop_drop]
        · simp [leV,get_e0,get_e1,wkV.refl]
        · simp only at h ⊢
          rw [get_ins,if_neg (Ne.symm (hnx c v h))]
          exact h
      · have hst : stays x l[j] = true:=by simp only [stays,decide_eq_true_eq]; omega
        have hAi : (A.map St.e)[i]?.getD [] = [.int .i64 A[i].x0,.int .i64 A[i].x1,.int .i64 A[i].h]:=by
          simp [List.getElem?_eq_getElem e4,St.e]
        refine LWP_cond (t:=true) (by simp [LArg.ev,get_e0,get_e1,hk]) (fun _ => ?_) (fun h => by cases h)
        refine LWP_seq ?_
        apply LWP_run
        · repeat (simp -implicitDefEqProofs (disch:=omega) [get_ins,hb2,hb3,e3,e4,c3,hmz,hiz,hAi,set_st]; try simp only [gz])
          rfl
        apply LWP_run
        · repeat (simp -implicitDefEqProofs (disch:=omega) [wi]; try simp only [gz])
          rfl
        apply LWP_run
        · repeat (simp -implicitDefEqProofs (disch:=omega) [wj]; try simp only [gz])
          rfl
        refine ⟨(i + 1,j + 1,A.set i l[j],_),⟨by simp only; omega,by simp only; omega,by simp [c3],?_,?_,?_⟩,by simp only; omega,.mk' ?_ (fun c v h => ?_) rfl⟩
        · simp only; omega
        · simp only
          rw [take_keep hjl hst,← c5,List.take_succ_eq_append_getElem (by simpa using e4),List.take_set,List.set_eq_of_length_le (by rw [List.length_take]; omega),List.getElem_set_self]
        · simp only
          rw [List.drop_set_of_lt (by omega)]
          have h:=congrArg (List.drop 1) c6
          simp only [List.drop_drop] at h
          rw [h,List.drop_append_of_le_length (by rw [List.length_drop]; omega),List.drop_drop]
        · simp [leV,get_e0,get_e1,wkV.refl]
        · simp only at h ⊢
          rw [get_ins] at h ⊢
          by_cases hcb : b = c
          · subst hcb
            rw [if_pos rfl] at h ⊢
            rw [show List.drop 3 (A[i]'e4).e = [] from rfl,set_st]
            exact h
          · rw [if_neg hcb] at h ⊢
            have h5:=hnx c v (by rw [get_ins,if_neg hcb]; exact h)
            rw [get_ins,if_neg (Ne.symm h5),get_ins,if_neg hcb]
            exact h
    · have hc' : ¬ j < m:=by simpa using hc
      have ej : j = m:=by omega
      subst ej
      rw [← hm,List.take_length] at c5
      have c7 : A.drop (l.length) = Z:=by
        have h:=c6
        rw [List.drop_eq_nil_of_le (show l.length ≤ j by omega),List.nil_append] at h
        rw [hm]; exact h
      have hki : (l.filter (stays x)).length = i:=by rw [← c5,List.length_take]; omega
      obtain ⟨r,hr⟩ : ∃ r,j = i + (r + 1):=⟨j - i - 1,by omega⟩
      have hmi : ((j : Int) - (i : Int)).toNat = r + 1:=by omega
      have hij : (i : Int) ≤ (j : Int):=by omega
      have hAl : i + (r + 1) ≤ A.length:=by omega
      refine LWP_seq ?_
      apply LWP_run
      · repeat (simp -implicitDefEqProofs (disch:=omega) [get_ins,hmi,hij,hAl]; try simp only [gz])
        rfl
      refine LWP_seq ?_
      apply LWP_run
      · repeat (simp -implicitDefEqProofs (disch:=omega) [hij]; try simp only [gz])
        rfl
      refine LWP_ret ?_
      show retO [.t 4] n _ _ Exit.ret _
      refine ⟨by simp only; omega,⟨_,rfl,?_⟩,fun c v h => ?_⟩
      · rw [hki]; exact wkV.refl _
      · simp only at h ⊢
        have eR : List.take i (List.map St.e A) ++ (List.replicate (r + 1) [AV.int IntKind.i64 0,AV.int IntKind.i64 0,AV.int IntKind.i64 0] ++ List.drop (i + (r + 1)) (List.map St.e A)) = (delR x l ++ Z).map St.e:=by
          have el : l.length - i = r + 1:=by omega
          rw [delR,hki,el,List.map_append,List.map_append,List.map_replicate,← c5,List.map_take,← c7,List.map_drop,show i + (r + 1) = l.length by omega,List.append_assoc]
          rfl
        rw [eR,Go.AM.ins_ins]
        exact h
end
end Go.AM.Sk
