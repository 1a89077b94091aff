/- A part of a proof about the given program: what its name says. No premise beyond the statements'. -/
import Derived.Test.YtkhioehebaghjaaTkSkyN
set_option linter.unusedSimpArgs false
set_option linter.unusedVariables false
/- The skyline of steps: the walk, its first part: the edges, in order; the steps, in order. -/
namespace Go.AM.Sk
open Go.AM
open Go.AM.SkyP
theorem deep_ints {H : Heap} {m : Nat} : ∀ (l : List Int),mapO (mapO (deepV H (m + 1))) (l.map inE) = some (l.map inE)
  | [] => rfl
  | s :: l => by
    simp only [List.map_cons,mapO,mapO_flat0 (H:=H) (m:=m) (inE s) rfl,deep_ints l]
theorem deep_rowi {H : Heap} {b m k : Nat} {l Q : List Int} (hb : get H b = some (.rows 1 (Q.map inE))) (hq : Q.take m = l) (hm : m ≤ Q.length) : deepV H (k + 2) (.sl 1 b 0 m) = some (.tsl 1 (l.map inE)):=by
  refine deepV_sl hb (by simpa using hm) ?_
  rw [List.drop_zero,← List.map_take,hq]
  exact deep_ints l
def edgesL (l : List St) : List Int:=l.flatMap fun s => [s.x0,s.x1]
theorem edgesL_take {l : List St} {i : Nat} (h : i < l.length) : edgesL (l.take (i + 1)) = edgesL (l.take i) ++ [l[i].x0,l[i].x1]:=by
  rw [List.take_succ_eq_append_getElem h,edgesL,List.flatMap_append]
  simp [edgesL]
theorem edgesL_len (l : List St) : (edgesL l).length = 2 * l.length:=by
  induction l with
  | nil => rfl
  | cons a r ih => simp only [edgesL,List.flatMap_cons,List.length_append,List.length_cons,List.length_nil] at ih ⊢; omega
theorem sort_size_ (xs : List Int) : (Go.Sort.sort cmpIs.lt xs.toArray).toList.length = xs.length:=by
  have:=(Go.Sort.sort_sorts cmpIs.lt swoI xs.toArray).1.1
  simpa using this
section
attribute [local simp ↓] List.map_nil List.map_cons
attribute [local simp] m_ o_ g_ stepsS stepS gd opEff appEff LArg.ev app_val app_new app_upd app_kill putV ins_e0 ins_e1 get_e0 get_e1 binV binI grd bnd ldCells AV.cells AV.scalar AV.known setAt fillL chunks elems mxI mnI del Nat.add_assoc nlt_self nne_self nne_self' List.take_of_length_le decT decF wrap_i64 stepsD stepD ST.as dEffF LOp.cls softOK LOp.args LOp.rds AV.ids appD_val appD_new appD_upd appD_kill AS.flush delAll
set_option maxHeartbeats 2000000 in
theorem line_ok (l : List St) (h0 : l ≠ []) (hl : l.length < 1000) : ACalls Go.Proofs.Try.prog 28 [.tsl 3 (l.map St.e)] [] 0 (fun r _ _ => r = .tsl 3 ((lineL mxS (dedN (Go.Sort.sort cmpIs.lt (edgesL l).toArray).toList (2 * l.length)) [] (Go.Sort.sort cmpSt.lt l.toArray).toList []).map St.e)):=by
  refine pure_body ok28 rfl ?_
  simp only [parV]
  refine LWP_seq ?_
  apply LWP_run
  · repeat (simp -implicitDefEqProofs (disch:=omega) []; try simp only [gz])
    rfl
  refine LWP_seq ?_
  apply LWP_run
  · repeat (simp -implicitDefEqProofs (disch:=omega) []; try simp only [gz])
    rfl
  refine LWP_seq (LWP_seq ?_)
  apply LWP_run
  · repeat (simp -implicitDefEqProofs (disch:=omega) []; try simp only [gz])
    rfl
  refine LWP_block (LWP_inv (fun q : Nat × Nat × Nat => ⟨[(0,.tsl 3 (l.map St.e)),(3,.sl 1 q.2.1 0 (edgesL (l.take q.1)).length),(14,.tsl 3 (l.map St.e)),(15,.int .i64 (l.length : Nat)),(16,.int .i64 (q.1 : Nat))],[(q.2.1,.rows 1 ((edgesL (l.take q.1)).map inE))],q.2.2⟩) (fun q => l.length - q.1) (fun q => q.1 ≤ l.length ∧ q.2.1 < q.2.2) (0,0,1) ?_ ⟨Nat.zero_le _,by simp⟩ ?_)
  · refine .mk' ?_ (fun c v h => h) rfl
    simp [leV,get_e0,get_e1,wkV.refl,edgesL]
  rintro ⟨i,b,nx⟩ ⟨c1,c2⟩
  simp only at c1 c2 ⊢
  have wi:=wrap_succ (n:=i) (by omega)
  refine LWP_seq ?_
  apply LWP_run
  · repeat (simp -implicitDefEqProofs (disch:=omega) []; try simp only [gz])
    rfl
  refine LWP_seq ?_
  refine LWP_cond (t:=decide (i < l.length)) (by simp [LArg.ev,get_e0,get_e1]) (fun hc => LWP_skip ?_) (fun hc => LWP_exit ?_)
  · have hc' : i < l.length:=by simpa using hc
    have g1 : ¬ nx = b:=by omega
    have g2 : ¬ b = nx:=by omega
    have g3 : b < nx:=by omega
    have hlen : (edgesL (l.take i)).length = 2 * i:=by rw [edgesL_len,List.length_take]; omega
    have hb8 : ((edgesL (l.take i)).length + 2) * 8 ≤ 17592186044416:=by omega
    refine LWP_seq (LWP_block (LWP_seq ?_))
    apply LWP_run
    · repeat (simp -implicitDefEqProofs (disch:=omega) [hc',St.e,g1,g2,g3]; try simp only [gz])
      rfl
    apply LWP_run
    · repeat (simp -implicitDefEqProofs (disch:=omega) [hc',St.e,g1,g2,g3,hb8,inE]; try simp only [gz])
      rfl
    apply LWP_run
    · repeat (simp -implicitDefEqProofs (disch:=omega) [wi]; try simp only [gz])
      rfl
    refine ⟨(i + 1,nx + 1,nx + 2),⟨by simp only; omega,by simp only; omega⟩,by simp only; omega,.mk' ?_ (fun c v h => ?_) rfl⟩
    · simp only
      rw [edgesL_take hc']
      simp [leV,get_e0,get_e1,wkV.refl]
    · simp only at h ⊢
      rw [edgesL_take hc'] at h
      simp [get_e0,get_e1,inE] at h
      obtain ⟨rfl,rfl⟩:=h
      simp [get_e0,get_e1,List.take_of_length_le]
  · have hc' : ¬ i < l.length:=by simpa using hc
    have ei : i = l.length:=by omega
    subst ei
    rw [List.take_length]
    refine LWP_seq ?_
    have hlen:=edgesL_len l
    obtain ⟨m,hm⟩ : ∃ m,(edgesL l).length = m:=⟨_,rfl⟩
    rw [hm]
    have hs:=sort_size_ (edgesL l)
    obtain ⟨s1,hs1⟩ : ∃ s1,(Go.Sort.sort cmpIs.lt (edgesL l).toArray).toList = s1:=⟨_,rfl⟩
    have hs1m : s1.length = m:=by rw [← hs1,hs,hm]
    refine LWP_reg fun K hK => ?_
    apply rgnS_pre 1
    · repeat (simp -implicitDefEqProofs (disch:=omega) []; try simp only [gz])
      rfl
    refine rgnS_callO (sortI_ok (b:=b) (m:=m) (d:=(edgesL l).toArray) (by simpa using hm) (by omega) (by rw [get_e1,if_pos rfl]; rfl)) rfl rfl (by simp [gd,get_e0,get_e1,LArg.ev]) fun n1 hn1 => ?_
    simp only at hn1
    have hH : ins b (Blk.rows 1 (Ord.rws cmpIs (Go.Sort.sort cmpIs.lt (edgesL l).toArray))) [(b,Blk.rows 1 ((edgesL l).map inE))] = [(b,Blk.rows 1 (s1.map inE))]:=by
      rw [ins_e1,if_neg (by omega),if_pos rfl,Ord.rws,hs1]
      rfl
    simp only [hH]
    refine hK _ ?_; clear hK
    refine LWP_seq ?_
    refine LWP_reg fun K hK => ?_
    apply rgnS_pre 1
    · repeat (simp -implicitDefEqProofs (disch:=omega) []; try simp only [gz])
      rfl
    refine rgnS_callO (compact_ok (b:=b) (xs:=s1) (show b < n1 by omega) hs1m (by omega) (by rw [get_e1,if_pos rfl])) rfl rfl (by simp [gd,get_e0,get_e1,LArg.ev]) fun n2 hn2 => ?_
    simp only at hn2 ⊢
    rw [ins_e1,if_neg (by omega),if_pos rfl]
    apply rgnS_pre 1
    · repeat (simp -implicitDefEqProofs (disch:=omega) []; try simp only [gz])
      rfl
    refine hK _ ?_; clear hK
    refine LWP_seq ?_
    refine LWP_reg fun K hK => ?_
    apply rgnS_pre 1
    · repeat (simp -implicitDefEqProofs (disch:=omega) []; try simp only [gz])
      rfl
    refine rgnS_callO (clone_ok (l:=l) h0 (by omega)) rfl rfl (by simp [gd,get_e0,get_e1,LArg.ev]) fun n3 hn3 => ?_
    simp only at hn3 ⊢
    rw [ins_e1,if_pos (by omega)]
    apply rgnS_pre 1
    · repeat (simp -implicitDefEqProofs (disch:=omega) []; try simp only [gz])
      rfl
    refine hK _ ?_; clear hK
    obtain ⟨o,ho⟩ : ∃ o,n2 + 1 = o:=⟨_,rfl⟩
    rw [ho]
    refine LWP_seq ?_
    refine LWP_reg fun K hK => ?_
    apply rgnS_pre 1
    · repeat (simp -implicitDefEqProofs (disch:=omega) []; try simp only [gz])
      rfl
    refine rgnS_callO (sortS_ok (b:=o) (m:=l.length) (d:=l.toArray) (by simp) (by omega) (by rw [get_e1,if_pos rfl]; rfl)) rfl rfl (by simp [gd,get_e0,get_e1,LArg.ev]) fun n4 hn4 => ?_
    simp only at hn4 ⊢
    rw [ins_e1,if_neg (by omega),if_pos rfl]
    refine hK _ ?_; clear hK
    obtain ⟨O,hO⟩ : ∃ O,(Go.Sort.sort cmpSt.lt l.toArray).toList = O:=⟨_,rfl⟩
    have hOl : O.length = l.length:=by
      rw [← hO]
      have:=(Go.Sort.sort_sorts cmpSt.lt swoS l.toArray).1.1
      simpa using this
    obtain ⟨E,hE⟩ : ∃ E,dedN s1 m = E:=⟨_,rfl⟩
    have hEm : E.length ≤ m:=by rw [← hE]; exact dedN_len s1 m
    refine LWP_deep [(3,.tsl 1 (E.map inE)),(6,.tsl 3 (O.map St.e))] 5 ?_ ?_
    · have d1:=deep_rowi (H:=[(o,Blk.rows 3 (rws cmpSt (Go.Sort.sort cmpSt.lt l.toArray))),(b,Blk.rows 1 ((cmpR2 s1).map inE))]) (b:=b) (m:=E.length) (k:=3) (l:=E) (Q:=cmpR2 s1) (by rw [get_e1,if_neg (by omega),get_e1,if_pos rfl]) (by rw [cmpR2,hs1m,hE]; simp) (by rw [cmpR2,hs1m,hE]; simp)
      have d2:=deep_rowz (H:=[(o,Blk.rows 3 (rws cmpSt (Go.Sort.sort cmpSt.lt l.toArray))),(b,Blk.rows 1 ((cmpR2 s1).map inE))]) (b:=o) (m:=l.length) (k:=3) (l:=O) (Q:=O) (by rw [get_e1,if_pos rfl,← hO]; rfl) (by rw [← hOl]; simp) (by omega)
      simp only [deepL]
      exact ⟨⟨_,rfl,by rw [hE]; exact d1⟩,⟨_,rfl,d2⟩,trivial⟩
    have hm2 : 2 * l.length = m:=by omega
    rw [hm2,hs1,hE,hO]
    exact line_main E O _ (by omega) (by omega)
end
end Go.AM.Sk
