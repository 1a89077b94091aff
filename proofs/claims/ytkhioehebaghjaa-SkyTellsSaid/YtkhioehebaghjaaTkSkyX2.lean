/- A part of a proof about the given program: what its name says. No premise beyond the statements'. -/
import Derived.Test.YtkhioehebaghjaaTkSkyX1
set_option linter.unusedSimpArgs false
set_option linter.unusedVariables false
/- The second opinion's skyline: its edges, and how high the highest step is. -/
namespace Go.AM.Sk
open Go.AM
open Go.AM.SkyP
def edgI (l : List St) : List Int:=l.foldl (fun E s => insI s.x1 (insI s.x0 E)) []
theorem edgI_take {l : List St} {i : Nat} (h : i < l.length) : edgI (l.take (i + 1)) = insI l[i].x1 (insI l[i].x0 (edgI (l.take i))):=by
  rw [edgI,edgI,List.take_succ_eq_append_getElem h,List.foldl_append]
  rfl
theorem insI_len (x : Int) : ∀ l : List Int,(insI x l).length ≤ l.length + 1
  | [] => by simp [insI]
  | y :: r => by
    have:=insI_len x r
    simp only [insI]
    (repeat' split) <;> simp only [List.length_cons] at * <;> omega
theorem edgI_len (l : List St) : ∀ i,i ≤ l.length → (edgI (l.take i)).length ≤ 2 * i
  | 0,_ => by simp [edgI]
  | i + 1,h => by
    have:=edgI_len l i (by omega)
    rw [edgI_take (by omega)]
    have h1:=insI_len l[i].x1 (insI l[i].x0 (edgI (l.take i)))
    have h2:=insI_len l[i].x0 (edgI (l.take i))
    omega
section
attribute [local simp ↓] List.map_nil List.map_cons
attribute [local simp] m_ o_ g_ stepsS stepS gd opEff appEff LArg.ev app_val app_new app_upd app_kill putV ins_e0 ins_e1 get_e0 get_e1 binV binI grd bnd ldCells AV.cells AV.scalar AV.known setAt fillL chunks elems mxI mnI del Nat.add_assoc nlt_self nne_self nne_self' List.take_of_length_le decT decF wrap_i64 stepsD stepD ST.as dEffF LOp.cls softOK LOp.args LOp.rds AV.ids appD_val appD_new appD_upd appD_kill AS.flush delAll
set_option maxHeartbeats 2000000 in
theorem edges_ok (l : List St) (hl : l.length ≤ 100000) : ACalls Go.Proofs.Try.prog 50 [.tsl 3 (l.map St.e)] [] 0 (fun r _ _ => r = .tsl 1 ((edgI l).map inE)):=by
  refine pure_body ok50 rfl ?_
  simp only [parV]
  refine LWP_seq ?_
  apply LWP_run
  · repeat (simp -implicitDefEqProofs (disch:=omega) []; try simp only [gz])
    rfl
  refine LWP_seq ?_
  apply LWP_run
  · repeat (simp -implicitDefEqProofs (disch:=omega) []; try simp only [gz])
    rfl
  refine LWP_seq (LWP_seq ?_)
  apply LWP_run
  · repeat (simp -implicitDefEqProofs (disch:=omega) []; try simp only [gz])
    rfl
  refine LWP_block (LWP_inv (fun q : Nat × Nat × Nat => ⟨[(0,.tsl 3 (l.map St.e)),(3,.sl 1 q.2.1 0 (edgI (l.take q.1)).length),(4,.int .i64 (q.1 : Nat))],[(q.2.1,.rows 1 ((edgI (l.take q.1)).map inE))],q.2.2⟩) (fun q => l.length - q.1) (fun q => q.1 ≤ l.length ∧ q.2.1 < q.2.2) (0,0,1) ?_ ⟨Nat.zero_le _,by simp⟩ ?_)
  · refine .mk' ?_ (fun c v h => by simpa [edgI,get_e0,get_e1] using h) rfl
    simp [leV,get_e0,get_e1,wkV.refl,edgI]
  rintro ⟨i,b,nx⟩ ⟨c1,c2⟩
  simp only at c1 c2 ⊢
  have wi:=wrap_succ (n:=i) (by omega)
  have hel:=edgI_len l i c1
  obtain ⟨E,hE⟩ : ∃ E,edgI (l.take i) = E:=⟨_,rfl⟩
  rw [hE] at hel ⊢
  refine LWP_seq (LWP_seq ?_)
  apply LWP_run
  · repeat (simp -implicitDefEqProofs (disch:=omega) []; try simp only [gz])
    rfl
  refine LWP_cond (t:=decide (i < l.length)) (by simp [LArg.ev,get_e0,get_e1]) (fun hc => LWP_skip ?_) (fun hc => LWP_exit ?_)
  · have hc' : i < l.length:=by simpa using hc
    have h2:=insI_len l[i].x0 E
    refine LWP_seq (LWP_block ?_)
    refine LWP_regH fun K hK => ?_
    apply rgnH_pre 11
    · repeat (simp -implicitDefEqProofs (disch:=omega) [stepsH,stepH,litV,onlyV_val,hc',St.e]; try simp only [gz])
      rfl
    refine rgnH_op ?_
    refine rgnS_callE (put_ok (b:=b) (m:=E.length) (l:=E) (x:=l[i].x0) c2 rfl (by omega)) rfl rfl (by simp [gd]) fun v H2 n2 hq => ?_
    obtain ⟨b2,rfl,rfl,hb2⟩:=hq
    refine rgnS_nil (rgnH_op ?_)
    refine rgnS_callE (put_ok (b:=b2) (m:=(insI l[i].x0 E).length) (l:=insI l[i].x0 E) (x:=l[i].x1) hb2 rfl (by omega)) rfl rfl (by simp [gd]) fun v H2 n3 hq => ?_
    obtain ⟨b3,rfl,rfl,hb3⟩:=hq
    refine rgnS_nil ?_
    apply rgnH_pre 1
    · repeat (simp -implicitDefEqProofs (disch:=omega) [stepsH,stepH,litV,onlyV_val,]; try simp only [gz])
      rfl
    refine hK _ ?_
    clear hK
    apply LWP_run
    · repeat (simp -implicitDefEqProofs (disch:=omega) [wi]; try simp only [gz])
      rfl
    refine ⟨(i + 1,b3,n3),⟨by simp only; omega,hb3⟩,by simp only; omega,?_⟩
    simp only [edgI_take hc',hE]
    exact .mk' (by simp [leV,get_e0,get_e1,wkV.refl]) (fun c v h => h) rfl
  · have hc' : ¬ i < l.length:=by simpa using hc
    have ei : i = l.length:=by omega
    subst ei
    rw [List.take_length] at hE
    refine LWP_deep [(3,.tsl 1 (E.map inE))] 5 ?_ ?_
    · simp only [deepL]
      exact ⟨⟨_,rfl,deep_rowi (k:=3) (m:=E.length) (l:=E) (Q:=E) (by simp [get_e1]) (by simp) (Nat.le_refl _)⟩,trivial⟩
    refine LWP_seq ?_
    apply LWP_run
    · repeat (simp -implicitDefEqProofs (disch:=omega) []; try simp only [gz])
      rfl
    refine LWP_ret ⟨_,rfl,?_⟩
    refine wkV_of_eq ?_
    simp only [retV]
    rw [hE]
end
def hiS (a b : Int) (acc : Int × Bool) (s : St) : Int × Bool:=if (s.x0 ≤ a ∧ b ≤ s.x1) ∧ (acc.2 = false ∨ acc.1 < s.h) then (s.h,true) else acc
def hiF (l : List St) (a b : Int) : Int × Bool:=l.foldl (hiS a b) (0,false)
theorem hiF_take {l : List St} {a b : Int} {i : Nat} (h : i < l.length) : hiF (l.take (i + 1)) a b = hiS a b (hiF (l.take i) a b) l[i]:=by
  rw [hiF,hiF,List.take_succ_eq_append_getElem h,List.foldl_append]
  rfl

section
attribute [local simp ↓] List.map_nil List.map_cons
attribute [local simp] m_ o_ g_ stepsS stepS gd opEff appEff LArg.ev app_val app_new app_upd app_kill putV ins_e0 ins_e1 get_e0 get_e1 binV binI grd bnd ldCells AV.cells AV.scalar AV.known setAt fillL chunks elems mxI mnI del Nat.add_assoc nlt_self nne_self nne_self' List.take_of_length_le decT decF wrap_i64 stepsD stepD ST.as dEffF LOp.cls softOK LOp.args LOp.rds AV.ids appD_val appD_new appD_upd appD_kill AS.flush delAll
set_option maxHeartbeats 2000000 in
set_option maxRecDepth 20000 in
theorem highest_ok (l : List St) (a b : Int) (hl : l.length < 1000000) : ACalls Go.Proofs.Try.prog 51 [.tsl 3 (l.map St.e),.int .i64 a,.int .i64 b] [] 0 (fun r _ _ => r = .tup [.int .i64 (hiF l a b).1,.bool (hiF l a b).2]):=by
 refine pure_body ok51 rfl ?_
 simp only [parV]
 refine LWP_seq ?_
 apply LWP_run
 · repeat (simp -implicitDefEqProofs (disch:=omega) [St.e]; try simp only [gz])
   rfl
 refine LWP_seq ?_
 apply LWP_run
 · repeat (simp -implicitDefEqProofs (disch:=omega) [St.e]; try simp only [gz])
   rfl
 refine LWP_seq ?_
 refine LWP_seq ?_
 apply LWP_run
 · repeat (simp -implicitDefEqProofs (disch:=omega) [St.e]; try simp only [gz])
   rfl
 refine LWP_block ?_
 refine LWP_for (fun (p : Nat × Int × Bool) => [(0,.tsl 3 (l.map St.e)),(1,.int .i64 a),(2,.int .i64 b),(8,.int .i64 p.2.1),(9,.bool p.2.2),(10,.int .i64 (p.1 : Nat))]) (fun (p : Nat × Int × Bool) => []) (fun (p : Nat × Int × Bool) n => p.1 ≤ l.length ∧ p.2 = hiF (l.take p.1) a b) (fun (p : Nat × Int × Bool) => l.length - p.1) (0,0,false) ?_ ?_ ?_ ?_
 · simp (disch:=omega) [leV,get_e0,get_e1,wkV.refl,wkV_int,decT,decF,St.e]
 · simp [leH,get_e0,get_e1]
 · exact ⟨Nat.zero_le _,rfl⟩
 rintro ⟨i,h,ok⟩ n ⟨c1,c2⟩
 simp only at c1 c2
 refine LWP_seq ?_
 refine LWP_seq ?_
 apply LWP_run
 · repeat (simp -implicitDefEqProofs (disch:=omega) [St.e]; try simp only [gz])
   rfl
 refine LWP_cond rfl (fun h2 => ?_) (fun h2 => ?_)
 ·try simp only [bn,reduceCtorEq] at h2
  all_goals try (exfalso; omega)
  all_goals
   refine LWP_skip ?_
   refine LWP_seq ?_
   refine LWP_block ?_
   refine LWP_seq ?_
   refine LWP_reg fun K hK => ?_
   apply rgnS_pre 8
   · repeat (simp -implicitDefEqProofs (disch:=omega) [St.e,h2]; try simp only [gz])
     rfl
   refine rgnS_guard (x:=24) (b:=true) rfl (fun h3 => ?_) (fun h3 => ?_)
   ·try simp only [bn,reduceCtorEq] at h3
    all_goals try (exfalso; omega)
    all_goals
     apply rgnS_pre 8
     · repeat (simp -implicitDefEqProofs (disch:=omega) [St.e,h2,h3]; try simp only [gz])
       rfl
     apply rgnS_pre 1
     · repeat (simp -implicitDefEqProofs (disch:=omega) [St.e,h2,h3]; try simp only [gz])
       rfl
     refine rgnS_guard (x:=33) (b:=true) rfl (fun h4 => ?_) (fun h4 => ?_)
     ·try simp only [bn,reduceCtorEq] at h4
      all_goals try (exfalso; omega)
      all_goals
       apply rgnS_pre 3
       · repeat (simp -implicitDefEqProofs (disch:=omega) [St.e,h2,h3,h4]; try simp only [gz])
         rfl
       refine rgnS_guard (x:=36) (b:=false) rfl (fun h5 => ?_) (fun h5 => ?_)
       ·try simp only [bn,reduceCtorEq] at h5
        all_goals try (exfalso; omega)
        all_goals
         apply rgnS_pre 8
         · repeat (simp -implicitDefEqProofs (disch:=omega) [St.e,h2,h3,h4,h5]; try simp only [gz])
           rfl
         apply rgnS_pre 1
         · repeat (simp -implicitDefEqProofs (disch:=omega) [St.e,h2,h3,h4,h5]; try simp only [gz])
           rfl
         refine hK _ ?_; clear hK
         refine LWP_cond rfl (fun h6 => ?_) (fun h6 => ?_)
         ·try simp only [bn,reduceCtorEq] at h6
          all_goals try (exfalso; omega)
          all_goals
           apply LWP_run
           · repeat (simp -implicitDefEqProofs (disch:=omega) [St.e,h2,h3,h4,h5,h6]; try simp only [gz])
             rfl
           apply LWP_run
           · repeat (simp -implicitDefEqProofs (disch:=omega) [St.e,h2,h3,h4,h5,h6]; try simp only [gz])
             rfl
           -- loop 0,round 0
           refine ⟨(i + 1,(l[i]'(by omega)).h,true),?_,?_,?_,?_⟩
           · refine ⟨by simp only; omega,?_⟩
             simp only
             rw [hiF_take (by omega),← c2,hiS,if_pos ⟨⟨by omega,by omega⟩,by first | (left; assumption) | (right; assumption)⟩]
           · simp only; omega
           · simp (disch:=omega) [leV,get_e0,get_e1,wkV.refl,wkV_int,wrap_i64,decT,decF,St.e,h2,h3,h4,h5,h6]
           · simp [leH,get_e0,get_e1,h2,h3,h4,h5,h6]
         ·try simp only [bn,reduceCtorEq] at h6
          all_goals try (exfalso; omega)
          all_goals
           refine LWP_skip ?_
           apply LWP_run
           · repeat (simp -implicitDefEqProofs (disch:=omega) [St.e,h2,h3,h4,h5,h6]; try simp only [gz])
             rfl
           -- loop 0,round 1
           refine ⟨(i + 1,h,ok),?_,?_,?_,?_⟩
           · refine ⟨by simp only; omega,?_⟩
             simp only
             rw [hiF_take (by omega),← c2,hiS,if_neg (fun q => by first | omega | (rcases q.2 with q2 | q2 <;> simp_all <;> omega))]
           · simp only; omega
           · simp (disch:=omega) [leV,get_e0,get_e1,wkV.refl,wkV_int,wrap_i64,decT,decF,St.e,h2,h3,h4,h5,h6]
           · simp [leH,get_e0,get_e1,h2,h3,h4,h5,h6]
       ·try simp only [bn,reduceCtorEq] at h5
        all_goals try (exfalso; omega)
        all_goals
         apply rgnS_pre 8
         · repeat (simp -implicitDefEqProofs (disch:=omega) [St.e,h2,h3,h4,h5]; try simp only [gz])
           rfl
         refine hK _ ?_; clear hK
         refine LWP_cond (t:=true) (by simp [LArg.ev,get_e0,get_e1,h2,h3,h4,h5]) (fun _ => ?_) (fun h => by cases h)
         apply LWP_run
         · repeat (simp -implicitDefEqProofs (disch:=omega) [St.e,h2,h3,h4,h5]; try simp only [gz])
           rfl
         apply LWP_run
         · repeat (simp -implicitDefEqProofs (disch:=omega) [St.e,h2,h3,h4,h5]; try simp only [gz])
           rfl
         -- loop 0,round 2
         refine ⟨(i + 1,(l[i]'(by omega)).h,true),?_,?_,?_,?_⟩
         · refine ⟨by simp only; omega,?_⟩
           simp only
           rw [hiF_take (by omega),← c2,hiS,if_pos ⟨⟨by omega,by omega⟩,by first | (left; assumption) | (right; assumption)⟩]
         · simp only; omega
         · simp (disch:=omega) [leV,get_e0,get_e1,wkV.refl,wkV_int,wrap_i64,decT,decF,St.e,h2,h3,h4,h5]
         · simp [leH,get_e0,get_e1,h2,h3,h4,h5]
     ·try simp only [bn,reduceCtorEq] at h4
      all_goals try (exfalso; omega)
      all_goals
       apply rgnS_pre 8
       · repeat (simp -implicitDefEqProofs (disch:=omega) [St.e,h2,h3,h4]; try simp only [gz])
         rfl
       apply rgnS_pre 3
       · repeat (simp -implicitDefEqProofs (disch:=omega) [St.e,h2,h3,h4]; try simp only [gz])
         rfl
       refine hK _ ?_; clear hK
       refine LWP_cond (t:=false) (by simp [LArg.ev,get_e0,get_e1,h2,h3,h4]) (fun h => by cases h) (fun _ => ?_)
       refine LWP_skip ?_
       apply LWP_run
       · repeat (simp -implicitDefEqProofs (disch:=omega) [St.e,h2,h3,h4]; try simp only [gz])
         rfl
       -- loop 0,round 3
       refine ⟨(i + 1,h,ok),?_,?_,?_,?_⟩
       · refine ⟨by simp only; omega,?_⟩
         simp only
         rw [hiF_take (by omega),← c2,hiS,if_neg (fun q => by first | omega | (rcases q.2 with q2 | q2 <;> simp_all <;> omega))]
       · simp only; omega
       · simp (disch:=omega) [leV,get_e0,get_e1,wkV.refl,wkV_int,wrap_i64,decT,decF,St.e,h2,h3,h4]
       · simp [leH,get_e0,get_e1,h2,h3,h4]
   ·try simp only [bn,reduceCtorEq] at h3
    all_goals try (exfalso; omega)
    all_goals
     apply rgnS_pre 8
     · repeat (simp -implicitDefEqProofs (disch:=omega) [St.e,h2,h3]; try simp only [gz])
       rfl
     apply rgnS_pre 8
     · repeat (simp -implicitDefEqProofs (disch:=omega) [St.e,h2,h3]; try simp only [gz])
       rfl
     apply rgnS_pre 4
     · repeat (simp -implicitDefEqProofs (disch:=omega) [St.e,h2,h3]; try simp only [gz])
       rfl
     refine hK _ ?_; clear hK
     refine LWP_cond (t:=false) (by simp [LArg.ev,get_e0,get_e1,h2,h3]) (fun h => by cases h) (fun _ => ?_)
     refine LWP_skip ?_
     apply LWP_run
     · repeat (simp -implicitDefEqProofs (disch:=omega) [St.e,h2,h3]; try simp only [gz])
       rfl
     -- loop 0,round 4
     refine ⟨(i + 1,h,ok),?_,?_,?_,?_⟩
     · refine ⟨by simp only; omega,?_⟩
       simp only
       rw [hiF_take (by omega),← c2,hiS,if_neg (fun q => by first | omega | (rcases q.2 with q2 | q2 <;> simp_all <;> omega))]
     · simp only; omega
     · simp (disch:=omega) [leV,get_e0,get_e1,wkV.refl,wkV_int,wrap_i64,decT,decF,St.e,h2,h3]
     · simp [leH,get_e0,get_e1,h2,h3]
 ·try simp only [bn,reduceCtorEq] at h2
  all_goals try (exfalso; omega)
  all_goals
   refine LWP_exit ?_
   refine LWP_seq ?_
   apply LWP_run
   · repeat (simp -implicitDefEqProofs (disch:=omega) [St.e,h2]; try simp only [gz])
     rfl
   -- leaf 0
   refine LWP_ret ⟨_,rfl,?_⟩
   refine wkV_of_eq ?_
   simp only [retV]
   all_goals
    have e : i = l.length:=by omega
    subst e
    rw [List.take_length] at c2
    rw [← c2]
end

end Go.AM.Sk
