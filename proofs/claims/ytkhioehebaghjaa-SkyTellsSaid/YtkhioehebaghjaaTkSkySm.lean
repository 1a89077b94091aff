/- A part of a proof about the given program: what its name says. No premise beyond the statements'. -/
import Derived.Test.YtkhioehebaghjaaTkSkyM
set_option linter.unusedSimpArgs false
set_option linter.unusedVariables false
/- Are two skylines the same? -/
namespace Go.AM.Sk
open Go.AM
open Go.AM.SkyP
open Classical in
noncomputable def sameS (a b : List St) : Bool:=decide (a = b)
open Classical in
theorem same_no {a b : List St} {i : Nat} (hi : i < a.length) (hj : i < b.length) (h : ¬ (a[i].x0 = b[i].x0 ∧ a[i].x1 = b[i].x1 ∧ a[i].h = b[i].h)) : sameS a b = false:=by
  refine decide_eq_false fun e => h ?_
  subst e
  exact ⟨rfl,rfl,rfl⟩
open Classical in
theorem same_len {a b : List St} (h : ¬ a.length = b.length) : sameS a b = false:=decide_eq_false fun e => h (by rw [e])
theorem st_ext {a b : St} (h : a.x0 = b.x0 ∧ a.x1 = b.x1 ∧ a.h = b.h) : a = b:=by
  cases a; cases b
  simp only at h
  obtain ⟨rfl,rfl,rfl⟩:=h
  rfl
open Classical in
theorem same_all {a b : List St} (h : a.length = b.length) (h2 : ∀ (k : Nat) (h1 : k < a.length) (h2 : k < b.length),a[k] = b[k]) : sameS a b = true:=decide_eq_true (List.ext_getElem h h2)

section
attribute [local simp ↓] List.map_nil List.map_cons
attribute [local simp] m_ o_ g_ stepsS stepS gd opEff appEff LArg.ev app_val app_new app_upd app_kill putV ins_e0 ins_e1 get_e0 get_e1 binV binI grd bnd ldCells AV.cells AV.scalar AV.known setAt fillL chunks elems mxI mnI del Nat.add_assoc nlt_self nne_self nne_self' List.take_of_length_le decT decF wrap_i64 stepsD stepD ST.as dEffF LOp.cls softOK LOp.args LOp.rds AV.ids appD_val appD_new appD_upd appD_kill AS.flush delAll
set_option maxHeartbeats 2000000 in
set_option maxRecDepth 20000 in
theorem same_ok (a b : List St) (la : a.length < 1000000) (lb : b.length < 1000000) : ACalls Go.Proofs.Try.prog 13 [.tsl 3 (a.map St.e),.tsl 3 (b.map St.e)] [] 0 (fun r _ _ => r = .bool (sameS a b)):=by
 refine pure_body ok13 rfl ?_
 simp only [parV]
 refine LWP_seq ?_
 apply LWP_run
 · repeat (simp -implicitDefEqProofs (disch:=omega) [St.e,eq3]; try simp only [gz])
   rfl
 refine LWP_seq ?_
 refine LWP_seq ?_
 apply LWP_run
 · repeat (simp -implicitDefEqProofs (disch:=omega) [St.e,eq3]; try simp only [gz])
   rfl
 refine LWP_cond rfl (fun h1 => ?_) (fun h1 => ?_)
 ·try simp only [bn,reduceCtorEq] at h1
  all_goals try (exfalso; omega)
  all_goals
   refine LWP_seq ?_
   apply LWP_run
   · repeat (simp -implicitDefEqProofs (disch:=omega) [St.e,eq3,h1]; try simp only [gz])
     rfl
   -- leaf 0
   refine LWP_ret ⟨_,rfl,?_⟩
   refine wkV_of_eq ?_
   simp only [retV]
   all_goals
    first
      | (rw [same_len (by omega)]; done)
      | (rw [same_no (i:=i) (by omega) (by omega) (fun ⟨p1,p2,p3⟩ => by simp_all)]; done)
      | (rw [same_all (by omega) (fun k k1 k2 => c2 k k1 k2 (by omega))]; done)
      | trace_state
 ·try simp only [bn,reduceCtorEq] at h1
  all_goals try (exfalso; omega)
  all_goals
   refine LWP_skip ?_
   refine LWP_seq ?_
   refine LWP_seq ?_
   apply LWP_run
   · repeat (simp -implicitDefEqProofs (disch:=omega) [St.e,eq3,h1]; try simp only [gz])
     rfl
   refine LWP_block ?_
   refine LWP_for (fun (i : Nat) => [(0,.tsl 3 (a.map St.e)),(1,.tsl 3 (b.map St.e)),(5,.int .i64 (i : Nat))]) (fun (i : Nat) => []) (fun (i : Nat) n => i ≤ a.length ∧ ∀ (k : Nat) (h1 : k < a.length) (h2 : k < b.length),k < i → a[k] = b[k]) (fun (i : Nat) => a.length - i) 0 ?_ ?_ ?_ ?_
   · simp (disch:=omega) [leV,get_e0,get_e1,wkV.refl,wkV_int,decT,decF,St.e,eq3,h1]
   · simp [leH,get_e0,get_e1,h1]
   · exact ⟨Nat.zero_le _,fun k _ _ h => absurd h (Nat.not_lt_zero _)⟩
   rintro i n ⟨c1,c2⟩
   try simp only at *
   refine LWP_seq ?_
   refine LWP_seq ?_
   apply LWP_run
   · repeat (simp -implicitDefEqProofs (disch:=omega) [St.e,eq3,h1]; try simp only [gz])
     rfl
   refine LWP_cond rfl (fun h3 => ?_) (fun h3 => ?_)
   ·try simp only [bn,reduceCtorEq] at h3
    all_goals try (exfalso; omega)
    all_goals
     refine LWP_skip ?_
     refine LWP_seq ?_
     refine LWP_block ?_
     refine LWP_seq ?_
     apply LWP_runD
     · repeat (simp -implicitDefEqProofs (disch:=omega) [St.e,eq3,h1,h3]; try simp only [gz])
       rfl
     · simp [AS.fin,delAll,del,Nat.add_assoc]; rfl
     refine LWP_cond rfl (fun h4 => ?_) (fun h4 => ?_)
     ·try simp only [bn,reduceCtorEq] at h4
      all_goals try (exfalso; omega)
      all_goals
       refine LWP_seq ?_
       apply LWP_run
       · repeat (simp -implicitDefEqProofs (disch:=omega) [St.e,eq3,h1,h3,h4]; try simp only [gz])
         rfl
       -- leaf 1
       refine LWP_ret ⟨_,rfl,?_⟩
       refine wkV_of_eq ?_
       simp only [retV]
       all_goals
        first
          | (rw [same_len (by omega)]; done)
          | (rw [same_no (i:=i) (by omega) (by omega) (fun ⟨p1,p2,p3⟩ => by simp_all)]; done)
          | (rw [same_all (by omega) (fun k k1 k2 => c2 k k1 k2 (by omega))]; done)
          | trace_state
     ·try simp only [bn,reduceCtorEq] at h4
      all_goals try (exfalso; omega)
      all_goals
       refine LWP_skip ?_
       apply LWP_run
       · repeat (simp -implicitDefEqProofs (disch:=omega) [St.e,eq3,h1,h3,h4]; try simp only [gz])
         rfl
       -- loop 0,round 0
       refine ⟨i + 1,?_,?_,?_,?_⟩
       · refine ⟨by omega,fun k k1 k2 hk => ?_⟩
         rcases Nat.lt_or_ge k i with q | q
         · exact c2 k k1 k2 q
         · have e : k = i:=by omega
           subst e
           refine st_ext ?_
           simp_all
       · omega
       · simp (disch:=omega) [leV,get_e0,get_e1,wkV.refl,wkV_int,wrap_i64,decT,decF,St.e,eq3,h1,h3,h4]
       · simp [leH,get_e0,get_e1,h1,h3,h4]
   ·try simp only [bn,reduceCtorEq] at h3
    all_goals try (exfalso; omega)
    all_goals
     refine LWP_exit ?_
     refine LWP_seq ?_
     apply LWP_run
     · repeat (simp -implicitDefEqProofs (disch:=omega) [St.e,eq3,h1,h3]; try simp only [gz])
       rfl
     -- leaf 2
     refine LWP_ret ⟨_,rfl,?_⟩
     refine wkV_of_eq ?_
     simp only [retV]
     all_goals
      first
        | (rw [same_len (by omega)]; done)
        | (rw [same_no (i:=i) (by omega) (by omega) (fun ⟨p1,p2,p3⟩ => by simp_all)]; done)
        | (rw [same_all (by omega) (fun k k1 k2 => c2 k k1 k2 (by omega))]; done)
        | trace_state
end

end Go.AM.Sk
