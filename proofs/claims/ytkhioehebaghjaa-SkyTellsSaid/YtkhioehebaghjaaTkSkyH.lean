/- A part of a proof about the given program: what its name says. No premise beyond the statements'. -/
import Derived.Test.YtkhioehebaghjaaTkSkyG
set_option linter.unusedSimpArgs false
set_option linter.unusedVariables false
/- Steps that end ahead of a place are taken out: where the first one is. -/
namespace Go.AM.Sk
open Go.AM
open Go.AM.SkyP
def fstD (x : Int) : List St → Nat → Int
  | [],_ => -1
  | s :: r,i => if s.x1 ≤ x then (i : Int) else fstD x r (i + 1)
theorem fstD_step {x : Int} {l : List St} {i : Nat} (h : i < l.length) : fstD x (l.drop i) i = if l[i].x1 ≤ x then (i : Int) else fstD x (l.drop (i + 1)) (i + 1):=by
  rw [List.drop_eq_getElem_cons h]; rfl
def stays (x : Int) (s : St) : Bool:=decide (x < s.x1)
theorem fstD_spec (x : Int) : ∀ (l : List St) (k : Nat),(fstD x l k = -1 ∧ l.filter (stays x) = l) ∨ ∃ (i : Nat) (h : i < l.length),fstD x l k = (k + i : Nat) ∧ l[i].x1 ≤ x ∧ (l.take (i + 1)).filter (stays x) = l.take i
  | [],k => .inl ⟨rfl,rfl⟩
  | s :: r,k => by
    by_cases hs : s.x1 ≤ x
    · have hk : stays x s = false:=by simp only [stays,decide_eq_false_iff_not]; omega
      refine .inr ⟨0,by simp,by simp [fstD,hs],hs,by simp [hk]⟩
    · have hk : stays x s = true:=by simp only [stays,decide_eq_true_eq]; omega
      rcases fstD_spec x r (k + 1) with ⟨h1,h2⟩ | ⟨i,hi,h1,h2,h3⟩
      · exact .inl ⟨by simp [fstD,hs,h1],by simp [hk,h2]⟩
      · refine .inr ⟨i + 1,by simpa using hi,?_,by simpa using h2,?_⟩
        · simp only [fstD,if_neg hs,h1]
          congr 1; omega
        · simp [hk,h3]

section
attribute [local simp ↓] List.map_nil List.map_cons
attribute [local simp] m_ o_ g_ stepsS stepS gd opEff appEff LArg.ev app_val app_new app_upd app_kill putV ins_e0 ins_e1 get_e0 get_e1 binV binI grd bnd ldCells AV.cells AV.scalar AV.known setAt fillL chunks elems mxI mnI del Nat.add_assoc nlt_self nne_self nne_self' List.take_of_length_le decT decF wrap_i64 stepsD stepD ST.as dEffF LOp.cls softOK LOp.args LOp.rds AV.ids appD_val appD_new appD_upd appD_kill AS.flush delAll
set_option maxHeartbeats 2000000 in
set_option maxRecDepth 20000 in
theorem indexd_ok (l : List St) (x : Int) (hl : l.length < 1000000) : ACalls Go.Proofs.Try.prog 56 [.tsl 3 (l.map St.e),.fn 46 [] [.cptr [.int .i64 x]]] [] 0 (fun r _ _ => r = .int .i64 (fstD x l 0)):=by
 refine pure_body ok56 rfl ?_
 simp only [parV]
 refine LWP_seq ?_
 apply LWP_run
 · repeat (simp -implicitDefEqProofs (disch:=omega) [St.e]; try simp only [gz])
   rfl
 refine LWP_seq ?_
 refine LWP_seq ?_
 apply LWP_run
 · repeat (simp -implicitDefEqProofs (disch:=omega) [St.e]; try simp only [gz])
   rfl
 refine LWP_block ?_
 refine LWP_for (fun (i : Nat) => [(0,.tsl 3 (l.map St.e)),(1,.fn 46 [] [.cptr [.int .i64 x]]),(7,.int .i64 (l.length : Nat)),(8,.int .i64 (i : Nat))]) (fun (i : Nat) => []) (fun (i : Nat) n => i ≤ l.length ∧ fstD x l 0 = fstD x (l.drop i) i) (fun (i : Nat) => l.length - i) 0 ?_ ?_ ?_ ?_
 · simp (disch:=omega) [leV,get_e0,get_e1,wkV.refl,wkV_int,decT,decF,St.e]
 · simp [leH,get_e0,get_e1]
 · exact ⟨Nat.zero_le _,by simp⟩
 rintro i n ⟨c1,c2⟩
 try simp only at *
 refine LWP_seq ?_
 apply LWP_run
 · repeat (simp -implicitDefEqProofs (disch:=omega) [St.e]; try simp only [gz])
   rfl
 refine LWP_seq ?_
 refine LWP_cond rfl (fun h2 => ?_) (fun h2 => ?_)
 ·try simp only [bn,reduceCtorEq] at h2
  all_goals try (exfalso; omega)
  all_goals
   refine LWP_skip ?_
   refine LWP_seq ?_
   refine LWP_block ?_
   refine LWP_seq ?_
   apply LWP_run
   · repeat (simp -implicitDefEqProofs (disch:=omega) [St.e,h2]; try simp only [gz])
     rfl
   refine LWP_seq ?_
   refine LWP_reg fun K hK => ?_
   apply rgnS_pre 5
   · repeat (simp -implicitDefEqProofs (disch:=omega) [St.e,h2]; try simp only [gz])
     rfl
   refine rgnS_call (lit2_ok (l[i]'(by omega)) x) rfl rfl (by simp [pureL,pureR,AV.pure,St.e,St.e]) (by simp [pureL,pureR,AV.pure,St.e,St.e]) (by simp [gd,get_e0,get_e1,LArg.ev,h2]) ?_
   refine hK _ ?_; clear hK
   refine LWP_cond rfl (fun h3 => ?_) (fun h3 => ?_)
   ·try simp only [bn,reduceCtorEq] at h3
    all_goals try (exfalso; omega)
    all_goals
     refine LWP_seq ?_
     apply LWP_run
     · repeat (simp -implicitDefEqProofs (disch:=omega) [St.e,h2,h3]; try simp only [gz])
       rfl
     -- leaf 0
     refine LWP_ret ⟨_,rfl,?_⟩
     refine wkV_of_eq ?_
     simp only [retV]
     all_goals
      first
        | (rw [c2,fstD_step (by omega),if_pos (by omega)]; done)
        | (rw [c2,List.drop_eq_nil_of_le (by omega)]; rfl)
   ·try simp only [bn,reduceCtorEq] at h3
    all_goals try (exfalso; omega)
    all_goals
     refine LWP_skip ?_
     apply LWP_run
     · repeat (simp -implicitDefEqProofs (disch:=omega) [St.e,h2,h3]; try simp only [gz])
       rfl
     -- loop 0,round 0
     refine ⟨i + 1,?_,?_,?_,?_⟩
     · exact ⟨by omega,by rw [c2,fstD_step (by omega),if_neg (by omega)]⟩
     · omega
     · simp (disch:=omega) [leV,get_e0,get_e1,wkV.refl,wkV_int,wrap_i64,decT,decF,St.e,h2,h3]
     · simp [leH,get_e0,get_e1,h2,h3]
 ·try simp only [bn,reduceCtorEq] at h2
  all_goals try (exfalso; omega)
  all_goals
   refine LWP_exit ?_
   refine LWP_seq ?_
   apply LWP_run
   · repeat (simp -implicitDefEqProofs (disch:=omega) [St.e,h2]; try simp only [gz])
     rfl
   -- leaf 1
   refine LWP_ret ⟨_,rfl,?_⟩
   refine wkV_of_eq ?_
   simp only [retV]
   all_goals
    first
      | (rw [c2,fstD_step (by omega),if_pos (by omega)]; done)
      | (rw [c2,List.drop_eq_nil_of_le (by omega)]; rfl)
end

end Go.AM.Sk
