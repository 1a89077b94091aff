/- A part of a proof about the given program: what its name says. No premise beyond the statements'. -/
import Derived.Test.YtkhioehebaghjaaTkCode
import Derived.Test.YtkhioehebaghjaaGD
import Derived.Test.YtkhioehebaghjaaTkSkyP
set_option linter.unusedSimpArgs false
set_option linter.unusedVariables false
/- Skylines: which steps may be. -/
namespace Go.AM.Sk
open Go.AM
open Go.AM.SkyP
def _root_.Go.AM.SkyP.St.e (s : St) : List AV:=[.int .i64 s.x0,.int .i64 s.x1,.int .i64 s.h]
theorem pureR_st (l : List St) : pureR (l.map St.e) = true:=by
  induction l with
  | nil => simp [pureR]
  | cons b r ih => simp [pureR,St.e,pureL,AV.pure,ih]
theorem beqF {a b : Int} (h : a ≠ b) : (a == b) = false:=by simp [h]
theorem beqT {a b : Int} (h : a = b) : (a == b) = true:=by simp [h]
def okF (x : Int) : Bool:=decide (-1099511627776 ≤ x ∧ x ≤ 1099511627776)
def sndB (s : St) : Bool:=okF s.x0 && okF s.x1 && okF s.h && decide (s.x0 < s.x1)
def folB (a b : St) : Bool:=if b.x0 = a.x1 then decide (b.h ≠ a.h) else decide (b.x0 > a.x1)
def okAt (l : List St) (i : Nat) (h : i < l.length) : Prop:=sndB l[i] = true ∧ (0 < i → folB (l[i - 1]'(by omega)) l[i] = true)
open Classical in
noncomputable def chkB (l : List St) : Bool:=decide (l.length ≤ 8192 ∧ ∀ (i : Nat) (h : i < l.length),okAt l i h)
open Classical in
theorem chkB_yes {l : List St} (h1 : l.length ≤ 8192) (h2 : ∀ (i : Nat) (h : i < l.length),okAt l i h) : chkB l = true:=by
  unfold chkB; exact decide_eq_true ⟨h1,h2⟩
open Classical in
theorem chkB_big {l : List St} (h1 : 8192 < l.length) : chkB l = false:=by
  unfold chkB; exact decide_eq_false (fun h => by omega)
open Classical in
theorem chkB_snd {l : List St} {i : Nat} (h : i < l.length) (h2 : sndB l[i] = false) : chkB l = false:=by
  unfold chkB; refine decide_eq_false (fun q => ?_)
  have:=(q.2 i h).1
  rw [h2] at this; cases this
open Classical in
theorem chkB_fol {l : List St} {i : Nat} (h : i < l.length) (h0 : 0 < i) (h2 : folB (l[i - 1]'(by omega)) l[i] = false) : chkB l = false:=by
  unfold chkB; refine decide_eq_false (fun q => ?_)
  have:=(q.2 i h).2 h0
  rw [h2] at this; cases this

section
attribute [local simp ↓] List.map_nil List.map_cons
attribute [local simp] m_ o_ g_ stepsS stepS gd opEff appEff LArg.ev app_val app_new app_upd app_kill putV ins_e0 ins_e1 get_e0 get_e1 binV binI grd bnd ldCells AV.cells AV.scalar AV.known setAt fillL chunks elems mxI mnI del Nat.add_assoc nlt_self nne_self nne_self' List.take_of_length_le decT decF wrap_i64 stepsD stepD ST.as dEffF LOp.cls softOK LOp.args LOp.rds AV.ids appD_val appD_new appD_upd appD_kill AS.flush delAll
set_option maxHeartbeats 2000000 in
set_option maxRecDepth 20000 in
theorem fixok_ok (x : Int)  : ACalls Go.Proofs.Try.prog 31 [.int .i64 x] [] 0 (fun r _ _ => r = .bool (okF x)):=by
 refine pure_body ok31 rfl ?_
 simp only [parV]
 refine LWP_seq ?_
 apply LWP_run
 · repeat (simp -implicitDefEqProofs (disch:=omega) []; try simp only [gz])
   rfl
 refine LWP_seq ?_
 refine LWP_reg fun K hK => ?_
 apply rgnS_pre 3
 · repeat (simp -implicitDefEqProofs (disch:=omega) []; try simp only [gz])
   rfl
 refine rgnS_guard (x:=5) (b:=true) rfl (fun h1 => ?_) (fun h1 => ?_)
 ·try simp only [bn,reduceCtorEq] at h1
  all_goals try (exfalso; omega)
  all_goals
   apply rgnS_pre 4
   · repeat (simp -implicitDefEqProofs (disch:=omega) [h1]; try simp only [gz])
     rfl
   refine hK _ ?_; clear hK
   -- leaf 0
   refine LWP_ret ⟨_,rfl,?_⟩
   refine wkV_of_eq ?_
   simp only [retV]
   all_goals
    simp only [okF]
    congr 1
    rw [Bool.eq_iff_iff]
    simp only [beq_iff_eq,decide_eq_true_eq,Bool.false_eq_true,false_iff,true_iff]
    omega
 ·try simp only [bn,reduceCtorEq] at h1
  all_goals try (exfalso; omega)
  all_goals
   apply rgnS_pre 3
   · repeat (simp -implicitDefEqProofs (disch:=omega) [h1]; try simp only [gz])
     rfl
   refine hK _ ?_; clear hK
   -- leaf 1
   refine LWP_ret ⟨_,rfl,?_⟩
   refine wkV_of_eq ?_
   simp only [retV]
   all_goals
    simp only [okF]
    congr 1
    rw [Bool.eq_iff_iff]
    simp only [beq_iff_eq,decide_eq_true_eq,Bool.false_eq_true,false_iff,true_iff]
    omega
set_option maxHeartbeats 2000000 in
set_option maxRecDepth 20000 in
theorem sound_ok (s : St)  : ACalls Go.Proofs.Try.prog 32 [.agg s.e] [] 0 (fun r _ _ => r = .bool (sndB s)):=by
 refine pure_body ok32 rfl ?_
 simp only [parV]
 refine LWP_seq ?_
 apply LWP_run
 · repeat (simp -implicitDefEqProofs (disch:=omega) [St.e]; try simp only [gz])
   rfl
 refine LWP_seq ?_
 refine LWP_reg fun K hK => ?_
 apply rgnS_pre 2
 · repeat (simp -implicitDefEqProofs (disch:=omega) [St.e]; try simp only [gz])
   rfl
 refine rgnS_call (fixok_ok s.x0) rfl rfl (by simp [pureL,pureR,AV.pure,St.e]) (by simp [pureL,pureR,AV.pure,St.e]) (by simp [gd,get_e0,get_e1,LArg.ev]) ?_
 apply rgnS_pre 1
 · repeat (simp -implicitDefEqProofs (disch:=omega) [St.e]; try simp only [gz])
   rfl
 refine rgnS_guard (x:=6) (b:=true) rfl (fun h1 => ?_) (fun h1 => ?_)
 ·try simp only [bn,reduceCtorEq] at h1
  all_goals try (exfalso; omega)
  all_goals
   apply rgnS_pre 2
   · repeat (simp -implicitDefEqProofs (disch:=omega) [St.e,h1]; try simp only [gz])
     rfl
   refine rgnS_call (fixok_ok s.x1) rfl rfl (by simp [pureL,pureR,AV.pure,St.e]) (by simp [pureL,pureR,AV.pure,St.e]) (by simp [gd,get_e0,get_e1,LArg.ev,h1]) ?_
   apply rgnS_pre 2
   · repeat (simp -implicitDefEqProofs (disch:=omega) [St.e,h1]; try simp only [gz])
     rfl
   refine rgnS_guard (x:=11) (b:=true) rfl (fun h2 => ?_) (fun h2 => ?_)
   ·try simp only [bn,reduceCtorEq] at h2
    all_goals try (exfalso; omega)
    all_goals
     apply rgnS_pre 2
     · repeat (simp -implicitDefEqProofs (disch:=omega) [St.e,h1,h2]; try simp only [gz])
       rfl
     refine rgnS_call (fixok_ok s.h) rfl rfl (by simp [pureL,pureR,AV.pure,St.e]) (by simp [pureL,pureR,AV.pure,St.e]) (by simp [gd,get_e0,get_e1,LArg.ev,h1,h2]) ?_
     apply rgnS_pre 2
     · repeat (simp -implicitDefEqProofs (disch:=omega) [St.e,h1,h2]; try simp only [gz])
       rfl
     refine rgnS_guard (x:=16) (b:=true) rfl (fun h3 => ?_) (fun h3 => ?_)
     ·try simp only [bn,reduceCtorEq] at h3
      all_goals try (exfalso; omega)
      all_goals
       apply rgnS_pre 7
       · repeat (simp -implicitDefEqProofs (disch:=omega) [St.e,h1,h2,h3]; try simp only [gz])
         rfl
       refine hK _ ?_; clear hK
       -- leaf 0
       refine LWP_ret ⟨_,rfl,?_⟩
       refine wkV_of_eq ?_
       simp only [retV]
       all_goals
        simp_all [sndB]
     ·try simp only [bn,reduceCtorEq] at h3
      all_goals try (exfalso; omega)
      all_goals
       apply rgnS_pre 6
       · repeat (simp -implicitDefEqProofs (disch:=omega) [St.e,h1,h2,h3]; try simp only [gz])
         rfl
       refine hK _ ?_; clear hK
       -- leaf 1
       refine LWP_ret ⟨_,rfl,?_⟩
       refine wkV_of_eq ?_
       simp only [retV]
       all_goals
        simp_all [sndB]
   ·try simp only [bn,reduceCtorEq] at h2
    all_goals try (exfalso; omega)
    all_goals
     apply rgnS_pre 8
     · repeat (simp -implicitDefEqProofs (disch:=omega) [St.e,h1,h2]; try simp only [gz])
       rfl
     apply rgnS_pre 3
     · repeat (simp -implicitDefEqProofs (disch:=omega) [St.e,h1,h2]; try simp only [gz])
       rfl
     refine hK _ ?_; clear hK
     -- leaf 2
     refine LWP_ret ⟨_,rfl,?_⟩
     refine wkV_of_eq ?_
     simp only [retV]
     all_goals
      simp_all [sndB]
 ·try simp only [bn,reduceCtorEq] at h1
  all_goals try (exfalso; omega)
  all_goals
   apply rgnS_pre 8
   · repeat (simp -implicitDefEqProofs (disch:=omega) [St.e,h1]; try simp only [gz])
     rfl
   apply rgnS_pre 8
   · repeat (simp -implicitDefEqProofs (disch:=omega) [St.e,h1]; try simp only [gz])
     rfl
   refine hK _ ?_; clear hK
   -- leaf 3
   refine LWP_ret ⟨_,rfl,?_⟩
   refine wkV_of_eq ?_
   simp only [retV]
   all_goals
    simp_all [sndB]
set_option maxHeartbeats 2000000 in
set_option maxRecDepth 20000 in
theorem follows_ok (a b : St)  : ACalls Go.Proofs.Try.prog 36 [.agg a.e,.agg b.e] [] 0 (fun r _ _ => r = .bool (folB a b)):=by
 refine pure_body ok36 rfl ?_
 simp only [parV]
 refine LWP_seq ?_
 apply LWP_run
 · repeat (simp -implicitDefEqProofs (disch:=omega) [St.e,beqF,beqT]; try simp only [gz])
   rfl
 refine LWP_seq ?_
 refine LWP_seq ?_
 apply LWP_run
 · repeat (simp -implicitDefEqProofs (disch:=omega) [St.e,beqF,beqT]; try simp only [gz])
   rfl
 refine LWP_cond rfl (fun h1 => ?_) (fun h1 => ?_)
 ·try simp only [bn,reduceCtorEq] at h1
  all_goals try (exfalso; omega)
  all_goals
   refine LWP_seq ?_
   apply LWP_run
   · repeat (simp -implicitDefEqProofs (disch:=omega) [St.e,beqF,beqT,h1]; try simp only [gz])
     rfl
   -- leaf 0
   refine LWP_ret ⟨_,rfl,?_⟩
   refine wkV_of_eq ?_
   simp only [retV]
   all_goals
    unfold folB
    rw [if_pos (by omega)]
    by_cases q : b.h = a.h <;> simp [q]
 ·try simp only [bn,reduceCtorEq] at h1
  all_goals try (exfalso; omega)
  all_goals
   refine LWP_skip ?_
   refine LWP_seq ?_
   apply LWP_run
   · repeat (simp -implicitDefEqProofs (disch:=omega) [St.e,beqF,beqT,h1]; try simp only [gz])
     rfl
   -- leaf 1
   refine LWP_ret ⟨_,rfl,?_⟩
   refine wkV_of_eq ?_
   simp only [retV]
   all_goals
    unfold folB
    rw [if_neg (by omega)]
    try simp
set_option maxHeartbeats 2000000 in
set_option maxRecDepth 20000 in
theorem check_ok (l : List St) (hl : l.length < 1000000) : ACalls Go.Proofs.Try.prog 20 [.tsl 3 (l.map St.e)] [] 0 (fun r _ _ => r = .bool (chkB l)):=by
 refine pure_body ok20 rfl ?_
 simp only [parV]
 refine LWP_seq ?_
 apply LWP_run
 · repeat (simp -implicitDefEqProofs (disch:=omega) [St.e]; try simp only [gz])
   rfl
 refine LWP_seq ?_
 refine LWP_seq ?_
 apply LWP_run
 · repeat (simp -implicitDefEqProofs (disch:=omega) [St.e]; try simp only [gz])
   rfl
 refine LWP_cond rfl (fun h1 => ?_) (fun h1 => ?_)
 ·try simp only [bn,reduceCtorEq] at h1
  all_goals try (exfalso; omega)
  all_goals
   refine LWP_seq ?_
   apply LWP_run
   · repeat (simp -implicitDefEqProofs (disch:=omega) [St.e,h1]; try simp only [gz])
     rfl
   -- leaf 0
   refine LWP_ret ⟨_,rfl,?_⟩
   refine wkV_of_eq ?_
   simp only [retV]
   all_goals
    first
      | (rw [chkB_big (by omega)]; done)
      | (rw [chkB_snd (i:=i) (by omega) (by assumption)]; done)
      | (rw [chkB_fol (i:=i) (by omega) (by omega) (by assumption)]; done)
      | (rw [chkB_yes (by omega) (fun j h => c3 j h (by omega))]; done)
 ·try simp only [bn,reduceCtorEq] at h1
  all_goals try (exfalso; omega)
  all_goals
   refine LWP_skip ?_
   refine LWP_seq ?_
   refine LWP_seq ?_
   apply LWP_run
   · repeat (simp -implicitDefEqProofs (disch:=omega) [St.e,h1]; try simp only [gz])
     rfl
   refine LWP_block ?_
   refine LWP_for (fun (i : Nat) => [(0,.tsl 3 (l.map St.e)),(8,.tsl 3 (l.map St.e)),(9,.int .i64 (l.length : Nat)),(10,.int .i64 (i : Nat))]) (fun (i : Nat) => []) (fun (i : Nat) n => i ≤ l.length ∧ l.length ≤ 8192 ∧ ∀ (j : Nat) (h : j < l.length),j < i → okAt l j h) (fun (i : Nat) => l.length - i) 0 ?_ ?_ ?_ ?_
   · simp (disch:=omega) [leV,get_e0,get_e1,wkV.refl,wkV_int,decT,decF,St.e,h1]
   · simp [leH,get_e0,get_e1,h1]
   · exact ⟨by omega,by omega,fun j _ h => by omega⟩
   rintro i n ⟨c1,c2,c3⟩
   try simp only at *
   refine LWP_seq ?_
   apply LWP_run
   · repeat (simp -implicitDefEqProofs (disch:=omega) [St.e,h1]; try simp only [gz])
     rfl
   refine LWP_seq ?_
   refine LWP_cond rfl (fun h3 => ?_) (fun h3 => ?_)
   ·try simp only [bn,reduceCtorEq] at h3
    all_goals try (exfalso; omega)
    all_goals
     refine LWP_skip ?_
     refine LWP_seq ?_
     refine LWP_block ?_
     refine LWP_seq ?_
     apply LWP_run
     · repeat (simp -implicitDefEqProofs (disch:=omega) [St.e,h1,h3]; try simp only [gz])
       rfl
     refine LWP_seq ?_
     refine LWP_regD' fun K hK => ?_
     apply rgnD_pre 1
     · repeat (simp -implicitDefEqProofs (disch:=omega) [St.e,h1,h3]; try simp only [gz])
       rfl
     refine rgnD_call (sound_ok (l[i]'(by omega))) rfl rfl (by simp [pureL,pureR,AV.pure,St.e,St.e]) (by simp [pureL,pureR,AV.pure,St.e,St.e]) (by simp [gd,get_e0,get_e1,LArg.ev,h1,h3]) (by simp (disch:=omega) [St.e]) ?_
     apply rgnD_pre 2
     · repeat (simp -implicitDefEqProofs (disch:=omega) [St.e,h1,h3]; try simp only [gz])
       rfl
     refine rgnD_guard (x:=18) (b:=false) rfl (fun h4 => ?_) (fun h4 => ?_)
     ·try simp only [bn,reduceCtorEq] at h4
      all_goals try (exfalso; omega)
      all_goals
       apply rgnD_pre 3
       · repeat (simp -implicitDefEqProofs (disch:=omega) [St.e,h1,h3,h4]; try simp only [gz])
         rfl
       refine rgnD_guard (x:=21) (b:=true) rfl (fun h5 => ?_) (fun h5 => ?_)
       ·try simp only [bn,reduceCtorEq] at h5
        all_goals try (exfalso; omega)
        all_goals
         apply rgnD_pre 6
         · repeat (simp -implicitDefEqProofs (disch:=omega) [St.e,h1,h3,h4,h5]; try simp only [gz])
           rfl
         refine rgnD_call (follows_ok (l[i - 1]'(by omega)) (l[i]'(by omega))) rfl rfl (by simp [pureL,pureR,AV.pure,St.e,St.e]) (by simp [pureL,pureR,AV.pure,St.e,St.e]) (by simp [gd,get_e0,get_e1,LArg.ev,h1,h3,h4,h5]) (by simp (disch:=omega) [St.e]) ?_
         apply rgnD_pre 3
         · repeat (simp -implicitDefEqProofs (disch:=omega) [St.e,h1,h3,h4,h5]; try simp only [gz])
           rfl
         refine hK _ _ (by simp [AS.fin,delAll,del,Nat.add_assoc]; rfl) ?_; clear hK
         refine LWP_cond rfl (fun h6 => ?_) (fun h6 => ?_)
         ·try simp only [bn,reduceCtorEq] at h6
          all_goals try (exfalso; omega)
          all_goals
           refine LWP_seq ?_
           apply LWP_run
           · repeat (simp -implicitDefEqProofs (disch:=omega) [St.e,h1,h3,h4,h5,h6]; try simp only [gz])
             rfl
           -- leaf 1
           refine LWP_ret ⟨_,rfl,?_⟩
           refine wkV_of_eq ?_
           simp only [retV]
           all_goals
            first
              | (rw [chkB_big (by omega)]; done)
              | (rw [chkB_snd (i:=i) (by omega) (by assumption)]; done)
              | (rw [chkB_fol (i:=i) (by omega) (by omega) (by assumption)]; done)
              | (rw [chkB_yes (by omega) (fun j h => c3 j h (by omega))]; done)
         ·try simp only [bn,reduceCtorEq] at h6
          all_goals try (exfalso; omega)
          all_goals
           refine LWP_skip ?_
           apply LWP_run
           · repeat (simp -implicitDefEqProofs (disch:=omega) [St.e,h1,h3,h4,h5,h6]; try simp only [gz])
             rfl
           -- loop 0,round 0
           refine ⟨i + 1,?_,?_,?_,?_⟩
           · refine ⟨by omega,by omega,fun j h hj => ?_⟩
             rcases Nat.lt_or_ge j i with hq | hq
             · exact c3 j h hq
             · have e : j = i:=by omega
               subst e
               first
                 | exact ⟨by assumption,fun _ => by assumption⟩
                 | exact ⟨by assumption,fun q => absurd q (by omega)⟩
           · omega
           · simp (disch:=omega) [leV,get_e0,get_e1,wkV.refl,wkV_int,wrap_i64,decT,decF,St.e,h1,h3,h4,h5,h6]
           · simp [leH,get_e0,get_e1,h1,h3,h4,h5,h6]
       ·try simp only [bn,reduceCtorEq] at h5
        all_goals try (exfalso; omega)
        all_goals
         apply rgnD_pre 8
         · repeat (simp -implicitDefEqProofs (disch:=omega) [St.e,h1,h3,h4,h5]; try simp only [gz])
           rfl
         apply rgnD_pre 1
         · repeat (simp -implicitDefEqProofs (disch:=omega) [St.e,h1,h3,h4,h5]; try simp only [gz])
           rfl
         refine hK _ _ (by simp [AS.fin,delAll,del,Nat.add_assoc]; rfl) ?_; clear hK
         refine LWP_cond (t:=false) (by simp [LArg.ev,get_e0,get_e1,h1,h3,h4,h5]) (fun h => by cases h) (fun _ => ?_)
         refine LWP_skip ?_
         apply LWP_run
         · repeat (simp -implicitDefEqProofs (disch:=omega) [St.e,h1,h3,h4,h5]; try simp only [gz])
           rfl
         -- loop 0,round 1
         refine ⟨i + 1,?_,?_,?_,?_⟩
         · refine ⟨by omega,by omega,fun j h hj => ?_⟩
           rcases Nat.lt_or_ge j i with hq | hq
           · exact c3 j h hq
           · have e : j = i:=by omega
             subst e
             first
               | exact ⟨by assumption,fun _ => by assumption⟩
               | exact ⟨by assumption,fun q => absurd q (by omega)⟩
         · omega
         · simp (disch:=omega) [leV,get_e0,get_e1,wkV.refl,wkV_int,wrap_i64,decT,decF,St.e,h1,h3,h4,h5]
         · simp [leH,get_e0,get_e1,h1,h3,h4,h5]
     ·try simp only [bn,reduceCtorEq] at h4
      all_goals try (exfalso; omega)
      all_goals
       apply rgnD_pre 8
       · repeat (simp -implicitDefEqProofs (disch:=omega) [St.e,h1,h3,h4]; try simp only [gz])
         rfl
       apply rgnD_pre 4
       · repeat (simp -implicitDefEqProofs (disch:=omega) [St.e,h1,h3,h4]; try simp only [gz])
         rfl
       refine hK _ _ (by simp [AS.fin,delAll,del,Nat.add_assoc]; rfl) ?_; clear hK
       refine LWP_cond (t:=true) (by simp [LArg.ev,get_e0,get_e1,h1,h3,h4]) (fun _ => ?_) (fun h => by cases h)
       refine LWP_seq ?_
       apply LWP_run
       · repeat (simp -implicitDefEqProofs (disch:=omega) [St.e,h1,h3,h4]; try simp only [gz])
         rfl
       -- leaf 2
       refine LWP_ret ⟨_,rfl,?_⟩
       refine wkV_of_eq ?_
       simp only [retV]
       all_goals
        first
          | (rw [chkB_big (by omega)]; done)
          | (rw [chkB_snd (i:=i) (by omega) (by assumption)]; done)
          | (rw [chkB_fol (i:=i) (by omega) (by omega) (by assumption)]; done)
          | (rw [chkB_yes (by omega) (fun j h => c3 j h (by omega))]; done)
   ·try simp only [bn,reduceCtorEq] at h3
    all_goals try (exfalso; omega)
    all_goals
     refine LWP_exit ?_
     refine LWP_seq ?_
     apply LWP_run
     · repeat (simp -implicitDefEqProofs (disch:=omega) [St.e,h1,h3]; try simp only [gz])
       rfl
     -- leaf 3
     refine LWP_ret ⟨_,rfl,?_⟩
     refine wkV_of_eq ?_
     simp only [retV]
     all_goals
      first
        | (rw [chkB_big (by omega)]; done)
        | (rw [chkB_snd (i:=i) (by omega) (by assumption)]; done)
        | (rw [chkB_fol (i:=i) (by omega) (by omega) (by assumption)]; done)
        | (rw [chkB_yes (by omega) (fun j h => c3 j h (by omega))]; done)
end

end Go.AM.Sk
