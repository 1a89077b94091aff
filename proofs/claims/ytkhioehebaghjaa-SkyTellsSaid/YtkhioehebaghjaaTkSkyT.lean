/- A part of a proof about the given program: what its name says. No premise beyond the statements'. -/
import Derived.Test.YtkhioehebaghjaaTkSkyR
import Derived.Test.YtkhioehebaghjaaTkSkyB0
set_option linter.unusedSimpArgs false
set_option linter.unusedVariables false
/- How high a skyline is at a place. -/
namespace Go.AM.Sk
open Go.AM
open Go.AM.SkyP
def inS (x : Int) (s : St) : Bool:=decide (s.x0 ≤ x) && decide (x < s.x1)
def atF (l : List St) (x : Int) : Int × Bool:=match l.find? (inS x) with
  | some s => (s.h,true)
  | none => (0,false)
noncomputable def atV (l : List St) (x : Int) : Int × Bool:=if chkB l = true then atF l x else (0,false)
def cmpAt (s : St) (x : Int) : Int:=if s.x1 ≤ x then -1 else if x < s.x0 then 1 else 0
theorem atF_cons (s : St) (r : List St) (x : Int) : atF (s :: r) x = if inS x s = true then (s.h,true) else atF r x:=by
  simp only [atF,List.find?_cons]
  cases h : inS x s <;> simp
theorem atF_none {r : List St} {x : Int} (h : ∀ t ∈ r,inS x t = false) : atF r x = (0,false):=by
  have : r.find? (inS x) = none:=by
    rw [List.find?_eq_none]
    intro t ht
    rw [h t ht]; simp
  rw [atF,this]
theorem good_of : ∀ (l : List St),(∀ (i : Nat) (h : i < l.length),l[i].x0 < l[i].x1) → (∀ (i : Nat) (h : i + 1 < l.length),fol l[i] l[i + 1]) → good l
  | [],_,_ => trivial
  | [a],h,_ => h 0 (by simp)
  | a :: b :: r,h1,h2 => ⟨h1 0 (by simp),h2 0 (by simp),good_of (b :: r) (fun i h => h1 (i + 1) (by simpa using h)) (fun i h => h2 (i + 1) (by simpa using h))⟩
theorem folB_fol (a b : St) : folB a b = true ↔ fol a b:=by
  unfold folB fol
  split
  · rw [decide_eq_true_eq]
    constructor
    · intro h; exact .inr ⟨by omega,fun e => h e.symm⟩
    · rintro (h | h)
      · omega
      · exact fun e => h.2 e.symm
  · rw [decide_eq_true_eq]
    constructor
    · intro h; exact .inl (by omega)
    · rintro (h | h)
      · omega
      · omega
theorem chk_good {l : List St} (h : chkB l = true) : good l:=by
  refine good_of l (fun i hi => (snd_h (chk_okAt h i hi).1).2) fun i hi => ?_
  have:=(chk_okAt h (i + 1) hi).2 (by omega)
  exact (folB_fol _ _).1 this
theorem at_pos (x : Int) : ∀ (l : List St),good l → ∃ pos,pos ≤ l.length ∧ (∀ (k : Nat) (h : k < l.length),k < pos ↔ l[k].x1 ≤ x) ∧ ((∃ (h : pos < l.length),l[pos].x0 ≤ x ∧ atF l x = (l[pos].h,true)) ∨ ((∀ (h : pos < l.length),x < l[pos].x0) ∧ atF l x = (0,false)))
  | [],_ => ⟨0,Nat.le_refl _,fun k h => absurd h (by simp),.inr ⟨fun h => absurd h (by simp),rfl⟩⟩
  | s :: r,hg => by
    obtain ⟨g1,g2,g3⟩:=good_cons.1 hg
    by_cases hs : s.x1 ≤ x
    · obtain ⟨pos,h1,h2,h3⟩:=at_pos x r g3
      have hin : inS x s = false:=by simp only [inS,Bool.and_eq_false_iff,decide_eq_false_iff_not]; exact .inr (by omega)
      refine ⟨pos + 1,by simpa using h1,fun k h => ?_,?_⟩
      · cases k with
        | zero => simpa using hs
        | succ k => simpa using h2 k (by simpa using h)
      · rw [atF_cons,hin]
        rcases h3 with ⟨h,q1,q2⟩ | ⟨q1,q2⟩
        · exact .inl ⟨by simpa using h,by simpa using q1,by simpa using q2⟩
        · exact .inr ⟨fun h => by simpa using q1 (by simpa using h),by simpa using q2⟩
    · refine ⟨0,Nat.zero_le _,fun k h => ?_,?_⟩
      · refine ⟨fun q => absurd q (Nat.not_lt_zero _),fun q => ?_⟩
        exfalso
        cases k with
        | zero => exact hs (by simpa using q)
        | succ k =>
          simp only [List.getElem_cons_succ] at q
          have hk : k < r.length:=by simpa using h
          have h1:=(g2 _ (List.getElem_mem hk)).1
          have h2:=good_pos g3 _ (List.getElem_mem hk)
          omega
      · by_cases h0 : s.x0 ≤ x
        · refine .inl ⟨by simp,by simpa using h0,?_⟩
          rw [atF_cons,if_pos (by simp only [inS,Bool.and_eq_true,decide_eq_true_eq]; omega)]
          simp
        · refine .inr ⟨fun _ => by simp only [List.getElem_cons_zero]; omega,?_⟩
          refine atF_none fun t ht => ?_
          simp only [inS,Bool.and_eq_false_iff,decide_eq_false_iff_not]
          left
          rcases List.mem_cons.1 ht with rfl | ht
          · exact h0
          · have:=(g2 t ht).1; omega
theorem half20 (i j : Nat) (h : i + j < 200000) : (IntKind.wrap .u64 ((i : Int) + (j : Int))).fdiv (2 ^ min 1 (IntKind.bits .u64)) = (((i + j) / 2 : Nat) : Int):=by
  have e1 : IntKind.wrap .u64 ((i : Int) + (j : Int)) = ((i + j : Nat) : Int):=by
    simp [IntKind.wrap,IntKind.bits,IntKind.signed]
    omega
  rw [e1]
  have e2 : ((2 : Int) ^ min 1 (IntKind.bits .u64)) = 2:=rfl
  rw [e2,Int.fdiv_eq_ediv_of_nonneg _ (by omega)]
  rfl
theorem cmpAt_neg {s : St} {x : Int} : cmpAt s x < 0 ↔ s.x1 ≤ x:=by
  unfold cmpAt
  (repeat' split) <;> omega

section
attribute [local simp ↓] List.map_nil List.map_cons
attribute [local simp] m_ o_ g_ stepsS stepS gd opEff appEff LArg.ev app_val app_new app_upd app_kill putV ins_e0 ins_e1 get_e0 get_e1 binV binI grd bnd ldCells AV.cells AV.scalar AV.known setAt fillL chunks elems mxI mnI del Nat.add_assoc nlt_self nne_self nne_self' List.take_of_length_le decT decF wrap_i64 stepsD stepD ST.as dEffF LOp.cls softOK LOp.args LOp.rds AV.ids appD_val appD_new appD_upd appD_kill AS.flush delAll
set_option maxHeartbeats 2000000 in
set_option maxRecDepth 20000 in
theorem at1_ok (s : St) (x : Int)  : ACalls Go.Proofs.Try.prog 35 [.agg s.e,.int .i64 x] [] 0 (fun r _ _ => r = .int .i64 (cmpAt s x)):=by
 refine pure_body ok35 rfl ?_
 simp only [parV]
 refine LWP_seq ?_
 apply LWP_run
 · repeat (simp -implicitDefEqProofs (disch:=omega) [St.e]; try simp only [gz])
   rfl
 refine LWP_seq ?_
 refine LWP_block ?_
 refine LWP_seq ?_
 apply LWP_run
 · repeat (simp -implicitDefEqProofs (disch:=omega) [St.e]; try simp only [gz])
   rfl
 refine LWP_cond rfl (fun h1 => ?_) (fun h1 => ?_)
 ·try simp only [bn,reduceCtorEq] at h1
  all_goals try (exfalso; omega)
  all_goals
   refine LWP_seq ?_
   apply LWP_run
   · repeat (simp -implicitDefEqProofs (disch:=omega) [St.e,h1]; try simp only [gz])
     rfl
   -- leaf 0
   refine LWP_ret ⟨_,rfl,?_⟩
   refine wkV_of_eq ?_
   simp only [retV]
   all_goals
    unfold cmpAt
    (repeat' split) <;> first | rfl | omega
 ·try simp only [bn,reduceCtorEq] at h1
  all_goals try (exfalso; omega)
  all_goals
   refine LWP_seq ?_
   apply LWP_run
   · repeat (simp -implicitDefEqProofs (disch:=omega) [St.e,h1]; try simp only [gz])
     rfl
   refine LWP_cond rfl (fun h2 => ?_) (fun h2 => ?_)
   ·try simp only [bn,reduceCtorEq] at h2
    all_goals try (exfalso; omega)
    all_goals
     refine LWP_seq ?_
     apply LWP_run
     · repeat (simp -implicitDefEqProofs (disch:=omega) [St.e,h1,h2]; try simp only [gz])
       rfl
     -- leaf 1
     refine LWP_ret ⟨_,rfl,?_⟩
     refine wkV_of_eq ?_
     simp only [retV]
     all_goals
      unfold cmpAt
      (repeat' split) <;> first | rfl | omega
   ·try simp only [bn,reduceCtorEq] at h2
    all_goals try (exfalso; omega)
    all_goals
     refine LWP_skip ?_
     refine LWP_seq ?_
     apply LWP_run
     · repeat (simp -implicitDefEqProofs (disch:=omega) [St.e,h1,h2]; try simp only [gz])
       rfl
     -- leaf 2
     refine LWP_ret ⟨_,rfl,?_⟩
     refine wkV_of_eq ?_
     simp only [retV]
     all_goals
      unfold cmpAt
      (repeat' split) <;> first | rfl | omega
set_option maxHeartbeats 2000000 in
set_option maxRecDepth 20000 in
theorem bss_ok (l : List St) (x : Int) (pos : Nat) (hl : l.length < 90000) (hp : pos ≤ l.length) (hs : ∀ (k : Nat) (h : k < l.length),k < pos ↔ l[k].x1 ≤ x) : ACalls Go.Proofs.Try.prog 34 [.tsl 3 (l.map St.e),.int .i64 x,.fn 35 [] []] [] 0 (fun r _ _ => r = .tup [.int .i64 (pos : Nat),.bool (decide (∃ (h : pos < l.length),l[pos].x0 ≤ x))]):=by
 refine pure_body ok34 rfl ?_
 simp only [parV]
 refine LWP_seq ?_
 apply LWP_run
 · repeat (simp -implicitDefEqProofs (disch:=omega) [St.e,half20]; try simp only [gz])
   rfl
 refine LWP_seq ?_
 apply LWP_run
 · repeat (simp -implicitDefEqProofs (disch:=omega) [St.e,half20]; try simp only [gz])
   rfl
 refine LWP_seq ?_
 apply LWP_run
 · repeat (simp -implicitDefEqProofs (disch:=omega) [St.e,half20]; try simp only [gz])
   rfl
 refine LWP_seq ?_
 refine LWP_block ?_
 refine LWP_for (fun (p : Nat × Nat) => [(0,.tsl 3 (l.map St.e)),(1,.int .i64 x),(2,.fn 35 [] []),(8,.int .i64 (l.length : Nat)),(9,.int .i64 (p.1 : Nat)),(10,.int .i64 (p.2 : Nat))]) (fun (p : Nat × Nat) => []) (fun (p : Nat × Nat) n => p.1 ≤ pos ∧ pos ≤ p.2 ∧ p.2 ≤ l.length) (fun (p : Nat × Nat) => p.2 - p.1) (0,l.length) ?_ ?_ ?_ ?_
 · simp (disch:=omega) [leV,get_e0,get_e1,wkV.refl,wkV_int,decT,decF,St.e,half20]
 · simp [leH,get_e0,get_e1]
 · exact ⟨by omega,by omega,by omega⟩
 rintro ⟨i,j⟩ n ⟨c1,c2,c3⟩
 simp only at c1 c2 c3
 refine LWP_seq ?_
 refine LWP_seq ?_
 apply LWP_run
 · repeat (simp -implicitDefEqProofs (disch:=omega) [St.e,half20]; try simp only [gz])
   rfl
 refine LWP_cond rfl (fun h2 => ?_) (fun h2 => ?_)
 ·try simp only [bn,reduceCtorEq] at h2
  all_goals try (exfalso; omega)
  all_goals
   refine LWP_skip ?_
   refine LWP_block ?_
   refine LWP_seq ?_
   apply LWP_run
   · repeat (simp -implicitDefEqProofs (disch:=omega) [St.e,half20,h2]; try simp only [gz])
     rfl
   refine LWP_seq ?_
   refine LWP_reg fun K hK => ?_
   apply rgnS_pre 6
   · repeat (simp -implicitDefEqProofs (disch:=omega) [St.e,half20,h2]; try simp only [gz])
     rfl
   refine rgnS_call (at1_ok (l[(i+j)/2]'(by omega)) x) rfl rfl (by simp [pureL,pureR,AV.pure,St.e,St.e]) (by simp [pureL,pureR,AV.pure,St.e,St.e]) (by simp [gd,get_e0,get_e1,LArg.ev,h2]) ?_
   apply rgnS_pre 1
   · repeat (simp -implicitDefEqProofs (disch:=omega) [St.e,half20,h2]; try simp only [gz])
     rfl
   refine hK _ ?_; clear hK
   refine LWP_cond rfl (fun h3 => ?_) (fun h3 => ?_)
   ·try simp only [bn,reduceCtorEq] at h3
    all_goals try (exfalso; omega)
    all_goals
     apply LWP_run
     · repeat (simp -implicitDefEqProofs (disch:=omega) [St.e,half20,h2,h3]; try simp only [gz])
       rfl
     -- loop 0,round 0
     refine ⟨((i + j) / 2 + 1,j),?_,?_,?_,?_⟩
     · have hm:=(hs ((i + j) / 2) (by omega)).2 (cmpAt_neg.1 (by assumption))
       exact ⟨by simp only; omega,by simp only; omega,by simp only; omega⟩
     · simp only; omega
     · simp (disch:=omega) [leV,get_e0,get_e1,wkV.refl,wkV_int,wrap_i64,decT,decF,St.e,half20,h2,h3]
     · simp [leH,get_e0,get_e1,h2,h3]
   ·try simp only [bn,reduceCtorEq] at h3
    all_goals try (exfalso; omega)
    all_goals
     apply LWP_run
     · repeat (simp -implicitDefEqProofs (disch:=omega) [St.e,half20,h2,h3]; try simp only [gz])
       rfl
     -- loop 0,round 1
     refine ⟨(i,(i + j) / 2),?_,?_,?_,?_⟩
     · have hm : ¬ (i + j) / 2 < pos:=fun q => by
         have:=cmpAt_neg.2 ((hs _ (by omega)).1 q)
         omega
       exact ⟨by simp only; omega,by simp only; omega,by simp only; omega⟩
     · simp only; omega
     · simp (disch:=omega) [leV,get_e0,get_e1,wkV.refl,wkV_int,wrap_i64,decT,decF,St.e,half20,h2,h3]
     · simp [leH,get_e0,get_e1,h2,h3]
 ·try simp only [bn,reduceCtorEq] at h2
  all_goals try (exfalso; omega)
  all_goals
   refine LWP_exit ?_
   refine LWP_seq ?_
   refine LWP_reg fun K hK => ?_
   apply rgnS_pre 5
   · repeat (simp -implicitDefEqProofs (disch:=omega) [St.e,half20,h2]; try simp only [gz])
     rfl
   refine rgnS_guard (x:=39) (b:=true) rfl (fun h4 => ?_) (fun h4 => ?_)
   ·try simp only [bn,reduceCtorEq] at h4
    all_goals try (exfalso; omega)
    all_goals
     apply rgnS_pre 6
     · repeat (simp -implicitDefEqProofs (disch:=omega) [St.e,half20,h2,h4]; try simp only [gz])
       rfl
     refine rgnS_call (at1_ok (l[i]'(by omega)) x) rfl rfl (by simp [pureL,pureR,AV.pure,St.e,St.e]) (by simp [pureL,pureR,AV.pure,St.e,St.e]) (by simp [gd,get_e0,get_e1,LArg.ev,h2,h4]) ?_
     apply rgnS_pre 4
     · repeat (simp -implicitDefEqProofs (disch:=omega) [St.e,half20,h2,h4]; try simp only [gz])
       rfl
     refine hK _ ?_; clear hK
     -- leaf 0
     refine LWP_ret ⟨_,rfl,?_⟩
     refine wkV_of_eq ?_
     simp only [retV]
     all_goals
      have e : i = pos:=by omega
      subst e
      first
        | (have hi : i < l.length:=by omega
           have hq : (cmpAt (l[i]'hi) x == 0) = decide (∃ (h : i < l.length),l[i].x0 ≤ x):=by
             have h1 : ¬ (l[i]'hi).x1 ≤ x:=fun q => absurd ((hs i hi).2 q) (Nat.lt_irrefl _)
             rw [Bool.eq_iff_iff,beq_iff_eq,decide_eq_true_eq]
             constructor
             · intro h
               refine ⟨hi,?_⟩
               unfold cmpAt at h
               rw [if_neg h1] at h
               split at h
               · cases h
               · omega
             · rintro ⟨_,h⟩
               unfold cmpAt
               rw [if_neg h1,if_neg (by omega)]
           rw [hq]; done)
        | (have hi : l.length ≤ i:=by omega
           have hq : decide (∃ (h : i < l.length),l[i].x0 ≤ x) = false:=by
             rw [decide_eq_false_iff_not]
             rintro ⟨h,_⟩
             omega
           rw [hq]; done)
   ·try simp only [bn,reduceCtorEq] at h4
    all_goals try (exfalso; omega)
    all_goals
     apply rgnS_pre 8
     · repeat (simp -implicitDefEqProofs (disch:=omega) [St.e,half20,h2,h4]; try simp only [gz])
       rfl
     apply rgnS_pre 2
     · repeat (simp -implicitDefEqProofs (disch:=omega) [St.e,half20,h2,h4]; try simp only [gz])
       rfl
     refine hK _ ?_; clear hK
     -- leaf 1
     refine LWP_ret ⟨_,rfl,?_⟩
     refine wkV_of_eq ?_
     simp only [retV]
     all_goals
      have e : i = pos:=by omega
      subst e
      first
        | (have hi : i < l.length:=by omega
           have hq : (cmpAt (l[i]'hi) x == 0) = decide (∃ (h : i < l.length),l[i].x0 ≤ x):=by
             have h1 : ¬ (l[i]'hi).x1 ≤ x:=fun q => absurd ((hs i hi).2 q) (Nat.lt_irrefl _)
             rw [Bool.eq_iff_iff,beq_iff_eq,decide_eq_true_eq]
             constructor
             · intro h
               refine ⟨hi,?_⟩
               unfold cmpAt at h
               rw [if_neg h1] at h
               split at h
               · cases h
               · omega
             · rintro ⟨_,h⟩
               unfold cmpAt
               rw [if_neg h1,if_neg (by omega)]
           rw [hq]; done)
        | (have hi : l.length ≤ i:=by omega
           have hq : decide (∃ (h : i < l.length),l[i].x0 ≤ x) = false:=by
             rw [decide_eq_false_iff_not]
             rintro ⟨h,_⟩
             omega
           rw [hq]; done)
set_option maxHeartbeats 2000000 in
set_option maxRecDepth 20000 in
theorem at_no (l : List St) (x : Int) (hl : l.length < 90000) (ca : chkB l = false) : ACalls Go.Proofs.Try.prog 18 [.tsl 3 (l.map St.e),.int .i64 x] [] 0 (fun r _ _ => r = .tup [.int .i64 0,.bool false]):=by
 refine pure_body ok18 rfl ?_
 simp only [parV]
 have CA:=check_ok l (by omega)
 rw [ca] at CA
 have hB : ACalls Go.Proofs.Try.prog 34 [.tsl 3 (l.map St.e),.int .i64 x,.fn 35 [] []] [] 0 (fun r _ _ => r = .tup [.int .i64 0,.bool false]) ∨ True:=.inr trivial
 refine LWP_seq ?_
 apply LWP_run
 · repeat (simp -implicitDefEqProofs (disch:=omega) [St.e]; try simp only [gz])
   rfl
 refine LWP_seq ?_
 refine LWP_seq ?_
 refine LWP_reg fun K hK => ?_
 apply rgnS_pre 1
 · repeat (simp -implicitDefEqProofs (disch:=omega) [St.e]; try simp only [gz])
   rfl
 refine rgnS_call (CA) rfl rfl (by simp [pureL,pureR,AV.pure,St.e,pureR_st]) (by simp [pureL,pureR,AV.pure,St.e,pureR_st]) (by simp [gd,get_e0,get_e1,LArg.ev]) ?_
 apply rgnS_pre 1
 · repeat (simp -implicitDefEqProofs (disch:=omega) [St.e]; try simp only [gz])
   rfl
 refine hK _ ?_; clear hK
 refine LWP_cond rfl (fun h1 => ?_) (fun h1 => ?_)
 ·try simp only [bn,reduceCtorEq] at h1
  all_goals try (exfalso; omega)
  all_goals
   refine LWP_seq ?_
   apply LWP_run
   · repeat (simp -implicitDefEqProofs (disch:=omega) [St.e,h1]; try simp only [gz])
     rfl
   -- leaf 0
   refine LWP_ret ⟨_,rfl,?_⟩
   refine wkV_of_eq ?_
   simp only [retV]
   all_goals
    rfl
 ·try simp only [bn,reduceCtorEq] at h1
  all_goals try (exfalso; omega)
  all_goals
   refine LWP_skip ?_
   refine LWP_seq ?_
   refine LWP_reg fun K hK => ?_
   apply rgnS_pre 2
   · repeat (simp -implicitDefEqProofs (disch:=omega) [St.e,h1]; try simp only [gz])
     rfl
   refine rgnS_call (bss_ok l x 0 hl (Nat.zero_le _) (by omega)) rfl rfl (by simp [pureL,pureR,AV.pure,St.e,pureR_st]) (by simp [pureL,pureR,AV.pure,St.e,pureR_st]) (by simp [gd,get_e0,get_e1,LArg.ev,h1]) ?_
   apply rgnS_pre 5
   · repeat (simp -implicitDefEqProofs (disch:=omega) [St.e,h1]; try simp only [gz])
     rfl
   refine hK _ ?_; clear hK
   refine LWP_seq ?_
   refine LWP_seq ?_
   apply LWP_run
   · repeat (simp -implicitDefEqProofs (disch:=omega) [St.e,h1]; try simp only [gz])
     rfl
   refine LWP_cond rfl (fun h2 => ?_) (fun h2 => ?_)
   ·try simp only [bn,reduceCtorEq] at h2
    all_goals try (exfalso; omega)
    all_goals
     refine LWP_seq ?_
     apply LWP_run
     · repeat (simp -implicitDefEqProofs (disch:=omega) [St.e,h1,h2]; try simp only [gz])
       rfl
     -- leaf 1
     refine LWP_ret ⟨_,rfl,?_⟩
     refine wkV_of_eq ?_
     simp only [retV]
     all_goals
      rfl
   ·try simp only [bn,reduceCtorEq] at h2
    all_goals try (exfalso; omega)
    all_goals
     refine LWP_skip ?_
     refine LWP_seq ?_
     apply LWP_run
     · repeat (simp -implicitDefEqProofs (disch:=omega) [St.e,h1,h2]; try simp only [gz])
       rfl
     -- leaf 2
     refine LWP_ret ⟨_,rfl,?_⟩
     refine wkV_of_eq ?_
     simp only [retV]
     all_goals
      rfl
set_option maxHeartbeats 2000000 in
set_option maxRecDepth 20000 in
theorem at_hit (l : List St) (x : Int) (pos : Nat) (hl : l.length < 90000) (ca : chkB l = true) (hp : pos < l.length) (hs : ∀ (k : Nat) (h : k < l.length),k < pos ↔ l[k].x1 ≤ x) (h0 : l[pos].x0 ≤ x) : ACalls Go.Proofs.Try.prog 18 [.tsl 3 (l.map St.e),.int .i64 x] [] 0 (fun r _ _ => r = .tup [.int .i64 l[pos].h,.bool true]):=by
 refine pure_body ok18 rfl ?_
 simp only [parV]
 have CA:=check_ok l (by omega)
 rw [ca] at CA
 have hd : decide (∃ (h : pos < l.length),l[pos].x0 ≤ x) = true:=decide_eq_true ⟨hp,h0⟩
 have hB:=bss_ok l x pos hl (by omega) hs
 rw [hd] at hB
 refine LWP_seq ?_
 apply LWP_run
 · repeat (simp -implicitDefEqProofs (disch:=omega) [St.e,hd]; try simp only [gz])
   rfl
 refine LWP_seq ?_
 refine LWP_seq ?_
 refine LWP_reg fun K hK => ?_
 apply rgnS_pre 1
 · repeat (simp -implicitDefEqProofs (disch:=omega) [St.e,hd]; try simp only [gz])
   rfl
 refine rgnS_call (CA) rfl rfl (by simp [pureL,pureR,AV.pure,St.e,pureR_st]) (by simp [pureL,pureR,AV.pure,St.e,pureR_st]) (by simp [gd,get_e0,get_e1,LArg.ev]) ?_
 apply rgnS_pre 1
 · repeat (simp -implicitDefEqProofs (disch:=omega) [St.e,hd]; try simp only [gz])
   rfl
 refine hK _ ?_; clear hK
 refine LWP_cond rfl (fun h1 => ?_) (fun h1 => ?_)
 ·try simp only [bn,reduceCtorEq] at h1
  all_goals try (exfalso; omega)
  all_goals
   refine LWP_seq ?_
   apply LWP_run
   · repeat (simp -implicitDefEqProofs (disch:=omega) [St.e,hd,h1]; try simp only [gz])
     rfl
   -- leaf 0
   refine LWP_ret ⟨_,rfl,?_⟩
   refine wkV_of_eq ?_
   simp only [retV]
   all_goals
    rfl
 ·try simp only [bn,reduceCtorEq] at h1
  all_goals try (exfalso; omega)
  all_goals
   refine LWP_skip ?_
   refine LWP_seq ?_
   refine LWP_reg fun K hK => ?_
   apply rgnS_pre 2
   · repeat (simp -implicitDefEqProofs (disch:=omega) [St.e,hd,h1]; try simp only [gz])
     rfl
   refine rgnS_call (hB) rfl rfl (by simp [pureL,pureR,AV.pure,St.e,pureR_st]) (by simp [pureL,pureR,AV.pure,St.e,pureR_st]) (by simp [gd,get_e0,get_e1,LArg.ev,h1]) ?_
   apply rgnS_pre 5
   · repeat (simp -implicitDefEqProofs (disch:=omega) [St.e,hd,h1]; try simp only [gz])
     rfl
   refine hK _ ?_; clear hK
   refine LWP_seq ?_
   refine LWP_seq ?_
   apply LWP_run
   · repeat (simp -implicitDefEqProofs (disch:=omega) [St.e,hd,h1]; try simp only [gz])
     rfl
   refine LWP_cond rfl (fun h2 => ?_) (fun h2 => ?_)
   ·try simp only [bn,reduceCtorEq] at h2
    all_goals try (exfalso; omega)
    all_goals
     refine LWP_seq ?_
     apply LWP_run
     · repeat (simp -implicitDefEqProofs (disch:=omega) [St.e,hd,h1,h2]; try simp only [gz])
       rfl
     -- leaf 1
     refine LWP_ret ⟨_,rfl,?_⟩
     refine wkV_of_eq ?_
     simp only [retV]
     all_goals
      rfl
   ·try simp only [bn,reduceCtorEq] at h2
    all_goals try (exfalso; omega)
    all_goals
     refine LWP_skip ?_
     refine LWP_seq ?_
     apply LWP_run
     · repeat (simp -implicitDefEqProofs (disch:=omega) [St.e,hd,h1,h2]; try simp only [gz])
       rfl
     -- leaf 2
     refine LWP_ret ⟨_,rfl,?_⟩
     refine wkV_of_eq ?_
     simp only [retV]
     all_goals
      rfl
set_option maxHeartbeats 2000000 in
set_option maxRecDepth 20000 in
theorem at_miss (l : List St) (x : Int) (pos : Nat) (hl : l.length < 90000) (ca : chkB l = true) (hp : pos ≤ l.length) (hs : ∀ (k : Nat) (h : k < l.length),k < pos ↔ l[k].x1 ≤ x) (h0 : ∀ (h : pos < l.length),x < l[pos].x0) : ACalls Go.Proofs.Try.prog 18 [.tsl 3 (l.map St.e),.int .i64 x] [] 0 (fun r _ _ => r = .tup [.int .i64 0,.bool false]):=by
 refine pure_body ok18 rfl ?_
 simp only [parV]
 have CA:=check_ok l (by omega)
 rw [ca] at CA
 have hd : decide (∃ (h : pos < l.length),l[pos].x0 ≤ x) = false:=decide_eq_false fun ⟨h,q⟩ => by have:=h0 h; omega
 have hB:=bss_ok l x pos hl (by omega) hs
 rw [hd] at hB
 refine LWP_seq ?_
 apply LWP_run
 · repeat (simp -implicitDefEqProofs (disch:=omega) [St.e]; try simp only [gz])
   rfl
 refine LWP_seq ?_
 refine LWP_seq ?_
 refine LWP_reg fun K hK => ?_
 apply rgnS_pre 1
 · repeat (simp -implicitDefEqProofs (disch:=omega) [St.e]; try simp only [gz])
   rfl
 refine rgnS_call (CA) rfl rfl (by simp [pureL,pureR,AV.pure,St.e,pureR_st]) (by simp [pureL,pureR,AV.pure,St.e,pureR_st]) (by simp [gd,get_e0,get_e1,LArg.ev]) ?_
 apply rgnS_pre 1
 · repeat (simp -implicitDefEqProofs (disch:=omega) [St.e]; try simp only [gz])
   rfl
 refine hK _ ?_; clear hK
 refine LWP_cond rfl (fun h1 => ?_) (fun h1 => ?_)
 ·try simp only [bn,reduceCtorEq] at h1
  all_goals try (exfalso; omega)
  all_goals
   refine LWP_seq ?_
   apply LWP_run
   · repeat (simp -implicitDefEqProofs (disch:=omega) [St.e,h1]; try simp only [gz])
     rfl
   -- leaf 0
   refine LWP_ret ⟨_,rfl,?_⟩
   refine wkV_of_eq ?_
   simp only [retV]
   all_goals
    rfl
 ·try simp only [bn,reduceCtorEq] at h1
  all_goals try (exfalso; omega)
  all_goals
   refine LWP_skip ?_
   refine LWP_seq ?_
   refine LWP_reg fun K hK => ?_
   apply rgnS_pre 2
   · repeat (simp -implicitDefEqProofs (disch:=omega) [St.e,h1]; try simp only [gz])
     rfl
   refine rgnS_call (hB) rfl rfl (by simp [pureL,pureR,AV.pure,St.e,pureR_st]) (by simp [pureL,pureR,AV.pure,St.e,pureR_st]) (by simp [gd,get_e0,get_e1,LArg.ev,h1]) ?_
   apply rgnS_pre 5
   · repeat (simp -implicitDefEqProofs (disch:=omega) [St.e,h1]; try simp only [gz])
     rfl
   refine hK _ ?_; clear hK
   refine LWP_seq ?_
   refine LWP_seq ?_
   apply LWP_run
   · repeat (simp -implicitDefEqProofs (disch:=omega) [St.e,h1]; try simp only [gz])
     rfl
   refine LWP_cond rfl (fun h2 => ?_) (fun h2 => ?_)
   ·try simp only [bn,reduceCtorEq] at h2
    all_goals try (exfalso; omega)
    all_goals
     refine LWP_seq ?_
     apply LWP_run
     · repeat (simp -implicitDefEqProofs (disch:=omega) [St.e,h1,h2]; try simp only [gz])
       rfl
     -- leaf 1
     refine LWP_ret ⟨_,rfl,?_⟩
     refine wkV_of_eq ?_
     simp only [retV]
     all_goals
      rfl
   ·try simp only [bn,reduceCtorEq] at h2
    all_goals try (exfalso; omega)
    all_goals
     refine LWP_skip ?_
     refine LWP_seq ?_
     apply LWP_run
     · repeat (simp -implicitDefEqProofs (disch:=omega) [St.e,h1,h2]; try simp only [gz])
       rfl
     -- leaf 2
     refine LWP_ret ⟨_,rfl,?_⟩
     refine wkV_of_eq ?_
     simp only [retV]
     all_goals
      rfl
end

theorem at_ok (l : List St) (x : Int) (hl : l.length < 90000) : ACalls Go.Proofs.Try.prog 18 [.tsl 3 (l.map St.e),.int .i64 x] [] 0 (fun r _ _ => r = .tup [.int .i64 (atV l x).1,.bool (atV l x).2]):=by
  cases ca : chkB l with
  | false =>
    have:=at_no l x hl ca
    rwa [atV,if_neg (by rw [ca]; simp)]
  | true =>
    obtain ⟨pos,h1,h2,h3⟩:=at_pos x l (chk_good ca)
    rw [atV,if_pos ca]
    rcases h3 with ⟨h,q1,q2⟩ | ⟨q1,q2⟩
    · rw [q2]; exact at_hit l x pos hl ca h h2 q1
    · rw [q2]; exact at_miss l x pos hl ca h1 h2 q1
end Go.AM.Sk
