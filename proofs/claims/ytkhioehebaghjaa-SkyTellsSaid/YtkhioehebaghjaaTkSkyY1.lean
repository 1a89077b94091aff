/- A part of a proof about the given program: what its name says. No premise beyond the statements'. -/
import Derived.Test.YtkhioehebaghjaaTkSkyT
import Derived.Test.YtkhioehebaghjaaTkSkyB
set_option linter.unusedSimpArgs false
set_option linter.unusedVariables false
/- The second opinion on skylines: which may be, how high one is, how far two must be apart. -/
namespace Go.AM.Sk
open Go.AM
open Go.AM.SkyP
theorem atF_hit {l : List St} {x : Int} {i : Nat} (hi : i < l.length) (h1 : ∀ (k : Nat) (h : k < l.length),k < i → inS x l[k] = false) (h2 : inS x l[i] = true) : atF l x = (l[i].h,true):=by
  have : l.find? (inS x) = some l[i]:=List.find?_eq_some_iff_getElem.2 ⟨h2,i,hi,rfl,fun j hj => by rw [h1 j (by omega) hj]; rfl⟩
  rw [atF,this]
theorem atF_miss {l : List St} {x : Int} (h1 : ∀ (k : Nat) (h : k < l.length),inS x l[k] = false) : atF l x = (0,false):=by
  refine atF_none fun t ht => ?_
  obtain ⟨k,hk,rfl⟩:=List.getElem_of_mem ht
  exact h1 k hk
def rowD (b : List St) (d : Int) (s : St) : Int:=b.foldl (fun d t => nxd s t d) d
def rdis (a b : List St) : Int:=a.foldl (rowD b) 0
theorem rowD_spec (s : St) : ∀ (b : List St) (d : Int),d ≤ rowD b d s ∧ (rowD b d s = d ∨ ∃ t ∈ b,ov s t ∧ s.h + t.h = rowD b d s) ∧ ∀ t ∈ b,ov s t → s.h + t.h ≤ rowD b d s
  | [],d => ⟨Int.le_refl _,.inl rfl,by simp⟩
  | t :: r,d => by
    obtain ⟨h1,h2,h3⟩:=rowD_spec s r (nxd s t d)
    have n1:=nxd_le s t d
    have e : rowD (t :: r) d s = rowD r (nxd s t d) s:=rfl
    rw [e]
    refine ⟨Int.le_trans n1 h1,?_,fun u hu ho => ?_⟩
    · rcases h2 with h2 | ⟨u,u1,u2,u3⟩
      · rcases nxd_or s t d with q | ⟨q1,q2⟩
        · exact .inl (by rw [h2,q])
        · exact .inr ⟨t,by simp,q1,by rw [h2]; exact q2⟩
      · exact .inr ⟨u,List.mem_cons_of_mem _ u1,u2,u3⟩
    · rcases List.mem_cons.1 hu with rfl | hu
      · exact Int.le_trans (nxd_ov d ho) h1
      · exact h3 u hu ho
theorem rdis_fold (b : List St) : ∀ (a : List St) (d : Int),d ≤ a.foldl (rowD b) d ∧ (a.foldl (rowD b) d = d ∨ ∃ s ∈ a,∃ t ∈ b,ov s t ∧ s.h + t.h = a.foldl (rowD b) d) ∧ ∀ s ∈ a,∀ t ∈ b,ov s t → s.h + t.h ≤ a.foldl (rowD b) d
  | [],d => ⟨Int.le_refl _,.inl rfl,by simp⟩
  | s :: r,d => by
    obtain ⟨h1,h2,h3⟩:=rdis_fold b r (rowD b d s)
    obtain ⟨k1,k2,k3⟩:=rowD_spec s b d
    simp only [List.foldl_cons]
    refine ⟨Int.le_trans k1 h1,?_,fun u hu t ht ho => ?_⟩
    · rcases h2 with h2 | ⟨u,u1,t,t1,u2,u3⟩
      · rcases k2 with q | ⟨t,t1,q1,q2⟩
        · exact .inl (by rw [h2,q])
        · exact .inr ⟨s,by simp,t,t1,q1,by rw [h2]; exact q2⟩
      · exact .inr ⟨u,List.mem_cons_of_mem _ u1,t,t1,u2,u3⟩
    · rcases List.mem_cons.1 hu with rfl | hu
      · exact Int.le_trans (k3 t ht ho) h1
      · exact h3 u hu t ht ho
theorem rdis_dis {a b : List St} (ha : chkB a = true) (hb : chkB b = true) : rdis a b = dis a b 0:=by
  obtain ⟨s1,s2,s3⟩:=dis_spec (a.length + b.length) a b 0 (Nat.le_refl _) (chk_sorted ha) (chk_sorted hb)
  obtain ⟨r1,r2,r3⟩:=rdis_fold b a 0
  change rdis a b = _
  change 0 ≤ rdis a b at r1
  change rdis a b = 0 ∨ _ at r2
  have h1 : rdis a b ≤ dis a b 0:=by
    rcases r2 with r2 | ⟨s,hs,t,ht,ho,e⟩
    · omega
    · have:=s3 s hs t ht ho
      have e' : s.h + t.h = rdis a b:=e
      omega
  have h2 : dis a b 0 ≤ rdis a b:=by
    rcases s2 with s2 | ⟨s,hs,t,ht,ho,e⟩
    · omega
    · have q:=r3 s hs t ht ho
      have q' : s.h + t.h ≤ rdis a b:=q
      omega
  omega
theorem rdis_take {a b : List St} {i : Nat} (h : i < a.length) : (a.take (i + 1)).foldl (rowD b) 0 = rowD b ((a.take i).foldl (rowD b) 0) a[i]:=by
  rw [List.take_succ_eq_append_getElem h,List.foldl_append]; rfl
theorem rowD_take {b : List St} {k : Nat} (s : St) (d : Int) (h : k < b.length) : rowD (b.take (k + 1)) d s = nxd s b[k] (rowD (b.take k) d s):=by
  rw [rowD,rowD,List.take_succ_eq_append_getElem h,List.foldl_append]; rfl

section
attribute [local simp ↓] List.map_nil List.map_cons
attribute [local simp] m_ o_ g_ stepsS stepS gd opEff appEff LArg.ev app_val app_new app_upd app_kill putV ins_e0 ins_e1 get_e0 get_e1 binV binI grd bnd ldCells AV.cells AV.scalar AV.known setAt fillL chunks elems mxI mnI del Nat.add_assoc nlt_self nne_self nne_self' List.take_of_length_le decT decF wrap_i64 stepsD stepD ST.as dEffF LOp.cls softOK LOp.args LOp.rds AV.ids appD_val appD_new appD_upd appD_kill AS.flush delAll
set_option maxHeartbeats 2000000 in
set_option maxRecDepth 20000 in
theorem rk_ok (x : Int)  : ACalls Go.Proofs.Try.prog 33 [.int .i64 x] [] 0 (fun r _ _ => r = .bool (okF x)):=by
 refine pure_body ok33 rfl ?_
 simp only [parV]
 refine LWP_seq ?_
 apply LWP_run
 · repeat (simp -implicitDefEqProofs (disch:=omega) []; try simp only [gz])
   rfl
 refine LWP_seq ?_
 refine LWP_reg fun K hK => ?_
 apply rgnS_pre 3
 · repeat (simp -implicitDefEqProofs (disch:=omega) []; try simp only [gz])
   rfl
 refine rgnS_guard (x:=5) (b:=true) rfl (fun h1 => ?_) (fun h1 => ?_)
 ·try simp only [bn,reduceCtorEq] at h1
  all_goals try (exfalso; omega)
  all_goals
   apply rgnS_pre 4
   · repeat (simp -implicitDefEqProofs (disch:=omega) [h1]; try simp only [gz])
     rfl
   refine hK _ ?_; clear hK
   -- leaf 0
   refine LWP_ret ⟨_,rfl,?_⟩
   refine wkV_of_eq ?_
   simp only [retV]
   all_goals
    simp only [okF]
    congr 1
    rw [Bool.eq_iff_iff]
    simp only [beq_iff_eq,decide_eq_true_eq,Bool.false_eq_true,false_iff,true_iff]
    omega
 ·try simp only [bn,reduceCtorEq] at h1
  all_goals try (exfalso; omega)
  all_goals
   apply rgnS_pre 3
   · repeat (simp -implicitDefEqProofs (disch:=omega) [h1]; try simp only [gz])
     rfl
   refine hK _ ?_; clear hK
   -- leaf 1
   refine LWP_ret ⟨_,rfl,?_⟩
   refine wkV_of_eq ?_
   simp only [retV]
   all_goals
    simp only [okF]
    congr 1
    rw [Bool.eq_iff_iff]
    simp only [beq_iff_eq,decide_eq_true_eq,Bool.false_eq_true,false_iff,true_iff]
    omega
set_option maxHeartbeats 2000000 in
set_option maxRecDepth 20000 in
theorem rchk_ok (l : List St) (hl : l.length < 1000000) : ACalls Go.Proofs.Try.prog 21 [.tsl 3 (l.map St.e)] [] 0 (fun r _ _ => r = .bool (chkB l)):=by
 refine pure_body ok21 rfl ?_
 simp only [parV]
 refine LWP_seq ?_
 apply LWP_run
 · repeat (simp -implicitDefEqProofs (disch:=omega) [St.e,beqF,beqT]; try simp only [gz])
   rfl
 refine LWP_seq ?_
 refine LWP_seq ?_
 apply LWP_run
 · repeat (simp -implicitDefEqProofs (disch:=omega) [St.e,beqF,beqT]; try simp only [gz])
   rfl
 refine LWP_cond rfl (fun h1 => ?_) (fun h1 => ?_)
 ·try simp only [bn,reduceCtorEq] at h1
  all_goals try (exfalso; omega)
  all_goals
   refine LWP_seq ?_
   apply LWP_run
   · repeat (simp -implicitDefEqProofs (disch:=omega) [St.e,beqF,beqT,h1]; try simp only [gz])
     rfl
   -- leaf 0
   refine LWP_ret ⟨_,rfl,?_⟩
   refine wkV_of_eq ?_
   simp only [retV]
   all_goals
    first
      | (rw [chkB_big (by omega)]; done)
      | (rw [chkB_yes (by omega) (fun j h => c3 j h (by omega))]; done)
      | (rw [chkB_fol (i:=i) (by omega) (by omega) (by unfold folB; split <;> simp only [decide_eq_false_iff_not] <;> omega)]; done)
      | (rw [chkB_snd (i:=i) (by omega) (by simp only [sndB,Bool.and_eq_false_iff,decide_eq_false_iff_not]; right; omega)]; done)
      | (rw [chkB_snd (i:=i) (by omega) (by simp only [sndB,Bool.and_eq_false_iff]; simp_all)]; done)
 ·try simp only [bn,reduceCtorEq] at h1
  all_goals try (exfalso; omega)
  all_goals
   refine LWP_skip ?_
   refine LWP_seq ?_
   refine LWP_seq ?_
   apply LWP_run
   · repeat (simp -implicitDefEqProofs (disch:=omega) [St.e,beqF,beqT,h1]; try simp only [gz])
     rfl
   refine LWP_block ?_
   refine LWP_for (fun (i : Nat) => [(0,.tsl 3 (l.map St.e)),(3,.int .i64 (i : Nat))]) (fun (i : Nat) => []) (fun (i : Nat) n => i ≤ l.length ∧ l.length ≤ 8192 ∧ ∀ (j : Nat) (h : j < l.length),j < i → okAt l j h) (fun (i : Nat) => l.length - i) 0 ?_ ?_ ?_ ?_
   · simp (disch:=omega) [leV,get_e0,get_e1,wkV.refl,wkV_int,decT,decF,St.e,beqF,beqT,h1]
   · simp [leH,get_e0,get_e1,h1]
   · exact ⟨by omega,by omega,fun j _ h => by omega⟩
   rintro i n ⟨c1,c2,c3⟩
   try simp only at *
   refine LWP_seq ?_
   refine LWP_seq ?_
   apply LWP_run
   · repeat (simp -implicitDefEqProofs (disch:=omega) [St.e,beqF,beqT,h1]; try simp only [gz])
     rfl
   refine LWP_cond rfl (fun h3 => ?_) (fun h3 => ?_)
   ·try simp only [bn,reduceCtorEq] at h3
    all_goals try (exfalso; omega)
    all_goals
     refine LWP_skip ?_
     refine LWP_seq ?_
     refine LWP_block ?_
     refine LWP_seq ?_
     apply LWP_run
     · repeat (simp -implicitDefEqProofs (disch:=omega) [St.e,beqF,beqT,h1,h3]; try simp only [gz])
       rfl
     refine LWP_seq ?_
     refine LWP_seq ?_
     refine LWP_reg fun K hK => ?_
     apply rgnS_pre 2
     · repeat (simp -implicitDefEqProofs (disch:=omega) [St.e,beqF,beqT,h1,h3]; try simp only [gz])
       rfl
     refine rgnS_call (rk_ok (l[i]'(by omega)).x0) rfl rfl (by simp [pureL,pureR,AV.pure,St.e]) (by simp [pureL,pureR,AV.pure,St.e]) (by simp [gd,get_e0,get_e1,LArg.ev,h1,h3]) ?_
     apply rgnS_pre 2
     · repeat (simp -implicitDefEqProofs (disch:=omega) [St.e,beqF,beqT,h1,h3]; try simp only [gz])
       rfl
     refine rgnS_guard (x:=22) (b:=false) rfl (fun h4 => ?_) (fun h4 => ?_)
     ·try simp only [bn,reduceCtorEq] at h4
      all_goals try (exfalso; omega)
      all_goals
       apply rgnS_pre 2
       · repeat (simp -implicitDefEqProofs (disch:=omega) [St.e,beqF,beqT,h1,h3,h4]; try simp only [gz])
         rfl
       refine rgnS_call (rk_ok (l[i]'(by omega)).x1) rfl rfl (by simp [pureL,pureR,AV.pure,St.e]) (by simp [pureL,pureR,AV.pure,St.e]) (by simp [gd,get_e0,get_e1,LArg.ev,h1,h3,h4]) ?_
       apply rgnS_pre 3
       · repeat (simp -implicitDefEqProofs (disch:=omega) [St.e,beqF,beqT,h1,h3,h4]; try simp only [gz])
         rfl
       refine rgnS_guard (x:=28) (b:=false) rfl (fun h5 => ?_) (fun h5 => ?_)
       ·try simp only [bn,reduceCtorEq] at h5
        all_goals try (exfalso; omega)
        all_goals
         apply rgnS_pre 2
         · repeat (simp -implicitDefEqProofs (disch:=omega) [St.e,beqF,beqT,h1,h3,h4,h5]; try simp only [gz])
           rfl
         refine rgnS_call (rk_ok (l[i]'(by omega)).h) rfl rfl (by simp [pureL,pureR,AV.pure,St.e]) (by simp [pureL,pureR,AV.pure,St.e]) (by simp [gd,get_e0,get_e1,LArg.ev,h1,h3,h4,h5]) ?_
         apply rgnS_pre 3
         · repeat (simp -implicitDefEqProofs (disch:=omega) [St.e,beqF,beqT,h1,h3,h4,h5]; try simp only [gz])
           rfl
         refine rgnS_guard (x:=34) (b:=false) rfl (fun h6 => ?_) (fun h6 => ?_)
         ·try simp only [bn,reduceCtorEq] at h6
          all_goals try (exfalso; omega)
          all_goals
           apply rgnS_pre 6
           · repeat (simp -implicitDefEqProofs (disch:=omega) [St.e,beqF,beqT,h1,h3,h4,h5,h6]; try simp only [gz])
             rfl
           refine hK _ ?_; clear hK
           refine LWP_cond rfl (fun h7 => ?_) (fun h7 => ?_)
           ·try simp only [bn,reduceCtorEq] at h7
            all_goals try (exfalso; omega)
            all_goals
             refine LWP_seq ?_
             apply LWP_run
             · repeat (simp -implicitDefEqProofs (disch:=omega) [St.e,beqF,beqT,h1,h3,h4,h5,h6,h7]; try simp only [gz])
               rfl
             -- leaf 1
             refine LWP_ret ⟨_,rfl,?_⟩
             refine wkV_of_eq ?_
             simp only [retV]
             all_goals
              first
                | (rw [chkB_big (by omega)]; done)
                | (rw [chkB_yes (by omega) (fun j h => c3 j h (by omega))]; done)
                | (rw [chkB_fol (i:=i) (by omega) (by omega) (by unfold folB; split <;> simp only [decide_eq_false_iff_not] <;> omega)]; done)
                | (rw [chkB_snd (i:=i) (by omega) (by simp only [sndB,Bool.and_eq_false_iff,decide_eq_false_iff_not]; right; omega)]; done)
                | (rw [chkB_snd (i:=i) (by omega) (by simp only [sndB,Bool.and_eq_false_iff]; simp_all)]; done)
           ·try simp only [bn,reduceCtorEq] at h7
            all_goals try (exfalso; omega)
            all_goals
             refine LWP_skip ?_
             refine LWP_seq ?_
             refine LWP_regD' fun K hK => ?_
             apply rgnD_pre 3
             · repeat (simp -implicitDefEqProofs (disch:=omega) [St.e,beqF,beqT,h1,h3,h4,h5,h6,h7]; try simp only [gz])
               rfl
             refine rgnD_guard (x:=43) (b:=true) rfl (fun h8 => ?_) (fun h8 => ?_)
             ·try simp only [bn,reduceCtorEq] at h8
              all_goals try (exfalso; omega)
              all_goals
               apply rgnD_pre 8
               · repeat (simp -implicitDefEqProofs (disch:=omega) [St.e,beqF,beqT,h1,h3,h4,h5,h6,h7,h8]; try simp only [gz])
                 rfl
               apply rgnD_pre 2
               · repeat (simp -implicitDefEqProofs (disch:=omega) [St.e,beqF,beqT,h1,h3,h4,h5,h6,h7,h8]; try simp only [gz])
                 rfl
               refine rgnD_guard (x:=53) (b:=false) rfl (fun h9 => ?_) (fun h9 => ?_)
               ·try simp only [bn,reduceCtorEq] at h9
                all_goals try (exfalso; omega)
                all_goals
                 apply rgnD_pre 8
                 · repeat (simp -implicitDefEqProofs (disch:=omega) [St.e,beqF,beqT,h1,h3,h4,h5,h6,h7,h8,h9]; try simp only [gz])
                   rfl
                 apply rgnD_pre 2
                 · repeat (simp -implicitDefEqProofs (disch:=omega) [St.e,beqF,beqT,h1,h3,h4,h5,h6,h7,h8,h9]; try simp only [gz])
                   rfl
                 refine rgnD_guard (x:=63) (b:=true) rfl (fun h10 => ?_) (fun h10 => ?_)
                 ·try simp only [bn,reduceCtorEq] at h10
                  all_goals try (exfalso; omega)
                  all_goals
                   apply rgnD_pre 8
                   · repeat (simp -implicitDefEqProofs (disch:=omega) [St.e,beqF,beqT,h1,h3,h4,h5,h6,h7,h8,h9,h10]; try simp only [gz])
                     rfl
                   apply rgnD_pre 4
                   · repeat (simp -implicitDefEqProofs (disch:=omega) [St.e,beqF,beqT,h1,h3,h4,h5,h6,h7,h8,h9,h10]; try simp only [gz])
                     rfl
                   refine hK _ _ (by simp [AS.fin,delAll,del,Nat.add_assoc]; rfl) ?_; clear hK
                   refine LWP_cond rfl (fun h11 => ?_) (fun h11 => ?_)
                   ·try simp only [bn,reduceCtorEq] at h11
                    all_goals try (exfalso; omega)
                    all_goals
                     refine LWP_seq ?_
                     apply LWP_run
                     · repeat (simp -implicitDefEqProofs (disch:=omega) [St.e,beqF,beqT,h1,h3,h4,h5,h6,h7,h8,h9,h10,h11]; try simp only [gz])
                       rfl
                     -- leaf 2
                     refine LWP_ret ⟨_,rfl,?_⟩
                     refine wkV_of_eq ?_
                     simp only [retV]
                     all_goals
                      first
                        | (rw [chkB_big (by omega)]; done)
                        | (rw [chkB_yes (by omega) (fun j h => c3 j h (by omega))]; done)
                        | (rw [chkB_fol (i:=i) (by omega) (by omega) (by unfold folB; split <;> simp only [decide_eq_false_iff_not] <;> omega)]; done)
                        | (rw [chkB_snd (i:=i) (by omega) (by simp only [sndB,Bool.and_eq_false_iff,decide_eq_false_iff_not]; right; omega)]; done)
                        | (rw [chkB_snd (i:=i) (by omega) (by simp only [sndB,Bool.and_eq_false_iff]; simp_all)]; done)
                   ·try simp only [bn,reduceCtorEq] at h11
                    all_goals try (exfalso; omega)
                    all_goals
                     refine LWP_skip ?_
                     apply LWP_run
                     · repeat (simp -implicitDefEqProofs (disch:=omega) [St.e,beqF,beqT,h1,h3,h4,h5,h6,h7,h8,h9,h10,h11]; try simp only [gz])
                       rfl
                     -- loop 0,round 0
                     refine ⟨i + 1,?_,?_,?_,?_⟩
                     · refine ⟨by omega,by omega,fun j h hj => ?_⟩
                       rcases Nat.lt_or_ge j i with hq | hq
                       · exact c3 j h hq
                       · have e : j = i:=by omega
                         subst e
                         refine ⟨?_,fun q => ?_⟩
                         · simp only [sndB,Bool.and_eq_true,decide_eq_true_eq]
                           exact ⟨⟨⟨by assumption,by assumption⟩,by assumption⟩,by omega⟩
                         · unfold folB
                           split <;> simp only [decide_eq_true_eq] <;> omega
                     · omega
                     · simp (disch:=omega) [leV,get_e0,get_e1,wkV.refl,wkV_int,wrap_i64,decT,decF,St.e,beqF,beqT,h1,h3,h4,h5,h6,h7,h8,h9,h10,h11]
                     · simp [leH,get_e0,get_e1,h1,h3,h4,h5,h6,h7,h8,h9,h10,h11]
                 ·try simp only [bn,reduceCtorEq] at h10
                  all_goals try (exfalso; omega)
                  all_goals
                   apply rgnD_pre 8
                   · repeat (simp -implicitDefEqProofs (disch:=omega) [St.e,beqF,beqT,h1,h3,h4,h5,h6,h7,h8,h9,h10]; try simp only [gz])
                     rfl
                   apply rgnD_pre 3
                   · repeat (simp -implicitDefEqProofs (disch:=omega) [St.e,beqF,beqT,h1,h3,h4,h5,h6,h7,h8,h9,h10]; try simp only [gz])
                     rfl
                   refine hK _ _ (by simp [AS.fin,delAll,del,Nat.add_assoc]; rfl) ?_; clear hK
                   refine LWP_cond (t:=false) (by simp [LArg.ev,get_e0,get_e1,h1,h3,h4,h5,h6,h7,h8,h9,h10]) (fun h => by cases h) (fun _ => ?_)
                   refine LWP_skip ?_
                   apply LWP_run
                   · repeat (simp -implicitDefEqProofs (disch:=omega) [St.e,beqF,beqT,h1,h3,h4,h5,h6,h7,h8,h9,h10]; try simp only [gz])
                     rfl
                   -- loop 0,round 1
                   refine ⟨i + 1,?_,?_,?_,?_⟩
                   · refine ⟨by omega,by omega,fun j h hj => ?_⟩
                     rcases Nat.lt_or_ge j i with hq | hq
                     · exact c3 j h hq
                     · have e : j = i:=by omega
                       subst e
                       refine ⟨?_,fun q => ?_⟩
                       · simp only [sndB,Bool.and_eq_true,decide_eq_true_eq]
                         exact ⟨⟨⟨by assumption,by assumption⟩,by assumption⟩,by omega⟩
                       · unfold folB
                         split <;> simp only [decide_eq_true_eq] <;> omega
                   · omega
                   · simp (disch:=omega) [leV,get_e0,get_e1,wkV.refl,wkV_int,wrap_i64,decT,decF,St.e,beqF,beqT,h1,h3,h4,h5,h6,h7,h8,h9,h10]
                   · simp [leH,get_e0,get_e1,h1,h3,h4,h5,h6,h7,h8,h9,h10]
               ·try simp only [bn,reduceCtorEq] at h9
                all_goals try (exfalso; omega)
                all_goals
                 apply rgnD_pre 8
                 · repeat (simp -implicitDefEqProofs (disch:=omega) [St.e,beqF,beqT,h1,h3,h4,h5,h6,h7,h8,h9]; try simp only [gz])
                   rfl
                 apply rgnD_pre 8
                 · repeat (simp -implicitDefEqProofs (disch:=omega) [St.e,beqF,beqT,h1,h3,h4,h5,h6,h7,h8,h9]; try simp only [gz])
                   rfl
                 apply rgnD_pre 5
                 · repeat (simp -implicitDefEqProofs (disch:=omega) [St.e,beqF,beqT,h1,h3,h4,h5,h6,h7,h8,h9]; try simp only [gz])
                   rfl
                 refine hK _ _ (by simp [AS.fin,delAll,del,Nat.add_assoc]; rfl) ?_; clear hK
                 refine LWP_cond (t:=true) (by simp [LArg.ev,get_e0,get_e1,h1,h3,h4,h5,h6,h7,h8,h9]) (fun _ => ?_) (fun h => by cases h)
                 refine LWP_seq ?_
                 apply LWP_run
                 · repeat (simp -implicitDefEqProofs (disch:=omega) [St.e,beqF,beqT,h1,h3,h4,h5,h6,h7,h8,h9]; try simp only [gz])
                   rfl
                 -- leaf 3
                 refine LWP_ret ⟨_,rfl,?_⟩
                 refine wkV_of_eq ?_
                 simp only [retV]
                 all_goals
                  first
                    | (rw [chkB_big (by omega)]; done)
                    | (rw [chkB_yes (by omega) (fun j h => c3 j h (by omega))]; done)
                    | (rw [chkB_fol (i:=i) (by omega) (by omega) (by unfold folB; split <;> simp only [decide_eq_false_iff_not] <;> omega)]; done)
                    | (rw [chkB_snd (i:=i) (by omega) (by simp only [sndB,Bool.and_eq_false_iff,decide_eq_false_iff_not]; right; omega)]; done)
                    | (rw [chkB_snd (i:=i) (by omega) (by simp only [sndB,Bool.and_eq_false_iff]; simp_all)]; done)
             ·try simp only [bn,reduceCtorEq] at h8
              all_goals try (exfalso; omega)
              all_goals
               apply rgnD_pre 8
               · repeat (simp -implicitDefEqProofs (disch:=omega) [St.e,beqF,beqT,h1,h3,h4,h5,h6,h7,h8]; try simp only [gz])
                 rfl
               apply rgnD_pre 8
               · repeat (simp -implicitDefEqProofs (disch:=omega) [St.e,beqF,beqT,h1,h3,h4,h5,h6,h7,h8]; try simp only [gz])
                 rfl
               apply rgnD_pre 8
               · repeat (simp -implicitDefEqProofs (disch:=omega) [St.e,beqF,beqT,h1,h3,h4,h5,h6,h7,h8]; try simp only [gz])
                 rfl
               apply rgnD_pre 7
               · repeat (simp -implicitDefEqProofs (disch:=omega) [St.e,beqF,beqT,h1,h3,h4,h5,h6,h7,h8]; try simp only [gz])
                 rfl
               refine hK _ _ (by simp [AS.fin,delAll,del,Nat.add_assoc]; rfl) ?_; clear hK
               refine LWP_cond (t:=false) (by simp [LArg.ev,get_e0,get_e1,h1,h3,h4,h5,h6,h7,h8]) (fun h => by cases h) (fun _ => ?_)
               refine LWP_skip ?_
               apply LWP_run
               · repeat (simp -implicitDefEqProofs (disch:=omega) [St.e,beqF,beqT,h1,h3,h4,h5,h6,h7,h8]; try simp only [gz])
                 rfl
               -- loop 0,round 2
               refine ⟨i + 1,?_,?_,?_,?_⟩
               · refine ⟨by omega,by omega,fun j h hj => ?_⟩
                 rcases Nat.lt_or_ge j i with hq | hq
                 · exact c3 j h hq
                 · have e : j = i:=by omega
                   subst e
                   refine ⟨?_,fun q => ?_⟩
                   · simp only [sndB,Bool.and_eq_true,decide_eq_true_eq]
                     exact ⟨⟨⟨by assumption,by assumption⟩,by assumption⟩,by omega⟩
                   · unfold folB
                     split <;> simp only [decide_eq_true_eq] <;> omega
               · omega
               · simp (disch:=omega) [leV,get_e0,get_e1,wkV.refl,wkV_int,wrap_i64,decT,decF,St.e,beqF,beqT,h1,h3,h4,h5,h6,h7,h8]
               · simp [leH,get_e0,get_e1,h1,h3,h4,h5,h6,h7,h8]
         ·try simp only [bn,reduceCtorEq] at h6
          all_goals try (exfalso; omega)
          all_goals
           apply rgnS_pre 5
           · repeat (simp -implicitDefEqProofs (disch:=omega) [St.e,beqF,beqT,h1,h3,h4,h5,h6]; try simp only [gz])
             rfl
           refine hK _ ?_; clear hK
           refine LWP_cond (t:=true) (by simp [LArg.ev,get_e0,get_e1,h1,h3,h4,h5,h6]) (fun _ => ?_) (fun h => by cases h)
           refine LWP_seq ?_
           apply LWP_run
           · repeat (simp -implicitDefEqProofs (disch:=omega) [St.e,beqF,beqT,h1,h3,h4,h5,h6]; try simp only [gz])
             rfl
           -- leaf 4
           refine LWP_ret ⟨_,rfl,?_⟩
           refine wkV_of_eq ?_
           simp only [retV]
           all_goals
            first
              | (rw [chkB_big (by omega)]; done)
              | (rw [chkB_yes (by omega) (fun j h => c3 j h (by omega))]; done)
              | (rw [chkB_fol (i:=i) (by omega) (by omega) (by unfold folB; split <;> simp only [decide_eq_false_iff_not] <;> omega)]; done)
              | (rw [chkB_snd (i:=i) (by omega) (by simp only [sndB,Bool.and_eq_false_iff,decide_eq_false_iff_not]; right; omega)]; done)
              | (rw [chkB_snd (i:=i) (by omega) (by simp only [sndB,Bool.and_eq_false_iff]; simp_all)]; done)
       ·try simp only [bn,reduceCtorEq] at h5
        all_goals try (exfalso; omega)
        all_goals
         apply rgnS_pre 8
         · repeat (simp -implicitDefEqProofs (disch:=omega) [St.e,beqF,beqT,h1,h3,h4,h5]; try simp only [gz])
           rfl
         apply rgnS_pre 3
         · repeat (simp -implicitDefEqProofs (disch:=omega) [St.e,beqF,beqT,h1,h3,h4,h5]; try simp only [gz])
           rfl
         refine hK _ ?_; clear hK
         refine LWP_cond (t:=true) (by simp [LArg.ev,get_e0,get_e1,h1,h3,h4,h5]) (fun _ => ?_) (fun h => by cases h)
         refine LWP_seq ?_
         apply LWP_run
         · repeat (simp -implicitDefEqProofs (disch:=omega) [St.e,beqF,beqT,h1,h3,h4,h5]; try simp only [gz])
           rfl
         -- leaf 5
         refine LWP_ret ⟨_,rfl,?_⟩
         refine wkV_of_eq ?_
         simp only [retV]
         all_goals
          first
            | (rw [chkB_big (by omega)]; done)
            | (rw [chkB_yes (by omega) (fun j h => c3 j h (by omega))]; done)
            | (rw [chkB_fol (i:=i) (by omega) (by omega) (by unfold folB; split <;> simp only [decide_eq_false_iff_not] <;> omega)]; done)
            | (rw [chkB_snd (i:=i) (by omega) (by simp only [sndB,Bool.and_eq_false_iff,decide_eq_false_iff_not]; right; omega)]; done)
            | (rw [chkB_snd (i:=i) (by omega) (by simp only [sndB,Bool.and_eq_false_iff]; simp_all)]; done)
     ·try simp only [bn,reduceCtorEq] at h4
      all_goals try (exfalso; omega)
      all_goals
       apply rgnS_pre 8
       · repeat (simp -implicitDefEqProofs (disch:=omega) [St.e,beqF,beqT,h1,h3,h4]; try simp only [gz])
         rfl
       apply rgnS_pre 8
       · repeat (simp -implicitDefEqProofs (disch:=omega) [St.e,beqF,beqT,h1,h3,h4]; try simp only [gz])
         rfl
       apply rgnS_pre 1
       · repeat (simp -implicitDefEqProofs (disch:=omega) [St.e,beqF,beqT,h1,h3,h4]; try simp only [gz])
         rfl
       refine hK _ ?_; clear hK
       refine LWP_cond (t:=true) (by simp [LArg.ev,get_e0,get_e1,h1,h3,h4]) (fun _ => ?_) (fun h => by cases h)
       refine LWP_seq ?_
       apply LWP_run
       · repeat (simp -implicitDefEqProofs (disch:=omega) [St.e,beqF,beqT,h1,h3,h4]; try simp only [gz])
         rfl
       -- leaf 6
       refine LWP_ret ⟨_,rfl,?_⟩
       refine wkV_of_eq ?_
       simp only [retV]
       all_goals
        first
          | (rw [chkB_big (by omega)]; done)
          | (rw [chkB_yes (by omega) (fun j h => c3 j h (by omega))]; done)
          | (rw [chkB_fol (i:=i) (by omega) (by omega) (by unfold folB; split <;> simp only [decide_eq_false_iff_not] <;> omega)]; done)
          | (rw [chkB_snd (i:=i) (by omega) (by simp only [sndB,Bool.and_eq_false_iff,decide_eq_false_iff_not]; right; omega)]; done)
          | (rw [chkB_snd (i:=i) (by omega) (by simp only [sndB,Bool.and_eq_false_iff]; simp_all)]; done)
   ·try simp only [bn,reduceCtorEq] at h3
    all_goals try (exfalso; omega)
    all_goals
     refine LWP_exit ?_
     refine LWP_seq ?_
     apply LWP_run
     · repeat (simp -implicitDefEqProofs (disch:=omega) [St.e,beqF,beqT,h1,h3]; try simp only [gz])
       rfl
     -- leaf 7
     refine LWP_ret ⟨_,rfl,?_⟩
     refine wkV_of_eq ?_
     simp only [retV]
     all_goals
      first
        | (rw [chkB_big (by omega)]; done)
        | (rw [chkB_yes (by omega) (fun j h => c3 j h (by omega))]; done)
        | (rw [chkB_fol (i:=i) (by omega) (by omega) (by unfold folB; split <;> simp only [decide_eq_false_iff_not] <;> omega)]; done)
        | (rw [chkB_snd (i:=i) (by omega) (by simp only [sndB,Bool.and_eq_false_iff,decide_eq_false_iff_not]; right; omega)]; done)
        | (rw [chkB_snd (i:=i) (by omega) (by simp only [sndB,Bool.and_eq_false_iff]; simp_all)]; done)
set_option maxHeartbeats 2000000 in
set_option maxRecDepth 20000 in
theorem rat_no (l : List St) (x : Int) (hl : l.length < 90000) (ca : chkB l = false) : ACalls Go.Proofs.Try.prog 19 [.tsl 3 (l.map St.e),.int .i64 x] [] 0 (fun r _ _ => r = .tup [.int .i64 0,.bool false]):=by
 refine pure_body ok19 rfl ?_
 simp only [parV]
 have CA:=rchk_ok l (by omega)
 rw [ca] at CA
 refine LWP_seq ?_
 apply LWP_run
 · repeat (simp -implicitDefEqProofs (disch:=omega) [St.e]; try simp only [gz])
   rfl
 refine LWP_seq ?_
 refine LWP_seq ?_
 refine LWP_reg fun K hK => ?_
 apply rgnS_pre 1
 · repeat (simp -implicitDefEqProofs (disch:=omega) [St.e]; try simp only [gz])
   rfl
 refine rgnS_call (CA) rfl rfl (by simp [pureL,pureR,AV.pure,St.e,pureR_st]) (by simp [pureL,pureR,AV.pure,St.e,pureR_st]) (by simp [gd,get_e0,get_e1,LArg.ev]) ?_
 apply rgnS_pre 1
 · repeat (simp -implicitDefEqProofs (disch:=omega) [St.e]; try simp only [gz])
   rfl
 refine hK _ ?_; clear hK
 refine LWP_cond rfl (fun h1 => ?_) (fun h1 => ?_)
 ·try simp only [bn,reduceCtorEq] at h1
  all_goals try (exfalso; omega)
  all_goals
   refine LWP_seq ?_
   apply LWP_run
   · repeat (simp -implicitDefEqProofs (disch:=omega) [St.e,h1]; try simp only [gz])
     rfl
   -- leaf 0
   refine LWP_ret ⟨_,rfl,?_⟩
   refine wkV_of_eq ?_
   simp only [retV]
   all_goals
    rfl
 ·try simp only [bn,reduceCtorEq] at h1
  all_goals try (exfalso; omega)
  all_goals
   refine LWP_skip ?_
   refine LWP_seq ?_
   refine LWP_seq ?_
   apply LWP_run
   · repeat (simp -implicitDefEqProofs (disch:=omega) [St.e,h1]; try simp only [gz])
     rfl
   refine LWP_block ?_
   refine LWP_for (fun (i : Nat) => [(0,.tsl 3 (l.map St.e)),(1,.int .i64 x),(6,.int .i64 (i : Nat))]) (fun (i : Nat) => []) (fun (i : Nat) n => i ≤ l.length) (fun (i : Nat) => l.length - i) 0 ?_ ?_ ?_ ?_
   · simp (disch:=omega) [leV,get_e0,get_e1,wkV.refl,wkV_int,decT,decF,St.e,h1]
   · simp [leH,get_e0,get_e1,h1]
   · exact ⟨by omega,by simp⟩
   rintro i n h2
   try simp only at *
   refine LWP_seq ?_
   refine LWP_seq ?_
   apply LWP_run
   · repeat (simp -implicitDefEqProofs (disch:=omega) [St.e,h1]; try simp only [gz])
     rfl
   refine LWP_cond rfl (fun h3 => ?_) (fun h3 => ?_)
   ·try simp only [bn,reduceCtorEq] at h3
    all_goals try (exfalso; omega)
    all_goals
     refine LWP_skip ?_
     refine LWP_seq ?_
     refine LWP_block ?_
     refine LWP_seq ?_
     refine LWP_reg fun K hK => ?_
     apply rgnS_pre 8
     · repeat (simp -implicitDefEqProofs (disch:=omega) [St.e,h1,h3]; try simp only [gz])
       rfl
     refine rgnS_guard (x:=23) (b:=true) rfl (fun h4 => ?_) (fun h4 => ?_)
     ·try simp only [bn,reduceCtorEq] at h4
      all_goals try (exfalso; omega)
      all_goals
       apply rgnS_pre 8
       · repeat (simp -implicitDefEqProofs (disch:=omega) [St.e,h1,h3,h4]; try simp only [gz])
         rfl
       refine hK _ ?_; clear hK
       refine LWP_cond rfl (fun h5 => ?_) (fun h5 => ?_)
       ·try simp only [bn,reduceCtorEq] at h5
        all_goals try (exfalso; omega)
        all_goals
         refine LWP_seq ?_
         apply LWP_run
         · repeat (simp -implicitDefEqProofs (disch:=omega) [St.e,h1,h3,h4,h5]; try simp only [gz])
           rfl
         -- leaf 1
         refine LWP_ret ⟨_,rfl,?_⟩
         refine wkV_of_eq ?_
         simp only [retV]
         all_goals
          rfl
       ·try simp only [bn,reduceCtorEq] at h5
        all_goals try (exfalso; omega)
        all_goals
         refine LWP_skip ?_
         apply LWP_run
         · repeat (simp -implicitDefEqProofs (disch:=omega) [St.e,h1,h3,h4,h5]; try simp only [gz])
           rfl
         -- loop 0,round 0
         refine ⟨i + 1,?_,?_,?_,?_⟩
         · exact ⟨by omega,by simp⟩
         · omega
         · simp (disch:=omega) [leV,get_e0,get_e1,wkV.refl,wkV_int,wrap_i64,decT,decF,St.e,h1,h3,h4,h5]
         · simp [leH,get_e0,get_e1,h1,h3,h4,h5]
     ·try simp only [bn,reduceCtorEq] at h4
      all_goals try (exfalso; omega)
      all_goals
       apply rgnS_pre 7
       · repeat (simp -implicitDefEqProofs (disch:=omega) [St.e,h1,h3,h4]; try simp only [gz])
         rfl
       refine hK _ ?_; clear hK
       refine LWP_cond (t:=false) (by simp [LArg.ev,get_e0,get_e1,h1,h3,h4]) (fun h => by cases h) (fun _ => ?_)
       refine LWP_skip ?_
       apply LWP_run
       · repeat (simp -implicitDefEqProofs (disch:=omega) [St.e,h1,h3,h4]; try simp only [gz])
         rfl
       -- loop 0,round 1
       refine ⟨i + 1,?_,?_,?_,?_⟩
       · exact ⟨by omega,by simp⟩
       · omega
       · simp (disch:=omega) [leV,get_e0,get_e1,wkV.refl,wkV_int,wrap_i64,decT,decF,St.e,h1,h3,h4]
       · simp [leH,get_e0,get_e1,h1,h3,h4]
   ·try simp only [bn,reduceCtorEq] at h3
    all_goals try (exfalso; omega)
    all_goals
     refine LWP_exit ?_
     refine LWP_seq ?_
     apply LWP_run
     · repeat (simp -implicitDefEqProofs (disch:=omega) [St.e,h1,h3]; try simp only [gz])
       rfl
     -- leaf 2
     refine LWP_ret ⟨_,rfl,?_⟩
     refine wkV_of_eq ?_
     simp only [retV]
     all_goals
      rfl
set_option maxHeartbeats 2000000 in
set_option maxRecDepth 20000 in
theorem rat_in (l : List St) (x : Int) (hl : l.length < 90000) (ca : chkB l = true) : ACalls Go.Proofs.Try.prog 19 [.tsl 3 (l.map St.e),.int .i64 x] [] 0 (fun r _ _ => r = .tup [.int .i64 (atF l x).1,.bool (atF l x).2]):=by
 refine pure_body ok19 rfl ?_
 simp only [parV]
 have CA:=rchk_ok l (by omega)
 rw [ca] at CA
 refine LWP_seq ?_
 apply LWP_run
 · repeat (simp -implicitDefEqProofs (disch:=omega) [St.e]; try simp only [gz])
   rfl
 refine LWP_seq ?_
 refine LWP_seq ?_
 refine LWP_reg fun K hK => ?_
 apply rgnS_pre 1
 · repeat (simp -implicitDefEqProofs (disch:=omega) [St.e]; try simp only [gz])
   rfl
 refine rgnS_call (CA) rfl rfl (by simp [pureL,pureR,AV.pure,St.e,pureR_st]) (by simp [pureL,pureR,AV.pure,St.e,pureR_st]) (by simp [gd,get_e0,get_e1,LArg.ev]) ?_
 apply rgnS_pre 1
 · repeat (simp -implicitDefEqProofs (disch:=omega) [St.e]; try simp only [gz])
   rfl
 refine hK _ ?_; clear hK
 refine LWP_cond rfl (fun h1 => ?_) (fun h1 => ?_)
 ·try simp only [bn,reduceCtorEq] at h1
  all_goals try (exfalso; omega)
  all_goals
   refine LWP_seq ?_
   apply LWP_run
   · repeat (simp -implicitDefEqProofs (disch:=omega) [St.e,h1]; try simp only [gz])
     rfl
   -- leaf 0
   refine LWP_ret ⟨_,rfl,?_⟩
   refine wkV_of_eq ?_
   simp only [retV]
   all_goals
    simp
 ·try simp only [bn,reduceCtorEq] at h1
  all_goals try (exfalso; omega)
  all_goals
   refine LWP_skip ?_
   refine LWP_seq ?_
   refine LWP_seq ?_
   apply LWP_run
   · repeat (simp -implicitDefEqProofs (disch:=omega) [St.e,h1]; try simp only [gz])
     rfl
   refine LWP_block ?_
   refine LWP_for (fun (i : Nat) => [(0,.tsl 3 (l.map St.e)),(1,.int .i64 x),(6,.int .i64 (i : Nat))]) (fun (i : Nat) => []) (fun (i : Nat) n => i ≤ l.length ∧ ∀ (k : Nat) (h : k < l.length),k < i → inS x l[k] = false) (fun (i : Nat) => l.length - i) 0 ?_ ?_ ?_ ?_
   · simp (disch:=omega) [leV,get_e0,get_e1,wkV.refl,wkV_int,decT,decF,St.e,h1]
   · simp [leH,get_e0,get_e1,h1]
   · exact ⟨Nat.zero_le _,fun k _ h => absurd h (Nat.not_lt_zero _)⟩
   rintro i n ⟨c1,c2⟩
   try simp only at *
   refine LWP_seq ?_
   refine LWP_seq ?_
   apply LWP_run
   · repeat (simp -implicitDefEqProofs (disch:=omega) [St.e,h1]; try simp only [gz])
     rfl
   refine LWP_cond rfl (fun h3 => ?_) (fun h3 => ?_)
   ·try simp only [bn,reduceCtorEq] at h3
    all_goals try (exfalso; omega)
    all_goals
     refine LWP_skip ?_
     refine LWP_seq ?_
     refine LWP_block ?_
     refine LWP_seq ?_
     refine LWP_reg fun K hK => ?_
     apply rgnS_pre 8
     · repeat (simp -implicitDefEqProofs (disch:=omega) [St.e,h1,h3]; try simp only [gz])
       rfl
     refine rgnS_guard (x:=23) (b:=true) rfl (fun h4 => ?_) (fun h4 => ?_)
     ·try simp only [bn,reduceCtorEq] at h4
      all_goals try (exfalso; omega)
      all_goals
       apply rgnS_pre 8
       · repeat (simp -implicitDefEqProofs (disch:=omega) [St.e,h1,h3,h4]; try simp only [gz])
         rfl
       refine hK _ ?_; clear hK
       refine LWP_cond rfl (fun h5 => ?_) (fun h5 => ?_)
       ·try simp only [bn,reduceCtorEq] at h5
        all_goals try (exfalso; omega)
        all_goals
         refine LWP_seq ?_
         apply LWP_run
         · repeat (simp -implicitDefEqProofs (disch:=omega) [St.e,h1,h3,h4,h5]; try simp only [gz])
           rfl
         -- leaf 1
         refine LWP_ret ⟨_,rfl,?_⟩
         refine wkV_of_eq ?_
         simp only [retV]
         all_goals
          first
            | (rw [atF_miss (fun k h => c2 k h (by omega))]; done)
            | (rw [atF_hit (i:=i) (by omega) c2 (by simp only [inS,Bool.and_eq_true,decide_eq_true_eq]; omega)]; done)
       ·try simp only [bn,reduceCtorEq] at h5
        all_goals try (exfalso; omega)
        all_goals
         refine LWP_skip ?_
         apply LWP_run
         · repeat (simp -implicitDefEqProofs (disch:=omega) [St.e,h1,h3,h4,h5]; try simp only [gz])
           rfl
         -- loop 0,round 0
         refine ⟨i + 1,?_,?_,?_,?_⟩
         · refine ⟨by omega,fun k h hk => ?_⟩
           rcases Nat.lt_or_ge k i with q | q
           · exact c2 k h q
           · have e : k = i:=by omega
             subst e
             simp only [inS,Bool.and_eq_false_iff,decide_eq_false_iff_not]
             omega
         · omega
         · simp (disch:=omega) [leV,get_e0,get_e1,wkV.refl,wkV_int,wrap_i64,decT,decF,St.e,h1,h3,h4,h5]
         · simp [leH,get_e0,get_e1,h1,h3,h4,h5]
     ·try simp only [bn,reduceCtorEq] at h4
      all_goals try (exfalso; omega)
      all_goals
       apply rgnS_pre 7
       · repeat (simp -implicitDefEqProofs (disch:=omega) [St.e,h1,h3,h4]; try simp only [gz])
         rfl
       refine hK _ ?_; clear hK
       refine LWP_cond (t:=false) (by simp [LArg.ev,get_e0,get_e1,h1,h3,h4]) (fun h => by cases h) (fun _ => ?_)
       refine LWP_skip ?_
       apply LWP_run
       · repeat (simp -implicitDefEqProofs (disch:=omega) [St.e,h1,h3,h4]; try simp only [gz])
         rfl
       -- loop 0,round 1
       refine ⟨i + 1,?_,?_,?_,?_⟩
       · refine ⟨by omega,fun k h hk => ?_⟩
         rcases Nat.lt_or_ge k i with q | q
         · exact c2 k h q
         · have e : k = i:=by omega
           subst e
           simp only [inS,Bool.and_eq_false_iff,decide_eq_false_iff_not]
           omega
       · omega
       · simp (disch:=omega) [leV,get_e0,get_e1,wkV.refl,wkV_int,wrap_i64,decT,decF,St.e,h1,h3,h4]
       · simp [leH,get_e0,get_e1,h1,h3,h4]
   ·try simp only [bn,reduceCtorEq] at h3
    all_goals try (exfalso; omega)
    all_goals
     refine LWP_exit ?_
     refine LWP_seq ?_
     apply LWP_run
     · repeat (simp -implicitDefEqProofs (disch:=omega) [St.e,h1,h3]; try simp only [gz])
       rfl
     -- leaf 2
     refine LWP_ret ⟨_,rfl,?_⟩
     refine wkV_of_eq ?_
     simp only [retV]
     all_goals
      first
        | (rw [atF_miss (fun k h => c2 k h (by omega))]; done)
        | (rw [atF_hit (i:=i) (by omega) c2 (by simp only [inS,Bool.and_eq_true,decide_eq_true_eq]; omega)]; done)
end

theorem rat_ok (l : List St) (x : Int) (hl : l.length < 90000) : ACalls Go.Proofs.Try.prog 19 [.tsl 3 (l.map St.e),.int .i64 x] [] 0 (fun r _ _ => r = .tup [.int .i64 (atV l x).1,.bool (atV l x).2]):=by
  cases ca : chkB l with
  | false =>
    have:=rat_no l x hl ca
    rwa [atV,if_neg (by rw [ca]; simp)]
  | true =>
    have:=rat_in l x hl ca
    rwa [atV,if_pos ca]

section
attribute [local simp ↓] List.map_nil List.map_cons
attribute [local simp] m_ o_ g_ stepsS stepS gd opEff appEff LArg.ev app_val app_new app_upd app_kill putV ins_e0 ins_e1 get_e0 get_e1 binV binI grd bnd ldCells AV.cells AV.scalar AV.known setAt fillL chunks elems mxI mnI del Nat.add_assoc nlt_self nne_self nne_self' List.take_of_length_le decT decF wrap_i64 stepsD stepD ST.as dEffF LOp.cls softOK LOp.args LOp.rds AV.ids appD_val appD_new appD_upd appD_kill AS.flush delAll
set_option maxHeartbeats 2000000 in
set_option maxRecDepth 20000 in
theorem rdist_in (a b : List St) (la : a.length < 90000) (lb : b.length < 90000) (ca : chkB a = true) (cb : chkB b = true) : ACalls Go.Proofs.Try.prog 23 [.tsl 3 (a.map St.e),.tsl 3 (b.map St.e)] [] 0 (fun r _ _ => r = .int .i64 (rdis a b)):=by
 refine pure_body ok23 rfl ?_
 simp only [parV]
 have hadd:=hadd_ok ca cb
 have CA:=rchk_ok a (by omega)
 rw [ca] at CA
 have CB:=rchk_ok b (by omega)
 rw [cb] at CB
 refine LWP_seq ?_
 apply LWP_run
 · repeat (simp -implicitDefEqProofs (disch:=omega) [St.e,mx_ite,mn_ite,hadd]; try simp only [gz])
   rfl
 refine LWP_seq ?_
 refine LWP_seq ?_
 refine LWP_reg fun K hK => ?_
 apply rgnS_pre 1
 · repeat (simp -implicitDefEqProofs (disch:=omega) [St.e,mx_ite,mn_ite,hadd]; try simp only [gz])
   rfl
 refine rgnS_call (CA) rfl rfl (by simp [pureL,pureR,AV.pure,St.e,mx_ite,mn_ite,pureR_st]) (by simp [pureL,pureR,AV.pure,St.e,mx_ite,mn_ite,pureR_st]) (by simp [gd,get_e0,get_e1,LArg.ev]) ?_
 apply rgnS_pre 2
 · repeat (simp -implicitDefEqProofs (disch:=omega) [St.e,mx_ite,mn_ite,hadd]; try simp only [gz])
   rfl
 refine rgnS_guard (x:=11) (b:=false) rfl (fun h1 => ?_) (fun h1 => ?_)
 ·try simp only [bn,reduceCtorEq] at h1
  all_goals try (exfalso; omega)
  all_goals
   apply rgnS_pre 1
   · repeat (simp -implicitDefEqProofs (disch:=omega) [St.e,mx_ite,mn_ite,hadd,h1]; try simp only [gz])
     rfl
   refine rgnS_call (CB) rfl rfl (by simp [pureL,pureR,AV.pure,St.e,mx_ite,mn_ite,pureR_st]) (by simp [pureL,pureR,AV.pure,St.e,mx_ite,mn_ite,pureR_st]) (by simp [gd,get_e0,get_e1,LArg.ev,h1]) ?_
   apply rgnS_pre 2
   · repeat (simp -implicitDefEqProofs (disch:=omega) [St.e,mx_ite,mn_ite,hadd,h1]; try simp only [gz])
     rfl
   refine hK _ ?_; clear hK
   refine LWP_cond rfl (fun h2 => ?_) (fun h2 => ?_)
   ·try simp only [bn,reduceCtorEq] at h2
    all_goals try (exfalso; omega)
    all_goals
     refine LWP_seq ?_
     apply LWP_run
     · repeat (simp -implicitDefEqProofs (disch:=omega) [St.e,mx_ite,mn_ite,hadd,h1,h2]; try simp only [gz])
       rfl
     -- leaf 0
     refine LWP_ret ⟨_,rfl,?_⟩
     refine wkV_of_eq ?_
     simp only [retV]
     all_goals
      simp
   ·try simp only [bn,reduceCtorEq] at h2
    all_goals try (exfalso; omega)
    all_goals
     refine LWP_skip ?_
     refine LWP_seq ?_
     apply LWP_run
     · repeat (simp -implicitDefEqProofs (disch:=omega) [St.e,mx_ite,mn_ite,hadd,h1,h2]; try simp only [gz])
       rfl
     refine LWP_seq ?_
     refine LWP_seq ?_
     apply LWP_run
     · repeat (simp -implicitDefEqProofs (disch:=omega) [St.e,mx_ite,mn_ite,hadd,h1,h2]; try simp only [gz])
       rfl
     refine LWP_block ?_
     refine LWP_for (fun (p : Nat × Int) => [(0,.tsl 3 (a.map St.e)),(1,.tsl 3 (b.map St.e)),(5,.int .i64 p.2),(6,.int .i64 (p.1 : Nat))]) (fun (p : Nat × Int) => []) (fun (p : Nat × Int) n => p.1 ≤ a.length ∧ p.2 = (a.take p.1).foldl (rowD b) 0) (fun (p : Nat × Int) => a.length - p.1) (0,0) ?_ ?_ ?_ ?_
     · simp (disch:=omega) [leV,get_e0,get_e1,wkV.refl,wkV_int,decT,decF,St.e,mx_ite,mn_ite,hadd,h1,h2]
     · simp [leH,get_e0,get_e1,h1,h2]
     · exact ⟨Nat.zero_le _,rfl⟩
     rintro ⟨i,d⟩ n ⟨c1,c2⟩
     simp only at c1 c2
     refine LWP_seq ?_
     refine LWP_seq ?_
     apply LWP_run
     · repeat (simp -implicitDefEqProofs (disch:=omega) [St.e,mx_ite,mn_ite,hadd,h1,h2]; try simp only [gz])
       rfl
     refine LWP_cond rfl (fun h4 => ?_) (fun h4 => ?_)
     ·try simp only [bn,reduceCtorEq] at h4
      all_goals try (exfalso; omega)
      all_goals
       refine LWP_skip ?_
       refine LWP_seq ?_
       refine LWP_block ?_
       refine LWP_seq ?_
       apply LWP_run
       · repeat (simp -implicitDefEqProofs (disch:=omega) [St.e,mx_ite,mn_ite,hadd,h1,h2,h4]; try simp only [gz])
         rfl
       refine LWP_block ?_
       refine LWP_for (fun (q : Nat × Int) => [(0,.tsl 3 (a.map St.e)),(1,.tsl 3 (b.map St.e)),(5,.int .i64 q.2),(6,.int .i64 (i : Nat)),(7,.int .i64 (q.1 : Nat))]) (fun (q : Nat × Int) => []) (fun (q : Nat × Int) n2 => q.1 ≤ b.length ∧ q.2 = rowD (b.take q.1) d (a[i]'(by omega))) (fun (q : Nat × Int) => b.length - q.1) (0,d) ?_ ?_ ?_ ?_
       · simp (disch:=omega) [leV,get_e0,get_e1,wkV.refl,wkV_int,decT,decF,St.e,mx_ite,mn_ite,hadd,h1,h2,h4]
       · simp [leH,get_e0,get_e1,h1,h2,h4]
       · exact ⟨Nat.zero_le _,rfl⟩
       rintro ⟨k,e⟩ n2 ⟨e1,e2⟩
       simp only at e1 e2
       refine LWP_seq ?_
       refine LWP_seq ?_
       apply LWP_run
       · repeat (simp -implicitDefEqProofs (disch:=omega) [St.e,mx_ite,mn_ite,hadd,h1,h2,h4]; try simp only [gz])
         rfl
       refine LWP_cond rfl (fun h6 => ?_) (fun h6 => ?_)
       ·try simp only [bn,reduceCtorEq] at h6
        all_goals try (exfalso; omega)
        all_goals
         refine LWP_skip ?_
         refine LWP_seq ?_
         refine LWP_block ?_
         refine LWP_seq ?_
         refine LWP_regD' fun K hK => ?_
         apply rgnD_pre 8
         · repeat (simp -implicitDefEqProofs (disch:=omega) [St.e,mx_ite,mn_ite,hadd,h1,h2,h4,h6]; try simp only [gz])
           rfl
         apply rgnD_pre 8
         · repeat (simp -implicitDefEqProofs (disch:=omega) [St.e,mx_ite,mn_ite,hadd,h1,h2,h4,h6]; try simp only [gz])
           rfl
         apply rgnD_pre 7
         · repeat (simp -implicitDefEqProofs (disch:=omega) [St.e,mx_ite,mn_ite,hadd,h1,h2,h4,h6]; try simp only [gz])
           rfl
         refine hK _ _ (by simp [AS.fin,delAll,del,Nat.add_assoc]; rfl) ?_; clear hK
         refine LWP_cond rfl (fun h7 => ?_) (fun h7 => ?_)
         ·try simp only [bn,reduceCtorEq] at h7
          all_goals try (exfalso; omega)
          all_goals
           refine LWP_regD' fun K hK => ?_
           apply rgnD_pre 8
           · repeat (simp -implicitDefEqProofs (disch:=omega) [St.e,mx_ite,mn_ite,hadd,h1,h2,h4,h6,h7]; try simp only [gz])
             rfl
           apply rgnD_pre 6
           · repeat (simp -implicitDefEqProofs (disch:=omega) [St.e,mx_ite,mn_ite,hadd,h1,h2,h4,h6,h7]; try simp only [gz])
             rfl
           refine hK _ _ (by simp [AS.fin,delAll,del,Nat.add_assoc]; rfl) ?_; clear hK
           apply LWP_run
           · repeat (simp -implicitDefEqProofs (disch:=omega) [St.e,mx_ite,mn_ite,hadd,h1,h2,h4,h6,h7]; try simp only [gz])
             rfl
           -- loop 1,round 0
           refine ⟨(k + 1,max e ((a[i]'(by omega)).h + (b[k]'(by omega)).h)),?_,?_,?_,?_⟩
           · refine ⟨by simp only; omega,?_⟩
             simp only
             rw [rowD_take _ _ (by omega),← e2,nxd,if_pos (by unfold ov; omega)]
           · simp only; omega
           · simp (disch:=omega) [leV,get_e0,get_e1,wkV.refl,wkV_int,wrap_i64,decT,decF,St.e,mx_ite,mn_ite,hadd,h1,h2,h4,h6,h7]
           · simp [leH,get_e0,get_e1,h1,h2,h4,h6,h7]
         ·try simp only [bn,reduceCtorEq] at h7
          all_goals try (exfalso; omega)
          all_goals
           refine LWP_skip ?_
           apply LWP_run
           · repeat (simp -implicitDefEqProofs (disch:=omega) [St.e,mx_ite,mn_ite,hadd,h1,h2,h4,h6,h7]; try simp only [gz])
             rfl
           -- loop 1,round 1
           refine ⟨(k + 1,e),?_,?_,?_,?_⟩
           · refine ⟨by simp only; omega,?_⟩
             simp only
             rw [rowD_take _ _ (by omega),← e2,nxd,if_neg (by unfold ov; omega)]
           · simp only; omega
           · simp (disch:=omega) [leV,get_e0,get_e1,wkV.refl,wkV_int,wrap_i64,decT,decF,St.e,mx_ite,mn_ite,hadd,h1,h2,h4,h6,h7]
           · simp [leH,get_e0,get_e1,h1,h2,h4,h6,h7]
       ·try simp only [bn,reduceCtorEq] at h6
        all_goals try (exfalso; omega)
        all_goals
         refine LWP_exit ?_
         apply LWP_run
         · repeat (simp -implicitDefEqProofs (disch:=omega) [St.e,mx_ite,mn_ite,hadd,h1,h2,h4,h6]; try simp only [gz])
           rfl
         -- loop 0,round 0
         refine ⟨(i + 1,e),?_,?_,?_,?_⟩
         · refine ⟨by simp only; omega,?_⟩
           have ek : k = b.length:=by omega
           subst ek
           simp only
           rw [rdis_take (by omega),← c2,e2,List.take_length]
         · simp only; omega
         · simp (disch:=omega) [leV,get_e0,get_e1,wkV.refl,wkV_int,wrap_i64,decT,decF,St.e,mx_ite,mn_ite,hadd,h1,h2,h4,h6]
         · simp [leH,get_e0,get_e1,h1,h2,h4,h6]
     ·try simp only [bn,reduceCtorEq] at h4
      all_goals try (exfalso; omega)
      all_goals
       refine LWP_exit ?_
       refine LWP_seq ?_
       apply LWP_run
       · repeat (simp -implicitDefEqProofs (disch:=omega) [St.e,mx_ite,mn_ite,hadd,h1,h2,h4]; try simp only [gz])
         rfl
       -- leaf 1
       refine LWP_ret ⟨_,rfl,?_⟩
       refine wkV_of_eq ?_
       simp only [retV]
       all_goals
        have ei : i = a.length:=by omega
        subst ei
        rw [List.take_length] at c2
        rw [c2]
        rfl
 ·try simp only [bn,reduceCtorEq] at h1
  all_goals try (exfalso; omega)
  all_goals
   apply rgnS_pre 3
   · repeat (simp -implicitDefEqProofs (disch:=omega) [St.e,mx_ite,mn_ite,hadd,h1]; try simp only [gz])
     rfl
   refine hK _ ?_; clear hK
   refine LWP_cond (t:=true) (by simp [LArg.ev,get_e0,get_e1,h1]) (fun _ => ?_) (fun h => by cases h)
   refine LWP_seq ?_
   apply LWP_run
   · repeat (simp -implicitDefEqProofs (disch:=omega) [St.e,mx_ite,mn_ite,hadd,h1]; try simp only [gz])
     rfl
   -- leaf 2
   refine LWP_ret ⟨_,rfl,?_⟩
   refine wkV_of_eq ?_
   simp only [retV]
   all_goals
    have ei : i = a.length:=by omega
    subst ei
    rw [List.take_length] at c2
    rw [c2]
    rfl
set_option maxHeartbeats 2000000 in
set_option maxRecDepth 20000 in
theorem rdist_na (a b : List St) (la : a.length < 90000) (lb : b.length < 90000) (ca : chkB a = false) : ACalls Go.Proofs.Try.prog 23 [.tsl 3 (a.map St.e),.tsl 3 (b.map St.e)] [] 0 (fun r _ _ => r = .int .i64 0):=by
 refine pure_body ok23 rfl ?_
 simp only [parV]
 have CA:=rchk_ok a (by omega)
 rw [ca] at CA
 have CB:=rchk_ok b (by omega)
 refine LWP_seq ?_
 apply LWP_run
 · repeat (simp -implicitDefEqProofs (disch:=omega) [St.e]; try simp only [gz])
   rfl
 refine LWP_seq ?_
 refine LWP_seq ?_
 refine LWP_reg fun K hK => ?_
 apply rgnS_pre 1
 · repeat (simp -implicitDefEqProofs (disch:=omega) [St.e]; try simp only [gz])
   rfl
 refine rgnS_call (CA) rfl rfl (by simp [pureL,pureR,AV.pure,St.e,pureR_st]) (by simp [pureL,pureR,AV.pure,St.e,pureR_st]) (by simp [gd,get_e0,get_e1,LArg.ev]) ?_
 apply rgnS_pre 2
 · repeat (simp -implicitDefEqProofs (disch:=omega) [St.e]; try simp only [gz])
   rfl
 refine rgnS_guard (x:=11) (b:=false) rfl (fun h1 => ?_) (fun h1 => ?_)
 ·try simp only [bn,reduceCtorEq] at h1
  all_goals try (exfalso; omega)
  all_goals
   apply rgnS_pre 1
   · repeat (simp -implicitDefEqProofs (disch:=omega) [St.e,h1]; try simp only [gz])
     rfl
   refine rgnS_call (CB) rfl rfl (by simp [pureL,pureR,AV.pure,St.e,pureR_st]) (by simp [pureL,pureR,AV.pure,St.e,pureR_st]) (by simp [gd,get_e0,get_e1,LArg.ev,h1]) ?_
   apply rgnS_pre 2
   · repeat (simp -implicitDefEqProofs (disch:=omega) [St.e,h1]; try simp only [gz])
     rfl
   refine hK _ ?_; clear hK
   refine LWP_cond (t:=true) (by simp [LArg.ev,get_e0,get_e1,h1]) (fun _ => ?_) (fun h => by cases h)
   refine LWP_seq ?_
   apply LWP_run
   · repeat (simp -implicitDefEqProofs (disch:=omega) [St.e,h1]; try simp only [gz])
     rfl
   -- leaf 0
   refine LWP_ret ⟨_,rfl,?_⟩
   refine wkV_of_eq ?_
   simp only [retV]
   all_goals
    rfl
 ·try simp only [bn,reduceCtorEq] at h1
  all_goals try (exfalso; omega)
  all_goals
   apply rgnS_pre 3
   · repeat (simp -implicitDefEqProofs (disch:=omega) [St.e,h1]; try simp only [gz])
     rfl
   refine hK _ ?_; clear hK
   refine LWP_cond (t:=true) (by simp [LArg.ev,get_e0,get_e1,h1]) (fun _ => ?_) (fun h => by cases h)
   refine LWP_seq ?_
   apply LWP_run
   · repeat (simp -implicitDefEqProofs (disch:=omega) [St.e,h1]; try simp only [gz])
     rfl
   -- leaf 1
   refine LWP_ret ⟨_,rfl,?_⟩
   refine wkV_of_eq ?_
   simp only [retV]
   all_goals
    rfl
set_option maxHeartbeats 2000000 in
set_option maxRecDepth 20000 in
theorem rdist_nb (a b : List St) (la : a.length < 90000) (lb : b.length < 90000) (ca : chkB a = true) (cb : chkB b = false) : ACalls Go.Proofs.Try.prog 23 [.tsl 3 (a.map St.e),.tsl 3 (b.map St.e)] [] 0 (fun r _ _ => r = .int .i64 0):=by
 refine pure_body ok23 rfl ?_
 simp only [parV]
 have CA:=rchk_ok a (by omega)
 rw [ca] at CA
 have CB:=rchk_ok b (by omega)
 rw [cb] at CB
 refine LWP_seq ?_
 apply LWP_run
 · repeat (simp -implicitDefEqProofs (disch:=omega) [St.e]; try simp only [gz])
   rfl
 refine LWP_seq ?_
 refine LWP_seq ?_
 refine LWP_reg fun K hK => ?_
 apply rgnS_pre 1
 · repeat (simp -implicitDefEqProofs (disch:=omega) [St.e]; try simp only [gz])
   rfl
 refine rgnS_call (CA) rfl rfl (by simp [pureL,pureR,AV.pure,St.e,pureR_st]) (by simp [pureL,pureR,AV.pure,St.e,pureR_st]) (by simp [gd,get_e0,get_e1,LArg.ev]) ?_
 apply rgnS_pre 2
 · repeat (simp -implicitDefEqProofs (disch:=omega) [St.e]; try simp only [gz])
   rfl
 refine rgnS_guard (x:=11) (b:=false) rfl (fun h1 => ?_) (fun h1 => ?_)
 ·try simp only [bn,reduceCtorEq] at h1
  all_goals try (exfalso; omega)
  all_goals
   apply rgnS_pre 1
   · repeat (simp -implicitDefEqProofs (disch:=omega) [St.e,h1]; try simp only [gz])
     rfl
   refine rgnS_call (CB) rfl rfl (by simp [pureL,pureR,AV.pure,St.e,pureR_st]) (by simp [pureL,pureR,AV.pure,St.e,pureR_st]) (by simp [gd,get_e0,get_e1,LArg.ev,h1]) ?_
   apply rgnS_pre 2
   · repeat (simp -implicitDefEqProofs (disch:=omega) [St.e,h1]; try simp only [gz])
     rfl
   refine hK _ ?_; clear hK
   refine LWP_cond (t:=true) (by simp [LArg.ev,get_e0,get_e1,h1]) (fun _ => ?_) (fun h => by cases h)
   refine LWP_seq ?_
   apply LWP_run
   · repeat (simp -implicitDefEqProofs (disch:=omega) [St.e,h1]; try simp only [gz])
     rfl
   -- leaf 0
   refine LWP_ret ⟨_,rfl,?_⟩
   refine wkV_of_eq ?_
   simp only [retV]
   all_goals
    rfl
 ·try simp only [bn,reduceCtorEq] at h1
  all_goals try (exfalso; omega)
  all_goals
   apply rgnS_pre 3
   · repeat (simp -implicitDefEqProofs (disch:=omega) [St.e,h1]; try simp only [gz])
     rfl
   refine hK _ ?_; clear hK
   refine LWP_cond (t:=true) (by simp [LArg.ev,get_e0,get_e1,h1]) (fun _ => ?_) (fun h => by cases h)
   refine LWP_seq ?_
   apply LWP_run
   · repeat (simp -implicitDefEqProofs (disch:=omega) [St.e,h1]; try simp only [gz])
     rfl
   -- leaf 1
   refine LWP_ret ⟨_,rfl,?_⟩
   refine wkV_of_eq ?_
   simp only [retV]
   all_goals
    rfl
end

end Go.AM.Sk
