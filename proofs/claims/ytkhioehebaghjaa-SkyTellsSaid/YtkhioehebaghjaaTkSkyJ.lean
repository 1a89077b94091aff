/- A part of a proof about the given program: what its name says. No premise beyond the statements'. -/
import Derived.Test.YtkhioehebaghjaaTkSkyI
set_option linter.unusedSimpArgs false
set_option linter.unusedVariables false
/- Numbers of which each stands once behind the other: slices.Compact. -/
namespace Go.AM.Sk
open Go.AM
open Go.AM.SkyP
def inE (x : Int) : List AV:=[.int .i64 x]
/-- The first numbers, each that is as the one ahead of it left out. -/
def dedN (xs : List Int) : Nat → List Int
  | 0 => []
  | j + 1 => match xs[j]? with
    | none => dedN xs j
    | some y => if j ≠ 0 ∧ xs[j - 1]? = some y then dedN xs j else dedN xs j ++ [y]
theorem dedN_eq {xs : List Int} {j : Nat} (h : j < xs.length) (h0 : 0 < j) (he : xs[j] = xs[j - 1]'(by omega)) : dedN xs (j + 1) = dedN xs j:=by
  simp only [dedN,List.getElem?_eq_getElem h]
  rw [if_pos ⟨by omega,by rw [List.getElem?_eq_getElem (by omega),he]⟩]
theorem dedN_ne {xs : List Int} {j : Nat} (h : j < xs.length) (he : j = 0 ∨ ∃ (h0 : 0 < j),xs[j] ≠ xs[j - 1]'(by omega)) : dedN xs (j + 1) = dedN xs j ++ [xs[j]]:=by
  simp only [dedN,List.getElem?_eq_getElem h]
  rw [if_neg]
  rintro ⟨h1,h2⟩
  rcases he with he | ⟨h0,he⟩
  · exact h1 he
  · rw [List.getElem?_eq_getElem (by omega)] at h2
    exact he (by injection h2 with h2; exact h2.symm)
theorem dedN_len (xs : List Int) : ∀ j,(dedN xs j).length ≤ j
  | 0 => Nat.le_refl _
  | j + 1 => by
    have:=dedN_len xs j
    simp only [dedN]
    split
    · omega
    · split
      · omega
      · simp; omega
def cmpR2 (xs : List Int) : List Int:=dedN xs xs.length ++ List.replicate (xs.length - (dedN xs xs.length).length) 0
section
attribute [local simp ↓] List.map_nil List.map_cons
attribute [local simp] m_ o_ g_ stepsS stepS gd opEff appEff LArg.ev app_val app_new app_upd app_kill putV ins_e0 ins_e1 get_e0 get_e1 binV binI grd bnd ldCells AV.cells AV.scalar AV.known setAt fillL chunks elems mxI mnI del Nat.add_assoc nlt_self nne_self nne_self' List.take_of_length_le decT decF wrap_i64 stepsD stepD ST.as dEffF LOp.cls softOK LOp.args LOp.rds AV.ids appD_val appD_new appD_upd appD_kill AS.flush delAll
set_option maxHeartbeats 2000000 in
theorem compact_ok {H : Heap} {n b m : Nat} {xs : List Int} (hbn : b < n) (hm : xs.length = m) (hd : m < 1000000) (hb : get H b = some (.rows 1 (xs.map inE))) :
    ACalls Go.Proofs.Try.prog 40 [.sl 1 b 0 m] H n (postO n (.sl 1 b 0 (dedN xs m).length) (ins b (.rows 1 ((cmpR2 xs).map inE)) H)):=by
  refine own_body ok40 rfl ?_
  simp only [parV]
  have same : dedN xs m = xs → ∀ c v,get (ins b (.rows 1 ((cmpR2 xs).map inE)) H) c = some v → get H c = some v:=fun he c v h => by
    have e : cmpR2 xs = xs:=by simp [cmpR2,hm,he]
    rw [e] at h
    exact get_ins_same hb h
  refine LWP_seq ?_
  apply LWP_run
  · repeat (simp -implicitDefEqProofs (disch:=omega) []; try simp only [gz])
    rfl
  refine LWP_seq (LWP_seq ?_)
  apply LWP_run
  · repeat (simp -implicitDefEqProofs (disch:=omega) []; try simp only [gz])
    rfl
  by_cases h2 : m < 2
  · have e2 : (m : Int) < 2:=by omega
    have hx : dedN xs m = xs:=by
      rcases xs with _ | ⟨x,_ | ⟨y,r⟩⟩
      · subst hm; rfl
      · subst hm; simp [dedN]
      · simp at hm; omega
    refine LWP_cond (t:=true) (by simp [LArg.ev,get_e0,get_e1,e2]) (fun _ => ?_) (fun h => by cases h)
    refine LWP_seq ?_
    apply LWP_run
    · repeat (simp -implicitDefEqProofs (disch:=omega) []; try simp only [gz])
      rfl
    refine LWP_ret ?_
    show retO [.t 2] n _ _ Exit.ret _
    refine ⟨by simp only; omega,⟨_,rfl,?_⟩,fun c v h => same hx c v h⟩
    rw [hx,hm]; exact wkV.refl _
  · have e2 : ¬ (m : Int) < 2:=by omega
    refine LWP_cond (t:=false) (by simp [LArg.ev,get_e0,get_e1,e2]) (fun h => by cases h) (fun _ => LWP_skip ?_)
    refine LWP_seq (LWP_seq ?_)
    apply LWP_run
    · repeat (simp -implicitDefEqProofs (disch:=omega) []; try simp only [gz])
      rfl
    refine LWP_block (LWP_inv (fun q : Nat × Nat => ⟨[(0,.sl 1 b 0 m),(3,.int .i64 (q.1 : Nat))],H,q.2⟩) (fun q => m - q.1) (fun q => 1 ≤ q.1 ∧ q.1 ≤ m ∧ n ≤ q.2 ∧ dedN xs q.1 = xs.take q.1) (1,n) ?_ ⟨Nat.le_refl _,by simp only; omega,Nat.le_refl _,?_⟩ ?_)
    · refine .mk' ?_ (fun c v h => h) (by simp)
      simp [leV,get_e0,get_e1,wkV.refl]
    · rw [dedN_ne (by omega) (.inl rfl)]
      rw [List.take_succ_eq_append_getElem (by omega)]
      simp [dedN]
    rintro ⟨k,nx⟩ ⟨c1,c2,c4,c3⟩
    simp only at c1 c2 c3 c4 ⊢
    have wk1:=wrap_succ (n:=k) (by omega)
    have hbx : b < nx:=by omega
    refine LWP_seq (LWP_seq ?_)
    apply LWP_run
    · repeat (simp -implicitDefEqProofs (disch:=omega) []; try simp only [gz])
      rfl
    refine LWP_cond (t:=decide (k < m)) (by simp [LArg.ev,get_e0,get_e1]) (fun hc => LWP_skip ?_) (fun hc => LWP_exit ?_)
    · have hc' : k < m:=by simpa using hc
      have g1 : k < xs.length:=by omega
      have g2 : k - 1 < xs.length:=by omega
      have g3 : (k : Int) < (m : Int):=by omega
      have g4 : ((k - 1 : Nat) : Int) < (m : Int):=by omega
      have wm : IntKind.i64.wrap ((k : Int) - 1) = ((k - 1 : Nat) : Int):=by rw [wrap_i64 (by omega) (by omega)]; omega
      refine LWP_seq (LWP_block (LWP_seq ?_))
      apply LWP_runD
      · repeat (simp -implicitDefEqProofs (disch:=omega) [hb,hbx,g1,g2,g3,g4,wm,hm,inE]; try simp only [gz])
        rfl
      · simp [AS.fin,delAll,del,Nat.add_assoc]; rfl
      by_cases he : xs[k] = xs[k - 1]
      · refine LWP_cond (t:=true) (by simp [LArg.ev,get_e0,get_e1,he]) (fun _ => ?_) (fun h => by cases h)
        have hmk : ((m : Int) - (k : Int)).toNat = m - k:=by omega
        have hkm : (k : Int) ≤ (m : Int):=by omega
        refine LWP_seq ?_
        apply LWP_run
        · repeat (simp -implicitDefEqProofs (disch:=omega) [hmk,hkm]; try simp only [gz])
          rfl
        refine LWP_seq (LWP_seq ?_)
        apply LWP_run
        · repeat (simp -implicitDefEqProofs (disch:=omega) []; try simp only [gz])
          rfl
        refine LWP_block (LWP_inv (fun q : Nat × Nat × List Int × Nat => ⟨[(0,.sl 1 b 0 m),(3,.int .i64 (q.1 : Nat)),(4,.sl 1 b k (m - k)),(5,.int .i64 (q.2.1 : Nat))],ins b (.rows 1 (q.2.2.1.map inE)) H,q.2.2.2⟩) (fun q => m - k - q.2.1)
          (fun q => 1 ≤ q.2.1 ∧ q.2.1 ≤ m - k ∧ q.1 + 1 ≤ k + q.2.1 ∧ q.2.2.1.length = m ∧ n ≤ q.2.2.2 ∧ q.2.2.1.take q.1 = dedN xs (k + q.2.1) ∧ q.2.2.1.drop (k + q.2.1 - 1) = xs.drop (k + q.2.1 - 1)) (k,1,xs,nx + 10) ?_ ⟨Nat.le_refl _,by simp only; omega,by simp only; omega,hm,by simp only; omega,?_,rfl⟩ ?_)
        · refine .mk' ?_ (fun c v h => get_ins_same hb h) (by simp)
          simp [leV,get_e0,get_e1,wkV.refl]
        · simp only
          rw [dedN_eq g1 (by omega) he,c3]
        rintro ⟨u,t,A,ny⟩ ⟨d1,d2,d3,d4,d5,d6,d7⟩
        simp only at d1 d2 d3 d4 d5 d6 d7 ⊢
        have wu:=wrap_succ (n:=u) (by omega)
        have wt:=wrap_succ (n:=t) (by omega)
        have hby : b < ny:=by omega
        refine LWP_seq (LWP_seq ?_)
        apply LWP_run
        · repeat (simp -implicitDefEqProofs (disch:=omega) []; try simp only [gz])
          rfl
        refine LWP_cond (t:=decide (t < m - k)) (by simp [LArg.ev,get_e0,get_e1]) (fun hc => LWP_skip ?_) (fun hc => LWP_exit ?_)
        · have ht : t < m - k:=by simpa using hc
          have q1 : k + t < A.length:=by omega
          have q2 : k + (t - 1) < A.length:=by omega
          have q1x : k + t < xs.length:=by omega
          have q2x : k + (t - 1) < xs.length:=by omega
          have q3 : (t : Int) < ((m - k : Nat) : Int):=by omega
          have q4 : ((t - 1 : Nat) : Int) < ((m - k : Nat) : Int):=by omega
          have q5 : (u : Int) < (m : Int):=by omega
          have q6 : u < A.length:=by omega
          have wtm : IntKind.i64.wrap ((t : Int) - 1) = ((t - 1 : Nat) : Int):=by rw [wrap_i64 (by omega) (by omega)]; omega
          have hA1 : A[k + (t - 1)] = xs[k + (t - 1)]:=by
            have h:=congrArg (fun q => q[0]?) d7
            simp only [List.getElem?_drop,Nat.add_zero,show k + t - 1 = k + (t - 1) by omega] at h
            rw [List.getElem?_eq_getElem q2,List.getElem?_eq_getElem q2x] at h
            injection h
          have hA0 : A[k + t] = xs[k + t]:=by
            have h:=congrArg (fun q => q[1]?) d7
            simp only [List.getElem?_drop,show k + t - 1 + 1 = k + t by omega] at h
            rw [List.getElem?_eq_getElem q1,List.getElem?_eq_getElem q1x] at h
            injection h
          refine LWP_seq (LWP_block (LWP_seq ?_))
          apply LWP_runD
          · repeat (simp -implicitDefEqProofs (disch:=omega) [get_ins,hby,q1,q2,q3,q4,wtm,d4,inE,hA0,hA1]; try simp only [gz])
            rfl
          · simp [AS.fin,delAll,del,Nat.add_assoc]; rfl
          have ix : k + (t - 1) = k + t - 1:=by omega
          have hdrop : A.drop (k + (t + 1) - 1) = xs.drop (k + (t + 1) - 1):=by
            have h:=congrArg (List.drop 1) d7
            rw [List.drop_drop,List.drop_drop] at h
            rwa [show k + (t + 1) - 1 = k + t - 1 + 1 by omega]
          by_cases hn : xs[k + t] = xs[k + (t - 1)]
          · refine LWP_cond (t:=false) (by simp [LArg.ev,get_e0,get_e1,hn]) (fun h => by cases h) (fun _ => LWP_skip ?_)
            apply LWP_run
            · repeat (simp -implicitDefEqProofs (disch:=omega) [wt]; try simp only [gz])
              rfl
            refine ⟨(u,t + 1,A,_),⟨by simp only; omega,by simp only; omega,by simp only; omega,d4,?_,?_,hdrop⟩,by simp only; omega,.mk' ?_ (fun c v h => h) rfl⟩
            · simp only; omega
            · simp only
              rw [d6,show k + (t + 1) = k + t + 1 by omega,dedN_eq q1x (by omega) (by simp only [← ix]; exact hn)]
            · simp [leV,get_e0,get_e1,wkV.refl]
          · refine LWP_cond (t:=true) (by simp [LArg.ev,get_e0,get_e1,hn]) (fun _ => ?_) (fun h => by cases h)
            refine LWP_seq ?_
            apply LWP_run
            · repeat (simp -implicitDefEqProofs (disch:=omega) [get_ins,hby,q1,q3,q5,q6,d4,inE,hA0,Go.AM.ins_ins]; try simp only [gz])
              rfl
            apply LWP_run
            · repeat (simp -implicitDefEqProofs (disch:=omega) [wu]; try simp only [gz])
              rfl
            apply LWP_run
            · repeat (simp -implicitDefEqProofs (disch:=omega) [wt]; try simp only [gz])
              rfl
            refine ⟨(u + 1,t + 1,A.set u xs[k + t],_),⟨by simp only; omega,by simp only; omega,by simp only; omega,by simp [d4],?_,?_,?_⟩,by simp only; omega,.mk' ?_ (fun c v h => ?_) rfl⟩
            · simp only; omega
            · simp only
              rw [show k + (t + 1) = k + t + 1 by omega,dedN_ne q1x (.inr ⟨by omega,by simp only [← ix]; exact hn⟩),← d6,List.take_succ_eq_append_getElem (by simpa using q6),List.take_set,List.set_eq_of_length_le (by rw [List.length_take]; omega),List.getElem_set_self]
            · simp only
              rw [List.drop_set_of_lt (by omega)]
              exact hdrop
            · simp [leV,get_e0,get_e1,wkV.refl]
            · simp only at h ⊢
              rw [show [AV.int IntKind.i64 xs[k + t]] = inE xs[k + t] from rfl,← List.map_set]
              exact h
        · have ht : ¬ t < m - k:=by simpa using hc
          have et : k + t = m:=by omega
          rw [et] at d6
          have hki : (dedN xs m).length = u:=by rw [← d6,List.length_take]; omega
          obtain ⟨r,hr⟩ : ∃ r,m = u + (r + 1):=⟨m - u - 1,by omega⟩
          have hmi : ((m : Int) - (u : Int)).toNat = r + 1:=by omega
          have hij : (u : Int) ≤ (m : Int):=by omega
          have hAl : u + (r + 1) ≤ A.length:=by omega
          refine LWP_seq ?_
          apply LWP_run
          · repeat (simp -implicitDefEqProofs (disch:=omega) [get_ins,hmi,hij,hAl]; try simp only [gz])
            rfl
          refine LWP_seq ?_
          apply LWP_run
          · repeat (simp -implicitDefEqProofs (disch:=omega) [hij]; try simp only [gz])
            rfl
          refine LWP_ret ?_
          show retO [.t 2] n _ _ Exit.ret _
          refine ⟨by simp only; omega,⟨_,rfl,?_⟩,fun c v h => ?_⟩
          · rw [hki]; exact wkV.refl _
          · simp only at h ⊢
            have eR : List.take u (List.map inE A) ++ (List.replicate (r + 1) [AV.int IntKind.i64 0] ++ List.drop (u + (r + 1)) (List.map inE A)) = (cmpR2 xs).map inE:=by
              have el : xs.length - u = r + 1:=by omega
              rw [cmpR2,hm,hki,← hm,el,hm,List.map_append,List.map_replicate,← d6,List.map_take,List.drop_eq_nil_of_le (by rw [List.length_map]; omega),List.append_nil]
              rfl
            rw [eR,Go.AM.ins_ins]
            exact h
      · refine LWP_cond (t:=false) (by simp [LArg.ev,get_e0,get_e1,he]) (fun h => by cases h) (fun _ => LWP_skip ?_)
        apply LWP_run
        · repeat (simp -implicitDefEqProofs (disch:=omega) [wk1]; try simp only [gz])
          rfl
        refine ⟨(k + 1,_),⟨by simp only; omega,by simp only; omega,?_,?_⟩,by simp only; omega,.mk' ?_ (fun c v h => h) rfl⟩
        · simp only; omega
        · simp only
          rw [dedN_ne g1 (.inr ⟨by omega,he⟩),c3,List.take_succ_eq_append_getElem g1]
        · simp [leV,get_e0,get_e1,wkV.refl]
    · have hc' : ¬ k < m:=by simpa using hc
      have ek : k = m:=by omega
      subst ek
      have hx : dedN xs k = xs:=by rw [c3,← hm,List.take_length]
      refine LWP_seq ?_
      apply LWP_run
      · repeat (simp -implicitDefEqProofs (disch:=omega) []; try simp only [gz])
        rfl
      refine LWP_ret ?_
      show retO [.t 2] n _ _ Exit.ret _
      refine ⟨by simp only; omega,⟨_,rfl,?_⟩,fun c v h => same hx c v h⟩
      rw [hx,hm]; exact wkV.refl _
end
end Go.AM.Sk
