/- A part of a proof about the given program: what its name says. No premise beyond the statements'. -/
import Derived.Test.YtkhioehebaghjaaTkSkyT
import Derived.Test.YtkhioehebaghjaaTkSkyLn
set_option linter.unusedSimpArgs false
set_option linter.unusedVariables false
/- Steps of several skylines behind one another; merging. -/
namespace Go.AM.Sk
open Go.AM
open Go.AM.SkyP
def zS : List AV:=[.int .i64 0,.int .i64 0,.int .i64 0]
section
attribute [local simp ↓] List.map_nil List.map_cons
attribute [local simp] m_ o_ g_ stepsS stepS gd opEff appEff LArg.ev app_val app_new app_upd app_kill putV ins_e0 ins_e1 get_e0 get_e1 binV binI grd bnd ldCells AV.cells AV.scalar AV.known setAt fillL chunks elems mxI mnI del Nat.add_assoc nlt_self nne_self nne_self' List.take_of_length_le decT decF wrap_i64 stepsD stepD ST.as dEffF LOp.cls softOK LOp.args LOp.rds AV.ids appD_val appD_new appD_upd appD_kill AS.flush delAll
set_option maxHeartbeats 2000000 in
theorem grow_ok {H : Heap} {n m : Nat} (h1 : 1 ≤ m) (h2 : m < 100000) : ACalls Go.Proofs.Try.prog 49 [.nils,.int .i64 (m : Nat)] H n (postO n (.sl 3 n 0 0) (ins n (.rows 3 (List.replicate m zS)) H)):=by
  refine own_body ok49 rfl ?_
  simp only [parV]
  have e1 : ¬ (m : Int) < 0:=by omega
  have e2 : (0 : Int) < (m : Int):=by omega
  have e3 : (1 : Int) ≤ (m : Int):=by omega
  have wm : IntKind.i64.wrap (m : Int) = (m : Int):=wrap_i64 (by omega) (by omega)
  have e4 : (m : Int) * 24 ≤ 17592186044416:=by omega
  refine LWP_seq ?_
  apply LWP_run
  · repeat (simp -implicitDefEqProofs (disch:=omega) []; try simp only [gz])
    rfl
  refine LWP_seq (LWP_seq ?_)
  apply LWP_run
  · repeat (simp -implicitDefEqProofs (disch:=omega) []; try simp only [gz])
    rfl
  refine LWP_cond (t:=false) (by simp [LArg.ev,get_e0,get_e1]) (fun h => by cases h) (fun _ => LWP_skip ?_)
  refine LWP_seq (LWP_seq ?_)
  apply LWP_run
  · repeat (simp -implicitDefEqProofs (disch:=omega) [wm]; try simp only [gz])
    rfl
  refine LWP_seq ?_
  apply LWP_run
  · repeat (simp -implicitDefEqProofs (disch:=omega) []; try simp only [gz])
    rfl
  refine LWP_cond (t:=true) (by simp [LArg.ev,get_e0,get_e1,e2]) (fun _ => ?_) (fun h => by cases h)
  apply LWP_run
  · repeat (simp -implicitDefEqProofs (disch:=omega) [e3,e4]; try simp only [gz])
    rfl
  refine LWP_seq ?_
  apply LWP_run
  · repeat (simp -implicitDefEqProofs (disch:=omega) []; try simp only [gz])
    rfl
  refine LWP_ret ?_
  show retO [.t 4] n _ _ Exit.ret _
  refine ⟨by simp only; omega,⟨_,rfl,wkV.refl _⟩,fun c v h => ?_⟩
  exact h
set_option maxHeartbeats 2000000 in
theorem grow_0 : ACalls Go.Proofs.Try.prog 49 [.nils,.int .i64 0] [] 0 (fun r _ _ => r = .nils):=by
  refine pure_body ok49 rfl ?_
  simp only [parV]
  refine LWP_seq ?_
  apply LWP_run
  · repeat (simp -implicitDefEqProofs (disch:=omega) []; try simp only [gz])
    rfl
  refine LWP_seq (LWP_seq ?_)
  apply LWP_run
  · repeat (simp -implicitDefEqProofs (disch:=omega) []; try simp only [gz])
    rfl
  refine LWP_cond (t:=false) (by simp [LArg.ev,get_e0,get_e1]) (fun h => by cases h) (fun _ => LWP_skip ?_)
  refine LWP_seq (LWP_seq ?_)
  apply LWP_run
  · repeat (simp -implicitDefEqProofs (disch:=omega) []; try simp only [gz])
    rfl
  refine LWP_seq ?_
  apply LWP_run
  · repeat (simp -implicitDefEqProofs (disch:=omega) []; try simp only [gz])
    rfl
  refine LWP_cond (t:=false) (by simp [LArg.ev,get_e0,get_e1]) (fun h => by cases h) (fun _ => LWP_skip ?_)
  refine LWP_seq ?_
  apply LWP_run
  · repeat (simp -implicitDefEqProofs (disch:=omega) []; try simp only [gz])
    rfl
  refine LWP_ret ⟨_,rfl,?_⟩
  refine wkV_of_eq ?_
  simp only [retV]
end
def rowE (a : List St) : List AV:=[.tsl 3 (a.map St.e)]
def fls (ls : List (List St)) (i : Nat) : List St:=(ls.take i).flatten
theorem flat_take {ls : List (List St)} {i : Nat} (h : i < ls.length) : (ls.take (i + 1)).flatten = (ls.take i).flatten ++ ls[i]:=by
  rw [List.take_succ_eq_append_getElem h,List.flatten_append]
  simp
theorem flat_le (ls : List (List St)) (i : Nat) : (ls.take i).flatten.length ≤ ls.flatten.length:=by
  have:=congrArg (fun l : List (List St) => l.flatten.length) (List.take_append_drop i ls)
  simp only [List.flatten_append,List.length_append] at this
  omega
theorem flat_el {ls : List (List St)} {i : Nat} (h : i < ls.length) : (ls.take i).flatten.length + (ls[i]).length ≤ ls.flatten.length:=by
  have:=flat_le ls (i + 1)
  rw [flat_take h,List.length_append] at this
  exact this
theorem fls_all (ls : List (List St)) : fls ls ls.length = ls.flatten:=by rw [fls,List.take_length]
theorem fls_0 (ls : List (List St)) : fls ls 0 = []:=rfl
theorem fls_take {ls : List (List St)} {i : Nat} (h : i < ls.length) : fls ls (i + 1) = fls ls i ++ ls[i]:=flat_take h
theorem fls_el {ls : List (List St)} {i : Nat} (h : i < ls.length) : (fls ls i).length + (ls[i]).length ≤ (fls ls ls.length).length:=by
  rw [fls_all]
  exact flat_el h
theorem fls_wrap {ls : List (List St)} {i : Nat} (z2 : (fls ls ls.length).length ≤ 20000) (h : i < ls.length) : IntKind.i64.wrap (((fls ls i).length : Int) + (ls[i].length : Int)) = ((fls ls (i + 1)).length : Int):=by
  have:=fls_el h
  rw [fls_take h,List.length_append,wrap_i64 (by omega) (by omega)]; omega
theorem fls_room {ls : List (List St)} {i : Nat} (z2 : (fls ls ls.length).length ≤ 20000) (h : i < ls.length) : ((fls ls i).length + ls[i].length) * 24 ≤ 17592186044416:=by
  have:=fls_el h
  omega

section
attribute [local simp ↓] List.map_nil List.map_cons
attribute [local simp] m_ o_ g_ stepsS stepS gd opEff appEff LArg.ev app_val app_new app_upd app_kill putV ins_e0 ins_e1 get_e0 get_e1 binV binI grd bnd ldCells AV.cells AV.scalar AV.known setAt fillL chunks elems mxI mnI del Nat.add_assoc nlt_self nne_self nne_self' List.take_of_length_le decT decF wrap_i64 stepsD stepD ST.as dEffF LOp.cls softOK LOp.args LOp.rds AV.ids appD_val appD_new appD_upd appD_kill AS.flush delAll
set_option maxHeartbeats 2000000 in
set_option maxRecDepth 20000 in
theorem concat_ok (ls : List (List St)) (z1 : 1 ≤ (fls ls ls.length).length) (z2 : (fls ls ls.length).length ≤ 20000) (z3 : ls.length ≤ 100) : ACalls Go.Proofs.Try.prog 29 [.tsl 1 (ls.map rowE)] [] 0 (fun r _ _ => r = .tsl 3 ((fls ls ls.length).map St.e)):=by
 refine pure_body ok29 rfl ?_
 simp only [parV]
 refine LWP_seq ?_
 apply LWP_run
 · repeat (simp -implicitDefEqProofs (disch:=omega) [rowE,fls_0]; try simp only [gz])
   rfl
 refine LWP_seq ?_
 apply LWP_run
 · repeat (simp -implicitDefEqProofs (disch:=omega) [rowE,fls_0]; try simp only [gz])
   rfl
 refine LWP_seq ?_
 refine LWP_seq ?_
 apply LWP_run
 · repeat (simp -implicitDefEqProofs (disch:=omega) [rowE,fls_0]; try simp only [gz])
   rfl
 refine LWP_block ?_
 refine LWP_for (fun (i : Nat) => [(0,.tsl 1 (ls.map rowE)),(3,.int .i64 ((fls ls i).length : Nat)),(9,.tsl 1 (ls.map rowE)),(10,.int .i64 (ls.length : Nat)),(11,.int .i64 (i : Nat))]) (fun (i : Nat) => []) (fun (i : Nat) n => i ≤ ls.length) (fun (i : Nat) => ls.length - i) 0 ?_ ?_ ?_ ?_
 · simp (disch:=omega) [leV,get_e0,get_e1,wkV.refl,wkV_int,decT,decF,rowE,fls_0]
   try rfl
 · simp [leH,get_e0,get_e1]
 · exact Nat.zero_le _
 rintro i n c1
 have fw:=fun h => fls_wrap (ls:=ls) (i:=i) z2 h
 refine LWP_seq ?_
 apply LWP_run
 · repeat (simp -implicitDefEqProofs (disch:=omega) [rowE,fls_0,fw]; try simp only [gz])
   rfl
 refine LWP_seq ?_
 refine LWP_cond rfl (fun h2 => ?_) (fun h2 => ?_)
 ·try simp only [bn,reduceCtorEq] at h2
  all_goals try (exfalso; omega)
  all_goals
   refine LWP_skip ?_
   refine LWP_seq ?_
   refine LWP_block ?_
   refine LWP_seq ?_
   apply LWP_run
   · repeat (simp -implicitDefEqProofs (disch:=omega) [rowE,fls_0,fw,h2]; try simp only [gz])
     rfl
   refine LWP_seq ?_
   apply LWP_run
   · repeat (simp -implicitDefEqProofs (disch:=omega) [rowE,fls_0,fw,h2]; try simp only [gz])
     rfl
   refine LWP_seq ?_
   apply LWP_run
   · repeat (simp -implicitDefEqProofs (disch:=omega) [rowE,fls_0,fw,h2]; try simp only [gz])
     rfl
   refine LWP_cond rfl (fun h3 => ?_) (fun h3 => ?_)
   ·try simp only [bn,reduceCtorEq] at h3
    all_goals try (exfalso; omega)
    all_goals
     apply LWP_run
     · repeat (simp -implicitDefEqProofs (disch:=omega) [rowE,fls_0,fw,h2,h3]; try simp only [gz])
       rfl
     apply LWP_run
     · repeat (simp -implicitDefEqProofs (disch:=omega) [rowE,fls_0,fw,h2,h3]; try simp only [gz])
       rfl
     -- loop 0,round 0
     refine ⟨i + 1,?_,?_,?_,?_⟩
     · omega
     · omega
     · simp (disch:=omega) [leV,get_e0,get_e1,wkV.refl,wkV_int,wrap_i64,decT,decF,rowE,fls_0,fw,h2,h3]
     · simp [leH,get_e0,get_e1,fw,h2,h3]
   ·try simp only [bn,reduceCtorEq] at h3
    all_goals try (exfalso; omega)
    all_goals
     refine LWP_skip ?_
     apply LWP_run
     · repeat (simp -implicitDefEqProofs (disch:=omega) [rowE,fls_0,fw,h2,h3]; try simp only [gz])
       rfl
     -- loop 0,round 1
     refine ⟨i + 1,?_,?_,?_,?_⟩
     · omega
     · omega
     · simp (disch:=omega) [leV,get_e0,get_e1,wkV.refl,wkV_int,wrap_i64,decT,decF,rowE,fls_0,fw,h2,h3]
     · simp [leH,get_e0,get_e1,fw,h2,h3]
 ·try simp only [bn,reduceCtorEq] at h2
  all_goals try (exfalso; omega)
  all_goals
   refine LWP_exit ?_
   refine LWP_seq ?_
   have ei : i = ls.length:=by omega
   subst ei
   refine LWP_reg fun K hK => ?_
   apply rgnS_pre 1
   · repeat (simp -implicitDefEqProofs (disch:=omega) [rowE,fls_0,fw,h2]; try simp only [gz])
     rfl
   refine rgnS_callO (grow_ok (m:=(fls ls ls.length).length) z1 (by omega)) rfl rfl (by simp [gd,get_e0,get_e1,LArg.ev,fw,h2]) fun n' hn' => ?_
   apply rgnS_pre 1
   · repeat (simp -implicitDefEqProofs (disch:=omega) [rowE,fls_0,fw,h2]; try simp only [gz])
     rfl
   refine hK _ ?_; clear hK
   refine LWP_seq ?_
   refine LWP_seq ?_
   refine LWP_keys fun hk => ?_
   have hkn:=hk n (.rows 3 (List.replicate (fls ls ls.length).length zS)) (by simp [get_ins,get_e0,get_e1])
   simp only at hkn
   apply LWP_run
   · repeat (simp -implicitDefEqProofs (disch:=omega) [rowE,fls_0,fw,h2]; try simp only [gz])
     rfl
   refine LWP_block ?_
   refine LWP_for (fun (p : Nat × Nat × List (List AV)) => [(6,.sl 3 p.2.1 0 (fls ls p.1).length),(25,.tsl 1 (ls.map rowE)),(26,.int .i64 (ls.length : Nat)),(27,.int .i64 (p.1 : Nat))]) (fun (p : Nat × Nat × List (List AV)) => [(p.2.1,Blk.rows 3 ((fls ls p.1).map St.e ++ p.2.2))]) (fun (p : Nat × Nat × List (List AV)) n2 => p.1 ≤ ls.length ∧ p.2.1 < n2) (fun (p : Nat × Nat × List (List AV)) => ls.length - p.1) (0,n,List.replicate (fls ls ls.length).length zS) ?_ ?_ ?_ ?_
   · simp (disch:=omega) [leV,get_e0,get_e1,wkV.refl,wkV_int,decT,decF,rowE,fls_0,fw,h2]
     try rfl
   · simp [leH,get_e0,get_e1,fw,h2]
     try rfl
   · exact ⟨Nat.zero_le _,hkn⟩
   rintro ⟨i,b,Z⟩ n2 ⟨c1,c2⟩
   simp only at c1 c2
   have ft:=fun h => fls_take (ls:=ls) (i:=i) h
   have fr:=fun h => fls_room (ls:=ls) (i:=i) z2 h
   have k1 : ¬ n2 = b:=by omega
   have k2 : ¬ b = n2:=by omega
   have k3 : List.take (fls ls i).length ((fls ls i).map St.e ++ Z) = (fls ls i).map St.e:=List.take_left' (by simp)
   refine LWP_seq ?_
   apply LWP_run
   · repeat (simp -implicitDefEqProofs (disch:=omega) [rowE,fls_0,fw,h2,k1,k2,k3,ft,fr]; try simp only [gz])
     rfl
   refine LWP_seq ?_
   refine LWP_cond rfl (fun h5 => ?_) (fun h5 => ?_)
   ·try simp only [bn,reduceCtorEq] at h5
    all_goals try (exfalso; omega)
    all_goals
     refine LWP_skip ?_
     refine LWP_seq ?_
     refine LWP_block ?_
     refine LWP_seq ?_
     apply LWP_run
     · repeat (simp -implicitDefEqProofs (disch:=omega) [rowE,fls_0,fw,h2,k1,k2,k3,ft,fr,h5]; try simp only [gz])
       rfl
     apply LWP_run
     · repeat (simp -implicitDefEqProofs (disch:=omega) [rowE,fls_0,fw,h2,k1,k2,k3,ft,fr,h5]; try simp only [gz])
       rfl
     apply LWP_run
     · repeat (simp -implicitDefEqProofs (disch:=omega) [rowE,fls_0,fw,h2,k1,k2,k3,ft,fr,h5]; try simp only [gz])
       rfl
     -- loop 1,round 0
     refine ⟨(i + 1,n2,[]),?_,?_,?_,?_⟩
     · exact ⟨by simp only; omega,by simp⟩
     · simp only; omega
     · simp (disch:=omega) [leV,get_e0,get_e1,wkV.refl,wkV_int,wrap_i64,decT,decF,rowE,fls_0,fw,h2,k1,k2,k3,ft,fr,h5]
     · simp [leH,get_e0,get_e1,fw,h2,k1,k2,k3,ft,fr,h5]
       try rfl
   ·try simp only [bn,reduceCtorEq] at h5
    all_goals try (exfalso; omega)
    all_goals
     refine LWP_exit ?_
     refine LWP_seq ?_
     have ei : i = ls.length:=by omega
     subst ei
     refine LWP_deep [(6,.tsl 3 ((fls ls ls.length).map St.e))] 5 ?_ ?_
     · simp only [deepL]
       refine ⟨⟨_,rfl,?_⟩,trivial⟩
       refine deepV_sl (es:=(fls ls ls.length).map St.e ++ Z) (by simp [get_e1]) (by simp) ?_
       rw [List.drop_zero,List.take_left' (by simp)]
       exact deep_st (m:=3) _
     apply LWP_run
     · repeat (simp -implicitDefEqProofs (disch:=omega) [rowE,fls_0,fw,h2,k1,k2,k3,ft,fr,h5]; try simp only [gz])
       rfl
     -- leaf 0
     refine LWP_ret ⟨_,rfl,?_⟩
     refine wkV_of_eq ?_
     simp only [retV]
     all_goals
      rfl
end

end Go.AM.Sk
