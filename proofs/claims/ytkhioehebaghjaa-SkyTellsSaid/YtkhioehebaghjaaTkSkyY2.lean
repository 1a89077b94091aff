/- A part of a proof about the given program: what its name says. No premise beyond the statements'. -/
import Derived.Test.YtkhioehebaghjaaTkSkyY1
set_option linter.unusedSimpArgs false
set_option linter.unusedVariables false
/- Skylines, raised: the program's and the second opinion's. -/
namespace Go.AM.Sk
open Go.AM
open Go.AM.SkyP
def shS (x h : Int) (s : St) : St:=⟨s.x0 + x,s.x1 + x,s.h + h⟩
def shR (l : List St) (x h : Int) (i : Nat) : List (List AV):=((l.take i).map (shS x h)).map St.e
theorem shR_len {l : List St} {x h : Int} {i : Nat} (hi : i ≤ l.length) : (shR l x h i).length = i:=by
  rw [shR,List.length_map,List.length_map,List.length_take]; omega
theorem shR_take {l : List St} {x h : Int} {i : Nat} (hi : i < l.length) : shR l x h (i + 1) = shR l x h i ++ [[.int .i64 (l[i].x0 + x),.int .i64 (l[i].x1 + x),.int .i64 (l[i].h + h)]]:=by
  rw [shR,shR,List.take_succ_eq_append_getElem hi,List.map_append,List.map_append]
  rfl
theorem shR_0 (l : List St) (x h : Int) : shR l x h 0 = []:=rfl
theorem shR_take0 {l : List St} {x h : Int} {i : Nat} (hi : i ≤ l.length) : List.take i (shR l x h i) = shR l x h i:=List.take_of_length_le (by rw [shR_len hi]; exact Nat.le_refl _)
theorem shR_deep {H : Heap} {b m : Nat} {l : List St} {x h : Int} (hm : l.length = m) (hb : get H b = some (.rows 3 (shR l x h m))) : deepV H 5 (.sl 3 b 0 m) = some (.tsl 3 ((l.map (shS x h)).map St.e)):=by
  refine deepV_sl (n:=4) hb (by rw [shR_len (by omega)]; omega) ?_
  rw [List.drop_zero,shR_take0 (by omega),shR,← hm,List.take_length]
  exact deep_st (m:=3) _
theorem sh_wrap {l : List St} {x h : Int} {i : Nat} (ca : chkB l = true) (hx : okF x = true) (hh : okF h = true) (hi : i < l.length) : IntKind.i64.wrap (l[i].x0 + x) = l[i].x0 + x ∧ IntKind.i64.wrap (l[i].x1 + x) = l[i].x1 + x ∧ IntKind.i64.wrap (l[i].h + h) = l[i].h + h:=by
  have h1:=(chk_okAt ca i hi).1
  simp only [sndB,okF,Bool.and_eq_true,decide_eq_true_eq] at h1 hx hh
  exact ⟨wrap_i64 (by omega) (by omega),wrap_i64 (by omega) (by omega),wrap_i64 (by omega) (by omega)⟩
def rV (x h : Int) (l : List St) : AV:=if (l.map (shS x h)).all sndB = true then .tup [.tsl 3 ((l.map (shS x h)).map St.e),.int .i64 0] else .tup [.tsl 3 [],.int .i64 3]
theorem rV_no {x h : Int} {l : List St} {i : Nat} (hi : i < l.length) (hs : sndB (shS x h l[i]) = false) : (l.map (shS x h)).all sndB = false:=by
  rw [List.all_eq_false]
  exact ⟨shS x h l[i],List.mem_map.2 ⟨l[i],List.getElem_mem hi,rfl⟩,by simp [hs]⟩
theorem rV_yes {x h : Int} {l : List St} (hs : ∀ (k : Nat) (hk : k < l.length),sndB (shS x h l[k]) = true) : (l.map (shS x h)).all sndB = true:=by
  rw [List.all_eq_true]
  intro s hs'
  obtain ⟨t,ht,rfl⟩:=List.mem_map.1 hs'
  obtain ⟨k,hk,rfl⟩:=List.getElem_of_mem ht
  exact hs k hk
theorem sh_snd {x h : Int} {l : List St} {i : Nat} (ca : chkB l = true) (hi : i < l.length) (h1 : okF (l[i].x0 + x) = true) (h2 : okF (l[i].x1 + x) = true) (h3 : okF (l[i].h + h) = true) : sndB (shS x h l[i]) = true:=by
  have h4:=(snd_h (chk_okAt ca i hi).1).2
  simp only [sndB,shS,h1,h2,h3,Bool.true_and,decide_eq_true_eq]
  exact decide_eq_true (by show l[i].x0 + x < l[i].x1 + x; omega)
theorem sh_bad {x h : Int} {s : St} (h1 : okF (s.x0 + x) = false ∨ okF (s.x1 + x) = false ∨ okF (s.h + h) = false) : sndB (shS x h s) = false:=by
  simp only [sndB,shS]
  rcases h1 with h1 | h1 | h1 <;> simp [h1]

section
attribute [local simp ↓] List.map_nil List.map_cons
attribute [local simp] m_ o_ g_ stepsS stepS gd opEff appEff LArg.ev app_val app_new app_upd app_kill putV ins_e0 ins_e1 get_e0 get_e1 binV binI grd bnd ldCells AV.cells AV.scalar AV.known setAt fillL chunks elems mxI mnI del Nat.add_assoc nlt_self nne_self nne_self' List.take_of_length_le decT decF wrap_i64 stepsD stepD ST.as dEffF LOp.cls softOK LOp.args LOp.rds AV.ids appD_val appD_new appD_upd appD_kill AS.flush delAll
set_option maxHeartbeats 2000000 in
set_option maxRecDepth 20000 in
theorem raise_no (l : List St) (x h : Int) (hl : l.length < 90000) (ca : chkB l = false) : ACalls Go.Proofs.Try.prog 16 [.tsl 3 (l.map St.e),.int .i64 x,.int .i64 h] [] 0 (fun r _ _ => r = .tup [.tsl 3 [],.int .i64 2]):=by
 refine pure_body ok16 rfl ?_
 simp only [parV]
 have CA:=check_ok l (by omega)
 rw [ca] at CA
 have hx : True:=trivial
 have hh : True:=trivial
 refine LWP_seq ?_
 apply LWP_run
 · repeat (simp -implicitDefEqProofs (disch:=omega) [St.e,shS,shR_0]; try simp only [gz])
   rfl
 refine LWP_seq ?_
 refine LWP_block ?_
 refine LWP_seq ?_
 refine LWP_reg fun K hK => ?_
 apply rgnS_pre 1
 · repeat (simp -implicitDefEqProofs (disch:=omega) [St.e,shS,shR_0]; try simp only [gz])
   rfl
 refine rgnS_call (CA) rfl rfl (by simp [pureL,pureR,AV.pure,St.e,shS,shR_0,pureR_st]) (by simp [pureL,pureR,AV.pure,St.e,shS,shR_0,pureR_st]) (by simp [gd,get_e0,get_e1,LArg.ev]) ?_
 apply rgnS_pre 2
 · repeat (simp -implicitDefEqProofs (disch:=omega) [St.e,shS,shR_0]; try simp only [gz])
   rfl
 refine hK _ ?_; clear hK
 refine LWP_cond (t:=true) (by simp [LArg.ev,get_e0,get_e1]) (fun _ => ?_) (fun h => by cases h)
 refine LWP_seq ?_
 apply LWP_run
 · repeat (simp -implicitDefEqProofs (disch:=omega) [St.e,shS,shR_0]; try simp only [gz])
   rfl
 -- leaf 0
 refine LWP_ret ⟨_,rfl,wkV.tup2 (wkV.nils 3) (wkV.refl _)⟩
set_option maxHeartbeats 2000000 in
set_option maxRecDepth 20000 in
theorem raise_x (l : List St) (x h : Int) (hl : l.length < 90000) (ca : chkB l = true) (hx : okF x = false) : ACalls Go.Proofs.Try.prog 16 [.tsl 3 (l.map St.e),.int .i64 x,.int .i64 h] [] 0 (fun r _ _ => r = .tup [.tsl 3 [],.int .i64 3]):=by
 refine pure_body ok16 rfl ?_
 simp only [parV]
 have CA:=check_ok l (by omega)
 rw [ca] at CA
 have hh : True:=trivial
 refine LWP_seq ?_
 apply LWP_run
 · repeat (simp -implicitDefEqProofs (disch:=omega) [St.e,shS,shR_0,hx]; try simp only [gz])
   rfl
 refine LWP_seq ?_
 refine LWP_block ?_
 refine LWP_seq ?_
 refine LWP_reg fun K hK => ?_
 apply rgnS_pre 1
 · repeat (simp -implicitDefEqProofs (disch:=omega) [St.e,shS,shR_0,hx]; try simp only [gz])
   rfl
 refine rgnS_call (CA) rfl rfl (by simp [pureL,pureR,AV.pure,St.e,shS,shR_0,pureR_st]) (by simp [pureL,pureR,AV.pure,St.e,shS,shR_0,pureR_st]) (by simp [gd,get_e0,get_e1,LArg.ev]) ?_
 apply rgnS_pre 2
 · repeat (simp -implicitDefEqProofs (disch:=omega) [St.e,shS,shR_0,hx]; try simp only [gz])
   rfl
 refine hK _ ?_; clear hK
 refine LWP_cond (t:=false) (by simp [LArg.ev,get_e0,get_e1]) (fun h => by cases h) (fun _ => ?_)
 refine LWP_seq ?_
 refine LWP_reg fun K hK => ?_
 apply rgnS_pre 1
 · repeat (simp -implicitDefEqProofs (disch:=omega) [St.e,shS,shR_0,hx]; try simp only [gz])
   rfl
 refine rgnS_call (fixok_ok x) rfl rfl (by simp [pureL,pureR,AV.pure,St.e,shS,shR_0]) (by simp [pureL,pureR,AV.pure,St.e,shS,shR_0]) (by simp [gd,get_e0,get_e1,LArg.ev]) ?_
 apply rgnS_pre 2
 · repeat (simp -implicitDefEqProofs (disch:=omega) [St.e,shS,shR_0,hx]; try simp only [gz])
   rfl
 refine rgnS_guard (x:=19) (b:=false) rfl (fun h1 => ?_) (fun h1 => ?_)
 ·try simp only [bn,reduceCtorEq] at h1
  all_goals try (exfalso; omega)
  all_goals
   apply rgnS_pre 1
   · repeat (simp -implicitDefEqProofs (disch:=omega) [St.e,shS,shR_0,hx,h1]; try simp only [gz])
     rfl
   refine rgnS_call (fixok_ok h) rfl rfl (by simp [pureL,pureR,AV.pure,St.e,shS,shR_0]) (by simp [pureL,pureR,AV.pure,St.e,shS,shR_0]) (by simp [gd,get_e0,get_e1,LArg.ev,h1]) ?_
   apply rgnS_pre 3
   · repeat (simp -implicitDefEqProofs (disch:=omega) [St.e,shS,shR_0,hx,h1]; try simp only [gz])
     rfl
   refine hK _ ?_; clear hK
   refine LWP_cond (t:=true) (by simp [LArg.ev,get_e0,get_e1,h1]) (fun _ => ?_) (fun h => by cases h)
   refine LWP_seq ?_
   apply LWP_run
   · repeat (simp -implicitDefEqProofs (disch:=omega) [St.e,shS,shR_0,hx,h1]; try simp only [gz])
     rfl
   -- leaf 0
   refine LWP_ret ⟨_,rfl,wkV.tup2 (wkV.nils 3) (wkV.refl _)⟩
 ·try simp only [bn,reduceCtorEq] at h1
  all_goals try (exfalso; omega)
  all_goals
   apply rgnS_pre 4
   · repeat (simp -implicitDefEqProofs (disch:=omega) [St.e,shS,shR_0,hx,h1]; try simp only [gz])
     rfl
   refine hK _ ?_; clear hK
   refine LWP_cond (t:=true) (by simp [LArg.ev,get_e0,get_e1,h1]) (fun _ => ?_) (fun h => by cases h)
   refine LWP_seq ?_
   apply LWP_run
   · repeat (simp -implicitDefEqProofs (disch:=omega) [St.e,shS,shR_0,hx,h1]; try simp only [gz])
     rfl
   -- leaf 1
   refine LWP_ret ⟨_,rfl,wkV.tup2 (wkV.nils 3) (wkV.refl _)⟩
set_option maxHeartbeats 2000000 in
set_option maxRecDepth 20000 in
theorem raise_h (l : List St) (x h : Int) (hl : l.length < 90000) (ca : chkB l = true) (hx : okF x = true) (hh : okF h = false) : ACalls Go.Proofs.Try.prog 16 [.tsl 3 (l.map St.e),.int .i64 x,.int .i64 h] [] 0 (fun r _ _ => r = .tup [.tsl 3 [],.int .i64 3]):=by
 refine pure_body ok16 rfl ?_
 simp only [parV]
 have CA:=check_ok l (by omega)
 rw [ca] at CA

 refine LWP_seq ?_
 apply LWP_run
 · repeat (simp -implicitDefEqProofs (disch:=omega) [St.e,shS,shR_0,hx,hh]; try simp only [gz])
   rfl
 refine LWP_seq ?_
 refine LWP_block ?_
 refine LWP_seq ?_
 refine LWP_reg fun K hK => ?_
 apply rgnS_pre 1
 · repeat (simp -implicitDefEqProofs (disch:=omega) [St.e,shS,shR_0,hx,hh]; try simp only [gz])
   rfl
 refine rgnS_call (CA) rfl rfl (by simp [pureL,pureR,AV.pure,St.e,shS,shR_0,pureR_st]) (by simp [pureL,pureR,AV.pure,St.e,shS,shR_0,pureR_st]) (by simp [gd,get_e0,get_e1,LArg.ev]) ?_
 apply rgnS_pre 2
 · repeat (simp -implicitDefEqProofs (disch:=omega) [St.e,shS,shR_0,hx,hh]; try simp only [gz])
   rfl
 refine hK _ ?_; clear hK
 refine LWP_cond (t:=false) (by simp [LArg.ev,get_e0,get_e1]) (fun h => by cases h) (fun _ => ?_)
 refine LWP_seq ?_
 refine LWP_reg fun K hK => ?_
 apply rgnS_pre 1
 · repeat (simp -implicitDefEqProofs (disch:=omega) [St.e,shS,shR_0,hx,hh]; try simp only [gz])
   rfl
 refine rgnS_call (fixok_ok x) rfl rfl (by simp [pureL,pureR,AV.pure,St.e,shS,shR_0]) (by simp [pureL,pureR,AV.pure,St.e,shS,shR_0]) (by simp [gd,get_e0,get_e1,LArg.ev]) ?_
 apply rgnS_pre 3
 · repeat (simp -implicitDefEqProofs (disch:=omega) [St.e,shS,shR_0,hx,hh]; try simp only [gz])
   rfl
 refine rgnS_call (fixok_ok h) rfl rfl (by simp [pureL,pureR,AV.pure,St.e,shS,shR_0]) (by simp [pureL,pureR,AV.pure,St.e,shS,shR_0]) (by simp [gd,get_e0,get_e1,LArg.ev]) ?_
 apply rgnS_pre 3
 · repeat (simp -implicitDefEqProofs (disch:=omega) [St.e,shS,shR_0,hx,hh]; try simp only [gz])
   rfl
 refine hK _ ?_; clear hK
 refine LWP_cond (t:=true) (by simp [LArg.ev,get_e0,get_e1]) (fun _ => ?_) (fun h => by cases h)
 refine LWP_seq ?_
 apply LWP_run
 · repeat (simp -implicitDefEqProofs (disch:=omega) [St.e,shS,shR_0,hx,hh]; try simp only [gz])
   rfl
 -- leaf 0
 refine LWP_ret ⟨_,rfl,wkV.tup2 (wkV.nils 3) (wkV.refl _)⟩
set_option maxHeartbeats 2000000 in
set_option maxRecDepth 20000 in
theorem raise_in (l : List St) (x h : Int) (hl : l.length < 90000) (ca : chkB l = true) (hx : okF x = true) (hh : okF h = true) : ACalls Go.Proofs.Try.prog 16 [.tsl 3 (l.map St.e),.int .i64 x,.int .i64 h] [] 0 (fun r _ _ => r = rV x h l):=by
 refine pure_body ok16 rfl ?_
 simp only [parV]
 have CA:=check_ok l (by omega)
 rw [ca] at CA

 refine LWP_seq ?_
 apply LWP_run
 · repeat (simp -implicitDefEqProofs (disch:=omega) [St.e,shS,shR_0,hx,hh]; try simp only [gz])
   rfl
 refine LWP_seq ?_
 refine LWP_block ?_
 refine LWP_seq ?_
 refine LWP_reg fun K hK => ?_
 apply rgnS_pre 1
 · repeat (simp -implicitDefEqProofs (disch:=omega) [St.e,shS,shR_0,hx,hh]; try simp only [gz])
   rfl
 refine rgnS_call (CA) rfl rfl (by simp [pureL,pureR,AV.pure,St.e,shS,shR_0,pureR_st]) (by simp [pureL,pureR,AV.pure,St.e,shS,shR_0,pureR_st]) (by simp [gd,get_e0,get_e1,LArg.ev]) ?_
 apply rgnS_pre 2
 · repeat (simp -implicitDefEqProofs (disch:=omega) [St.e,shS,shR_0,hx,hh]; try simp only [gz])
   rfl
 refine hK _ ?_; clear hK
 refine LWP_cond (t:=false) (by simp [LArg.ev,get_e0,get_e1]) (fun h => by cases h) (fun _ => ?_)
 refine LWP_seq ?_
 refine LWP_reg fun K hK => ?_
 apply rgnS_pre 1
 · repeat (simp -implicitDefEqProofs (disch:=omega) [St.e,shS,shR_0,hx,hh]; try simp only [gz])
   rfl
 refine rgnS_call (fixok_ok x) rfl rfl (by simp [pureL,pureR,AV.pure,St.e,shS,shR_0]) (by simp [pureL,pureR,AV.pure,St.e,shS,shR_0]) (by simp [gd,get_e0,get_e1,LArg.ev]) ?_
 apply rgnS_pre 3
 · repeat (simp -implicitDefEqProofs (disch:=omega) [St.e,shS,shR_0,hx,hh]; try simp only [gz])
   rfl
 refine rgnS_call (fixok_ok h) rfl rfl (by simp [pureL,pureR,AV.pure,St.e,shS,shR_0]) (by simp [pureL,pureR,AV.pure,St.e,shS,shR_0]) (by simp [gd,get_e0,get_e1,LArg.ev]) ?_
 apply rgnS_pre 3
 · repeat (simp -implicitDefEqProofs (disch:=omega) [St.e,shS,shR_0,hx,hh]; try simp only [gz])
   rfl
 refine hK _ ?_; clear hK
 refine LWP_cond (t:=false) (by simp [LArg.ev,get_e0,get_e1]) (fun h => by cases h) (fun _ => ?_)
 refine LWP_skip ?_
 refine LWP_seq ?_
 apply LWP_run
 · repeat (simp -implicitDefEqProofs (disch:=omega) [St.e,shS,shR_0,hx,hh]; try simp only [gz])
   rfl
 refine LWP_seq ?_
 refine LWP_seq ?_
 apply LWP_run
 · repeat (simp -implicitDefEqProofs (disch:=omega) [St.e,shS,shR_0,hx,hh]; try simp only [gz])
   rfl
 refine LWP_block ?_
 refine LWP_for (fun (p : Nat × Nat) => [(1,.int .i64 x),(2,.int .i64 h),(8,.sl 3 p.2 0 p.1),(27,.tsl 3 (l.map St.e)),(28,.int .i64 (l.length : Nat)),(29,.int .i64 (p.1 : Nat))]) (fun (p : Nat × Nat) => [(p.2,Blk.rows 3 (shR l x h p.1))]) (fun (p : Nat × Nat) n => p.1 ≤ l.length ∧ p.2 < n ∧ ∀ (k : Nat) (hk : k < l.length),k < p.1 → sndB (shS x h l[k]) = true) (fun (p : Nat × Nat) => l.length - p.1) (0,0) ?_ ?_ ?_ ?_
 · simp (disch:=omega) [leV,get_e0,get_e1,wkV.refl,wkV_int,decT,decF,St.e,shS,shR_0,hx,hh]
   try rfl
 · simp [leH,get_e0,get_e1]
   try rfl
 · exact ⟨Nat.zero_le _,by simp,fun k _ q => absurd q (Nat.not_lt_zero _)⟩
 rintro ⟨i,b⟩ n ⟨c1,c2,c3⟩
 simp only at c1 c2 c3
 have w1:=fun hi => (sh_wrap (i:=i) ca hx hh hi).1
 have w2:=fun hi => (sh_wrap (i:=i) ca hx hh hi).2.1
 have w3:=fun hi => (sh_wrap (i:=i) ca hx hh hi).2.2
 have g2 : ¬ b = n:=by omega
 have g3 : ¬ n = b:=by omega
 have hbn : b < n:=by omega
 have gk : ∀ k,b < n + k:=fun k => by omega
 have gj : ∀ k,¬ n + k = b:=fun k => by omega
 have gi : ∀ k,¬ b = n + k:=fun k => by omega
 have htl:=shR_len (x:=x) (h:=h) c1
 have htk:=shR_take0 (x:=x) (h:=h) c1
 have ft:=fun hi => shR_take (l:=l) (x:=x) (h:=h) (i:=i) hi
 have hb24 : (i + 1) * 24 ≤ 17592186044416:=by omega
 refine LWP_seq ?_
 apply LWP_run
 · repeat (simp -implicitDefEqProofs (disch:=omega) [St.e,shS,shR_0,hx,hh,w1,w2,w3,g2,g3,hbn,gk,gj,gi,htl,htk,ft,hb24]; try simp only [gz])
   rfl
 refine LWP_seq ?_
 refine LWP_cond rfl (fun h2 => ?_) (fun h2 => ?_)
 ·try simp only [bn,reduceCtorEq] at h2
  all_goals try (exfalso; omega)
  all_goals
   refine LWP_skip ?_
   refine LWP_seq ?_
   refine LWP_block ?_
   refine LWP_seq ?_
   apply LWP_run
   · repeat (simp -implicitDefEqProofs (disch:=omega) [St.e,shS,shR_0,hx,hh,w1,w2,w3,g2,g3,hbn,gk,gj,gi,htl,htk,ft,hb24,h2]; try simp only [gz])
     rfl
   refine LWP_seq ?_
   refine LWP_reg fun K hK => ?_
   apply rgnS_pre 8
   · repeat (simp -implicitDefEqProofs (disch:=omega) [St.e,shS,shR_0,hx,hh,w1,w2,w3,g2,g3,hbn,gk,gj,gi,htl,htk,ft,hb24,h2]; try simp only [gz])
     rfl
   apply rgnS_pre 6
   · repeat (simp -implicitDefEqProofs (disch:=omega) [St.e,shS,shR_0,hx,hh,w1,w2,w3,g2,g3,hbn,gk,gj,gi,htl,htk,ft,hb24,h2]; try simp only [gz])
     rfl
   refine hK _ ?_; clear hK
   refine LWP_seq ?_
   refine LWP_seq ?_
   refine LWP_reg fun K hK => ?_
   apply rgnS_pre 1
   · repeat (simp -implicitDefEqProofs (disch:=omega) [St.e,shS,shR_0,hx,hh,w1,w2,w3,g2,g3,hbn,gk,gj,gi,htl,htk,ft,hb24,h2]; try simp only [gz])
     rfl
   refine rgnS_call (sound_ok (shS x h (l[i]'(by omega)))) rfl rfl (by simp [pureL,pureR,AV.pure,St.e,shS,shR_0,St.e,shS]) (by simp [pureL,pureR,AV.pure,St.e,shS,shR_0,St.e,shS]) (by simp [gd,get_e0,get_e1,LArg.ev,w1,w2,w3,g2,g3,hbn,gk,gj,gi,htl,htk,ft,hb24,h2]) ?_
   apply rgnS_pre 1
   · repeat (simp -implicitDefEqProofs (disch:=omega) [St.e,shS,shR_0,hx,hh,w1,w2,w3,g2,g3,hbn,gk,gj,gi,htl,htk,ft,hb24,h2]; try simp only [gz])
     rfl
   refine hK _ ?_; clear hK
   refine LWP_cond rfl (fun h3 => ?_) (fun h3 => ?_)
   ·try simp only [bn,reduceCtorEq] at h3
    all_goals try (exfalso; omega)
    all_goals
     refine LWP_seq ?_
     apply LWP_run
     · repeat (simp -implicitDefEqProofs (disch:=omega) [St.e,shS,shR_0,hx,hh,w1,w2,w3,g2,g3,hbn,gk,gj,gi,htl,htk,ft,hb24,h2,h3]; try simp only [gz])
       rfl
     -- leaf 0
     refine LWP_ret ⟨_,rfl,?_⟩
     rw [rV,if_neg (by rw [rV_no (i:=i) (by omega) (by assumption)]; simp)]
     exact wkV.tup2 (wkV.nils 3) (wkV.refl _)
   ·try simp only [bn,reduceCtorEq] at h3
    all_goals try (exfalso; omega)
    all_goals
     refine LWP_skip ?_
     apply LWP_run
     · repeat (simp -implicitDefEqProofs (disch:=omega) [St.e,shS,shR_0,hx,hh,w1,w2,w3,g2,g3,hbn,gk,gj,gi,htl,htk,ft,hb24,h2,h3]; try simp only [gz])
       rfl
     apply LWP_run
     · repeat (simp -implicitDefEqProofs (disch:=omega) [St.e,shS,shR_0,hx,hh,w1,w2,w3,g2,g3,hbn,gk,gj,gi,htl,htk,ft,hb24,h2,h3]; try simp only [gz])
       rfl
     -- loop 0,round 0
     refine ⟨(i + 1,n + 1),?_,?_,?_,?_⟩
     · refine ⟨by simp only; omega,by simp,fun k hk q => ?_⟩
       simp only at q
       rcases Nat.lt_or_ge k i with q2 | q2
       · exact c3 k hk q2
       · have ek : k = i:=by omega
         subst ek
         assumption
     · simp only; omega
     · simp (disch:=omega) [leV,get_e0,get_e1,wkV.refl,wkV_int,wrap_i64,decT,decF,St.e,shS,shR_0,hx,hh,w1,w2,w3,g2,g3,hbn,gk,gj,gi,htl,htk,ft,hb24,h2,h3]
     · simp [leH,get_e0,get_e1,w1,w2,w3,g2,g3,hbn,gk,gj,gi,htl,htk,ft,hb24,h2,h3]
       try rfl
 ·try simp only [bn,reduceCtorEq] at h2
  all_goals try (exfalso; omega)
  all_goals
   refine LWP_exit ?_
   refine LWP_seq ?_
   have ei : i = l.length:=by omega
   subst ei
   refine LWP_deep [(8,.tsl 3 ((l.map (shS x h)).map St.e))] 5 ?_ ?_
   · simp only [deepL]
     exact ⟨⟨_,rfl,shR_deep rfl (by simp [get_e1])⟩,trivial⟩
   apply LWP_run
   · repeat (simp -implicitDefEqProofs (disch:=omega) [St.e,shS,shR_0,hx,hh,w1,w2,w3,g2,g3,hbn,gk,gj,gi,htl,htk,ft,hb24,h2]; try simp only [gz])
     rfl
   -- leaf 1
   refine LWP_ret ⟨_,rfl,?_⟩
   refine wkV_of_eq ?_
   simp only [retV]
   all_goals
    rw [rV,if_pos (rV_yes fun k hk => c3 k hk hk),List.map_map]
set_option maxHeartbeats 2000000 in
set_option maxRecDepth 20000 in
theorem rraise_no (l : List St) (x h : Int) (hl : l.length < 90000) (ca : chkB l = false) : ACalls Go.Proofs.Try.prog 17 [.tsl 3 (l.map St.e),.int .i64 x,.int .i64 h] [] 0 (fun r _ _ => r = .tup [.tsl 3 [],.int .i64 2]):=by
 refine pure_body ok17 rfl ?_
 simp only [parV]
 have CA:=rchk_ok l (by omega)
 rw [ca] at CA
 have hx : True:=trivial
 have hh : True:=trivial
 refine LWP_seq ?_
 apply LWP_run
 · repeat (simp -implicitDefEqProofs (disch:=omega) [St.e,shS,shR_0]; try simp only [gz])
   rfl
 refine LWP_seq ?_
 refine LWP_seq ?_
 refine LWP_reg fun K hK => ?_
 apply rgnS_pre 1
 · repeat (simp -implicitDefEqProofs (disch:=omega) [St.e,shS,shR_0]; try simp only [gz])
   rfl
 refine rgnS_call (CA) rfl rfl (by simp [pureL,pureR,AV.pure,St.e,shS,shR_0,pureR_st]) (by simp [pureL,pureR,AV.pure,St.e,shS,shR_0,pureR_st]) (by simp [gd,get_e0,get_e1,LArg.ev]) ?_
 apply rgnS_pre 1
 · repeat (simp -implicitDefEqProofs (disch:=omega) [St.e,shS,shR_0]; try simp only [gz])
   rfl
 refine hK _ ?_; clear hK
 refine LWP_cond (t:=true) (by simp [LArg.ev,get_e0,get_e1]) (fun _ => ?_) (fun h => by cases h)
 refine LWP_seq ?_
 apply LWP_run
 · repeat (simp -implicitDefEqProofs (disch:=omega) [St.e,shS,shR_0]; try simp only [gz])
   rfl
 -- leaf 0
 refine LWP_ret ⟨_,rfl,wkV.tup2 (wkV.nils 3) (wkV.refl _)⟩
set_option maxHeartbeats 2000000 in
set_option maxRecDepth 20000 in
theorem rraise_x (l : List St) (x h : Int) (hl : l.length < 90000) (ca : chkB l = true) (hx : okF x = false) : ACalls Go.Proofs.Try.prog 17 [.tsl 3 (l.map St.e),.int .i64 x,.int .i64 h] [] 0 (fun r _ _ => r = .tup [.tsl 3 [],.int .i64 3]):=by
 refine pure_body ok17 rfl ?_
 simp only [parV]
 have CA:=rchk_ok l (by omega)
 rw [ca] at CA
 have hh : True:=trivial
 refine LWP_seq ?_
 apply LWP_run
 · repeat (simp -implicitDefEqProofs (disch:=omega) [St.e,shS,shR_0,hx]; try simp only [gz])
   rfl
 refine LWP_seq ?_
 refine LWP_seq ?_
 refine LWP_reg fun K hK => ?_
 apply rgnS_pre 1
 · repeat (simp -implicitDefEqProofs (disch:=omega) [St.e,shS,shR_0,hx]; try simp only [gz])
   rfl
 refine rgnS_call (CA) rfl rfl (by simp [pureL,pureR,AV.pure,St.e,shS,shR_0,pureR_st]) (by simp [pureL,pureR,AV.pure,St.e,shS,shR_0,pureR_st]) (by simp [gd,get_e0,get_e1,LArg.ev]) ?_
 apply rgnS_pre 1
 · repeat (simp -implicitDefEqProofs (disch:=omega) [St.e,shS,shR_0,hx]; try simp only [gz])
   rfl
 refine hK _ ?_; clear hK
 refine LWP_cond (t:=false) (by simp [LArg.ev,get_e0,get_e1]) (fun h => by cases h) (fun _ => ?_)
 refine LWP_skip ?_
 refine LWP_seq ?_
 refine LWP_seq ?_
 refine LWP_reg fun K hK => ?_
 apply rgnS_pre 1
 · repeat (simp -implicitDefEqProofs (disch:=omega) [St.e,shS,shR_0,hx]; try simp only [gz])
   rfl
 refine rgnS_call (rk_ok x) rfl rfl (by simp [pureL,pureR,AV.pure,St.e,shS,shR_0]) (by simp [pureL,pureR,AV.pure,St.e,shS,shR_0]) (by simp [gd,get_e0,get_e1,LArg.ev]) ?_
 apply rgnS_pre 2
 · repeat (simp -implicitDefEqProofs (disch:=omega) [St.e,shS,shR_0,hx]; try simp only [gz])
   rfl
 refine rgnS_guard (x:=17) (b:=false) rfl (fun h1 => ?_) (fun h1 => ?_)
 ·try simp only [bn,reduceCtorEq] at h1
  all_goals try (exfalso; omega)
  all_goals
   apply rgnS_pre 1
   · repeat (simp -implicitDefEqProofs (disch:=omega) [St.e,shS,shR_0,hx,h1]; try simp only [gz])
     rfl
   refine rgnS_call (rk_ok h) rfl rfl (by simp [pureL,pureR,AV.pure,St.e,shS,shR_0]) (by simp [pureL,pureR,AV.pure,St.e,shS,shR_0]) (by simp [gd,get_e0,get_e1,LArg.ev,h1]) ?_
   apply rgnS_pre 2
   · repeat (simp -implicitDefEqProofs (disch:=omega) [St.e,shS,shR_0,hx,h1]; try simp only [gz])
     rfl
   refine hK _ ?_; clear hK
   refine LWP_cond (t:=true) (by simp [LArg.ev,get_e0,get_e1,h1]) (fun _ => ?_) (fun h => by cases h)
   refine LWP_seq ?_
   apply LWP_run
   · repeat (simp -implicitDefEqProofs (disch:=omega) [St.e,shS,shR_0,hx,h1]; try simp only [gz])
     rfl
   -- leaf 0
   refine LWP_ret ⟨_,rfl,wkV.tup2 (wkV.nils 3) (wkV.refl _)⟩
 ·try simp only [bn,reduceCtorEq] at h1
  all_goals try (exfalso; omega)
  all_goals
   apply rgnS_pre 3
   · repeat (simp -implicitDefEqProofs (disch:=omega) [St.e,shS,shR_0,hx,h1]; try simp only [gz])
     rfl
   refine hK _ ?_; clear hK
   refine LWP_cond (t:=true) (by simp [LArg.ev,get_e0,get_e1,h1]) (fun _ => ?_) (fun h => by cases h)
   refine LWP_seq ?_
   apply LWP_run
   · repeat (simp -implicitDefEqProofs (disch:=omega) [St.e,shS,shR_0,hx,h1]; try simp only [gz])
     rfl
   -- leaf 1
   refine LWP_ret ⟨_,rfl,wkV.tup2 (wkV.nils 3) (wkV.refl _)⟩
set_option maxHeartbeats 2000000 in
set_option maxRecDepth 20000 in
theorem rraise_h (l : List St) (x h : Int) (hl : l.length < 90000) (ca : chkB l = true) (hx : okF x = true) (hh : okF h = false) : ACalls Go.Proofs.Try.prog 17 [.tsl 3 (l.map St.e),.int .i64 x,.int .i64 h] [] 0 (fun r _ _ => r = .tup [.tsl 3 [],.int .i64 3]):=by
 refine pure_body ok17 rfl ?_
 simp only [parV]
 have CA:=rchk_ok l (by omega)
 rw [ca] at CA

 refine LWP_seq ?_
 apply LWP_run
 · repeat (simp -implicitDefEqProofs (disch:=omega) [St.e,shS,shR_0,hx,hh]; try simp only [gz])
   rfl
 refine LWP_seq ?_
 refine LWP_seq ?_
 refine LWP_reg fun K hK => ?_
 apply rgnS_pre 1
 · repeat (simp -implicitDefEqProofs (disch:=omega) [St.e,shS,shR_0,hx,hh]; try simp only [gz])
   rfl
 refine rgnS_call (CA) rfl rfl (by simp [pureL,pureR,AV.pure,St.e,shS,shR_0,pureR_st]) (by simp [pureL,pureR,AV.pure,St.e,shS,shR_0,pureR_st]) (by simp [gd,get_e0,get_e1,LArg.ev]) ?_
 apply rgnS_pre 1
 · repeat (simp -implicitDefEqProofs (disch:=omega) [St.e,shS,shR_0,hx,hh]; try simp only [gz])
   rfl
 refine hK _ ?_; clear hK
 refine LWP_cond (t:=false) (by simp [LArg.ev,get_e0,get_e1]) (fun h => by cases h) (fun _ => ?_)
 refine LWP_skip ?_
 refine LWP_seq ?_
 refine LWP_seq ?_
 refine LWP_reg fun K hK => ?_
 apply rgnS_pre 1
 · repeat (simp -implicitDefEqProofs (disch:=omega) [St.e,shS,shR_0,hx,hh]; try simp only [gz])
   rfl
 refine rgnS_call (rk_ok x) rfl rfl (by simp [pureL,pureR,AV.pure,St.e,shS,shR_0]) (by simp [pureL,pureR,AV.pure,St.e,shS,shR_0]) (by simp [gd,get_e0,get_e1,LArg.ev]) ?_
 apply rgnS_pre 3
 · repeat (simp -implicitDefEqProofs (disch:=omega) [St.e,shS,shR_0,hx,hh]; try simp only [gz])
   rfl
 refine rgnS_call (rk_ok h) rfl rfl (by simp [pureL,pureR,AV.pure,St.e,shS,shR_0]) (by simp [pureL,pureR,AV.pure,St.e,shS,shR_0]) (by simp [gd,get_e0,get_e1,LArg.ev]) ?_
 apply rgnS_pre 2
 · repeat (simp -implicitDefEqProofs (disch:=omega) [St.e,shS,shR_0,hx,hh]; try simp only [gz])
   rfl
 refine hK _ ?_; clear hK
 refine LWP_cond (t:=true) (by simp [LArg.ev,get_e0,get_e1]) (fun _ => ?_) (fun h => by cases h)
 refine LWP_seq ?_
 apply LWP_run
 · repeat (simp -implicitDefEqProofs (disch:=omega) [St.e,shS,shR_0,hx,hh]; try simp only [gz])
   rfl
 -- leaf 0
 refine LWP_ret ⟨_,rfl,wkV.tup2 (wkV.nils 3) (wkV.refl _)⟩
set_option maxHeartbeats 2000000 in
set_option maxRecDepth 20000 in
theorem rraise_in (l : List St) (x h : Int) (hl : l.length < 90000) (ca : chkB l = true) (hx : okF x = true) (hh : okF h = true) : ACalls Go.Proofs.Try.prog 17 [.tsl 3 (l.map St.e),.int .i64 x,.int .i64 h] [] 0 (fun r _ _ => r = rV x h l):=by
 refine pure_body ok17 rfl ?_
 simp only [parV]
 have CA:=rchk_ok l (by omega)
 rw [ca] at CA

 refine LWP_seq ?_
 apply LWP_run
 · repeat (simp -implicitDefEqProofs (disch:=omega) [St.e,shS,shR_0,hx,hh]; try simp only [gz])
   rfl
 refine LWP_seq ?_
 refine LWP_seq ?_
 refine LWP_reg fun K hK => ?_
 apply rgnS_pre 1
 · repeat (simp -implicitDefEqProofs (disch:=omega) [St.e,shS,shR_0,hx,hh]; try simp only [gz])
   rfl
 refine rgnS_call (CA) rfl rfl (by simp [pureL,pureR,AV.pure,St.e,shS,shR_0,pureR_st]) (by simp [pureL,pureR,AV.pure,St.e,shS,shR_0,pureR_st]) (by simp [gd,get_e0,get_e1,LArg.ev]) ?_
 apply rgnS_pre 1
 · repeat (simp -implicitDefEqProofs (disch:=omega) [St.e,shS,shR_0,hx,hh]; try simp only [gz])
   rfl
 refine hK _ ?_; clear hK
 refine LWP_cond (t:=false) (by simp [LArg.ev,get_e0,get_e1]) (fun h => by cases h) (fun _ => ?_)
 refine LWP_skip ?_
 refine LWP_seq ?_
 refine LWP_seq ?_
 refine LWP_reg fun K hK => ?_
 apply rgnS_pre 1
 · repeat (simp -implicitDefEqProofs (disch:=omega) [St.e,shS,shR_0,hx,hh]; try simp only [gz])
   rfl
 refine rgnS_call (rk_ok x) rfl rfl (by simp [pureL,pureR,AV.pure,St.e,shS,shR_0]) (by simp [pureL,pureR,AV.pure,St.e,shS,shR_0]) (by simp [gd,get_e0,get_e1,LArg.ev]) ?_
 apply rgnS_pre 3
 · repeat (simp -implicitDefEqProofs (disch:=omega) [St.e,shS,shR_0,hx,hh]; try simp only [gz])
   rfl
 refine rgnS_call (rk_ok h) rfl rfl (by simp [pureL,pureR,AV.pure,St.e,shS,shR_0]) (by simp [pureL,pureR,AV.pure,St.e,shS,shR_0]) (by simp [gd,get_e0,get_e1,LArg.ev]) ?_
 apply rgnS_pre 2
 · repeat (simp -implicitDefEqProofs (disch:=omega) [St.e,shS,shR_0,hx,hh]; try simp only [gz])
   rfl
 refine hK _ ?_; clear hK
 refine LWP_cond (t:=false) (by simp [LArg.ev,get_e0,get_e1]) (fun h => by cases h) (fun _ => ?_)
 refine LWP_skip ?_
 refine LWP_seq ?_
 apply LWP_run
 · repeat (simp -implicitDefEqProofs (disch:=omega) [St.e,shS,shR_0,hx,hh]; try simp only [gz])
   rfl
 refine LWP_seq ?_
 refine LWP_seq ?_
 apply LWP_run
 · repeat (simp -implicitDefEqProofs (disch:=omega) [St.e,shS,shR_0,hx,hh]; try simp only [gz])
   rfl
 refine LWP_block ?_
 refine LWP_for (fun (p : Nat × Nat) => [(0,.tsl 3 (l.map St.e)),(1,.int .i64 x),(2,.int .i64 h),(8,.sl 3 p.2 0 p.1),(9,.int .i64 (p.1 : Nat))]) (fun (p : Nat × Nat) => [(p.2,Blk.rows 3 (shR l x h p.1))]) (fun (p : Nat × Nat) n => p.1 ≤ l.length ∧ p.2 < n ∧ ∀ (k : Nat) (hk : k < l.length),k < p.1 → sndB (shS x h l[k]) = true) (fun (p : Nat × Nat) => l.length - p.1) (0,0) ?_ ?_ ?_ ?_
 · simp (disch:=omega) [leV,get_e0,get_e1,wkV.refl,wkV_int,decT,decF,St.e,shS,shR_0,hx,hh]
   try rfl
 · simp [leH,get_e0,get_e1]
   try rfl
 · exact ⟨Nat.zero_le _,by simp,fun k _ q => absurd q (Nat.not_lt_zero _)⟩
 rintro ⟨i,b⟩ n ⟨c1,c2,c3⟩
 simp only at c1 c2 c3
 have w1:=fun hi => (sh_wrap (i:=i) ca hx hh hi).1
 have w2:=fun hi => (sh_wrap (i:=i) ca hx hh hi).2.1
 have w3:=fun hi => (sh_wrap (i:=i) ca hx hh hi).2.2
 have g2 : ¬ b = n:=by omega
 have g3 : ¬ n = b:=by omega
 have hbn : b < n:=by omega
 have gk : ∀ k,b < n + k:=fun k => by omega
 have gj : ∀ k,¬ n + k = b:=fun k => by omega
 have gi : ∀ k,¬ b = n + k:=fun k => by omega
 have htl:=shR_len (x:=x) (h:=h) c1
 have htk:=shR_take0 (x:=x) (h:=h) c1
 have ft:=fun hi => shR_take (l:=l) (x:=x) (h:=h) (i:=i) hi
 have hb24 : (i + 1) * 24 ≤ 17592186044416:=by omega
 refine LWP_seq ?_
 refine LWP_seq ?_
 apply LWP_run
 · repeat (simp -implicitDefEqProofs (disch:=omega) [St.e,shS,shR_0,hx,hh,w1,w2,w3,g2,g3,hbn,gk,gj,gi,htl,htk,ft,hb24]; try simp only [gz])
   rfl
 refine LWP_cond rfl (fun h2 => ?_) (fun h2 => ?_)
 ·try simp only [bn,reduceCtorEq] at h2
  all_goals try (exfalso; omega)
  all_goals
   refine LWP_skip ?_
   refine LWP_seq ?_
   refine LWP_block ?_
   refine LWP_seq ?_
   refine LWP_regD' fun K hK => ?_
   apply rgnD_pre 8
   · repeat (simp -implicitDefEqProofs (disch:=omega) [St.e,shS,shR_0,hx,hh,w1,w2,w3,g2,g3,hbn,gk,gj,gi,htl,htk,ft,hb24,h2]; try simp only [gz])
     rfl
   apply rgnD_pre 8
   · repeat (simp -implicitDefEqProofs (disch:=omega) [St.e,shS,shR_0,hx,hh,w1,w2,w3,g2,g3,hbn,gk,gj,gi,htl,htk,ft,hb24,h2]; try simp only [gz])
     rfl
   apply rgnD_pre 8
   · repeat (simp -implicitDefEqProofs (disch:=omega) [St.e,shS,shR_0,hx,hh,w1,w2,w3,g2,g3,hbn,gk,gj,gi,htl,htk,ft,hb24,h2]; try simp only [gz])
     rfl
   refine hK _ _ (by simp [AS.fin,delAll,del,Nat.add_assoc]; rfl) ?_; clear hK
   refine LWP_seq ?_
   refine LWP_seq ?_
   refine LWP_reg fun K hK => ?_
   apply rgnS_pre 2
   · repeat (simp -implicitDefEqProofs (disch:=omega) [St.e,shS,shR_0,hx,hh,w1,w2,w3,g2,g3,hbn,gk,gj,gi,htl,htk,ft,hb24,h2]; try simp only [gz])
     rfl
   refine rgnS_call (rk_ok ((l[i]'(by omega)).x0 + x)) rfl rfl (by simp [pureL,pureR,AV.pure,St.e,shS,shR_0]) (by simp [pureL,pureR,AV.pure,St.e,shS,shR_0]) (by simp [gd,get_e0,get_e1,LArg.ev,w1,w2,w3,g2,g3,hbn,gk,gj,gi,htl,htk,ft,hb24,h2]) ?_
   apply rgnS_pre 2
   · repeat (simp -implicitDefEqProofs (disch:=omega) [St.e,shS,shR_0,hx,hh,w1,w2,w3,g2,g3,hbn,gk,gj,gi,htl,htk,ft,hb24,h2]; try simp only [gz])
     rfl
   refine rgnS_guard (x:=54) (b:=false) rfl (fun h3 => ?_) (fun h3 => ?_)
   ·try simp only [bn,reduceCtorEq] at h3
    all_goals try (exfalso; omega)
    all_goals
     apply rgnS_pre 2
     · repeat (simp -implicitDefEqProofs (disch:=omega) [St.e,shS,shR_0,hx,hh,w1,w2,w3,g2,g3,hbn,gk,gj,gi,htl,htk,ft,hb24,h2,h3]; try simp only [gz])
       rfl
     refine rgnS_call (rk_ok ((l[i]'(by omega)).x1 + x)) rfl rfl (by simp [pureL,pureR,AV.pure,St.e,shS,shR_0]) (by simp [pureL,pureR,AV.pure,St.e,shS,shR_0]) (by simp [gd,get_e0,get_e1,LArg.ev,w1,w2,w3,g2,g3,hbn,gk,gj,gi,htl,htk,ft,hb24,h2,h3]) ?_
     apply rgnS_pre 3
     · repeat (simp -implicitDefEqProofs (disch:=omega) [St.e,shS,shR_0,hx,hh,w1,w2,w3,g2,g3,hbn,gk,gj,gi,htl,htk,ft,hb24,h2,h3]; try simp only [gz])
       rfl
     refine rgnS_guard (x:=60) (b:=false) rfl (fun h4 => ?_) (fun h4 => ?_)
     ·try simp only [bn,reduceCtorEq] at h4
      all_goals try (exfalso; omega)
      all_goals
       apply rgnS_pre 2
       · repeat (simp -implicitDefEqProofs (disch:=omega) [St.e,shS,shR_0,hx,hh,w1,w2,w3,g2,g3,hbn,gk,gj,gi,htl,htk,ft,hb24,h2,h3,h4]; try simp only [gz])
         rfl
       refine rgnS_call (rk_ok ((l[i]'(by omega)).h + h)) rfl rfl (by simp [pureL,pureR,AV.pure,St.e,shS,shR_0]) (by simp [pureL,pureR,AV.pure,St.e,shS,shR_0]) (by simp [gd,get_e0,get_e1,LArg.ev,w1,w2,w3,g2,g3,hbn,gk,gj,gi,htl,htk,ft,hb24,h2,h3,h4]) ?_
       apply rgnS_pre 2
       · repeat (simp -implicitDefEqProofs (disch:=omega) [St.e,shS,shR_0,hx,hh,w1,w2,w3,g2,g3,hbn,gk,gj,gi,htl,htk,ft,hb24,h2,h3,h4]; try simp only [gz])
         rfl
       refine hK _ ?_; clear hK
       refine LWP_cond rfl (fun h5 => ?_) (fun h5 => ?_)
       ·try simp only [bn,reduceCtorEq] at h5
        all_goals try (exfalso; omega)
        all_goals
         refine LWP_seq ?_
         apply LWP_run
         · repeat (simp -implicitDefEqProofs (disch:=omega) [St.e,shS,shR_0,hx,hh,w1,w2,w3,g2,g3,hbn,gk,gj,gi,htl,htk,ft,hb24,h2,h3,h4,h5]; try simp only [gz])
           rfl
         -- leaf 0
         refine LWP_ret ⟨_,rfl,?_⟩
         rw [rV,if_neg (by rw [rV_no (i:=i) (by omega) (sh_bad (by first | (left; assumption) | (right; left; assumption) | (right; right; assumption)))]; simp)]
         exact wkV.tup2 (wkV.nils 3) (wkV.refl _)
       ·try simp only [bn,reduceCtorEq] at h5
        all_goals try (exfalso; omega)
        all_goals
         refine LWP_skip ?_
         apply LWP_run
         · repeat (simp -implicitDefEqProofs (disch:=omega) [St.e,shS,shR_0,hx,hh,w1,w2,w3,g2,g3,hbn,gk,gj,gi,htl,htk,ft,hb24,h2,h3,h4,h5]; try simp only [gz])
           rfl
         apply LWP_run
         · repeat (simp -implicitDefEqProofs (disch:=omega) [St.e,shS,shR_0,hx,hh,w1,w2,w3,g2,g3,hbn,gk,gj,gi,htl,htk,ft,hb24,h2,h3,h4,h5]; try simp only [gz])
           rfl
         -- loop 0,round 0
         refine ⟨(i + 1,n + 24),?_,?_,?_,?_⟩
         · refine ⟨by simp only; omega,by simp,fun k hk q => ?_⟩
           simp only at q
           rcases Nat.lt_or_ge k i with q2 | q2
           · exact c3 k hk q2
           · have ek : k = i:=by omega
             subst ek
             exact sh_snd ca (by omega) (by assumption) (by assumption) (by assumption)
         · simp only; omega
         · simp (disch:=omega) [leV,get_e0,get_e1,wkV.refl,wkV_int,wrap_i64,decT,decF,St.e,shS,shR_0,hx,hh,w1,w2,w3,g2,g3,hbn,gk,gj,gi,htl,htk,ft,hb24,h2,h3,h4,h5]
         · simp [leH,get_e0,get_e1,w1,w2,w3,g2,g3,hbn,gk,gj,gi,htl,htk,ft,hb24,h2,h3,h4,h5]
           try rfl
     ·try simp only [bn,reduceCtorEq] at h4
      all_goals try (exfalso; omega)
      all_goals
       apply rgnS_pre 4
       · repeat (simp -implicitDefEqProofs (disch:=omega) [St.e,shS,shR_0,hx,hh,w1,w2,w3,g2,g3,hbn,gk,gj,gi,htl,htk,ft,hb24,h2,h3,h4]; try simp only [gz])
         rfl
       refine hK _ ?_; clear hK
       refine LWP_cond (t:=true) (by simp [LArg.ev,get_e0,get_e1,w1,w2,w3,g2,g3,hbn,gk,gj,gi,htl,htk,ft,hb24,h2,h3,h4]) (fun _ => ?_) (fun h => by cases h)
       refine LWP_seq ?_
       apply LWP_run
       · repeat (simp -implicitDefEqProofs (disch:=omega) [St.e,shS,shR_0,hx,hh,w1,w2,w3,g2,g3,hbn,gk,gj,gi,htl,htk,ft,hb24,h2,h3,h4]; try simp only [gz])
         rfl
       -- leaf 1
       refine LWP_ret ⟨_,rfl,?_⟩
       rw [rV,if_neg (by rw [rV_no (i:=i) (by omega) (sh_bad (by first | (left; assumption) | (right; left; assumption) | (right; right; assumption)))]; simp)]
       exact wkV.tup2 (wkV.nils 3) (wkV.refl _)
   ·try simp only [bn,reduceCtorEq] at h3
    all_goals try (exfalso; omega)
    all_goals
     apply rgnS_pre 8
     · repeat (simp -implicitDefEqProofs (disch:=omega) [St.e,shS,shR_0,hx,hh,w1,w2,w3,g2,g3,hbn,gk,gj,gi,htl,htk,ft,hb24,h2,h3]; try simp only [gz])
       rfl
     apply rgnS_pre 2
     · repeat (simp -implicitDefEqProofs (disch:=omega) [St.e,shS,shR_0,hx,hh,w1,w2,w3,g2,g3,hbn,gk,gj,gi,htl,htk,ft,hb24,h2,h3]; try simp only [gz])
       rfl
     refine hK _ ?_; clear hK
     refine LWP_cond (t:=true) (by simp [LArg.ev,get_e0,get_e1,w1,w2,w3,g2,g3,hbn,gk,gj,gi,htl,htk,ft,hb24,h2,h3]) (fun _ => ?_) (fun h => by cases h)
     refine LWP_seq ?_
     apply LWP_run
     · repeat (simp -implicitDefEqProofs (disch:=omega) [St.e,shS,shR_0,hx,hh,w1,w2,w3,g2,g3,hbn,gk,gj,gi,htl,htk,ft,hb24,h2,h3]; try simp only [gz])
       rfl
     -- leaf 2
     refine LWP_ret ⟨_,rfl,?_⟩
     rw [rV,if_neg (by rw [rV_no (i:=i) (by omega) (sh_bad (by first | (left; assumption) | (right; left; assumption) | (right; right; assumption)))]; simp)]
     exact wkV.tup2 (wkV.nils 3) (wkV.refl _)
 ·try simp only [bn,reduceCtorEq] at h2
  all_goals try (exfalso; omega)
  all_goals
   refine LWP_exit ?_
   refine LWP_seq ?_
   have ei : i = l.length:=by omega
   subst ei
   refine LWP_deep [(8,.tsl 3 ((l.map (shS x h)).map St.e))] 5 ?_ ?_
   · simp only [deepL]
     exact ⟨⟨_,rfl,shR_deep rfl (by simp [get_e1])⟩,trivial⟩
   apply LWP_run
   · repeat (simp -implicitDefEqProofs (disch:=omega) [St.e,shS,shR_0,hx,hh,w1,w2,w3,g2,g3,hbn,gk,gj,gi,htl,htk,ft,hb24,h2]; try simp only [gz])
     rfl
   -- leaf 3
   refine LWP_ret ⟨_,rfl,?_⟩
   refine wkV_of_eq ?_
   simp only [retV]
   all_goals
    rw [rV,if_pos (rV_yes fun k hk => c3 k hk hk),List.map_map]
end

end Go.AM.Sk
