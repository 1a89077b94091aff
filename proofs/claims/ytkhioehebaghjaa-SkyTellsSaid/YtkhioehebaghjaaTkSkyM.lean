/- A part of a proof about the given program: what its name says. No premise beyond the statements'. -/
import Derived.Test.YtkhioehebaghjaaTkSkyJ
import Derived.Test.YtkhioehebaghjaaTkSkyK
import Derived.Test.YtkhioehebaghjaaTkSkyF
import Derived.Test.YtkhioehebaghjaaTkSkyIz
import Derived.Test.YtkhioehebaghjaaTkSkyQ
import Derived.Test.YtkhioehebaghjaaGD
set_option linter.unusedSimpArgs false
set_option linter.unusedVariables false
/- The skyline of steps: the walk from edge to edge. -/
namespace Go.AM.Sk
open Go.AM
open Go.AM.SkyP
def seqTail : Nat → LCode → LCode
  | 0,c => c
  | n + 1,.seq _ b => seqTail n b
  | _ + 1,c => c
theorem LWP_frzT {P : Program} {nt n0 : Nat} {S T : ST} {Q : Exit → ST → Prop} {lc : LCode} (b : Nat) {sz : Nat} {es : List (List AV)} (hb : get S.heap b = some (.rows sz es)) (hv : leV T.vars (mapS (frzV b sz es) S.vars))
    (hh : ∀ c v,get T.heap c = some v → c ≠ b ∧ ∃ u,get S.heap c = some u ∧ frzB b sz es u = v) (hn : S.next = T.next) (h : LWP P nt n0 lc T Q) : LWP P nt n0 lc S Q:=by
  refine LWP_frz b hb (LWP_sub (.mk' hv (fun c v hc => ?_) hn) h)
  obtain ⟨h1,u,h2,h3⟩:=hh c v hc
  simp only [ST.frz]
  rw [get_mapS,get_del,if_neg (Ne.symm h1),h2,← h3]
  rfl
theorem frzR_st (b sz : Nat) (es : List (List AV)) (l : List St) : frzR b sz es (l.map St.e) = l.map St.e:=frzR_pure b sz es _ (pureR_st l)
theorem pureR_in : ∀ l : List Int,pureR (l.map inE) = true
  | [] => rfl
  | x :: l => by simp [pureR,pureL,AV.pure,inE,pureR_in l]
theorem frzR_in (b sz : Nat) (es : List (List AV)) (l : List Int) : frzR b sz es (l.map inE) = l.map inE:=frzR_pure b sz es _ (pureR_in l)
theorem eq3 (a b c a' b' c' : Int) : eqV (.ag [.i,.i,.i]) (.agg [.int .i64 a,.int .i64 b,.int .i64 c]) (.agg [.int .i64 a',.int .i64 b',.int .i64 c']) = some (decide (a = a' ∧ b = b' ∧ c = c')):=by
  have e : ∀ x y : Int,(x == y) = decide (x = y):=fun _ _ => rfl
  simp only [eqV,eqL,eqS,grd,e]
  by_cases h1 : a = a' <;> by_cases h2 : b = b' <;> by_cases h3 : c = c' <;> simp [h1,h2,h3]
def mxS (L : List St) : Int:=(maxS L).h
def sub : List Nat → LCode → LCode
  | [],c => c
  | 0 :: r,.seq a _ => sub r a
  | 1 :: r,.seq _ b => sub r b
  | 2 :: r,.block _ c => sub r c
  | 2 :: r,.loop c => sub r c
  | _,c => c
structure LQ where
  j : Nat
  O : List St
  op : List St
  out : List St
  Z : List St
  p : Nat
  q : Nat
  nx : Nat
noncomputable def LQ.T (E : List Int) (H0 : Heap) (s : LQ) : ST:=⟨[(3,.tsl 1 (E.map inE)),(6,.tsl 3 (s.O.map St.e)),(7,.sl 3 s.p 0 s.out.length),(8,.sl 3 s.q 0 s.op.length),(39,.int .i64 ((E.length - 1 : Nat) : Int)),(40,.int .i64 (s.j : Nat))],
  ins s.p (.rows 3 (s.out.map St.e)) (ins s.q (.rows 3 (s.op.map St.e ++ s.Z.map St.e)) H0),s.nx⟩
def LQ.C (E : List Int) (N : Nat) (R : List St) (s : LQ) : Prop:=s.j ≤ E.length - 1 ∧ s.p < s.nx ∧ s.q < s.nx ∧ s.p ≠ s.q ∧ s.op.length + s.O.length ≤ N ∧ s.out.length ≤ s.j ∧ lineL mxS (E.drop s.j) s.op s.O s.out = R
structure LI where
  O : List St
  op : List St
  Z : List St
  q : Nat
  nx : Nat
noncomputable def LI.T (E : List Int) (H0 : Heap) (j : Nat) (out : List St) (x0 x1 : Int) (p : Nat) (s : LI) : ST:=⟨[(3,.tsl 1 (E.map inE)),(6,.tsl 3 (s.O.map St.e)),(7,.sl 3 p 0 out.length),(8,.sl 3 s.q 0 s.op.length),(10,.cptr [.int .i64 x0]),(11,.int .i64 x1),(39,.int .i64 ((E.length - 1 : Nat) : Int)),(40,.int .i64 (j : Nat))],
  ins p (.rows 3 (out.map St.e)) (ins s.q (.rows 3 (s.op.map St.e ++ s.Z.map St.e)) H0),s.nx⟩
def LI.C (p : Nat) (s : LI) : Prop:=p < s.nx ∧ s.q < s.nx ∧ p ≠ s.q ∧ s.op.length + s.O.length ≤ 1000
section
attribute [local simp ↓] List.map_nil List.map_cons
attribute [local simp] m_ o_ g_ stepsS stepS gd opEff appEff LArg.ev app_val app_new app_upd app_kill putV ins_e0 ins_e1 get_e0 get_e1 binV binI grd bnd ldCells AV.cells AV.scalar AV.known setAt fillL chunks elems mxI mnI del Nat.add_assoc nlt_self nne_self nne_self' List.take_of_length_le decT decF wrap_i64 stepsD stepD ST.as dEffF LOp.cls softOK LOp.args LOp.rds AV.ids appD_val appD_new appD_upd appD_kill AS.flush delAll
set_option maxHeartbeats 2000000 in
theorem line_inner {E : List Int} {H0 : Heap} (hH0 : ∀ c,get H0 c = none) (j : Nat) (out : List St) (x0 x1 : Int) (p : Nat) (O op Z : List St) (q nx : Nat) (c2 : p < nx) (c3 : q < nx) (c4 : p ≠ q) (c5 : op.length + O.length ≤ 1000) (K : Exit → ST → Prop) :
    LWP Go.Proofs.Try.prog 121 0 (sub [1,1,1,1,1,1,1,1,0,1,2,2,1,1,0,2,1,1,0] lf28.body) (LI.T E H0 j out x0 x1 p ⟨O,op,Z,q,nx⟩) (seqQ (fun S' => ∃ s : LI,(LI.C p s ∧ s.op = op ++ O.takeWhile (SkyP.early x0) ∧ s.O = O.dropWhile (SkyP.early x0)) ∧ (s.T E H0 j out x0 x1 p).le S') K):=by
  refine LWP_block (LWP_inv (fun s : LI => s.T E H0 j out x0 x1 p) (fun s => s.O.length) (fun s => LI.C p s ∧ s.op ++ s.O.takeWhile (SkyP.early x0) = op ++ O.takeWhile (SkyP.early x0) ∧ s.O.dropWhile (SkyP.early x0) = O.dropWhile (SkyP.early x0)) ⟨O,op,Z,q,nx⟩ (ST.le.refl _) ⟨⟨by simp only; omega,by simp only; omega,c4,c5⟩,rfl,rfl⟩ ?_)
  rintro ⟨O1,op1,Z1,q1,nx1⟩ ⟨⟨d1,d2,d3,d4⟩,d5,d6⟩
  simp only [LI.T] at d1 d2 d3 d4 d5 d6 ⊢
  refine LWP_seq (LWP_seq ?_)
  cases O1 with
  | nil =>
    apply LWP_runD
    · repeat (simp -implicitDefEqProofs (disch:=omega) []; try simp only [gz])
      rfl
    · simp [AS.fin,delAll,del,Nat.add_assoc]; rfl
    refine LWP_cond (t:=false) (by simp [LArg.ev,get_e0,get_e1]) (fun h => by cases h) (fun _ => LWP_exit ?_)
    simp only [List.takeWhile_nil,List.append_nil,List.dropWhile_nil] at d5 d6
    refine ⟨⟨[],op1,Z1,q1,nx1 + 11⟩,⟨⟨by simp only; omega,by simp only; omega,d3,d4⟩,d5,d6⟩,.mk' ?_ (fun c v h => h) rfl⟩
    simp [LI.T,leV,get_e0,get_e1,wkV.refl]
  | cons s r =>
    apply LWP_runD
    · repeat (simp -implicitDefEqProofs (disch:=omega) [St.e]; try simp only [gz])
      rfl
    · simp [AS.fin,delAll,del,Nat.add_assoc]; rfl
    refine LWP_cond (t:=decide (s.x0 ≤ x0)) (by simp [LArg.ev,get_e0,get_e1]) (fun hc => LWP_skip ?_) (fun hc => LWP_exit ?_)
    · have he : SkyP.early x0 s = true:=hc
      have htk : List.take op1.length (List.map St.e op1 ++ List.map St.e Z1) = op1.map St.e:=by rw [← List.map_append,← List.map_take,List.take_left]
      have hb24 : (op1.length + 1) * 24 ≤ 17592186044416:=by simp only [List.length_cons] at d4; omega
      have hr1 : ((r.length : Int) + 1 - 1).toNat = r.length:=by omega
      refine LWP_block (LWP_seq ?_)
      apply LWP_run
      · repeat (simp -implicitDefEqProofs (disch:=omega) [St.e,get_ins,d3,htk,hb24]; try simp only [gz])
        rfl
      have hr2 : List.take r.length (List.map St.e r) = List.map St.e r:=List.take_of_length_le (by simp)
      apply LWP_run
      · repeat (simp -implicitDefEqProofs (disch:=omega) [hr1,hr2]; try simp only [gz])
        rfl
      simp only [List.takeWhile_cons,he,List.dropWhile_cons,if_true] at d5 d6
      simp only [List.length_cons] at d4
      refine ⟨⟨r,op1 ++ [s],[],nx1 + 11,nx1 + 12⟩,⟨⟨by simp only; omega,by simp only; omega,by simp only; omega,by simp only [List.length_append,List.length_cons,List.length_nil]; omega⟩,by simp only; rw [← d5]; simp,by simp only; exact d6⟩,by simp,.mk' ?_ (fun c v h => ?_) rfl⟩
      · simp [LI.T,leV,get_e0,get_e1,wkV.refl]
      · simp only [LI.T,get_ins,get_del,hH0] at h ⊢
        (repeat' split at h) <;> (repeat' split) <;> first | omega | (cases h; done) | (rw [← h]; simp [St.e]; done) | trace_state
    · have he : SkyP.early x0 s = false:=hc
      simp only [List.takeWhile_cons,he,List.append_nil,List.dropWhile_cons,Bool.false_eq_true,if_false] at d5 d6
      refine ⟨⟨s :: r,op1,Z1,q1,nx1 + 11⟩,⟨⟨by simp only; omega,by simp only; omega,d3,d4⟩,d5,d6⟩,.mk' ?_ (fun c v h => h) rfl⟩
      simp [LI.T,leV,get_e0,get_e1,wkV.refl,St.e]
end
def putS (out : List St) (x0 x1 : Int) (L : List St) : List St:=if L = [] then out else put out x0 x1 (mxS L)
section
attribute [local simp ↓] List.map_nil List.map_cons
attribute [local simp] m_ o_ g_ stepsS stepS gd opEff appEff LArg.ev app_val app_new app_upd app_kill putV ins_e0 ins_e1 get_e0 get_e1 binV binI grd bnd ldCells AV.cells AV.scalar AV.known setAt fillL chunks elems mxI mnI del Nat.add_assoc nlt_self nne_self nne_self' List.take_of_length_le decT decF wrap_i64 stepsD stepD ST.as dEffF LOp.cls softOK LOp.args LOp.rds AV.ids appD_val appD_new appD_upd appD_kill AS.flush delAll
set_option maxHeartbeats 4000000 in
theorem line_rest {E : List Int} {H0 : Heap} (hH0 : ∀ c,get H0 c = none) (j : Nat) (out : List St) (x0 x1 : Int) (p : Nat) (O op Z : List St) (q nx : Nat) (c2 : p < nx) (c3 : q < nx) (c4 : p ≠ q) (c5 : op.length + O.length ≤ 1000) (c6 : out.length ≤ 3000) (K0 : Exit → ST → Prop)
    (hK0 : ∀ (S : ST) (out2 Z2 : List St) (p2 q2 nx2 : Nat),out2 = putS out x0 x1 (op.filter (stays x0)) → out2.length ≤ out.length + 1 → p2 < nx2 → q2 < nx2 → p2 ≠ q2 → ((LI.T E H0 j out2 x0 x1 p2 ⟨O,op.filter (stays x0),Z2,q2,nx2⟩)).le S → K0 .normal S) :
    LWP Go.Proofs.Try.prog 121 0 (sub [1,1,1,1,1,1,1,1,0,1,2,2,1,1,0,2,1,1,1] lf28.body) (LI.T E H0 j out x0 x1 p ⟨O,op,Z,q,nx⟩) (blockQ 3 K0):=by
  simp only [LI.T]
  refine LWP_seq ?_
  refine LWP_reg fun K hK => ?_
  apply rgnS_pre 2
  · repeat (simp -implicitDefEqProofs (disch:=omega) []; try simp only [gz])
    rfl
  refine rgnS_callO (deletez_ok (b:=q) (m:=op.length) (l:=op) (Z:=Z) (x:=x0) (by simp only; omega) rfl (by omega) (by simp only [get_ins]; rw [if_neg c4,if_pos trivial,List.map_append])) rfl rfl (by simp [gd,get_e0,get_e1,LArg.ev]) fun n1 hn1 => ?_
  obtain ⟨L,hL⟩ : ∃ L,op.filter (stays x0) = L:=⟨_,rfl⟩
  have hLl : L.length ≤ op.length:=by rw [← hL]; exact List.length_filter_le _ _
  obtain ⟨Z2,hZ2⟩ : ∃ Z2,delR x0 op ++ Z = L ++ Z2:=⟨List.replicate (op.length - L.length) zst ++ Z,by rw [delR,hL,List.append_assoc]⟩
  rw [hZ2,hL]
  rw [hL] at hK0
  simp only at hn1
  apply rgnS_pre 1
  · repeat (simp -implicitDefEqProofs (disch:=omega) []; try simp only [gz])
    rfl
  refine hK _ ?_; clear hK
  refine LWP_seq (LWP_seq ?_)
  apply LWP_run
  · repeat (simp -implicitDefEqProofs (disch:=omega) []; try simp only [gz])
    rfl
  have hHq : ∀ c v,get (ins p (Blk.rows 3 (List.map St.e out)) (ins q (Blk.rows 3 (List.map St.e L ++ List.map St.e Z2)) H0)) c = some v → get (ins q (Blk.rows 3 (List.map St.e L ++ List.map St.e Z2)) (ins p (Blk.rows 3 (List.map St.e out)) (ins q (Blk.rows 3 (List.map St.e op ++ List.map St.e Z)) H0))) c = some v:=fun c v h => by
    simp only [get_ins,hH0] at h ⊢
    (repeat' split at h) <;> (repeat' split) <;> first | omega | exact h
  by_cases h0 : L = []
  · refine LWP_cond (t:=true) (by simp [LArg.ev,get_e0,get_e1,h0]) (fun _ => LWP_exit ?_) (fun h => by cases h)
    refine hK0 _ out Z2 p q n1 (by rw [putS,if_pos h0]) (by omega) (by omega) (by omega) c4 (.mk' ?_ hHq rfl)
    simp [LI.T,leV,get_e0,get_e1,wkV.refl]
  have hL0 : 0 < L.length:=List.length_pos_iff.2 h0
  refine LWP_cond (t:=false) (by simp [LArg.ev,get_e0,get_e1,h0]) (fun h => by cases h) (fun _ => LWP_skip ?_)
  refine LWP_seq ?_
  refine LWP_sub (T:=LI.T E H0 j out x0 x1 p ⟨O,L,Z2,q,n1⟩) (.mk' (by simp [LI.T,leV,get_e0,get_e1,wkV.refl]) hHq rfl) ?_
  simp only [LI.T]
  refine LWP_reg fun K hK => ?_
  apply rgnS_pre 1
  · repeat (simp -implicitDefEqProofs (disch:=omega) []; try simp only [gz])
    rfl
  refine rgnS_lend (m:=5) (maxfunc_ok L hL0 (by omega)) rfl rfl (by simp [pureL,AV.pure,pureR_st]) ?_ rfl rfl ?_
  · have e:=deep_rowz (k:=3) (H:=ins p (Blk.rows 3 (List.map St.e out)) (ins q (Blk.rows 3 (List.map St.e L ++ List.map St.e Z2)) H0)) (b:=q) (m:=L.length) (l:=L) (Q:=L ++ Z2) (by simp only [get_ins]; rw [if_neg c4,if_pos trivial,List.map_append]) (by simp) (by simp)
    show mapO (deepV _ 5) [.sl 3 q 0 L.length,.fn 48 [] []] = _
    simp only [mapO,e]
    rfl
  apply rgnS_pre 2
  · repeat (simp -implicitDefEqProofs (disch:=omega) [St.e]; try simp only [gz])
    rfl
  refine hK _ ?_; clear hK
  refine LWP_seq ?_
  apply LWP_run
  · repeat (simp -implicitDefEqProofs (disch:=omega) []; try simp only [gz])
    rfl
  rcases List.eq_nil_or_concat out with rfl | ⟨A,s,rfl⟩
  · refine LWP_seq (LWP_seq ?_)
    apply LWP_runD
    · repeat (simp -implicitDefEqProofs (disch:=omega) []; try simp only [gz])
      rfl
    · simp [AS.fin,delAll,del,Nat.add_assoc]; rfl
    refine LWP_cond (t:=false) (by simp [LArg.ev,get_e0,get_e1]) (fun h => by cases h) (fun _ => LWP_skip ?_)
    apply LWP_run
    · repeat (simp -implicitDefEqProofs (disch:=omega) [get_ins]; try simp only [gz])
      rfl
    refine hK0 _ [⟨x0,x1,(maxS L).h⟩] Z2 (n1 + 19) q (n1 + 20) (by rw [putS,if_neg h0]; rfl) (by simp) (by omega) (by omega) (by omega) (.mk' (by simp [LI.T,leV,get_e0,get_e1,wkV.refl]) (fun c v h => ?_) rfl)
    simp only [LI.T,get_ins,get_del,hH0] at h ⊢
    (repeat' split at h) <;> (repeat' split) <;> first | omega | (cases h; done) | (rw [← h]; simp [St.e]; done) | trace_state
  · rw [List.concat_eq_append] at *
    have hAn : (A ++ [s]).length = A.length + 1:=by simp
    have hAl : A.length ≤ 3000:=by omega
    have wA : IntKind.i64.wrap ((A.length : Int)) = (A.length : Int):=wrap_i64 (by omega) (by omega)
    have hg : (List.map St.e A ++ [[AV.int .i64 s.x0,AV.int .i64 s.x1,AV.int .i64 s.h]])[A.length]?.getD [] = [AV.int .i64 s.x0,AV.int .i64 s.x1,AV.int .i64 s.h]:=by simp
    have hlp : (0 : Int) < (A.length : Int) + 1:=by omega
    refine LWP_seq (LWP_seq ?_)
    apply LWP_runD
    · repeat (simp -implicitDefEqProofs (disch:=omega) [get_ins,hAn,wA,hg,hlp,eq3,St.e]; try simp only [gz])
      rfl
    · simp [AS.fin,delAll,del,Nat.add_assoc]; rfl
    refine LWP_cond (t:=decide (s.x1 = x0 ∧ s.h = (maxS L).h)) (by simp [LArg.ev,get_e0,get_e1]) (fun hc => ?_) (fun hc => LWP_skip ?_)
    · have hc':=of_decide_eq_true hc
      refine LWP_seq ?_
      apply LWP_run
      · repeat (simp -implicitDefEqProofs (disch:=omega) [get_ins,wA,hg,St.e]; try simp only [gz])
        rfl
      refine LWP_exit ?_
      refine hK0 _ (A ++ [⟨s.x0,x1,(maxS L).h⟩]) Z2 p q (n1 + 19) (by rw [putS,if_neg h0,put]; simp [hc',mxS]) (by simp) (by omega) (by omega) c4 (.mk' (by simp [LI.T,leV,get_e0,get_e1,wkV.refl]) (fun c v h => ?_) rfl)
      simp only [LI.T,get_ins,hH0] at h ⊢
      (repeat' split at h) <;> (repeat' split) <;> first | omega | (cases h; done) | (rw [← h]; simp [St.e,hc'.2]; done) | trace_state
    · have hc':=of_decide_eq_false hc
      have hb24 : (A.length + 1 + 1) * 24 ≤ 17592186044416:=by omega
      have htk : List.take (A.length + 1) (List.map St.e A ++ [[AV.int .i64 s.x0,AV.int .i64 s.x1,AV.int .i64 s.h]]) = List.map St.e A ++ [[AV.int .i64 s.x0,AV.int .i64 s.x1,AV.int .i64 s.h]]:=List.take_of_length_le (by simp)
      apply LWP_run
      · repeat (simp -implicitDefEqProofs (disch:=omega) [get_ins,hAn,hb24,htk,St.e]; try simp only [gz])
        rfl
      refine hK0 _ (A ++ [s] ++ [⟨x0,x1,(maxS L).h⟩]) Z2 (n1 + 19) q (n1 + 20) (by rw [putS,if_neg h0,put]; simp [mxS]; intro h1 h2; exact absurd ⟨h1,h2⟩ hc') (by simp) (by omega) (by omega) (by omega) (.mk' (by simp [LI.T,leV,get_e0,get_e1,wkV.refl]) (fun c v h => ?_) rfl)
      simp only [LI.T,get_ins,get_del,hH0] at h ⊢
      (repeat' split at h) <;> (repeat' split) <;> first | omega | (cases h; done) | (rw [← h]; simp [St.e]; done) | trace_state
end
end Go.AM.Sk
