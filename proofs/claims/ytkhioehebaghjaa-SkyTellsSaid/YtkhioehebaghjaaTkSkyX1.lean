/- A part of a proof about the given program: what its name says. No premise beyond the statements'. -/
import Derived.Test.YtkhioehebaghjaaTkSkyR
import Derived.Test.YtkhioehebaghjaaGD
set_option linter.unusedSimpArgs false
set_option linter.unusedVariables false
/- The second opinion's edges: numbers, each put where it belongs. -/
namespace Go.AM.Sk
open Go.AM
open Go.AM.SkyP
theorem _root_.Go.AM.ACalls.keys {P : Program} {f : Nat} {args : List AV} {H : Heap} {n : Nat} {Q : AV → Heap → Nat → Prop} (h : ACalls P f args H n Q) : ACalls P f args H n fun r H' n' => Q r H' n' ∧ ∀ b blk,get H' b = some blk → b < n':=
  ⟨h.1,fun w F φ I cargs R ha => (h.2 w F φ I cargs R ha).mono fun e w' ⟨cv,r,H',n',φ',I',k1,k2,k3,k4,k5⟩ => ⟨cv,r,H',n',φ',I',k1,k2,k3,⟨k4,fun b blk hb => by
    have:=(k2.heap b blk hb).1
    simpa [AS.A,get_e0] using this⟩,k5⟩⟩
def insI (x : Int) : List Int → List Int
  | [] => [x]
  | y :: r => if y < x then y :: insI x r else if y = x then y :: r else x :: y :: r
def posI (x : Int) : List Int → Nat
  | [] => 0
  | y :: r => if y < x then posI x r + 1 else 0
theorem posI_spec (x : Int) : ∀ l : List Int,posI x l ≤ l.length ∧ (∀ (k : Nat) (h : k < l.length),k < posI x l → l[k] < x) ∧ (∀ h : posI x l < l.length,¬ l[posI x l] < x) ∧ insI x l = if ∃ h : posI x l < l.length,l[posI x l] = x then l else l.take (posI x l) ++ x :: l.drop (posI x l)
  | [] => ⟨Nat.le_refl _,fun k h => absurd h (by simp),fun h => absurd h (by simp),by simp [insI,posI]⟩
  | y :: r => by
    obtain ⟨h1,h2,h3,h4⟩:=posI_spec x r
    by_cases hy : y < x
    · have hp : posI x (y :: r) = posI x r + 1:=by simp [posI,hy]
      rw [hp]
      refine ⟨by simpa using h1,fun k h hk => ?_,fun h => by simpa using h3 (by simpa using h),?_⟩
      · cases k with
        | zero => simpa using hy
        | succ k => simpa using h2 k (by simpa using h) (by omega)
      · rw [insI,if_pos hy,h4]
        simp only [List.length_cons,Nat.add_lt_add_iff_right,List.getElem_cons_succ]
        split <;> simp
    · have hp : posI x (y :: r) = 0:=by simp [posI,hy]
      rw [hp]
      refine ⟨Nat.zero_le _,fun k h hk => absurd hk (Nat.not_lt_zero _),fun h => by simpa using hy,?_⟩
      rw [insI,if_neg hy]
      simp
def rowP (l : List Int) (k : Nat) (y : Int) : List (List AV):=(l.take k ++ y :: l.drop k).map inE
def putQ (l : List Int) (x : Int) (r : AV) (H' : Heap) (n' : Nat) : Prop:=∃ b',r = .sl 1 b' 0 (insI x l).length ∧ H' = [(b',.rows 1 ((insI x l).map inE))] ∧ b' < n'
theorem take_put {l : List Int} {k : Nat} {y z : Int} (h1 : 1 ≤ k) (h : k ≤ l.length) (hz : z = l[k - 1]'(by omega)) : (l.take k ++ y :: l.drop k).set k z = l.take (k - 1) ++ z :: l.drop (k - 1):=by
  have hl : (l.take k).length = k:=by rw [List.length_take]; omega
  rw [List.set_append,if_neg (by omega),hl,Nat.sub_self,List.set_cons_zero]
  obtain ⟨j,rfl⟩ : ∃ j,k = j + 1:=⟨k - 1,by omega⟩
  simp only [Nat.add_sub_cancel] at hz ⊢
  rw [List.take_succ_eq_append_getElem (by omega),List.append_assoc,List.singleton_append,← hz,List.drop_eq_getElem_cons (show j < l.length by omega),← hz]
theorem get_put {l : List Int} {k : Nat} {y : Int} (h1 : 1 ≤ k) (h : k ≤ l.length) : (rowP l k y)[k - 1]?.getD [] = inE (l[k - 1]'(by omega)):=by
  rw [rowP,List.getElem?_map,List.getElem?_append_left (by rw [List.length_take]; omega),List.getElem?_take,if_pos (by omega),List.getElem?_eq_getElem (by omega)]
  rfl
theorem get_put2 {l : List Int} {k : Nat} {y : Int} (h : k ≤ l.length) : (rowP l k y)[k]? = some (inE y):=by
  rw [rowP,List.getElem?_map,List.getElem?_append_right (by rw [List.length_take]; omega),List.length_take,show k - min k l.length = 0 by omega]
  rfl
section
attribute [local simp ↓] List.map_nil List.map_cons
attribute [local simp] m_ o_ g_ stepsS stepS gd opEff appEff LArg.ev app_val app_new app_upd app_kill putV ins_e0 ins_e1 get_e0 get_e1 binV binI grd bnd ldCells AV.cells AV.scalar AV.known setAt fillL chunks elems mxI mnI del Nat.add_assoc nlt_self nne_self nne_self' List.take_of_length_le decT decF wrap_i64 stepsD stepD ST.as dEffF LOp.cls softOK LOp.args LOp.rds AV.ids appD_val appD_new appD_upd appD_kill AS.flush delAll
set_option maxHeartbeats 2000000 in
theorem put_tail {n b m i0 : Nat} {l : List Int} {x : Int} {vs : Vars} (hbn : b < n) (hm : l.length = m) (hd : m < 1000000) (hi : i0 ≤ m) (v0 : get vs 0 = some (.sl 1 b 0 m)) (v1 : get vs 1 = some (.int .i64 x)) (v5 : get vs 5 = some (.int .i64 (i0 : Nat))) :
    LWP Go.Proofs.Try.prog 58 n (sub [1,1,1,1] lf57.body) ⟨vs,[(b,.rows 1 (l.map inE))],n⟩ (retO [.t 4] n (.sl 1 n 0 (m + 1)) [(n,.rows 1 (rowP l i0 x))]):=by
  refine LWP_sub (T:=⟨[(0,.sl 1 b 0 m),(1,.int .i64 x),(5,.int .i64 (i0 : Nat))],[(b,.rows 1 (l.map inE))],n⟩) (.mk' ⟨⟨_,v0,wkV.refl _⟩,⟨_,v1,wkV.refl _⟩,⟨_,v5,wkV.refl _⟩,trivial⟩ (fun c v h => h) rfl) ?_
  have g2 : ¬ b = n:=by omega
  have hb8 : (m + 1) * 8 ≤ 17592186044416:=by omega
  have ht : List.take m (l.map inE) = l.map inE:=List.take_of_length_le (by rw [List.length_map]; omega)
  have wm : IntKind.i64.wrap (m : Int) = (m : Int):=wrap_i64 (by omega) (by omega)
  refine LWP_seq ?_
  apply LWP_run
  · repeat (simp -implicitDefEqProofs (disch:=omega) [hbn,g2,hm,hb8,ht,inE]; try simp only [gz])
    rfl
  refine LWP_seq (LWP_seq ?_)
  apply LWP_run
  · repeat (simp -implicitDefEqProofs (disch:=omega) [wm]; try simp only [gz])
    rfl
  refine LWP_block (LWP_inv (fun q : Nat × Int => ⟨[(0,.sl 1 n 0 (m + 1)),(1,.int .i64 x),(5,.int .i64 (i0 : Nat)),(6,.int .i64 (q.1 : Nat))],[(n,.rows 1 (rowP l q.1 q.2))],n + 1⟩) (fun q => q.1 - i0) (fun q => i0 ≤ q.1 ∧ q.1 ≤ m) (m,0) ?_ ⟨hi,Nat.le_refl _⟩ ?_)
  · refine .mk' (by simp [leV,get_e0,get_e1,wkV.refl]) (fun c v h => ?_) rfl
    simp only [rowP,← hm,List.take_length,List.drop_length,List.map_append,List.map_cons,List.map_nil] at h ⊢
    exact h
  rintro ⟨k,y⟩ ⟨c1,c2⟩
  simp only at c1 c2 ⊢
  refine LWP_seq (LWP_seq ?_)
  apply LWP_run
  · repeat (simp -implicitDefEqProofs (disch:=omega) []; try simp only [gz])
    rfl
  refine LWP_cond (t:=decide (i0 < k)) (by simp [LArg.ev,get_e0,get_e1]) (fun hc => LWP_skip ?_) (fun hc => LWP_exit ?_)
  · have hk : i0 < k:=by simpa using hc
    have wk1 : IntKind.i64.wrap ((k : Int) - 1) = ((k - 1 : Nat) : Int):=by rw [wrap_i64 (by omega) (by omega)]; omega
    have e1 : k - 1 < m + 1:=by omega
    have e2 : ((k - 1 : Nat) : Int) < (m : Int) + 1:=by omega
    have e3 : (k : Int) < (m : Int) + 1:=by omega
    have hgp:=get_put (l:=l) (k:=k) (y:=y) (by omega) (by omega)
    have htp:=take_put (l:=l) (k:=k) (y:=y) (by omega) (by omega) rfl
    have hlen : (rowP l k y).length = m + 1:=by simp only [rowP]; simp only [List.length_map,List.length_append,List.length_cons,List.length_take,List.length_drop]; omega
    obtain ⟨A,hA⟩ : ∃ A,rowP l k y = A:=⟨_,rfl⟩
    rw [hA] at hgp hlen ⊢
    have e4 : k < A.length:=by omega
    have hAk : A[k] = inE y:=by
      have:=get_put2 (l:=l) (k:=k) (y:=y) (by omega)
      rw [hA,List.getElem?_eq_getElem e4] at this
      injection this
    have e5 : k - 1 < A.length:=by omega
    have hg2 : A[k - 1] = inE (l[k - 1]'(by omega)):=by rw [List.getElem?_eq_getElem e5] at hgp; exact hgp
    refine LWP_seq (LWP_block ?_)
    apply LWP_run
    · repeat (simp -implicitDefEqProofs (disch:=omega) [wk1,e2,e3,e4,e5,hg2,inE]; try simp only [gz])
      rfl
    apply LWP_run
    · repeat (simp -implicitDefEqProofs (disch:=omega) [wk1]; try simp only [gz])
      rfl
    refine ⟨(k - 1,l[k - 1]'(by omega)),⟨by simp only; omega,by simp only; omega⟩,by simp only; omega,.mk' (by simp [leV,get_e0,get_e1,wkV.refl]) (fun c v h => ?_) rfl⟩
    simp only at h ⊢
    rw [rowP,← htp,List.map_set,show (l.take k ++ y :: l.drop k).map inE = A from hA] at h
    rw [← h]
    simp [List.getElem?_eq_getElem e4,hAk,inE,get_e0,get_e1]
  · have hk : k = i0:=by
      have : ¬ i0 < k:=by simpa using hc
      omega
    subst hk
    have hlen : (rowP l k y).length = m + 1:=by simp only [rowP]; simp only [List.length_map,List.length_append,List.length_cons,List.length_take,List.length_drop]; omega
    have hset : (rowP l k y).set k (inE x) = rowP l k x:=by
      rw [rowP,rowP,show inE x = inE x from rfl,← List.map_set,List.set_append,if_neg (by rw [List.length_take]; omega)]
      simp only [List.length_take,show min k l.length = k by omega,Nat.sub_self,List.set_cons_zero]
    obtain ⟨A,hA⟩ : ∃ A,rowP l k y = A:=⟨_,rfl⟩
    rw [hA] at hlen hset ⊢
    have e3 : (k : Int) < (m : Int) + 1:=by omega
    have e4 : k < A.length:=by omega
    have hAk : A[k] = inE y:=by
      have:=get_put2 (l:=l) (k:=k) (y:=y) (by omega)
      rw [hA,List.getElem?_eq_getElem e4] at this
      injection this
    refine LWP_seq ?_
    apply LWP_run
    · repeat (simp -implicitDefEqProofs (disch:=omega) [e3,e4]; try simp only [gz])
      rfl
    refine LWP_seq ?_
    apply LWP_run
    · repeat (simp -implicitDefEqProofs (disch:=omega) []; try simp only [gz])
      rfl
    refine LWP_ret ?_
    show retO [.t 4] n _ _ Exit.ret _
    refine ⟨by simp only; omega,⟨_,rfl,wkV.refl _⟩,fun c v h => ?_⟩
    rw [← hset] at h
    rw [← h]
    simp [List.getElem?_eq_getElem e4,hAk,inE,get_e0,get_e1]
set_option maxHeartbeats 2000000 in
theorem put_ok {n b m : Nat} {l : List Int} {x : Int} (hbn : b < n) (hm : l.length = m) (hd : m < 1000000) : ACalls Go.Proofs.Try.prog 57 [.sl 1 b 0 m,.int .i64 x] [(b,.rows 1 (l.map inE))] n (putQ l x):=by
  obtain ⟨p1,p2,p3,p4⟩:=posI_spec x l
  obtain ⟨i0,hi0⟩ : ∃ i0,posI x l = i0:=⟨_,rfl⟩
  rw [hi0] at p1 p2 p3
  have walk : ACalls Go.Proofs.Try.prog 57 [.sl 1 b 0 m,.int .i64 x] [(b,.rows 1 (l.map inE))] n (if ∃ h : i0 < l.length,l[i0] = x then postO n (.sl 1 b 0 m) [(b,.rows 1 (l.map inE))] else postO n (.sl 1 n 0 (m + 1)) [(n,.rows 1 (rowP l i0 x))]):=by
    have hbody : ∀ (v : AV) (H2 : Heap),((∃ h : i0 < l.length,l[i0] = x) → v = .sl 1 b 0 m ∧ H2 = [(b,.rows 1 (l.map inE))]) → (¬ (∃ h : i0 < l.length,l[i0] = x) → v = .sl 1 n 0 (m + 1) ∧ H2 = [(n,.rows 1 (rowP l i0 x))]) →
        ACalls Go.Proofs.Try.prog 57 [.sl 1 b 0 m,.int .i64 x] [(b,.rows 1 (l.map inE))] n (postO n v H2):=by
      intro v H2 hyes hno
      refine own_body ok57 rfl ?_
      simp only [parV]
      refine LWP_seq ?_
      apply LWP_run
      · repeat (simp -implicitDefEqProofs (disch:=omega) []; try simp only [gz])
        rfl
      refine LWP_seq ?_
      apply LWP_run
      · repeat (simp -implicitDefEqProofs (disch:=omega) []; try simp only [gz])
        rfl
      refine LWP_seq ?_
      refine LWP_block (LWP_inv (fun i : Nat => ⟨[(0,.sl 1 b 0 m),(1,.int .i64 x),(5,.int .i64 (i : Nat))],[(b,.rows 1 (l.map inE))],n⟩) (fun i => m - i) (fun i => i ≤ i0) 0 ?_ (Nat.zero_le _) ?_)
      · refine .mk' ?_ (fun c v h => h) rfl
        simp [leV,get_e0,get_e1,wkV.refl]
      intro i hi
      have wi:=wrap_succ (n:=i) (by omega)
      refine LWP_seq (LWP_seq ?_)
      by_cases hlt : i < i0
      · have h1 : i < l.length:=by omega
        have h2 : i < m:=by omega
        have h3:=p2 i h1 hlt
        apply LWP_run
        · repeat (simp -implicitDefEqProofs (disch:=omega) [h1,h2,hm,inE]; try simp only [gz])
          rfl
        refine LWP_cond (t:=true) (by simp [LArg.ev,get_e0,get_e1,h3]) (fun _ => LWP_skip ?_) (fun h => by cases h)
        refine LWP_block ?_
        apply LWP_run
        · repeat (simp -implicitDefEqProofs (disch:=omega) [wi]; try simp only [gz])
          rfl
        refine ⟨i + 1,by omega,by omega,.mk' ?_ (fun c v h => h) rfl⟩
        simp [leV,get_e0,get_e1,wkV.refl]
      · have ei : i = i0:=by omega
        subst ei
        by_cases hl : i < l.length
        · have h2 : i < m:=by omega
          have h3:=p3 hl
          have h4 : x ≤ l[i]:=by omega
          apply LWP_run
          · repeat (simp -implicitDefEqProofs (disch:=omega) [hl,h2,hm,inE]; try simp only [gz])
            rfl
          refine LWP_cond (t:=false) (by simp [LArg.ev,get_e0,get_e1,h4]) (fun h => by cases h) (fun _ => LWP_exit ?_)
          refine LWP_seq (LWP_seq ?_)
          apply LWP_run
          · repeat (simp -implicitDefEqProofs (disch:=omega) [hl,h2,hm,inE]; try simp only [gz])
            rfl
          by_cases hx : l[i] = x
          · refine LWP_cond (t:=true) (by simp [LArg.ev,get_e0,get_e1,hx]) (fun _ => ?_) (fun h => by cases h)
            refine LWP_seq ?_
            apply LWP_run
            · repeat (simp -implicitDefEqProofs (disch:=omega) []; try simp only [gz])
              rfl
            refine LWP_ret ?_
            obtain ⟨rfl,rfl⟩:=hyes ⟨hl,hx⟩
            show retO [.t 4] n _ _ Exit.ret _
            exact ⟨by simp only; omega,⟨_,rfl,wkV.refl _⟩,fun c v h => h⟩
          · refine LWP_cond (t:=false) (by simp [LArg.ev,get_e0,get_e1,hx]) (fun h => by cases h) (fun _ => LWP_skip ?_)
            obtain ⟨rfl,rfl⟩:=hno (fun ⟨_,q⟩ => hx q)
            exact put_tail hbn hm hd (by omega) (by simp [get_e1]) (by simp [get_e1]) (by simp [get_e1])
        · have h2 : ¬ i < m:=by omega
          apply LWP_run
          · repeat (simp -implicitDefEqProofs (disch:=omega) [h2,hm]; try simp only [gz])
            rfl
          refine LWP_cond (t:=false) (by simp [LArg.ev,get_e0,get_e1]) (fun h => by cases h) (fun _ => LWP_exit ?_)
          refine LWP_seq (LWP_seq ?_)
          apply LWP_run
          · repeat (simp -implicitDefEqProofs (disch:=omega) [h2,hm]; try simp only [gz])
            rfl
          refine LWP_cond (t:=false) (by simp [LArg.ev,get_e0,get_e1]) (fun h => by cases h) (fun _ => LWP_skip ?_)
          obtain ⟨rfl,rfl⟩:=hno (fun ⟨q,_⟩ => hl q)
          exact put_tail hbn hm hd (by omega) (by simp [get_e1]) (by simp [get_e1]) (by simp [get_e1])
    by_cases hc : ∃ h : i0 < l.length,l[i0] = x
    · rw [if_pos hc]; exact hbody _ _ (fun _ => ⟨rfl,rfl⟩) (fun h => absurd hc h)
    · rw [if_neg hc]; exact hbody _ _ (fun h => absurd h hc) (fun _ => ⟨rfl,rfl⟩)
  refine walk.keys.mono fun r H' n' ⟨h1,h2⟩ => ?_
  rw [hi0] at p4
  unfold putQ
  rw [p4]
  split at h1
  · rename_i hc
    obtain ⟨rfl,rfl,h3⟩:=h1
    rw [if_pos hc]
    exact ⟨b,by rw [hm],rfl,by omega⟩
  · rename_i hc
    obtain ⟨rfl,rfl,h3⟩:=h1
    rw [if_neg hc]
    refine ⟨n,?_,rfl,h2 n _ (by rw [get_e1,if_pos rfl])⟩
    congr 1
    simp only [List.length_append,List.length_cons,List.length_take,List.length_drop]
    omega
end
end Go.AM.Sk
