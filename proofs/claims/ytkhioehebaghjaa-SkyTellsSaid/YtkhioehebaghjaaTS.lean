/- A part of a proof about the given program: what its name says. No premise beyond the statements'. -/
import Derived.Test.YtkhioehebaghjaaTC
import Derived.Sort.AssemblyPlain
import Derived.Sort.LotD5
set_option linter.unusedSimpArgs false
set_option linter.unusedVariables false
/- The library's sort: how elements lie; insertion. -/
namespace Go.AM
open Go.Sort
attribute [local simp] mm_ oo_ gg_ stepsS stepS gd opEff appEff LArg.ev app_val app_new app_upd app_kill putV ins_e0 ins_e1 get_e0 get_e1 binV binI grd bnd AV.scalar AV.known fillL chunks elems mxI mnI del Nat.add_assoc nlt_self nne_self nne_self' List.take_of_length_le stepsD stepD ST.as dEffF LOp.cls softOK LOp.args LOp.rds AV.ids appD_val appD_new appD_upd appD_kill AS.flush delAll
structure Cmp (P : Program) (K : SK) (α : Type) where
 enc : α → List AV
 val : α → AV
 g : Nat
 first : List AV
 caps : List AV
 c : α → α → Int
 ld : ∀ x,ldCells K.ag K.sz (enc x) = some (val x)
 st : ∀ x,(val x).cells = enc x
 sc : ∀ x,(enc x).all AV.scalar = true
 len : ∀ x,(enc x).length = K.sz
 pu : ∀ x,pureL (enc x) = true
 pv : ∀ x,(val x).pure = true
 pf : pureL first = true
 pc : pureL caps = true
 call : ∀ x y,ACalls P g (first ++ [val x,val y] ++ caps) [] 0 (fun r _ _ => r = .int .i64 (c x y))
section
variable {P : Program} {K : SK} {α : Type}
def Cmp.lt (C : Cmp P K α) (x y : α) : Bool:=decide (C.c x y < 0)
def Cmp.fn (C : Cmp P K α) : AV:=.fn C.g C.first C.caps
def rws (C : Cmp P K α) (d : Array α) : List (List AV):=d.toList.map C.enc
theorem rws_len (C : Cmp P K α) (d : Array α) : (rws C d).length = d.size:=by simp [rws]
theorem rws_set (C : Cmp P K α) {d : Array α} {i : Nat} (x : α) : (rws C d).set i (C.enc x) = rws C (d.setIfInBounds i x):=by
 simp [rws,List.map_set]
theorem setAt_enc (C : Cmp P K α) (x y : α) : setAt (C.enc y) 0 (C.enc x) = C.enc x:=by
 simp [setAt,C.len]
variable [Inhabited α]
def el (d : Array α) (i : Nat) : α:=d[i]!
theorem rws_get (C : Cmp P K α) {d : Array α} {i : Nat} (h : i < (rws C d).length) : (rws C d)[i] = C.enc (el d i):=by
 have h' : i < d.size:=by simpa [rws] using h
 simp [rws,h',getElem!_pos,el]
theorem ld1 (x : AV) (l : List AV) : ldCells false 1 (x :: l) = some x:=rfl
theorem setAt_one (x y : AV) : setAt [x] 0 [y] = [y]:=rfl
theorem cells_int (k : IntKind) (n : Int) : (AV.int k n).cells = [.int k n]:=rfl
attribute [local simp] ld1 setAt_one cells_int
theorem rws_swp (C : Cmp P K α) (d : Array α) (i j : Nat) : rws C ((d.setIfInBounds i (el d j)).setIfInBounds j (el d i)) = rws C (swp d i j):=rfl
theorem get_ins_same {α : Type} {b c : Nat} {x v : α} {H : List (Nat × α)} (hb : get H b = some x) (h : get (ins b x H) c = some v) : get H c = some v:=by
 rw [get_ins] at h
 split at h
 ·rename_i e; subst e; rw [← h]; exact hb
 ·exact h
theorem ins_ins {α : Type} (b : Nat) (x y : α) (H : List (Nat × α)) : ins b x (ins b y H) = ins b x H:=ins_insA b x y H
theorem pureL_append {a b : List AV} : pureL (a ++ b) = (pureL a && pureL b):=by
 induction a with
 | nil => simp [pureL]
 | cons x a ih => simp [pureL,ih,Bool.and_assoc]
abbrev slA (K : SK) (b m : Nat) : AV:=.sl K.sz b 0 m
theorem ins_ok (L : Lays P K) (C : Cmp P K α) {H : Heap} {n b m : Nat} (hbn : b < n) {d : Array α} (hm : d.size = m) (hd : m < 1073741824) (a e : Nat) (he : e ≤ m) (hae : a ≤ e) (hb : get H b = some (.rows K.sz (rws C d))) :
  ACalls P K.ins [slA K b m,.int .i64 a,.int .i64 e,C.fn] H n (postO n (.tup []) (ins b (.rows K.sz (rws C (insertionSort C.lt d a e))) H)):=by
 refine own_body L.ins rfl ?_
 simp only [parV,cIns]
 refine LWP_seq ?_
 apply LWP_run
 ·simp -implicitDefEqProofs; rfl
 have w1 : IntKind.i64.wrap ((a : Int) + 1) = ((a + 1 : Nat) : Int):=wrap_succ (by omega)
 refine LWP_block (LWP_inv (fun q : Nat × Array α × Nat => ⟨[(0,slA K b m),(1,.int .i64 a),(2,.int .i64 e),(3,C.fn),(8,.int .i64 q.1)],ins b (.rows K.sz (rws C q.2.1)) H,q.2.2⟩) (fun q => e - q.1)
  (fun q => a < q.1 ∧ (q.1 ≤ e ∨ q.1 = a + 1) ∧ q.2.1.size = m ∧ n ≤ q.2.2 ∧ insOuter C.lt a e q.1 q.2.1 = insertionSort C.lt d a e) (a + 1,d,n) ?_ ⟨by simp only; omega,.inr rfl,hm,Nat.le_refl _,rfl⟩ ?_)
 ·refine .mk' ?_ (fun c v h => get_ins_same hb h) (by simp)
  simp [leV,get_e0,get_e1,wkV.refl,w1]
 rintro ⟨i,d1,nx⟩ ⟨h1,h2,h3,h5,h4⟩
 simp only at h1 h2 h3 h4 h5 ⊢
 refine LWP_seq (LWP_seq ?_)
 apply LWP_run
 ·simp -implicitDefEqProofs; rfl
 refine LWP_cond (t:=decide (i < e)) (by simp [LArg.ev,get_e0,get_e1]) (fun hc => LWP_skip ?_) (fun hc => LWP_exit ?_)
 ·have hc' : i < e:=by simpa using hc
  refine LWP_seq (LWP_block (LWP_seq ?_))
  apply LWP_run
  ·simp -implicitDefEqProofs; rfl
  refine LWP_block (LWP_inv (fun q : Nat × Array α × Nat => ⟨[(0,slA K b m),(1,.int .i64 a),(2,.int .i64 e),(3,C.fn),(8,.int .i64 i),(9,.int .i64 q.1)],ins b (.rows K.sz (rws C q.2.1)) H,q.2.2⟩) (fun q => q.1)
   (fun q => a ≤ q.1 ∧ q.1 ≤ i ∧ q.2.1.size = m ∧ n ≤ q.2.2 ∧ insInner C.lt a q.1 q.2.1 = insInner C.lt a i d1) (i,d1,nx) ?_ ⟨by simp only; omega,Nat.le_refl _,h3,h5,rfl⟩ ?_)
  ·refine .mk' ?_ (fun c v h => h) (by simp)
   simp [leV,get_e0,get_e1,wkV.refl]
  rintro ⟨j,d2,ny⟩ ⟨k1,k2,k3,k5,k4⟩
  simp only at k1 k2 k3 k4 k5 ⊢
  have hb2 : ∀ k,b < ny + k:=fun k => by omega
  have hb3 : b < ny:=by omega
  refine LWP_seq (LWP_seq ?_)
  by_cases hj : a < j
  ·obtain ⟨j,rfl⟩ : ∃ j',j = j' + 1:=⟨j - 1,by omega⟩
   have e1 : ((j : Int) + 1).toNat = j + 1:=by omega
   have e2 : 0 ≤ (j : Int) + 1:=by omega
   have e3 : (j : Int) + 1 < (m : Int):=by omega
   have e4 : j < m:=by omega
   have e5 : j + 1 < d2.size:=by omega
   have e6 : j < d2.size:=by omega
   have e7 : (a : Int) < (j : Int) + 1:=by omega
   have e8:=wrap_nat (n:=j) (by omega)
   refine LWP_regD' fun K' hK => ?_
   apply rgnD_pre 14
   ·simp -implicitDefEqProofs [Cmp.fn,e1,e2,e3,e4,e5,e6,e7,e8,rws_len,rws_get,C.ld,get_ins,hb2,hb3]; rfl
   refine rgnD_call (C.call (el d2 (j + 1)) (el d2 j)) rfl rfl (by simp [pureL,AV.pure,pureL_append,C.pv,C.pf,C.pc]) (by simp [AV.pure,pureL_append,C.pv,C.pf,C.pc]) (by simp [gd,get_e0,get_e1,LArg.ev]) (by simp [get]) ?_
   apply rgnD_pre 99
   ·simp -implicitDefEqProofs; rfl
   refine hK _ _ (by simp [AS.fin,delAll,del,Nat.add_assoc]; rfl) ?_; clear hK
   have hlt : decide (C.c (el d2 (j + 1)) (el d2 j) < 0) = C.lt d2[j + 1]! d2[j]!:=rfl
   cases ht : C.lt d2[j + 1]! d2[j]! with
   | true =>
    rw [ht] at hlt
    refine LWP_cond (t:=true) (by simp [LArg.ev,get_e0,get_e1,hlt]) (fun _ => LWP_skip ?_) (fun h => by cases h)
    refine LWP_seq (LWP_block ?_)
    apply LWP_runD
    ·simp -implicitDefEqProofs [Cmp.fn,e1,e2,e3,e4,e5,e6,e7,e8,rws_len,rws_get,C.ld,C.st,C.len,C.sc,get_ins,hb2,hb3,rws_set,setAt_enc,rws_swp,ins_ins]; rfl
    ·simp [AS.fin,delAll,del,Nat.add_assoc]; rfl
    apply LWP_run
    ·simp -implicitDefEqProofs [e8]; rfl
    refine ⟨(j,swp d2 (j + 1) j,_),⟨by simp only; omega,by simp only; omega,by simp [swp,k3],?_,?_⟩,by simp only; omega,.mk' ?_ (fun _ _ h => h) rfl⟩
    ·simp only; omega
    ·rw [← k4]
     simp only [insInner]
     rw [if_pos (by simp [ht]; omega)]
    ·simp [leV,get_e0,get_e1,wkV.refl,Cmp.fn]
   | false =>
    rw [ht] at hlt
    refine LWP_cond (t:=false) (by simp [LArg.ev,get_e0,get_e1,hlt]) (fun h => by cases h) (fun _ => LWP_exit ?_)
    have h6 : d2 = insInner C.lt a i d1:=by rw [← k4]; first | exact ht.symm | (simp only [insInner]; rw [if_neg (by simp [ht])])
    apply LWP_run
    ·simp -implicitDefEqProofs; rfl
    refine ⟨(i + 1,d2,_),⟨by simp only; omega,by simp only; omega,k3,?_,?_⟩,by simp only; omega,.mk' ?_ (fun _ _ h => h) rfl⟩
    ·simp only; omega
    ·rw [← h4,h6]
     conv => rhs; rw [insOuter,if_pos hc']
    ·simp [leV,get_e0,get_e1,wkV.refl,Cmp.fn,wrap_succ (n:=i) (by omega)]
  ·have e7 : ¬ (a : Int) < (j : Int):=by omega
   apply LWP_runD
   ·simp -implicitDefEqProofs [e7]; rfl
   ·simp [AS.fin,delAll,del,Nat.add_assoc]; rfl
   refine LWP_cond (t:=false) (by simp [LArg.ev,get_e0,get_e1]) (fun h => by cases h) (fun _ => LWP_exit ?_)
   have ht : insInner C.lt a j d2 = d2:=by
    cases j with
    | zero => rfl
    | succ j => simp only [insInner]; rw [if_neg (by simp; omega)]
   have h6 : d2 = insInner C.lt a i d1:=by rw [← k4]; first | exact ht.symm | (simp only [insInner]; rw [if_neg (by simp [ht])])
   apply LWP_run
   ·simp -implicitDefEqProofs; rfl
   refine ⟨(i + 1,d2,_),⟨by simp only; omega,by simp only; omega,k3,?_,?_⟩,by simp only; omega,.mk' ?_ (fun _ _ h => h) rfl⟩
   ·simp only; omega
   ·rw [← h4,h6]
    conv => rhs; rw [insOuter,if_pos hc']
   ·simp [leV,get_e0,get_e1,wkV.refl,Cmp.fn,wrap_succ (n:=i) (by omega)]
 ·have hc' : ¬ i < e:=by simpa using hc
  have hr : insOuter C.lt a e i d1 = d1:=by rw [insOuter,if_neg hc']
  rw [hr] at h4
  show retO [] n (.tup []) _ Exit.normal _
  refine ⟨by simp only; omega,⟨_,rfl,wkV.refl _⟩,fun c v h => ?_⟩
  rw [h4]; exact h
end
end Go.AM

/- The library's sort: the heap, and the turning round. -/
namespace Go.AM
open Go.Sort
attribute [local simp] mm_ oo_ gg_ stepsS stepS gd opEff appEff LArg.ev app_val app_new app_upd app_kill putV ins_e0 ins_e1 get_e0 get_e1 binV binI grd bnd AV.scalar AV.known fillL chunks elems mxI mnI del Nat.add_assoc nlt_self nne_self nne_self' List.take_of_length_le ld1 cells_int setAt_one stepsD stepD ST.as dEffF LOp.cls softOK LOp.args LOp.rds AV.ids appD_val appD_new appD_upd appD_kill AS.flush delAll
section
variable {P : Program} {K : SK} {α : Type} [Inhabited α]
theorem rev_ok (L : Lays P K) (C : Cmp P K α) {H : Heap} {n b m : Nat} (hbn : b < n) {d : Array α} (hm : d.size = m) (hd : m < 1073741824) (a e : Nat) (he : e ≤ m) (hae : a < e) (hb : get H b = some (.rows K.sz (rws C d))) :
  ACalls P K.rev [slA K b m,.int .i64 a,.int .i64 e,C.fn] H n (postO n (.tup []) (ins b (.rows K.sz (rws C (reverseRange d a e))) H)):=by
 refine own_body L.rev rfl ?_
 simp only [parV,cRev]
 refine LWP_seq ?_
 apply LWP_run
 ·simp -implicitDefEqProofs; rfl
 refine LWP_seq ?_
 apply LWP_run
 ·simp -implicitDefEqProofs; rfl
 have w1 : IntKind.i64.wrap ((e : Int) - 1) = ((e - 1 : Nat) : Int):=by rw [wrap_i64 (by omega) (by omega)]; omega
 refine LWP_block (LWP_inv (fun q : Nat × Nat × Array α × Nat => ⟨[(0,slA K b m),(8,.int .i64 q.1),(9,.int .i64 q.2.1)],ins b (.rows K.sz (rws C q.2.2.1)) H,q.2.2.2⟩) (fun q => q.2.1 - q.1)
  (fun q => q.2.1 < m ∧ q.2.2.1.size = m ∧ n ≤ q.2.2.2 ∧ reverseLoop q.1 q.2.1 q.2.2.1 = reverseRange d a e) (a,e - 1,d,n) ?_ ⟨by simp only; omega,hm,Nat.le_refl _,rfl⟩ ?_)
 ·refine .mk' ?_ (fun c v h => get_ins_same hb h) (by simp)
  simp [leV,get_e0,get_e1,wkV.refl,w1]
 rintro ⟨i,j,d1,nx⟩ ⟨h1,h2,h3,h4⟩
 simp only at h1 h2 h3 h4 ⊢
 have hb2 : ∀ k,b < nx + k:=fun k => by omega
 have hb3 : b < nx:=by omega
 refine LWP_seq (LWP_seq ?_)
 apply LWP_run
 ·simp -implicitDefEqProofs; rfl
 refine LWP_cond (t:=decide (i < j)) (by simp [LArg.ev,get_e0,get_e1]) (fun hc => LWP_skip ?_) (fun hc => LWP_exit ?_)
 ·have hc' : i < j:=by simpa using hc
  have e1 : i < m:=by omega
  refine LWP_block (LWP_seq ?_)
  apply LWP_runD
  ·simp -implicitDefEqProofs [Cmp.fn,rws_len,rws_get,C.ld,C.st,C.len,C.sc,get_ins,hb2,hb3,rws_set,setAt_enc,rws_swp,ins_ins,e1,h1,h2]; rfl
  ·simp [AS.fin,delAll,del,Nat.add_assoc]; rfl
  refine LWP_seq ?_
  apply LWP_run
  ·simp -implicitDefEqProofs [wrap_succ (n:=i) (by omega)]; rfl
  have w2 : IntKind.i64.wrap ((j : Int) - 1) = ((j - 1 : Nat) : Int):=by rw [wrap_i64 (by omega) (by omega)]; omega
  apply LWP_run
  ·simp -implicitDefEqProofs [w2]; rfl
  refine ⟨(i + 1,j - 1,swp d1 i j,_),⟨by simp only; omega,by simp [swp,h2],?_,?_⟩,by simp only; omega,.mk' (by simp [leV,get_e0,get_e1,wkV.refl,Cmp.fn]) (fun _ _ h => h) rfl⟩
  ·simp only; omega
  ·rw [← h4]
   conv => rhs; rw [reverseLoop,if_pos hc']
 ·have hc' : ¬ i < j:=by simpa using hc
  have hr : reverseLoop i j d1 = d1:=by rw [reverseLoop,if_neg hc']
  rw [hr] at h4
  show retO [] n (.tup []) _ Exit.normal _
  refine ⟨by simp only; omega,⟨_,rfl,wkV.refl _⟩,fun c v h => ?_⟩
  rw [h4]; exact h
theorem sift_ok (L : Lays P K) (C : Cmp P K α) {H : Heap} {n b m : Nat} (hbn : b < n) {d : Array α} (hm : d.size = m) (hd : m < 1073741824) (lo hi fi : Nat) (he : fi + hi ≤ m) (hlo : lo < 1073741824) (hb : get H b = some (.rows K.sz (rws C d))) :
  ACalls P K.sift [slA K b m,.int .i64 lo,.int .i64 hi,.int .i64 fi,C.fn] H n (postO n (.tup []) (ins b (.rows K.sz (rws C (siftDown C.lt hi fi lo d))) H)):=by
 refine own_body L.sift rfl ?_
 simp only [parV,cSift]
 refine LWP_seq ?_
 apply LWP_run
 ·simp -implicitDefEqProofs; rfl
 refine LWP_block (LWP_inv (fun q : Nat × Array α × Nat => ⟨[(0,slA K b m),(2,.int .i64 hi),(3,.int .i64 fi),(4,C.fn),(10,.int .i64 q.1)],ins b (.rows K.sz (rws C q.2.1)) H,q.2.2⟩) (fun q => hi - q.1)
  (fun q => q.1 < 1073741824 ∧ q.2.1.size = m ∧ n ≤ q.2.2 ∧ siftDown C.lt hi fi q.1 q.2.1 = siftDown C.lt hi fi lo d) (lo,d,n) ?_ ⟨hlo,hm,Nat.le_refl _,rfl⟩ ?_)
 ·refine .mk' ?_ (fun c v h => get_ins_same hb h) (by simp)
  simp [leV,get_e0,get_e1,wkV.refl]
 rintro ⟨r,d1,nx⟩ ⟨h1,h2,h3,h4⟩
 simp only at h1 h2 h3 h4 ⊢
 have hb2 : ∀ k,b < nx + k:=fun k => by omega
 have hb3 : b < nx:=by omega
 have w1 : IntKind.i64.wrap (2 * (r : Int)) = 2 * (r : Int):=wrap_i64 (by omega) (by omega)
 have w2 : IntKind.i64.wrap (2 * (r : Int) + 1) = 2 * (r : Int) + 1:=wrap_i64 (by omega) (by omega)
 refine LWP_block (LWP_seq ?_)
 apply LWP_run
 ·simp -implicitDefEqProofs [w1,w2]; rfl
 refine LWP_seq (LWP_seq ?_)
 apply LWP_run
 ·simp -implicitDefEqProofs; rfl
 refine LWP_cond (t:=decide (hi ≤ 2 * r + 1)) (by simp [LArg.ev,get_e0,get_e1]; omega) (fun hc => LWP_exit ?_) (fun hc => LWP_skip ?_)
 ·have hc' : hi ≤ 2 * r + 1:=by simpa using hc
  have hr : siftDown C.lt hi fi r d1 = d1:=by rw [siftDown,dif_pos (by omega)]
  rw [hr] at h4
  show retO [] n (.tup []) _ Exit.normal _
  refine ⟨by simp only; omega,⟨_,rfl,wkV.refl _⟩,fun c v h => ?_⟩
  rw [h4]; exact h
 have hc' : ¬ hi ≤ 2 * r + 1:=by simpa using hc
 refine LWP_cut (fun q : Nat × Nat => ⟨[(0,slA K b m),(2,.int .i64 hi),(3,.int .i64 fi),(4,C.fn),(10,.int .i64 r),(11,.int .i64 q.1)],ins b (.rows K.sz (rws C d1)) H,q.2⟩)
  (fun q => n ≤ q.2 ∧ r < q.1 ∧ q.1 < hi ∧ siftDown C.lt hi fi r d1 = if !C.lt d1[fi + r]! d1[fi + q.1]! then d1 else siftDown C.lt hi fi q.1 (swp d1 (fi + r) (fi + q.1))) ?_ ?_
 ·have w3 : IntKind.i64.wrap (2 * (r : Int) + 2) = 2 * (r : Int) + 2:=wrap_i64 (by omega) (by omega)
  have w3' : IntKind.i64.wrap (2 * (r : Int) + (1 + 1)) = 2 * (r : Int) + 2:=wrap_i64 (by omega) (by omega)
  have w3a : IntKind.i64.wrap (2 * (r : Int) + 1 + 1) = 2 * (r : Int) + 2:=by rw [wrap_i64 (by omega) (by omega)]; omega
  by_cases hc2 : 2 * r + 2 < hi
  ·obtain ⟨p,hp⟩ : ∃ p,p = fi + (2 * r + 1):=⟨_,rfl⟩
   obtain ⟨p2,hp2⟩ : ∃ p,p = fi + (2 * r + 2):=⟨_,rfl⟩
   have w4 : IntKind.i64.wrap ((fi : Int) + (2 * r + 1)) = (p : Int):=by rw [wrap_i64 (by omega) (by omega)]; omega
   have w5 : IntKind.i64.wrap ((p : Int) + 1) = (p2 : Int):=by rw [wrap_i64 (by omega) (by omega)]; omega
   have e1 : p < m:=by omega
   have e2 : p2 < m:=by omega
   have e3 : (2 * r : Int) + 2 < (hi : Int):=by omega
   refine LWP_seq (LWP_regD' fun K' hK => ?_)
   apply rgnD_pre 19
   ·simp -implicitDefEqProofs [Cmp.fn,rws_len,rws_get,C.ld,C.st,C.len,C.sc,get_ins,hb2,hb3,rws_set,setAt_enc,rws_swp,ins_ins,w3,w3a,w4,w5,e1,e2,e3,h2]; rfl
   refine rgnD_call (C.call (el d1 p) (el d1 p2)) rfl rfl (by simp [pureL,AV.pure,pureL_append,C.pv,C.pf,C.pc]) (by simp [AV.pure,pureL_append,C.pv,C.pf,C.pc]) (by simp [gd,get_e0,get_e1,LArg.ev]) (by simp [get]) ?_
   apply rgnD_pre 99
   ·simp -implicitDefEqProofs; rfl
   refine hK _ _ (by simp [AS.fin,delAll,del,Nat.add_assoc]; rfl) ?_; clear hK
   have hlt : decide (C.c (el d1 p) (el d1 p2) < 0) = C.lt d1[p]! d1[p2]!:=rfl
   have hs : siftDown C.lt hi fi r d1 = if C.lt d1[p]! d1[p2]! then (if !C.lt d1[fi + r]! d1[p2]! then d1 else siftDown C.lt hi fi (2 * r + 2) (swp d1 (fi + r) p2)) else (if !C.lt d1[fi + r]! d1[p]! then d1 else siftDown C.lt hi fi (2 * r + 1) (swp d1 (fi + r) p)):=by
    subst hp hp2
    conv => lhs; rw [siftDown,dif_neg (by omega)]
    have : (2 * r + 1 + 1 < hi) = True:=by simp; omega
    simp only [this,decide_true,Bool.true_and,Nat.add_assoc,dif_pos hc2]
    simp
   cases ht : C.lt d1[p]! d1[p2]! with
   | true =>
    rw [ht] at hlt
    rw [ht,if_pos rfl] at hs
    refine LWP_cond (t:=true) (by simp [LArg.ev,get_e0,get_e1,hlt]) (fun _ => ?_) (fun h => by cases h)
    apply LWP_run
    ·simp -implicitDefEqProofs [w3,w3a]; rfl
    refine ⟨(2 * r + 2,_),⟨?_,by simp only; omega,by simp only; omega,by subst hp2; exact hs⟩,.mk' (by simp [leV,get_e0,get_e1,wkV.refl,Cmp.fn]) (fun _ _ h => h) rfl⟩
    simp only; omega
   | false =>
    rw [ht] at hlt
    rw [ht,if_neg (by simp)] at hs
    refine LWP_cond (t:=false) (by simp [LArg.ev,get_e0,get_e1,hlt]) (fun h => by cases h) (fun _ => LWP_skip ?_)
    refine ⟨(2 * r + 1,_),⟨?_,by simp only; omega,by simp only; omega,by subst hp; exact hs⟩,.mk' (by simp [leV,get_e0,get_e1,wkV.refl,Cmp.fn]) (fun _ _ h => h) rfl⟩
    simp only; omega
  ·have e3 : ¬ (2 * r : Int) + 2 < (hi : Int):=by omega
   refine LWP_seq ?_
   apply LWP_runD
   ·simp -implicitDefEqProofs [w3,w3a,e3]; rfl
   ·simp [AS.fin,delAll,del,Nat.add_assoc]; rfl
   refine LWP_cond (t:=false) (by simp [LArg.ev,get_e0,get_e1]) (fun h => by cases h) (fun _ => LWP_skip ?_)
   refine ⟨(2 * r + 1,_),⟨?_,by simp only; omega,by simp only; omega,?_⟩,.mk' (by simp [leV,get_e0,get_e1,wkV.refl,Cmp.fn]) (fun _ _ h => h) rfl⟩
   ·simp only; omega
   ·conv => lhs; rw [siftDown,dif_neg (by omega)]
    have : (2 * r + 1 + 1 < hi) = False:=by simp; omega
    simp only [this,decide_false,Bool.false_and,Bool.false_eq_true,if_false]
 ·rintro ⟨c,ny⟩ ⟨k1,k2,k3,k4⟩
  simp only at k1 k2 k3 k4 ⊢
  have hb2 : ∀ k,b < ny + k:=fun k => by omega
  have hb3 : b < ny:=by omega
  obtain ⟨p,hp⟩ : ∃ p,p = fi + r:=⟨_,rfl⟩
  obtain ⟨p2,hp2⟩ : ∃ p,p = fi + c:=⟨_,rfl⟩
  have w4 : IntKind.i64.wrap ((fi : Int) + r) = (p : Int):=by rw [wrap_i64 (by omega) (by omega)]; omega
  have w5 : IntKind.i64.wrap ((fi : Int) + c) = (p2 : Int):=by rw [wrap_i64 (by omega) (by omega)]; omega
  have e1 : p < m:=by omega
  have e2 : p2 < m:=by omega
  rw [← hp,← hp2] at k4
  refine LWP_seq (LWP_seq (LWP_regD' fun K' hK => ?_))
  apply rgnD_pre 13
  ·simp -implicitDefEqProofs [Cmp.fn,rws_len,rws_get,C.ld,C.st,C.len,C.sc,get_ins,hb2,hb3,rws_set,setAt_enc,rws_swp,ins_ins,w4,w5,e1,e2,h2]; rfl
  refine rgnD_call (C.call (el d1 p) (el d1 p2)) rfl rfl (by simp [pureL,AV.pure,pureL_append,C.pv,C.pf,C.pc]) (by simp [AV.pure,pureL_append,C.pv,C.pf,C.pc]) (by simp [gd,get_e0,get_e1,LArg.ev]) (by simp [get]) ?_
  apply rgnD_pre 99
  ·simp -implicitDefEqProofs; rfl
  refine hK _ _ (by simp [AS.fin,delAll,del,Nat.add_assoc]; rfl) ?_; clear hK
  have hlt : decide (C.c (el d1 p) (el d1 p2) < 0) = C.lt d1[p]! d1[p2]!:=rfl
  cases ht : C.lt d1[p]! d1[p2]! with
  | true =>
   rw [ht] at hlt
   rw [ht] at k4
   simp only [Bool.not_true,Bool.false_eq_true,if_false] at k4
   refine LWP_cond (t:=false) (by simp [LArg.ev,get_e0,get_e1,hlt]) (fun h => by cases h) (fun _ => LWP_skip ?_)
   refine LWP_seq ?_
   apply LWP_runD
   ·simp -implicitDefEqProofs [Cmp.fn,rws_len,rws_get,C.ld,C.st,C.len,C.sc,get_ins,hb2,hb3,rws_set,setAt_enc,rws_swp,ins_ins,w4,w5,e1,e2,h2]; rfl
   ·simp [AS.fin,delAll,del,Nat.add_assoc]; rfl
   apply LWP_run
   ·simp -implicitDefEqProofs; rfl
   refine ⟨(c,swp d1 p p2,_),⟨by simp only; omega,by simp [swp,h2],?_,by rw [← h4]; exact k4.symm⟩,by simp only; omega,.mk' (by simp [leV,get_e0,get_e1,wkV.refl,Cmp.fn]) (fun _ _ h => h) rfl⟩
   simp only; omega
  | false =>
   rw [ht] at hlt
   rw [ht] at k4
   simp only [Bool.not_false,if_true] at k4
   refine LWP_cond (t:=true) (by simp [LArg.ev,get_e0,get_e1,hlt]) (fun _ => LWP_ret ?_) (fun h => by cases h)
   show retO [] n (.tup []) _ Exit.ret _
   refine ⟨by simp only; omega,⟨_,rfl,wkV.refl _⟩,fun c v h => ?_⟩
   rw [← h4,k4] at h; exact h
end
end Go.AM

/- The library's sort: heapSort. -/
namespace Go.AM
open Go.Sort
attribute [local simp] mm_ oo_ gg_ stepsS stepS gd opEff appEff LArg.ev app_val app_new app_upd app_kill putV ins_e0 ins_e1 get_e0 get_e1 binV binI grd bnd AV.scalar AV.known fillL chunks elems mxI mnI del Nat.add_assoc nlt_self nne_self nne_self' List.take_of_length_le ld1 cells_int setAt_one stepsD stepD ST.as dEffF LOp.cls softOK LOp.args LOp.rds AV.ids appD_val appD_new appD_upd appD_kill AS.flush delAll
section
variable {P : Program} {K : SK} {α : Type} [Inhabited α]
theorem sift_size (lt : α → α → Bool) (hi fi : Nat) : ∀ (k r : Nat) (d : Array α),hi - r ≤ k → (siftDown lt hi fi r d).size = d.size
 | 0,r,d,h => by rw [siftDown,dif_pos (by omega)]
 | k + 1,r,d,h => by
  rw [siftDown]
  split
  ·rfl
  ·split
   ·split
    ·rfl
    ·split
     ·rw [sift_size lt hi fi k _ _ (by omega)]; simp [swp]
     ·rfl
   ·split
    ·rfl
    ·rw [sift_size lt hi fi k _ _ (by omega)]; simp [swp]
theorem heap_ok (L : Lays P K) (C : Cmp P K α) {H : Heap} {n b m : Nat} (hbn : b < n) {d : Array α} (hm : d.size = m) (hd : m < 1073741824) (a e : Nat) (he : e ≤ m) (hae : a < e) (hb : get H b = some (.rows K.sz (rws C d))) :
  ACalls P K.heap [slA K b m,.int .i64 a,.int .i64 e,C.fn] H n (postO n (.tup []) (ins b (.rows K.sz (rws C (heapSort C.lt d a e))) H)):=by
 refine own_body L.heap rfl ?_
 simp only [parV,cHeap]
 refine LWP_seq ?_
 apply LWP_run
 ·simp -implicitDefEqProofs; rfl
 refine LWP_seq ?_
 apply LWP_run
 ·simp -implicitDefEqProofs; rfl
 refine LWP_seq ?_
 have w1 : IntKind.i64.wrap ((e : Int) - a) = ((e - a : Nat) : Int):=by rw [wrap_i64 (by omega) (by omega)]; omega
 apply LWP_run
 ·simp -implicitDefEqProofs [w1]; rfl
 obtain ⟨hi,hhi⟩ : ∃ h,h = e - a:=⟨_,rfl⟩
 have w2 : IntKind.i64.wrap ((hi : Int) - 1) = ((hi - 1 : Nat) : Int):=by rw [wrap_i64 (by omega) (by omega)]; omega
 have w3 : IntKind.i64.wrap (Int.tdiv ((hi - 1 : Nat) : Int) 2) = (((hi - 1) / 2 : Nat) : Int):=by
  rw [show Int.tdiv ((hi - 1 : Nat) : Int) 2 = (((hi - 1) / 2 : Nat) : Int) from rfl]; exact wrap_nat (by omega)
 have w3' : IntKind.i64.wrap (((hi - 1 : Nat) : Int) / 2) = ((hi - 1 : Nat) : Int) / 2:=wrap_i64 (by omega) (by omega)
 rw [← hhi]
 refine LWP_cut (fun q : Array α × Nat => ⟨[(0,slA K b m),(3,C.fn),(8,.int .i64 a),(9,.int .i64 0),(10,.int .i64 hi)],ins b (.rows K.sz (rws C q.1)) H,q.2⟩)
  (fun q => n ≤ q.2 ∧ q.1.size = m ∧ heapPop C.lt a hi q.1 = heapSort C.lt d a e) ?_ ?_
 ·refine LWP_seq ?_
  apply LWP_run
  ·simp -implicitDefEqProofs [w2,w3,w3']; rfl
  refine LWP_block (LWP_inv (fun q : Nat × Array α × Nat => ⟨[(0,slA K b m),(3,C.fn),(8,.int .i64 a),(9,.int .i64 0),(10,.int .i64 hi),(11,.int .i64 ((q.1 : Int) - 1))],ins b (.rows K.sz (rws C q.2.1)) H,q.2.2⟩) (fun q => q.1)
   (fun q => q.1 ≤ m + 1 ∧ n ≤ q.2.2 ∧ q.2.1.size = m ∧ heapPop C.lt a hi (heapBuild C.lt hi a q.1 q.2.1) = heapSort C.lt d a e) ((hi - 1) / 2 + 1,d,n) ?_ ⟨by simp only; omega,Nat.le_refl _,hm,by simp only [heapSort,hhi]⟩ ?_)
  ·refine .mk' ?_ (fun c v h => get_ins_same hb h) (by simp)
   simp [leV,get_e0,get_e1,wkV.refl,w3']
  rintro ⟨k,d1,nx⟩ ⟨h1,h2,h3,h4⟩
  simp only at h1 h2 h3 h4 ⊢
  refine LWP_seq (LWP_seq ?_)
  cases k with
  | zero =>
   apply LWP_run
   ·simp -implicitDefEqProofs; rfl
   refine LWP_cond (t:=false) (by simp [LArg.ev,get_e0,get_e1]) (fun h => by cases h) (fun _ => LWP_exit ?_)
   refine ⟨(d1,_),⟨h2,h3,h4⟩,.mk' (by simp [leV,get_e0,get_e1,wkV.refl,Cmp.fn]) (fun _ _ h => h) rfl⟩
  | succ k =>
   have w4 : ((k + 1 : Nat) : Int) - 1 = (k : Int):=by omega
   rw [w4]
   apply LWP_run
   ·simp -implicitDefEqProofs; rfl
   refine LWP_cond (t:=true) (by simp [LArg.ev,get_e0,get_e1]) (fun _ => LWP_skip ?_) (fun h => by cases h)
   refine LWP_seq (LWP_block (LWP_reg fun K' hK => ?_))
   apply rgnS_pre 5
   ·simp -implicitDefEqProofs; rfl
   refine rgnS_callO (sift_ok L C (b:=b) (m:=m) (by simp only; omega) h3 hd k hi a (by omega) (by omega) (by simp [get_ins])) rfl rfl (by simp [gd,get_e0,get_e1,LArg.ev]) ?_
   intro n' hn'
   simp only [ins_ins]
   apply rgnS_pre 99
   ·simp -implicitDefEqProofs; rfl
   refine hK _ ?_; clear hK
   apply LWP_run
   ·simp -implicitDefEqProofs; rfl
   refine ⟨(k,siftDown C.lt hi a k d1,n'),⟨by simp only; omega,?_,by simp only; rw [sift_size _ _ _ _ _ _ (Nat.le_refl _)]; exact h3,h4⟩,by simp only; omega,?_⟩
   ·simp only at hn' ⊢; omega
   ·refine .mk' ?_ (fun _ _ h => h) rfl
    simp [leV,get_e0,get_e1,wkV.refl,Cmp.fn,wrap_i64 (n:=(k : Int) - 1) (by omega) (by omega)]
 ·rintro ⟨d1,nx⟩ ⟨h1,h2,h3⟩
  simp only at h1 h2 h3 ⊢
  refine LWP_seq ?_
  apply LWP_run
  ·simp -implicitDefEqProofs; rfl
  refine LWP_block (LWP_inv (fun q : Nat × Array α × Nat => ⟨[(0,slA K b m),(3,C.fn),(8,.int .i64 a),(9,.int .i64 0),(10,.int .i64 hi),(12,.int .i64 ((q.1 : Int) - 1))],ins b (.rows K.sz (rws C q.2.1)) H,q.2.2⟩) (fun q => q.1)
   (fun q => q.1 ≤ hi ∧ n ≤ q.2.2 ∧ q.2.1.size = m ∧ heapPop C.lt a q.1 q.2.1 = heapSort C.lt d a e) (hi,d1,nx) ?_ ⟨Nat.le_refl _,h1,h2,h3⟩ ?_)
  ·refine .mk' ?_ (fun c v h => h) (by simp)
   simp [leV,get_e0,get_e1,wkV.refl,wrap_i64 (n:=(hi : Int) - 1) (by omega) (by omega)]
  rintro ⟨k,d2,ny⟩ ⟨k1,k2,k3,k4⟩
  simp only at k1 k2 k3 k4 ⊢
  have hb2 : ∀ k,b < ny + k:=fun k => by omega
  have hb3 : b < ny:=by omega
  refine LWP_seq (LWP_seq ?_)
  cases k with
  | zero =>
   apply LWP_run
   ·simp -implicitDefEqProofs; rfl
   refine LWP_cond (t:=false) (by simp [LArg.ev,get_e0,get_e1]) (fun h => by cases h) (fun _ => LWP_exit ?_)
   show retO [] n (.tup []) _ Exit.normal _
   refine ⟨by simp only; omega,⟨_,rfl,wkV.refl _⟩,fun c v h => ?_⟩
   simp only [heapPop] at k4
   rw [k4]; exact h
  | succ k =>
   have w4 : ((k + 1 : Nat) : Int) - 1 = (k : Int):=by omega
   rw [w4]
   obtain ⟨p,hp⟩ : ∃ p,p = a + k:=⟨_,rfl⟩
   have w5 : IntKind.i64.wrap ((a : Int) + k) = (p : Int):=by rw [wrap_i64 (by omega) (by omega)]; omega
   have e1 : p < m:=by omega
   have e2 : a < m:=by omega
   apply LWP_run
   ·simp -implicitDefEqProofs; rfl
   refine LWP_cond (t:=true) (by simp [LArg.ev,get_e0,get_e1]) (fun _ => LWP_skip ?_) (fun h => by cases h)
   refine LWP_seq (LWP_block (LWP_seq ?_))
   apply LWP_runD
   ·simp -implicitDefEqProofs [Cmp.fn,rws_len,rws_get,C.ld,C.st,C.len,C.sc,get_ins,hb2,hb3,rws_set,setAt_enc,rws_swp,ins_ins,w5,e1,e2,k3]; rfl
   ·simp [AS.fin,delAll,del,Nat.add_assoc]; rfl
   refine LWP_reg fun K' hK => ?_
   apply rgnS_pre 5
   ·simp -implicitDefEqProofs; rfl
   refine rgnS_callO (sift_ok L C (b:=b) (m:=m) (d:=swp d2 a p) (by simp only; omega) (by simp [swp,k3]) hd 0 k a (by omega) (by omega) (by simp [get_ins])) rfl rfl (by simp [gd,get_e0,get_e1,LArg.ev]) ?_
   intro n' hn'
   simp only [ins_ins]
   apply rgnS_pre 99
   ·simp -implicitDefEqProofs; rfl
   refine hK _ ?_; clear hK
   apply LWP_run
   ·simp -implicitDefEqProofs; rfl
   refine ⟨(k,siftDown C.lt k a 0 (swp d2 a p),n'),⟨by simp only; omega,?_,by simp only; rw [sift_size _ _ _ _ _ _ (Nat.le_refl _)]; simp [swp,k3],?_⟩,by simp only; omega,?_⟩
   ·simp only at hn' ⊢; omega
   ·rw [← k4,hp]; rfl
   ·refine .mk' ?_ (fun _ _ h => h) rfl
    simp [leV,get_e0,get_e1,wkV.refl,Cmp.fn,wrap_i64 (n:=(k : Int) - 1) (by omega) (by omega)]
end
end Go.AM

/- The library's sort: the partitions. -/
namespace Go.AM
open Go.Sort
attribute [local simp] mm_ oo_ gg_ stepsS stepS gd opEff appEff LArg.ev app_val app_new app_upd app_kill putV ins_e0 ins_e1 get_e0 get_e1 binV binI grd bnd AV.scalar AV.known fillL chunks elems mxI mnI del Nat.add_assoc nlt_self nne_self nne_self' List.take_of_length_le ld1 cells_int setAt_one stepsD stepD ST.as dEffF LOp.cls softOK LOp.args LOp.rds AV.ids appD_val appD_new appD_upd appD_kill AS.flush delAll
section
variable {P : Program} {K : SK} {α : Type} [Inhabited α]
theorem peq_ok (L : Lays P K) (C : Cmp P K α) {H : Heap} {n b m : Nat} (hbn : b < n) {d : Array α} (hm : d.size = m) (hd : m < 1073741824) (a e pv : Nat) (he : e ≤ m) (hap : a ≤ pv) (hpe : pv < e) (hb : get H b = some (.rows K.sz (rws C d))) :
  ACalls P K.peq [slA K b m,.int .i64 a,.int .i64 e,.int .i64 pv,C.fn] H n (postO n (.int .i64 (partitionEqual C.lt d a e pv).1) (ins b (.rows K.sz (rws C (partitionEqual C.lt d a e pv).2)) H)):=by
 refine own_body L.peq rfl ?_
 simp only [parV,cPeq]
 have ha : a < m:=by omega
 have hp : pv < m:=by omega
 have hb2 : ∀ k,b < n + k:=fun k => by omega
 have hb3 : b < n:=hbn
 refine LWP_seq ?_
 apply LWP_run
 ·simp -implicitDefEqProofs; rfl
 refine LWP_seq ?_
 apply LWP_runD
 ·simp -implicitDefEqProofs [Cmp.fn,rws_len,rws_get,C.ld,C.st,C.len,C.sc,get_ins,hb2,hb3,rws_set,setAt_enc,rws_swp,ins_ins,ha,hp,hm,hb]; rfl
 ·simp [AS.fin,delAll,del,Nat.add_assoc]; rfl
 refine LWP_seq ?_
 have w1 : IntKind.i64.wrap ((e : Int) - 1) = ((e - 1 : Nat) : Int):=by rw [wrap_i64 (by omega) (by omega)]; omega
 apply LWP_run
 ·simp -implicitDefEqProofs [w1,wrap_succ (n:=a) (by omega)]; rfl
 refine LWP_cut (fun q : Nat × Nat × Array α × Nat => ⟨[(11,.int .i64 q.1)],ins b (.rows K.sz (rws C q.2.2.1)) H,q.2.2.2⟩) (fun q => n ≤ q.2.2.2 ∧ (q.1,q.2.2.1) = partitionEqual C.lt d a e pv) ?_ ?_
 ·refine LWP_block (LWP_inv (fun q : Nat × Nat × Array α × Nat => ⟨[(0,slA K b m),(1,.int .i64 a),(4,C.fn),(11,.int .i64 q.1),(12,.int .i64 q.2.1)],ins b (.rows K.sz (rws C q.2.2.1)) H,q.2.2.2⟩) (fun q => q.2.1 + 1 - q.1)
   (fun q => a < q.1 ∧ q.1 ≤ q.2.1 + 1 ∧ q.2.1 < m ∧ q.2.2.1.size = m ∧ n ≤ q.2.2.2 ∧ partEqLoop C.lt a q.1 q.2.1 q.2.2.1 = partitionEqual C.lt d a e pv) (a + 1,e - 1,swp d a pv,n + 16) ?_ ⟨by simp only; omega,by simp only; omega,by simp only; omega,by simp [swp,hm],by simp,rfl⟩ ?_)
  ·refine .mk' ?_ (fun c v h => h) (by simp)
   simp [leV,get_e0,get_e1,wkV.refl,Cmp.fn]
  rintro ⟨ii,jj,d1,ny⟩ ⟨h1,hii,hjj,hd1,hny,h6⟩
  simp only at h1 hii hjj hd1 hny h6 ⊢
  refine LWP_block (LWP_cut (fun q : Nat × Nat => ⟨[(0,slA K b m),(1,.int .i64 a),(4,C.fn),(11,.int .i64 q.1),(12,.int .i64 jj)],ins b (.rows K.sz (rws C d1)) H,q.2⟩) (fun q => n ≤ q.2 ∧ q.1 = scanUp (fun x => !C.lt d1[a]! x) d1 jj ii) ?_ ?_)
  ·skip
   refine LWP_block (LWP_inv (fun q : Nat × Nat => ⟨[(0,slA K b m),(1,.int .i64 a),(4,C.fn),(11,.int .i64 q.1),(12,.int .i64 jj)],ins b (.rows K.sz (rws C d1)) H,q.2⟩) (fun q => jj + 1 - q.1) (fun q => q.1 ≤ jj + 1 ∧ n ≤ q.2 ∧ scanUp (fun x => !C.lt d1[a]! x) d1 jj q.1 = scanUp (fun x => !C.lt d1[a]! x) d1 jj ii) (ii,ny) ?_ ⟨hii,hny,rfl⟩ ?_)
   ·refine .mk' ?_ (fun c v h => h) (by simp)
    simp [leV,get_e0,get_e1,wkV.refl,Cmp.fn]
   rintro ⟨s,nz⟩ ⟨g1,g2,g3⟩
   simp only at g1 g2 g3 ⊢
   have hb2 : ∀ k,b < nz + k:=fun k => by omega
   have hb3 : b < nz:=by omega
   refine LWP_seq (LWP_seq ?_)
   by_cases hs : s ≤ jj
   ·have e1 : s < m:=by omega
    refine LWP_regD' fun K' hK => ?_
    apply rgnD_pre 13
    ·simp -implicitDefEqProofs [Cmp.fn,rws_len,rws_get,C.ld,C.st,C.len,C.sc,get_ins,hb2,hb3,rws_set,setAt_enc,rws_swp,ins_ins,hs,e1,ha,hd1]; rfl
    refine rgnD_call (C.call (el d1 a) (el d1 s)) rfl rfl (by simp [pureL,AV.pure,pureL_append,C.pv,C.pf,C.pc]) (by simp [AV.pure,pureL_append,C.pv,C.pf,C.pc]) (by simp [gd,get_e0,get_e1,LArg.ev]) (by simp [get]) ?_
    apply rgnD_pre 99
    ·simp -implicitDefEqProofs; rfl
    refine hK _ _ (by simp [AS.fin,delAll,del,Nat.add_assoc]; rfl) ?_; clear hK
    have hlt : decide (C.c (el d1 a) (el d1 s) < 0) = C.lt d1[a]! d1[s]!:=rfl
    cases ht : C.lt d1[a]! d1[s]! with
    | false =>
     rw [ht] at hlt
     refine LWP_cond (t:=true) (by simp [LArg.ev,get_e0,get_e1,hlt]) (fun _ => LWP_skip ?_) (fun h => by cases h)
     refine LWP_block ?_
     apply LWP_run
     ·simp -implicitDefEqProofs [wrap_succ (n:=s) (by omega)]; rfl
     refine ⟨(s + 1,_),⟨by simp only; omega,?_,?_⟩,by simp only; omega,.mk' (by simp [leV,get_e0,get_e1,wkV.refl,Cmp.fn]) (fun _ _ h => h) rfl⟩
     ·simp only; omega
     ·rw [← g3]
      conv => rhs; rw [scanUp,if_pos (by simp [hs,ht])]
    | true =>
     rw [ht] at hlt
     refine LWP_cond (t:=false) (by simp [LArg.ev,get_e0,get_e1,hlt]) (fun h => by cases h) (fun _ => LWP_exit ?_)
     have hx : scanUp (fun x => !C.lt d1[a]! x) d1 jj s = s:=by rw [scanUp,if_neg (by simp [ht])]
     refine ⟨(s,_),⟨?_,by rw [← g3,hx]⟩,.mk' (by simp [leV,get_e0,get_e1,wkV.refl,Cmp.fn]) (fun _ _ h => h) rfl⟩
     simp only; omega
   ·apply LWP_runD
    ·simp -implicitDefEqProofs [hs]; rfl
    ·simp [AS.fin,delAll,del,Nat.add_assoc]; rfl
    refine LWP_cond (t:=false) (by simp [LArg.ev,get_e0,get_e1]) (fun h => by cases h) (fun _ => LWP_exit ?_)
    have hx : scanUp (fun x => !C.lt d1[a]! x) d1 jj s = s:=by rw [scanUp,if_neg (by simp [hs])]
    refine ⟨(s,_),⟨?_,by rw [← g3,hx]⟩,.mk' (by simp [leV,get_e0,get_e1,wkV.refl,Cmp.fn]) (fun _ _ h => h) rfl⟩
    simp only; omega
  rintro ⟨i2,nz⟩ ⟨q1,q2⟩
  simp only at q1 q2 ⊢
  obtain ⟨u1,u2,_,u4⟩:=scanUp_spec (fun x => !C.lt d1[a]! x) d1 jj _ ii rfl
  have u2':=u2 hii
  rw [← q2] at u1 u2' u4
  refine LWP_cut (fun q : Nat × Nat => ⟨[(0,slA K b m),(1,.int .i64 a),(4,C.fn),(11,.int .i64 i2),(12,.int .i64 q.1)],ins b (.rows K.sz (rws C d1)) H,q.2⟩) (fun q => n ≤ q.2 ∧ q.1 = scanDown (fun x => C.lt d1[a]! x) d1 i2 jj) ?_ ?_
  ·clear hny
   obtain ⟨ny,hny⟩ : ∃ x,x = nz:=⟨_,rfl⟩
   rw [← hny]
   replace hny : n ≤ ny:=by omega
   clear q2 h6
   obtain ⟨ii,hii'⟩ : ∃ x,x = i2:=⟨_,rfl⟩
   clear u4
   rw [← hii'] at u1 u2' ⊢
   refine LWP_block (LWP_inv (fun q : Nat × Nat => ⟨[(0,slA K b m),(1,.int .i64 a),(4,C.fn),(11,.int .i64 ii),(12,.int .i64 q.1)],ins b (.rows K.sz (rws C d1)) H,q.2⟩) (fun q => q.1) (fun q => q.1 ≤ jj ∧ n ≤ q.2 ∧ scanDown (fun x => C.lt d1[a]! x) d1 ii q.1 = scanDown (fun x => C.lt d1[a]! x) d1 ii jj) (jj,ny) ?_ ⟨Nat.le_refl _,hny,rfl⟩ ?_)
   ·refine .mk' ?_ (fun c v h => h) (by simp)
    simp [leV,get_e0,get_e1,wkV.refl,Cmp.fn]
   rintro ⟨s,nz⟩ ⟨g1,g2,g3⟩
   simp only at g1 g2 g3 ⊢
   have hb2 : ∀ k,b < nz + k:=fun k => by omega
   have hb3 : b < nz:=by omega
   refine LWP_seq (LWP_seq ?_)
   by_cases hs : ii ≤ s
   ·have e1 : s < m:=by omega
    obtain ⟨s',hs'⟩ : ∃ s',s = s' + 1:=⟨s - 1,by omega⟩
    refine LWP_regD' fun K' hK => ?_
    apply rgnD_pre 13
    ·simp -implicitDefEqProofs [Cmp.fn,rws_len,rws_get,C.ld,C.st,C.len,C.sc,get_ins,hb2,hb3,rws_set,setAt_enc,rws_swp,ins_ins,hs,e1,ha,hd1]; rfl
    refine rgnD_call (C.call (el d1 a) (el d1 s)) rfl rfl (by simp [pureL,AV.pure,pureL_append,C.pv,C.pf,C.pc]) (by simp [AV.pure,pureL_append,C.pv,C.pf,C.pc]) (by simp [gd,get_e0,get_e1,LArg.ev]) (by simp [get]) ?_
    apply rgnD_pre 99
    ·simp -implicitDefEqProofs; rfl
    refine hK _ _ (by simp [AS.fin,delAll,del,Nat.add_assoc]; rfl) ?_; clear hK
    have hlt : decide (C.c (el d1 a) (el d1 s) < 0) = C.lt d1[a]! d1[s]!:=rfl
    cases ht : C.lt d1[a]! d1[s]! with
    | true =>
     rw [ht] at hlt
     refine LWP_cond (t:=true) (by simp [LArg.ev,get_e0,get_e1,hlt]) (fun _ => LWP_skip ?_) (fun h => by cases h)
     refine LWP_block ?_
     apply LWP_run
     ·simp -implicitDefEqProofs [wrap_i64 (n:=(s : Int) - 1) (by omega) (by omega)]; rfl
     refine ⟨(s',_),⟨by simp only; omega,?_,?_⟩,by simp only; omega,.mk' (by simp [leV,get_e0,get_e1,wkV.refl,Cmp.fn,hs']) (fun _ _ h => h) rfl⟩
     ·simp only; omega
     ·rw [← g3]
      subst hs'
      conv => rhs; rw [scanDown,if_pos (by simp [hs,ht])]
    | false =>
     rw [ht] at hlt
     refine LWP_cond (t:=false) (by simp [LArg.ev,get_e0,get_e1,hlt]) (fun h => by cases h) (fun _ => LWP_exit ?_)
     have hx : scanDown (fun x => C.lt d1[a]! x) d1 ii s = s:=by subst hs'; rw [scanDown,if_neg (by simp [ht])]
     refine ⟨(s,_),⟨?_,by rw [← g3,hx]⟩,.mk' (by simp [leV,get_e0,get_e1,wkV.refl,Cmp.fn]) (fun _ _ h => h) rfl⟩
     simp only; omega
   ·apply LWP_runD
    ·simp -implicitDefEqProofs [hs]; rfl
    ·simp [AS.fin,delAll,del,Nat.add_assoc]; rfl
    refine LWP_cond (t:=false) (by simp [LArg.ev,get_e0,get_e1]) (fun h => by cases h) (fun _ => LWP_exit ?_)
    have hx : scanDown (fun x => C.lt d1[a]! x) d1 ii s = s:=by
     cases s with
     | zero => rfl
     | succ s => rw [scanDown,if_neg (by simp [hs])]
    refine ⟨(s,_),⟨?_,by rw [← g3,hx]⟩,.mk' (by simp [leV,get_e0,get_e1,wkV.refl,Cmp.fn]) (fun _ _ h => h) rfl⟩
    simp only; omega
  rintro ⟨j2,no⟩ ⟨q3,q4⟩
  simp only at q3 q4 ⊢
  obtain ⟨v1,v2,_,v4⟩:=scanDown_spec (fun x => C.lt d1[a]! x) d1 i2 jj
  have v2':=v2 u2'
  rw [← q4] at v1 v2' v4
  have hq:=partEqLoop_eq C.lt a ii jj d1
  rw [← q2,← q4,h6] at hq
  have hb2 : ∀ k,b < no + k:=fun k => by omega
  have hb3 : b < no:=by omega
  refine LWP_seq (LWP_seq ?_)
  apply LWP_run
  ·simp -implicitDefEqProofs; rfl
  refine LWP_cond (t:=decide (j2 < i2)) (by simp [LArg.ev,get_e0,get_e1]) (fun hc => LWP_exit ?_) (fun hc => LWP_skip ?_)
  ·have hc' : i2 > j2:=by simpa using hc
   rw [if_pos hc'] at hq
   refine ⟨(i2,j2,d1,no),⟨q3,hq.symm⟩,.mk' (by simp [leV,get_e0,get_e1,wkV.refl,Cmp.fn]) (fun _ _ h => h) rfl⟩
  ·have hc' : ¬ i2 > j2:=by simpa using hc
   rw [if_neg hc'] at hq
   have hne : i2 ≠ j2:=fun h => by
    subst h
    have x1:=u4 (by omega)
    have x2:=v4 (by omega) (by omega)
    simp at x1 x2
    rw [x2] at x1
    cases x1
   have e1 : i2 < m:=by omega
   have e2 : j2 < m:=by omega
   refine LWP_seq ?_
   apply LWP_runD
   ·simp -implicitDefEqProofs [Cmp.fn,rws_len,rws_get,C.ld,C.st,C.len,C.sc,get_ins,hb2,hb3,rws_set,setAt_enc,rws_swp,ins_ins,e1,e2,hd1]; rfl
   ·simp [AS.fin,delAll,del,Nat.add_assoc]; rfl
   refine LWP_seq ?_
   apply LWP_run
   ·simp -implicitDefEqProofs [wrap_succ (n:=i2) (by omega)]; rfl
   have w2 : IntKind.i64.wrap ((j2 : Int) - 1) = ((j2 - 1 : Nat) : Int):=by rw [wrap_i64 (by omega) (by omega)]; omega
   apply LWP_run
   ·simp -implicitDefEqProofs [w2]; rfl
   refine ⟨(i2 + 1,j2 - 1,swp d1 i2 j2,_),⟨by simp only; omega,by simp only; omega,by simp only; omega,by simp [swp,hd1],?_,by simp only; exact hq.symm⟩,by simp only; omega,.mk' (by simp [leV,get_e0,get_e1,wkV.refl,Cmp.fn]) (fun _ _ h => h) rfl⟩
   simp only; omega
 ·rintro ⟨i2,j2,d1,ny⟩ ⟨q1,q2⟩
  simp only at q1 q2 ⊢
  refine LWP_seq ?_
  apply LWP_run
  ·simp -implicitDefEqProofs; rfl
  refine LWP_ret ?_
  show retO [.t 10] n _ _ Exit.ret _
  refine ⟨q1,⟨_,rfl,?_⟩,fun c v h => ?_⟩
  ·rw [← q2]; exact wkV.refl _
  ·rw [← q2] at h; exact h
set_option maxHeartbeats 2000000 in
theorem prt_ok (L : Lays P K) (C : Cmp P K α) {H : Heap} {n b m : Nat} (hbn : b < n) {d : Array α} (hm : d.size = m) (hd : m < 1073741824) (a e pv : Nat) (he : e ≤ m) (hap : a ≤ pv) (hpe : pv < e) (hb : get H b = some (.rows K.sz (rws C d))) :
  ACalls P K.prt [slA K b m,.int .i64 a,.int .i64 e,.int .i64 pv,C.fn] H n (postO n (.tup [.int .i64 (partition C.lt d a e pv).1,.bool (partition C.lt d a e pv).2.1]) (ins b (.rows K.sz (rws C (partition C.lt d a e pv).2.2)) H)):=by
 refine own_body L.prt rfl ?_
 simp only [parV,cPrt]
 have ha : a < m:=by omega
 have hp : pv < m:=by omega
 have hb2 : ∀ k,b < n + k:=fun k => by omega
 have hb3 : b < n:=hbn
 refine LWP_seq ?_
 apply LWP_run
 ·simp -implicitDefEqProofs; rfl
 refine LWP_seq ?_
 apply LWP_runD
 ·simp -implicitDefEqProofs [Cmp.fn,rws_len,rws_get,C.ld,C.st,C.len,C.sc,get_ins,hb2,hb3,rws_set,setAt_enc,rws_swp,ins_ins,ha,hp,hm,hb]; rfl
 ·simp [AS.fin,delAll,del,Nat.add_assoc]; rfl
 refine LWP_seq ?_
 have w1 : IntKind.i64.wrap ((e : Int) - 1) = ((e - 1 : Nat) : Int):=by rw [wrap_i64 (by omega) (by omega)]; omega
 apply LWP_run
 ·simp -implicitDefEqProofs [w1,wrap_succ (n:=a) (by omega)]; rfl
 obtain ⟨d1,hd1'⟩ : ∃ x,x = swp d a pv:=⟨_,rfl⟩
 have hd1 : d1.size = m:=by simp [hd1',swp,hm]
 obtain ⟨ii,hii0⟩ : ∃ x,x = a + 1:=⟨_,rfl⟩
 obtain ⟨jj,hjj0⟩ : ∃ x,x = e - 1:=⟨_,rfl⟩
 obtain ⟨ny,hny0⟩ : ∃ x,x = n + 16:=⟨_,rfl⟩
 have hii : ii ≤ jj + 1:=by omega
 have hjj : jj < m:=by omega
 have hny : n ≤ ny:=by omega
 have hR : partition C.lt d a e pv = (let i:=scanUp (fun x => C.lt x d1[a]!) d1 jj ii; let j:=scanDown (fun x => !C.lt x d1[a]!) d1 i jj; if i > j then (j,true,swp d1 j a) else ((partLoop C.lt a (i + 1) (j - 1) (swp d1 i j)).1,false,swp (partLoop C.lt a (i + 1) (j - 1) (swp d1 i j)).2 (partLoop C.lt a (i + 1) (j - 1) (swp d1 i j)).1 a)):=by
  subst hd1' hii0 hjj0; rfl
 refine LWP_cut (fun q : Nat × Nat => ⟨[(0,slA K b m),(1,.int .i64 a),(4,C.fn),(12,.int .i64 q.1),(13,.int .i64 jj)],ins b (.rows K.sz (rws C d1)) H,q.2⟩) (fun q => n ≤ q.2 ∧ q.1 = scanUp (fun x => C.lt x d1[a]!) d1 jj ii) ?_ ?_
 ·refine LWP_sub (T:=⟨[(0,slA K b m),(1,.int .i64 a),(4,C.fn),(12,.int .i64 ii),(13,.int .i64 jj)],ins b (.rows K.sz (rws C d1)) H,ny⟩) (.mk' (by simp [leV,get_e0,get_e1,wkV.refl,Cmp.fn,hii0,hjj0]) (fun c v h => by simpa [ins_ins,hd1'] using h) (by simp [hny0])) ?_
  clear hd1' hii0 hjj0 hny0 hR
  refine LWP_block (LWP_inv (fun q : Nat × Nat => ⟨[(0,slA K b m),(1,.int .i64 a),(4,C.fn),(12,.int .i64 q.1),(13,.int .i64 jj)],ins b (.rows K.sz (rws C d1)) H,q.2⟩) (fun q => jj + 1 - q.1) (fun q => q.1 ≤ jj + 1 ∧ n ≤ q.2 ∧ scanUp (fun x => C.lt x d1[a]!) d1 jj q.1 = scanUp (fun x => C.lt x d1[a]!) d1 jj ii) (ii,ny) ?_ ⟨hii,hny,rfl⟩ ?_)
  ·refine .mk' ?_ (fun c v h => h) (by simp)
   simp [leV,get_e0,get_e1,wkV.refl,Cmp.fn]
  rintro ⟨s,nz⟩ ⟨g1,g2,g3⟩
  simp only at g1 g2 g3 ⊢
  have hb2 : ∀ k,b < nz + k:=fun k => by omega
  have hb3 : b < nz:=by omega
  refine LWP_seq (LWP_seq ?_)
  by_cases hs : s ≤ jj
  ·have e1 : s < m:=by omega
   refine LWP_regD' fun K' hK => ?_
   apply rgnD_pre 13
   ·simp -implicitDefEqProofs [Cmp.fn,rws_len,rws_get,C.ld,C.st,C.len,C.sc,get_ins,hb2,hb3,rws_set,setAt_enc,rws_swp,ins_ins,hs,e1,ha,hd1]; rfl
   refine rgnD_call (C.call (el d1 s) (el d1 a)) rfl rfl (by simp [pureL,AV.pure,pureL_append,C.pv,C.pf,C.pc]) (by simp [AV.pure,pureL_append,C.pv,C.pf,C.pc]) (by simp [gd,get_e0,get_e1,LArg.ev]) (by simp [get]) ?_
   apply rgnD_pre 99
   ·simp -implicitDefEqProofs; rfl
   refine hK _ _ (by simp [AS.fin,delAll,del,Nat.add_assoc]; rfl) ?_; clear hK
   have hlt : decide (C.c (el d1 s) (el d1 a) < 0) = C.lt d1[s]! d1[a]!:=rfl
   cases ht : C.lt d1[s]! d1[a]! with
   | true =>
    rw [ht] at hlt
    refine LWP_cond (t:=true) (by simp [LArg.ev,get_e0,get_e1,hlt]) (fun _ => LWP_skip ?_) (fun h => by cases h)
    refine LWP_block ?_
    apply LWP_run
    ·simp -implicitDefEqProofs [wrap_succ (n:=s) (by omega)]; rfl
    refine ⟨(s + 1,_),⟨by simp only; omega,?_,?_⟩,by simp only; omega,.mk' (by simp [leV,get_e0,get_e1,wkV.refl,Cmp.fn]) (fun _ _ h => h) rfl⟩
    ·simp only; omega
    ·rw [← g3]
     conv => rhs; rw [scanUp,if_pos (by simp [hs,ht])]
   | false =>
    rw [ht] at hlt
    refine LWP_cond (t:=false) (by simp [LArg.ev,get_e0,get_e1,hlt]) (fun h => by cases h) (fun _ => LWP_exit ?_)
    have hx : scanUp (fun x => C.lt x d1[a]!) d1 jj s = s:=by rw [scanUp,if_neg (by simp [ht])]
    refine ⟨(s,_),⟨?_,by rw [← g3,hx]⟩,.mk' (by simp [leV,get_e0,get_e1,wkV.refl,Cmp.fn]) (fun _ _ h => h) rfl⟩
    simp only; omega
  ·apply LWP_runD
   ·simp -implicitDefEqProofs [hs]; rfl
   ·simp [AS.fin,delAll,del,Nat.add_assoc]; rfl
   refine LWP_cond (t:=false) (by simp [LArg.ev,get_e0,get_e1]) (fun h => by cases h) (fun _ => LWP_exit ?_)
   have hx : scanUp (fun x => C.lt x d1[a]!) d1 jj s = s:=by rw [scanUp,if_neg (by simp [hs])]
   refine ⟨(s,_),⟨?_,by rw [← g3,hx]⟩,.mk' (by simp [leV,get_e0,get_e1,wkV.refl,Cmp.fn]) (fun _ _ h => h) rfl⟩
   simp only; omega
 rintro ⟨i2,nz⟩ ⟨q1,q2⟩
 simp only at q1 q2 ⊢
 obtain ⟨u1,u2,_,u4⟩:=scanUp_spec (fun x => C.lt x d1[a]!) d1 jj _ ii rfl
 have u2':=u2 hii
 rw [← q2] at u1 u2' u4
 refine LWP_cut (fun q : Nat × Nat => ⟨[(0,slA K b m),(1,.int .i64 a),(4,C.fn),(12,.int .i64 i2),(13,.int .i64 q.1)],ins b (.rows K.sz (rws C d1)) H,q.2⟩) (fun q => n ≤ q.2 ∧ q.1 = scanDown (fun x => !C.lt x d1[a]!) d1 i2 jj) ?_ ?_
 ·clear hny hR
  obtain ⟨ny,hny⟩ : ∃ x,x = nz:=⟨_,rfl⟩
  rw [← hny]
  replace hny : n ≤ ny:=by omega
  clear q2 u4
  obtain ⟨ii',hii'⟩ : ∃ x,x = i2:=⟨_,rfl⟩
  rw [← hii'] at u1 u2' ⊢
  have hi1 : 1 ≤ ii':=by omega
  clear hii' hii hii0 u1
  obtain ⟨ii,hii'⟩ : ∃ x,x = ii':=⟨_,rfl⟩
  rw [← hii'] at u2' hi1 ⊢
  refine LWP_block (LWP_inv (fun q : Nat × Nat => ⟨[(0,slA K b m),(1,.int .i64 a),(4,C.fn),(12,.int .i64 ii),(13,.int .i64 q.1)],ins b (.rows K.sz (rws C d1)) H,q.2⟩) (fun q => q.1) (fun q => q.1 ≤ jj ∧ n ≤ q.2 ∧ scanDown (fun x => !C.lt x d1[a]!) d1 ii q.1 = scanDown (fun x => !C.lt x d1[a]!) d1 ii jj) (jj,ny) ?_ ⟨Nat.le_refl _,hny,rfl⟩ ?_)
  ·refine .mk' ?_ (fun c v h => h) (by simp)
   simp [leV,get_e0,get_e1,wkV.refl,Cmp.fn]
  rintro ⟨s,nz⟩ ⟨g1,g2,g3⟩
  simp only at g1 g2 g3 ⊢
  have hb2 : ∀ k,b < nz + k:=fun k => by omega
  have hb3 : b < nz:=by omega
  refine LWP_seq (LWP_seq ?_)
  by_cases hs : ii ≤ s
  ·have e1 : s < m:=by omega
   obtain ⟨s',hs'⟩ : ∃ s',s = s' + 1:=⟨s - 1,by omega⟩
   refine LWP_regD' fun K' hK => ?_
   apply rgnD_pre 13
   ·simp -implicitDefEqProofs [Cmp.fn,rws_len,rws_get,C.ld,C.st,C.len,C.sc,get_ins,hb2,hb3,rws_set,setAt_enc,rws_swp,ins_ins,hs,e1,ha,hd1]; rfl
   refine rgnD_call (C.call (el d1 s) (el d1 a)) rfl rfl (by simp [pureL,AV.pure,pureL_append,C.pv,C.pf,C.pc]) (by simp [AV.pure,pureL_append,C.pv,C.pf,C.pc]) (by simp [gd,get_e0,get_e1,LArg.ev]) (by simp [get]) ?_
   apply rgnD_pre 99
   ·simp -implicitDefEqProofs; rfl
   refine hK _ _ (by simp [AS.fin,delAll,del,Nat.add_assoc]; rfl) ?_; clear hK
   have hlt : decide (C.c (el d1 s) (el d1 a) < 0) = C.lt d1[s]! d1[a]!:=rfl
   cases ht : C.lt d1[s]! d1[a]! with
   | false =>
    rw [ht] at hlt
    refine LWP_cond (t:=true) (by simp [LArg.ev,get_e0,get_e1,hlt]) (fun _ => LWP_skip ?_) (fun h => by cases h)
    refine LWP_block ?_
    apply LWP_run
    ·simp -implicitDefEqProofs [wrap_i64 (n:=(s : Int) - 1) (by omega) (by omega)]; rfl
    refine ⟨(s',_),⟨by simp only; omega,?_,?_⟩,by simp only; omega,.mk' (by simp [leV,get_e0,get_e1,wkV.refl,Cmp.fn,hs']) (fun _ _ h => h) rfl⟩
    ·simp only; omega
    ·rw [← g3]
     subst hs'
     conv => rhs; rw [scanDown,if_pos (by simp [hs,ht])]
   | true =>
    rw [ht] at hlt
    refine LWP_cond (t:=false) (by simp [LArg.ev,get_e0,get_e1,hlt]) (fun h => by cases h) (fun _ => LWP_exit ?_)
    have hx : scanDown (fun x => !C.lt x d1[a]!) d1 ii s = s:=by subst hs'; rw [scanDown,if_neg (by simp [ht])]
    refine ⟨(s,_),⟨?_,by rw [← g3,hx]⟩,.mk' (by simp [leV,get_e0,get_e1,wkV.refl,Cmp.fn]) (fun _ _ h => h) rfl⟩
    simp only; omega
  ·apply LWP_runD
   ·simp -implicitDefEqProofs [hs]; rfl
   ·simp [AS.fin,delAll,del,Nat.add_assoc]; rfl
   refine LWP_cond (t:=false) (by simp [LArg.ev,get_e0,get_e1]) (fun h => by cases h) (fun _ => LWP_exit ?_)
   have hx : scanDown (fun x => !C.lt x d1[a]!) d1 ii s = s:=by
    cases s with
    | zero => rfl
    | succ s => rw [scanDown,if_neg (by simp [hs])]
   refine ⟨(s,_),⟨?_,by rw [← g3,hx]⟩,.mk' (by simp [leV,get_e0,get_e1,wkV.refl,Cmp.fn]) (fun _ _ h => h) rfl⟩
   simp only; omega
 rintro ⟨j2,no⟩ ⟨q3,q4⟩
 simp only at q3 q4 ⊢
 obtain ⟨v1,v2,_,v4⟩:=scanDown_spec (fun x => !C.lt x d1[a]!) d1 i2 jj
 have v2':=v2 u2'
 rw [← q4] at v1 v2' v4
 simp only at hR
 rw [← q2,← q4] at hR
 have hb2 : ∀ k,b < no + k:=fun k => by omega
 have hb3 : b < no:=by omega
 refine LWP_seq (LWP_seq ?_)
 apply LWP_run
 ·simp -implicitDefEqProofs; rfl
 have e1 : j2 < m:=by omega
 refine LWP_cond (t:=decide (j2 < i2)) (by simp [LArg.ev,get_e0,get_e1]) (fun hc => ?_) (fun hc => LWP_skip ?_)
 ·have hc' : i2 > j2:=by simpa using hc
  rw [if_pos hc'] at hR
  refine LWP_seq ?_
  apply LWP_runD
  ·simp -implicitDefEqProofs [Cmp.fn,rws_len,rws_get,C.ld,C.st,C.len,C.sc,get_ins,hb2,hb3,rws_set,setAt_enc,rws_swp,ins_ins,e1,ha,hd1]; rfl
  ·simp [AS.fin,delAll,del,Nat.add_assoc]; rfl
  refine LWP_seq ?_
  apply LWP_run
  ·simp -implicitDefEqProofs; rfl
  refine LWP_ret ?_
  show retO [.t 10,.t 11] n _ _ Exit.ret _
  refine ⟨by simp only; omega,⟨_,rfl,?_⟩,fun c v h => ?_⟩
  ·rw [hR]; exact wkV.refl _
  ·rw [hR] at h; exact h
 have hc' : ¬ i2 > j2:=by simpa using hc
 rw [if_neg hc'] at hR
 have hne : i2 ≠ j2:=fun h => by
  subst h
  have x1:=u4 (by omega)
  have x2:=v4 (by omega) (by omega)
  simp at x1 x2
  rw [x2] at x1
  cases x1
 have e2 : i2 < m:=by omega
 refine LWP_seq ?_
 apply LWP_runD
 ·simp -implicitDefEqProofs [Cmp.fn,rws_len,rws_get,C.ld,C.st,C.len,C.sc,get_ins,hb2,hb3,rws_set,setAt_enc,rws_swp,ins_ins,e1,e2,hd1]; rfl
 ·simp [AS.fin,delAll,del,Nat.add_assoc]; rfl
 refine LWP_seq ?_
 apply LWP_run
 ·simp -implicitDefEqProofs [wrap_succ (n:=i2) (by omega)]; rfl
 refine LWP_seq ?_
 have w2 : IntKind.i64.wrap ((j2 : Int) - 1) = ((j2 - 1 : Nat) : Int):=by rw [wrap_i64 (by omega) (by omega)]; omega
 apply LWP_run
 ·simp -implicitDefEqProofs [w2]; rfl
 obtain ⟨R,hRR⟩ : ∃ x,x = partLoop C.lt a (i2 + 1) (j2 - 1) (swp d1 i2 j2):=⟨_,rfl⟩
 rw [← hRR] at hR
 refine LWP_cut (fun q : Nat × Nat × Array α × Nat => ⟨[(0,slA K b m),(1,.int .i64 a),(13,.int .i64 q.2.1)],ins b (.rows K.sz (rws C q.2.2.1)) H,q.2.2.2⟩) (fun q => n ≤ q.2.2.2 ∧ q.2.2.1.size = m ∧ q.2.1 < m ∧ (q.2.1,q.2.2.1) = R) ?_ ?_
 ·refine LWP_block (LWP_inv (fun q : Nat × Nat × Array α × Nat => ⟨[(0,slA K b m),(1,.int .i64 a),(4,C.fn),(12,.int .i64 q.1),(13,.int .i64 q.2.1)],ins b (.rows K.sz (rws C q.2.2.1)) H,q.2.2.2⟩) (fun q => q.2.1 + 1 - q.1)
   (fun q => a < q.1 ∧ q.1 ≤ q.2.1 + 1 ∧ q.2.1 < m ∧ q.2.2.1.size = m ∧ n ≤ q.2.2.2 ∧ partLoop C.lt a q.1 q.2.1 q.2.2.1 = R) (i2 + 1,j2 - 1,swp d1 i2 j2,no + 16) ?_ ⟨by simp only; omega,by simp only; omega,by simp only; omega,by simp [swp,hd1],by simp only; omega,hRR.symm⟩ ?_)
  ·refine .mk' ?_ (fun c v h => by simpa [ins_ins] using h) (by simp)
   simp [leV,get_e0,get_e1,wkV.refl,Cmp.fn]
  clear hR hRR hne v4 v1 v2 v2' q4 u4 u1 u2 u2' q2 hd1' hd1 hii hii0 hjj hjj0 hny hny0 q1 q3 hb2 hb3 e1 e2 hc hc' w2
  rintro ⟨ii,jj,d1,ny⟩ ⟨h1,hii,hjj,hd1,hny,h6⟩
  simp only at h1 hii hjj hd1 hny h6 ⊢
  refine LWP_block (LWP_cut (fun q : Nat × Nat => ⟨[(0,slA K b m),(1,.int .i64 a),(4,C.fn),(12,.int .i64 q.1),(13,.int .i64 jj)],ins b (.rows K.sz (rws C d1)) H,q.2⟩) (fun q => n ≤ q.2 ∧ q.1 = scanUp (fun x => C.lt x d1[a]!) d1 jj ii) ?_ ?_)
  ·skip
   refine LWP_block (LWP_inv (fun q : Nat × Nat => ⟨[(0,slA K b m),(1,.int .i64 a),(4,C.fn),(12,.int .i64 q.1),(13,.int .i64 jj)],ins b (.rows K.sz (rws C d1)) H,q.2⟩) (fun q => jj + 1 - q.1) (fun q => q.1 ≤ jj + 1 ∧ n ≤ q.2 ∧ scanUp (fun x => C.lt x d1[a]!) d1 jj q.1 = scanUp (fun x => C.lt x d1[a]!) d1 jj ii) (ii,ny) ?_ ⟨hii,hny,rfl⟩ ?_)
   ·refine .mk' ?_ (fun c v h => h) (by simp)
    simp [leV,get_e0,get_e1,wkV.refl,Cmp.fn]
   rintro ⟨s,nz⟩ ⟨g1,g2,g3⟩
   simp only at g1 g2 g3 ⊢
   have hb2 : ∀ k,b < nz + k:=fun k => by omega
   have hb3 : b < nz:=by omega
   refine LWP_seq (LWP_seq ?_)
   by_cases hs : s ≤ jj
   ·have e1 : s < m:=by omega
    refine LWP_regD' fun K' hK => ?_
    apply rgnD_pre 13
    ·simp -implicitDefEqProofs [Cmp.fn,rws_len,rws_get,C.ld,C.st,C.len,C.sc,get_ins,hb2,hb3,rws_set,setAt_enc,rws_swp,ins_ins,hs,e1,ha,hd1]; rfl
    refine rgnD_call (C.call (el d1 s) (el d1 a)) rfl rfl (by simp [pureL,AV.pure,pureL_append,C.pv,C.pf,C.pc]) (by simp [AV.pure,pureL_append,C.pv,C.pf,C.pc]) (by simp [gd,get_e0,get_e1,LArg.ev]) (by simp [get]) ?_
    apply rgnD_pre 99
    ·simp -implicitDefEqProofs; rfl
    refine hK _ _ (by simp [AS.fin,delAll,del,Nat.add_assoc]; rfl) ?_; clear hK
    have hlt : decide (C.c (el d1 s) (el d1 a) < 0) = C.lt d1[s]! d1[a]!:=rfl
    cases ht : C.lt d1[s]! d1[a]! with
    | true =>
     rw [ht] at hlt
     refine LWP_cond (t:=true) (by simp [LArg.ev,get_e0,get_e1,hlt]) (fun _ => LWP_skip ?_) (fun h => by cases h)
     refine LWP_block ?_
     apply LWP_run
     ·simp -implicitDefEqProofs [wrap_succ (n:=s) (by omega)]; rfl
     refine ⟨(s + 1,_),⟨by simp only; omega,?_,?_⟩,by simp only; omega,.mk' (by simp [leV,get_e0,get_e1,wkV.refl,Cmp.fn]) (fun _ _ h => h) rfl⟩
     ·simp only; omega
     ·rw [← g3]
      conv => rhs; rw [scanUp,if_pos (by simp [hs,ht])]
    | false =>
     rw [ht] at hlt
     refine LWP_cond (t:=false) (by simp [LArg.ev,get_e0,get_e1,hlt]) (fun h => by cases h) (fun _ => LWP_exit ?_)
     have hx : scanUp (fun x => C.lt x d1[a]!) d1 jj s = s:=by rw [scanUp,if_neg (by simp [ht])]
     refine ⟨(s,_),⟨?_,by rw [← g3,hx]⟩,.mk' (by simp [leV,get_e0,get_e1,wkV.refl,Cmp.fn]) (fun _ _ h => h) rfl⟩
     simp only; omega
   ·apply LWP_runD
    ·simp -implicitDefEqProofs [hs]; rfl
    ·simp [AS.fin,delAll,del,Nat.add_assoc]; rfl
    refine LWP_cond (t:=false) (by simp [LArg.ev,get_e0,get_e1]) (fun h => by cases h) (fun _ => LWP_exit ?_)
    have hx : scanUp (fun x => C.lt x d1[a]!) d1 jj s = s:=by rw [scanUp,if_neg (by simp [hs])]
    refine ⟨(s,_),⟨?_,by rw [← g3,hx]⟩,.mk' (by simp [leV,get_e0,get_e1,wkV.refl,Cmp.fn]) (fun _ _ h => h) rfl⟩
    simp only; omega
  rintro ⟨i2,nz⟩ ⟨q1,q2⟩
  simp only at q1 q2 ⊢
  obtain ⟨u1,u2,_,u4⟩:=scanUp_spec (fun x => C.lt x d1[a]!) d1 jj _ ii rfl
  have u2':=u2 hii
  rw [← q2] at u1 u2' u4
  refine LWP_cut (fun q : Nat × Nat => ⟨[(0,slA K b m),(1,.int .i64 a),(4,C.fn),(12,.int .i64 i2),(13,.int .i64 q.1)],ins b (.rows K.sz (rws C d1)) H,q.2⟩) (fun q => n ≤ q.2 ∧ q.1 = scanDown (fun x => !C.lt x d1[a]!) d1 i2 jj) ?_ ?_
  ·clear hny
   obtain ⟨ny,hny⟩ : ∃ x,x = nz:=⟨_,rfl⟩
   rw [← hny]
   replace hny : n ≤ ny:=by omega
   clear q2 h6 u4
   obtain ⟨ii,hii'⟩ : ∃ x,x = i2:=⟨_,rfl⟩
   rw [← hii'] at u1 u2' ⊢
   refine LWP_block (LWP_inv (fun q : Nat × Nat => ⟨[(0,slA K b m),(1,.int .i64 a),(4,C.fn),(12,.int .i64 ii),(13,.int .i64 q.1)],ins b (.rows K.sz (rws C d1)) H,q.2⟩) (fun q => q.1) (fun q => q.1 ≤ jj ∧ n ≤ q.2 ∧ scanDown (fun x => !C.lt x d1[a]!) d1 ii q.1 = scanDown (fun x => !C.lt x d1[a]!) d1 ii jj) (jj,ny) ?_ ⟨Nat.le_refl _,hny,rfl⟩ ?_)
   ·refine .mk' ?_ (fun c v h => h) (by simp)
    simp [leV,get_e0,get_e1,wkV.refl,Cmp.fn]
   rintro ⟨s,nz⟩ ⟨g1,g2,g3⟩
   simp only at g1 g2 g3 ⊢
   have hb2 : ∀ k,b < nz + k:=fun k => by omega
   have hb3 : b < nz:=by omega
   refine LWP_seq (LWP_seq ?_)
   by_cases hs : ii ≤ s
   ·have e1 : s < m:=by omega
    obtain ⟨s',hs'⟩ : ∃ s',s = s' + 1:=⟨s - 1,by omega⟩
    refine LWP_regD' fun K' hK => ?_
    apply rgnD_pre 13
    ·simp -implicitDefEqProofs [Cmp.fn,rws_len,rws_get,C.ld,C.st,C.len,C.sc,get_ins,hb2,hb3,rws_set,setAt_enc,rws_swp,ins_ins,hs,e1,ha,hd1]; rfl
    refine rgnD_call (C.call (el d1 s) (el d1 a)) rfl rfl (by simp [pureL,AV.pure,pureL_append,C.pv,C.pf,C.pc]) (by simp [AV.pure,pureL_append,C.pv,C.pf,C.pc]) (by simp [gd,get_e0,get_e1,LArg.ev]) (by simp [get]) ?_
    apply rgnD_pre 99
    ·simp -implicitDefEqProofs; rfl
    refine hK _ _ (by simp [AS.fin,delAll,del,Nat.add_assoc]; rfl) ?_; clear hK
    have hlt : decide (C.c (el d1 s) (el d1 a) < 0) = C.lt d1[s]! d1[a]!:=rfl
    cases ht : C.lt d1[s]! d1[a]! with
    | false =>
     rw [ht] at hlt
     refine LWP_cond (t:=true) (by simp [LArg.ev,get_e0,get_e1,hlt]) (fun _ => LWP_skip ?_) (fun h => by cases h)
     refine LWP_block ?_
     apply LWP_run
     ·simp -implicitDefEqProofs [wrap_i64 (n:=(s : Int) - 1) (by omega) (by omega)]; rfl
     refine ⟨(s',_),⟨by simp only; omega,?_,?_⟩,by simp only; omega,.mk' (by simp [leV,get_e0,get_e1,wkV.refl,Cmp.fn,hs']) (fun _ _ h => h) rfl⟩
     ·simp only; omega
     ·rw [← g3]
      subst hs'
      conv => rhs; rw [scanDown,if_pos (by simp [hs,ht])]
    | true =>
     rw [ht] at hlt
     refine LWP_cond (t:=false) (by simp [LArg.ev,get_e0,get_e1,hlt]) (fun h => by cases h) (fun _ => LWP_exit ?_)
     have hx : scanDown (fun x => !C.lt x d1[a]!) d1 ii s = s:=by subst hs'; rw [scanDown,if_neg (by simp [ht])]
     refine ⟨(s,_),⟨?_,by rw [← g3,hx]⟩,.mk' (by simp [leV,get_e0,get_e1,wkV.refl,Cmp.fn]) (fun _ _ h => h) rfl⟩
     simp only; omega
   ·apply LWP_runD
    ·simp -implicitDefEqProofs [hs]; rfl
    ·simp [AS.fin,delAll,del,Nat.add_assoc]; rfl
    refine LWP_cond (t:=false) (by simp [LArg.ev,get_e0,get_e1]) (fun h => by cases h) (fun _ => LWP_exit ?_)
    have hx : scanDown (fun x => !C.lt x d1[a]!) d1 ii s = s:=by
     cases s with
     | zero => rfl
     | succ s => rw [scanDown,if_neg (by simp [hs])]
    refine ⟨(s,_),⟨?_,by rw [← g3,hx]⟩,.mk' (by simp [leV,get_e0,get_e1,wkV.refl,Cmp.fn]) (fun _ _ h => h) rfl⟩
    simp only; omega
  rintro ⟨j2,no⟩ ⟨q3,q4⟩
  simp only at q3 q4 ⊢
  obtain ⟨v1,v2,_,v4⟩:=scanDown_spec (fun x => !C.lt x d1[a]!) d1 i2 jj
  have v2':=v2 u2'
  rw [← q4] at v1 v2' v4
  have hq:=partLoop_eq C.lt a ii jj d1
  rw [← q2,← q4,h6] at hq
  have hb2 : ∀ k,b < no + k:=fun k => by omega
  have hb3 : b < no:=by omega
  refine LWP_seq (LWP_seq ?_)
  apply LWP_run
  ·simp -implicitDefEqProofs; rfl
  refine LWP_cond (t:=decide (j2 < i2)) (by simp [LArg.ev,get_e0,get_e1]) (fun hc => LWP_exit ?_) (fun hc => LWP_skip ?_)
  ·have hc' : i2 > j2:=by simpa using hc
   rw [if_pos hc'] at hq
   refine ⟨(i2,j2,d1,no),⟨q3,hd1,by simp only; omega,hq.symm⟩,.mk' (by simp [leV,get_e0,get_e1,wkV.refl,Cmp.fn]) (fun _ _ h => h) rfl⟩
  ·have hc' : ¬ i2 > j2:=by simpa using hc
   rw [if_neg hc'] at hq
   have hne : i2 ≠ j2:=fun h => by
    subst h
    have x1:=u4 (by omega)
    have x2:=v4 (by omega) (by omega)
    simp at x1 x2
    rw [x2] at x1
    cases x1
   have e1 : i2 < m:=by omega
   have e2 : j2 < m:=by omega
   refine LWP_seq ?_
   apply LWP_runD
   ·simp -implicitDefEqProofs [Cmp.fn,rws_len,rws_get,C.ld,C.st,C.len,C.sc,get_ins,hb2,hb3,rws_set,setAt_enc,rws_swp,ins_ins,e1,e2,hd1]; rfl
   ·simp [AS.fin,delAll,del,Nat.add_assoc]; rfl
   refine LWP_seq ?_
   apply LWP_run
   ·simp -implicitDefEqProofs [wrap_succ (n:=i2) (by omega)]; rfl
   have w2 : IntKind.i64.wrap ((j2 : Int) - 1) = ((j2 - 1 : Nat) : Int):=by rw [wrap_i64 (by omega) (by omega)]; omega
   apply LWP_run
   ·simp -implicitDefEqProofs [w2]; rfl
   refine ⟨(i2 + 1,j2 - 1,swp d1 i2 j2,_),⟨by simp only; omega,by simp only; omega,by simp only; omega,by simp [swp,hd1],?_,by simp only; exact hq.symm⟩,by simp only; omega,.mk' (by simp [leV,get_e0,get_e1,wkV.refl,Cmp.fn]) (fun _ _ h => h) rfl⟩
   simp only; omega
 ·rintro ⟨_,j3,d3,nq⟩ ⟨k1,k2,k3,k4⟩
  simp only at k1 k2 k3 k4 ⊢
  have hb2 : ∀ k,b < nq + k:=fun k => by omega
  have hb3 : b < nq:=by omega
  refine LWP_seq ?_
  apply LWP_runD
  ·simp -implicitDefEqProofs [Cmp.fn,rws_len,rws_get,C.ld,C.st,C.len,C.sc,get_ins,hb2,hb3,rws_set,setAt_enc,rws_swp,ins_ins,k3,ha,k2]; rfl
  ·simp [AS.fin,delAll,del,Nat.add_assoc]; rfl
  refine LWP_seq ?_
  apply LWP_run
  ·simp -implicitDefEqProofs; rfl
  refine LWP_ret ?_
  show retO [.t 10,.t 11] n _ _ Exit.ret _
  refine ⟨by simp only; omega,⟨_,rfl,?_⟩,fun c v h => ?_⟩
  ·rw [hR,← k4]; exact wkV.refl _
  ·rw [hR,← k4] at h; exact h
end
end Go.AM

/- The library's sort: the insertion that may give up. -/
namespace Go.AM
open Go.Sort
attribute [local simp] mm_ oo_ gg_ stepsS stepS gd opEff appEff LArg.ev app_val app_new app_upd app_kill putV ins_e0 ins_e1 get_e0 get_e1 binV binI grd bnd AV.scalar AV.known fillL chunks elems mxI mnI del Nat.add_assoc nlt_self nne_self nne_self' List.take_of_length_le ld1 cells_int setAt_one stepsD stepD ST.as dEffF LOp.cls softOK LOp.args LOp.rds AV.ids appD_val appD_new appD_upd appD_kill AS.flush delAll
section
variable {P : Program} {K : SK} {α : Type} [Inhabited α]
theorem beq_cast (a b : Nat) : ((a : Int) == (b : Int)) = decide (a = b):=by
 by_cases h : a = b
 ·simp [h]
 ·simp [h]; omega
theorem scanS_le (lt : α → α → Bool) (d : Array α) (b : Nat) : ∀ (k i : Nat),b - i ≤ k → i ≤ b → i ≤ scanSorted lt d b i ∧ scanSorted lt d b i ≤ b
 | 0,i,h,h2 => by rw [scanSorted,if_neg (by simp; omega)]; omega
 | k + 1,i,h,h2 => by
  rw [scanSorted]
  split
  ·rename_i hc
   simp only [Bool.and_eq_true,decide_eq_true_eq] at hc
   have:=scanS_le lt d b k (i + 1) (by omega) (by omega)
   omega
  ·omega
theorem shiftDown_size (lt : α → α → Bool) : ∀ (j : Nat) (d : Array α),(shiftDown lt j d).size = d.size
 | 0,d => rfl
 | j + 1,d => by
  simp only [shiftDown]
  split
  ·rfl
  ·rw [shiftDown_size lt j]; simp [swp]
theorem shiftUp_size (lt : α → α → Bool) (b : Nat) : ∀ (k j : Nat) (d : Array α),b - j ≤ k → (shiftUp lt b j d).size = d.size
 | 0,j,d,h => by rw [shiftUp,if_neg (by omega)]
 | k + 1,j,d,h => by
  rw [shiftUp]
  split
  ·split
   ·rfl
   ·rw [shiftUp_size lt b k _ _ (by omega)]; simp [swp]
  ·rfl
set_option maxHeartbeats 4000000 in
theorem par_ok (L : Lays P K) (C : Cmp P K α) {H : Heap} {n b m : Nat} (hbn : b < n) {d : Array α} (hm : d.size = m) (hd : m < 1073741824) (a e : Nat) (he : e ≤ m) (hae : a < e) (hb : get H b = some (.rows K.sz (rws C d))) :
  ACalls P K.par [slA K b m,.int .i64 a,.int .i64 e,C.fn] H n (postO n (.bool (partialInsertionSort C.lt d a e).2) (ins b (.rows K.sz (rws C (partialInsertionSort C.lt d a e).1)) H)):=by
 refine own_body L.par rfl ?_
 simp only [parV,cPar]
 obtain ⟨R,hR⟩ : ∃ x,x = partialInsertionSort C.lt d a e:=⟨_,rfl⟩
 rw [← hR]
 refine LWP_seq ?_
 apply LWP_run
 ·simp -implicitDefEqProofs; rfl
 refine LWP_seq ?_
 apply LWP_run
 ·simp -implicitDefEqProofs [wrap_succ (n:=a) (by omega)]; rfl
 refine LWP_cut (fun q : Nat => ⟨[],ins b (.rows K.sz (rws C R.1)) H,q⟩) (fun q => n ≤ q ∧ R.2 = false) ?_ ?_
 ·refine LWP_seq ?_
  apply LWP_run
  ·simp -implicitDefEqProofs; rfl
  refine LWP_block (LWP_inv (fun q : Nat × Nat × Array α × Nat => ⟨[(0,slA K b m),(1,.int .i64 a),(2,.int .i64 e),(3,C.fn),(9,.int .i64 q.2.1),(10,.int .i64 (5 - (q.1 : Int)))],ins b (.rows K.sz (rws C q.2.2.1)) H,q.2.2.2⟩) (fun q => q.1)
   (fun q => q.1 ≤ 5 ∧ a < q.2.1 ∧ q.2.1 ≤ e ∧ q.2.2.1.size = m ∧ n ≤ q.2.2.2 ∧ partialIns C.lt a e q.1 q.2.1 q.2.2.1 = R) (5,a + 1,d,n) ?_ ⟨Nat.le_refl _,by simp only; omega,by simp only; omega,hm,Nat.le_refl _,hR.symm⟩ ?_)
  ·refine .mk' ?_ (fun c v h => get_ins_same hb h) (by simp)
   simp [leV,get_e0,get_e1,wkV.refl,Cmp.fn]
  clear hm hb
  rintro ⟨s,i,d1,nx⟩ ⟨h1,h2,h3,h4,h5,h6⟩
  simp only at h1 h2 h3 h4 h5 h6 ⊢
  clear hR d
  refine LWP_seq (LWP_seq ?_)
  cases s with
  | zero =>
   apply LWP_run
   ·simp -implicitDefEqProofs; rfl
   refine LWP_cond (t:=false) (by simp [LArg.ev,get_e0,get_e1]) (fun h => by cases h) (fun _ => LWP_exit ?_)
   simp only [partialIns] at h6
   exact ⟨nx,⟨h5,by rw [← h6]⟩,.mk' (by simp [leV]) (fun c v h => by rw [← h6] at h; exact h) rfl⟩
  | succ s =>
   have c0 : (5 : Int) - ((s + 1 : Nat) : Int) < 5:=by omega
   apply LWP_run
   ·simp -implicitDefEqProofs [c0]; rfl
   refine LWP_cond (t:=true) (by simp [LArg.ev,get_e0,get_e1]; omega) (fun _ => LWP_skip ?_) (fun h => by cases h)
   refine LWP_cut (fun q : Nat × Array α × Nat => ⟨[(0,slA K b m),(1,.int .i64 a),(2,.int .i64 e),(3,C.fn),(9,.int .i64 q.1),(10,.int .i64 (4 - (s : Int)))],ins b (.rows K.sz (rws C q.2.1)) H,q.2.2⟩)
    (fun q => a < q.1 ∧ q.1 ≤ e ∧ q.2.1.size = m ∧ n ≤ q.2.2 ∧ partialIns C.lt a e s q.1 q.2.1 = R) ?_ ?_
   ·refine LWP_block ?_
    obtain ⟨z1,z2⟩:=scanS_le C.lt d1 e _ i (Nat.le_refl _) h3
    refine LWP_cut (fun q : Nat × Nat => ⟨[(0,slA K b m),(1,.int .i64 a),(2,.int .i64 e),(3,C.fn),(9,.int .i64 q.1),(10,.int .i64 (4 - (s : Int)))],ins b (.rows K.sz (rws C d1)) H,q.2⟩) (fun q => n ≤ q.2 ∧ q.1 = scanSorted C.lt d1 e i) ?_ ?_
    ·clear h6 z1 z2
     refine LWP_block (LWP_inv (fun q : Nat × Nat => ⟨[(0,slA K b m),(1,.int .i64 a),(2,.int .i64 e),(3,C.fn),(9,.int .i64 q.1),(10,.int .i64 (4 - (s : Int)))],ins b (.rows K.sz (rws C d1)) H,q.2⟩) (fun q => e - q.1) (fun q => a < q.1 ∧ q.1 ≤ e ∧ n ≤ q.2 ∧ scanSorted C.lt d1 e q.1 = scanSorted C.lt d1 e i) (i,nx) ?_ ⟨h2,h3,h5,rfl⟩ ?_)
     ·refine .mk' ?_ (fun c v h => h) (by simp)
      simp [leV,get_e0,get_e1,wkV.refl,Cmp.fn,show (5 : Int) - ((s : Int) + 1) = 4 - (s : Int) by omega]
     rintro ⟨t,nz⟩ ⟨g0,g1,g2,g3⟩
     simp only at g0 g1 g2 g3 ⊢
     have hb2 : ∀ k,b < nz + k:=fun k => by omega
     have hb3 : b < nz:=by omega
     refine LWP_seq (LWP_seq ?_)
     by_cases hs : t < e
     ·have e1 : t < m:=by omega
      obtain ⟨p,hp⟩ : ∃ p,p = t - 1:=⟨_,rfl⟩
      have w1 : IntKind.i64.wrap ((t : Int) - 1) = (p : Int):=by rw [wrap_i64 (by omega) (by omega)]; omega
      have e2 : p < m:=by omega
      refine LWP_regD' fun K' hK => ?_
      apply rgnD_pre 14
      ·simp -implicitDefEqProofs [Cmp.fn,rws_len,rws_get,C.ld,C.st,C.len,C.sc,get_ins,hb2,hb3,rws_set,setAt_enc,rws_swp,ins_ins,hs,e1,e2,h4,w1]; rfl
      refine rgnD_call (C.call (el d1 t) (el d1 p)) rfl rfl (by simp [pureL,AV.pure,pureL_append,C.pv,C.pf,C.pc]) (by simp [AV.pure,pureL_append,C.pv,C.pf,C.pc]) (by simp [gd,get_e0,get_e1,LArg.ev]) (by simp [get]) ?_
      apply rgnD_pre 99
      ·simp -implicitDefEqProofs; rfl
      refine hK _ _ (by simp [AS.fin,delAll,del,Nat.add_assoc]; rfl) ?_; clear hK
      have hlt : decide (C.c (el d1 t) (el d1 p) < 0) = C.lt d1[t]! d1[p]!:=rfl
      cases ht : C.lt d1[t]! d1[p]! with
      | false =>
       rw [ht] at hlt
       refine LWP_cond (t:=true) (by simp [LArg.ev,get_e0,get_e1,hlt]) (fun _ => LWP_skip ?_) (fun h => by cases h)
       refine LWP_block ?_
       apply LWP_run
       ·simp -implicitDefEqProofs [wrap_succ (n:=t) (by omega)]; rfl
       refine ⟨(t + 1,_),⟨by simp only; omega,by simp only; omega,?_,?_⟩,by simp only; omega,.mk' (by simp [leV,get_e0,get_e1,wkV.refl,Cmp.fn]) (fun _ _ h => h) rfl⟩
       ·simp only; omega
       ·rw [← g3]
        subst hp
        conv => rhs; rw [scanSorted,if_pos (by simp [hs,ht])]
      | true =>
       rw [ht] at hlt
       refine LWP_cond (t:=false) (by simp [LArg.ev,get_e0,get_e1,hlt]) (fun h => by cases h) (fun _ => LWP_exit ?_)
       have hx : scanSorted C.lt d1 e t = t:=by subst hp; rw [scanSorted,if_neg (by simp [ht])]
       refine ⟨(t,_),⟨?_,by rw [← g3,hx]⟩,.mk' (by simp [leV,get_e0,get_e1,wkV.refl,Cmp.fn]) (fun _ _ h => h) rfl⟩
       simp only; omega
     ·apply LWP_runD
      ·simp -implicitDefEqProofs [hs]; rfl
      ·simp [AS.fin,delAll,del,Nat.add_assoc]; rfl
      refine LWP_cond (t:=false) (by simp [LArg.ev,get_e0,get_e1]) (fun h => by cases h) (fun _ => LWP_exit ?_)
      have hx : scanSorted C.lt d1 e t = t:=by rw [scanSorted,if_neg (by simp [hs])]
      refine ⟨(t,_),⟨?_,by rw [← g3,hx]⟩,.mk' (by simp [leV,get_e0,get_e1,wkV.refl,Cmp.fn]) (fun _ _ h => h) rfl⟩
      simp only; omega
    rintro ⟨i2,ny⟩ ⟨k1,k2⟩
    simp only at k1 k2 ⊢
    rw [← k2] at z1 z2
    have hq : R = if i2 = e then (d1,true) else if e - a < 50 then (d1,false) else partialIns C.lt a e s i2 (if e - i2 ≥ 2 then shiftUp C.lt e (i2 + 1) (if i2 - a ≥ 2 then shiftDown C.lt (i2 - 1) (swp d1 i2 (i2 - 1)) else swp d1 i2 (i2 - 1)) else (if i2 - a ≥ 2 then shiftDown C.lt (i2 - 1) (swp d1 i2 (i2 - 1)) else swp d1 i2 (i2 - 1))):=by
     rw [← h6,partialIns,← k2]
    clear h6 k2 h5
    have hb2 : ∀ k,b < ny + k:=fun k => by omega
    have hb3 : b < ny:=by omega
    refine LWP_seq (LWP_seq ?_)
    apply LWP_run
    ·simp -implicitDefEqProofs; rfl
    refine LWP_cond (t:=decide (i2 = e)) (by simp [LArg.ev,get_e0,get_e1,beq_cast]) (fun hc => ?_) (fun hc => LWP_skip ?_)
    ·have hc' : i2 = e:=by simpa using hc
     rw [if_pos hc'] at hq
     refine LWP_seq ?_
     apply LWP_run
     ·simp -implicitDefEqProofs; rfl
     refine LWP_ret ?_
     show retO [.t 8] n _ _ Exit.ret _
     exact ⟨k1,⟨_,rfl,by rw [hq]; exact wkV.refl _⟩,fun c v h => by rw [hq] at h; exact h⟩
    have hc' : ¬ i2 = e:=by simpa using hc
    rw [if_neg hc'] at hq
    have w1 : IntKind.i64.wrap ((e : Int) - a) = (e : Int) - a:=by rw [wrap_i64 (by omega) (by omega)]
    refine LWP_seq (LWP_seq ?_)
    apply LWP_run
    ·simp -implicitDefEqProofs [w1]; rfl
    refine LWP_cond (t:=decide (e - a < 50)) (by simp [LArg.ev,get_e0,get_e1]; omega) (fun hc => ?_) (fun hc => LWP_skip ?_)
    ·have hc2 : e - a < 50:=by simpa using hc
     rw [if_pos hc2] at hq
     refine LWP_seq ?_
     apply LWP_run
     ·simp -implicitDefEqProofs; rfl
     refine LWP_ret ?_
     show retO [.t 8] n _ _ Exit.ret _
     exact ⟨k1,⟨_,rfl,by rw [hq]; exact wkV.refl _⟩,fun c v h => by rw [hq] at h; exact h⟩
    have hc2 : ¬ e - a < 50:=by simpa using hc
    rw [if_neg hc2] at hq
    obtain ⟨p,hp⟩ : ∃ p,p = i2 - 1:=⟨_,rfl⟩
    rw [← hp] at hq
    have w2 : IntKind.i64.wrap ((i2 : Int) - 1) = (p : Int):=by rw [wrap_i64 (by omega) (by omega)]; omega
    have e1 : i2 < m:=by omega
    have e2 : p < m:=by omega
    refine LWP_seq ?_
    apply LWP_runD
    ·simp -implicitDefEqProofs [Cmp.fn,rws_len,rws_get,C.ld,C.st,C.len,C.sc,get_ins,hb2,hb3,rws_set,setAt_enc,rws_swp,ins_ins,w2,e1,e2,h4]; rfl
    ·simp [AS.fin,delAll,del,Nat.add_assoc]; rfl
    obtain ⟨d2,hd2⟩ : ∃ x,x = swp d1 i2 p:=⟨_,rfl⟩
    have hd2s : d2.size = m:=by rw [hd2]; simp [swp,h4]
    rw [← hd2] at hq ⊢
    refine LWP_cut (fun q : Array α × Nat => ⟨[(0,slA K b m),(1,.int .i64 a),(2,.int .i64 e),(3,C.fn),(9,.int .i64 i2),(10,.int .i64 (4 - (s : Int)))],ins b (.rows K.sz (rws C q.1)) H,q.2⟩) (fun q => n ≤ q.2 ∧ q.1.size = m ∧ q.1 = if i2 - a ≥ 2 then shiftDown C.lt p d2 else d2) ?_ ?_
    ·refine LWP_seq ?_
     have w3 : IntKind.i64.wrap ((i2 : Int) - a) = (i2 : Int) - a:=by rw [wrap_i64 (by omega) (by omega)]
     apply LWP_run
     ·simp -implicitDefEqProofs [w3]; rfl
     refine LWP_cond (t:=decide (i2 - a ≥ 2)) (by simp [LArg.ev,get_e0,get_e1]; omega) (fun hc => ?_) (fun hc => LWP_skip ?_)
     ·have hc3 : i2 - a ≥ 2:=by simpa using hc
      rw [if_pos hc3]
      refine LWP_seq ?_
      apply LWP_run
      ·simp -implicitDefEqProofs [w2]; rfl
      refine LWP_block (LWP_inv (fun q : Nat × Array α × Nat => ⟨[(0,slA K b m),(1,.int .i64 a),(2,.int .i64 e),(3,C.fn),(9,.int .i64 i2),(10,.int .i64 (4 - (s : Int))),(11,.int .i64 q.1)],ins b (.rows K.sz (rws C q.2.1)) H,q.2.2⟩) (fun q => q.1) (fun q => q.1 ≤ p ∧ n ≤ q.2.2 ∧ q.2.1.size = m ∧ shiftDown C.lt q.1 q.2.1 = shiftDown C.lt p d2) (p,d2,ny + 18) ?_ ⟨Nat.le_refl _,by simp only; omega,hd2s,rfl⟩ ?_)
      ·refine .mk' ?_ (fun c v h => by simpa [ins_ins,hd2] using h) (by simp)
       simp [leV,get_e0,get_e1,wkV.refl,Cmp.fn]
      rintro ⟨j,d3,nz⟩ ⟨g1,g2,g3,g4⟩
      simp only at g1 g2 g3 g4 ⊢
      have hb2 : ∀ k,b < nz + k:=fun k => by omega
      have hb3 : b < nz:=by omega
      refine LWP_seq (LWP_seq ?_)
      cases j with
      | zero =>
       apply LWP_run
       ·simp -implicitDefEqProofs; rfl
       refine LWP_cond (t:=false) (by simp [LArg.ev,get_e0,get_e1]) (fun h => by cases h) (fun _ => LWP_exit ?_)
       exact ⟨(d3,nz),⟨g2,g3,g4⟩,.mk' (by simp [leV,get_e0,get_e1,wkV.refl,Cmp.fn]) (fun _ _ h => h) rfl⟩
      | succ j =>
       obtain ⟨q,hqq⟩ : ∃ q,q = j + 1:=⟨_,rfl⟩
       rw [← hqq] at g1 g4 ⊢
       have w5 : IntKind.i64.wrap ((q : Int) - 1) = (j : Int):=by rw [wrap_i64 (by omega) (by omega)]; omega
       have e3 : q < m:=by omega
       have e4 : j < m:=by omega
       have e5 : 1 ≤ q:=by omega
       have e6 : ¬ q = 0:=by omega
       apply LWP_run
       ·simp -implicitDefEqProofs [e5]; rfl
       refine LWP_cond (t:=true) (by simp [LArg.ev,get_e0,get_e1]; omega) (fun _ => LWP_skip ?_) (fun h => by cases h)
       refine LWP_seq (LWP_block (LWP_seq (LWP_seq ?_)))
       refine LWP_regD' fun K' hK => ?_
       apply rgnD_pre 10
       ·simp -implicitDefEqProofs [Cmp.fn,rws_len,rws_get,C.ld,C.st,C.len,C.sc,get_ins,hb2,hb3,rws_set,setAt_enc,rws_swp,ins_ins,e3,e4,g3,w5]; rfl
       refine rgnD_call (C.call (el d3 q) (el d3 j)) rfl rfl (by simp [pureL,AV.pure,pureL_append,C.pv,C.pf,C.pc]) (by simp [AV.pure,pureL_append,C.pv,C.pf,C.pc]) (by simp [gd,get_e0,get_e1,LArg.ev]) (by simp [get]) ?_
       apply rgnD_pre 99
       ·simp -implicitDefEqProofs; rfl
       refine hK _ _ (by simp [AS.fin,delAll,del,Nat.add_assoc]; rfl) ?_; clear hK
       have hlt : decide (C.c (el d3 q) (el d3 j) < 0) = C.lt d3[q]! d3[j]!:=rfl
       cases ht : C.lt d3[q]! d3[j]! with
       | true =>
        rw [ht] at hlt
        refine LWP_cond (t:=false) (by simp [LArg.ev,get_e0,get_e1,hlt]) (fun h => by cases h) (fun _ => LWP_skip ?_)
        apply LWP_runD
        ·simp -implicitDefEqProofs [Cmp.fn,rws_len,rws_get,C.ld,C.st,C.len,C.sc,get_ins,hb2,hb3,rws_set,setAt_enc,rws_swp,ins_ins,e3,e4,g3,w5]; rfl
        ·simp [AS.fin,delAll,del,Nat.add_assoc]; rfl
        apply LWP_run
        ·simp -implicitDefEqProofs [w5]; rfl
        refine ⟨(j,swp d3 q j,_),⟨by simp only; omega,?_,by simp [swp,g3],?_⟩,by simp only; omega,.mk' (by simp [leV,get_e0,get_e1,wkV.refl,Cmp.fn]) (fun _ _ h => h) rfl⟩
        ·simp only; omega
        ·rw [← g4,hqq]
         rw [hqq] at ht
         conv => rhs; rw [shiftDown,if_neg (by simp [ht])]
       | false =>
        rw [ht] at hlt
        refine LWP_cond (t:=true) (by simp [LArg.ev,get_e0,get_e1,hlt]) (fun _ => LWP_exit ?_) (fun h => by cases h)
        refine ⟨(d3,_),⟨?_,g3,?_⟩,.mk' (by simp [leV,get_e0,get_e1,wkV.refl,Cmp.fn]) (fun _ _ h => h) rfl⟩
        ·simp only; omega
        ·rw [← g4,hqq]
         rw [hqq] at ht
         rw [shiftDown,if_pos (by simp [ht])]
     ·have hc3 : ¬ i2 - a ≥ 2:=by simpa using hc
      rw [if_neg hc3]
      refine ⟨(d2,_),⟨?_,hd2s,rfl⟩,.mk' (by simp [leV,get_e0,get_e1,wkV.refl,Cmp.fn]) (fun c v h => by simpa [ins_ins,hd2] using h) rfl⟩
      simp only; omega
    rintro ⟨d3,nz⟩ ⟨g1,g2,g3⟩
    simp only at g1 g2 g3 ⊢
    rw [← g3] at hq
    clear hd2 hd2s g3 hb2 hb3 k1
    refine LWP_seq ?_
    have w3 : IntKind.i64.wrap ((e : Int) - i2) = (e : Int) - i2:=by rw [wrap_i64 (by omega) (by omega)]
    apply LWP_run
    ·simp -implicitDefEqProofs [w3]; rfl
    refine LWP_cond (t:=decide (e - i2 ≥ 2)) (by simp [LArg.ev,get_e0,get_e1]; omega) (fun hc => ?_) (fun hc => LWP_skip ?_)
    ·have hc3 : e - i2 ≥ 2:=by simpa using hc
     rw [if_pos hc3] at hq
     refine LWP_seq ?_
     apply LWP_run
     ·simp -implicitDefEqProofs [wrap_succ (n:=i2) (by omega)]; rfl
     refine LWP_block (LWP_inv (fun q : Nat × Array α × Nat => ⟨[(0,slA K b m),(1,.int .i64 a),(2,.int .i64 e),(3,C.fn),(9,.int .i64 i2),(10,.int .i64 (4 - (s : Int))),(12,.int .i64 q.1)],ins b (.rows K.sz (rws C q.2.1)) H,q.2.2⟩) (fun q => e - q.1) (fun q => 1 ≤ q.1 ∧ n ≤ q.2.2 ∧ q.2.1.size = m ∧ shiftUp C.lt e q.1 q.2.1 = shiftUp C.lt e (i2 + 1) d3) (i2 + 1,d3,nz) ?_ ⟨by simp only; omega,g1,g2,rfl⟩ ?_)
     ·refine .mk' ?_ (fun c v h => h) (by simp)
      simp [leV,get_e0,get_e1,wkV.refl,Cmp.fn]
     rintro ⟨j,d4,nw⟩ ⟨f1,f2,f3,f4⟩
     simp only at f1 f2 f3 f4 ⊢
     have hb2 : ∀ k,b < nw + k:=fun k => by omega
     have hb3 : b < nw:=by omega
     refine LWP_seq (LWP_seq ?_)
     apply LWP_run
     ·simp -implicitDefEqProofs; rfl
     refine LWP_cond (t:=decide (j < e)) (by simp [LArg.ev,get_e0,get_e1]) (fun hc => LWP_skip ?_) (fun hc => LWP_exit ?_)
     ·have hc4 : j < e:=by simpa using hc
      obtain ⟨q,hqq⟩ : ∃ q,q = j - 1:=⟨_,rfl⟩
      have w5 : IntKind.i64.wrap ((j : Int) - 1) = (q : Int):=by rw [wrap_i64 (by omega) (by omega)]; omega
      have e3 : q < m:=by omega
      have e4 : j < m:=by omega
      refine LWP_seq (LWP_block (LWP_seq (LWP_seq ?_)))
      refine LWP_regD' fun K' hK => ?_
      apply rgnD_pre 10
      ·simp -implicitDefEqProofs [Cmp.fn,rws_len,rws_get,C.ld,C.st,C.len,C.sc,get_ins,hb2,hb3,rws_set,setAt_enc,rws_swp,ins_ins,e3,e4,f3,w5]; rfl
      refine rgnD_call (C.call (el d4 j) (el d4 q)) rfl rfl (by simp [pureL,AV.pure,pureL_append,C.pv,C.pf,C.pc]) (by simp [AV.pure,pureL_append,C.pv,C.pf,C.pc]) (by simp [gd,get_e0,get_e1,LArg.ev]) (by simp [get]) ?_
      apply rgnD_pre 99
      ·simp -implicitDefEqProofs; rfl
      refine hK _ _ (by simp [AS.fin,delAll,del,Nat.add_assoc]; rfl) ?_; clear hK
      have hlt : decide (C.c (el d4 j) (el d4 q) < 0) = C.lt d4[j]! d4[q]!:=rfl
      cases ht : C.lt d4[j]! d4[q]! with
      | true =>
       rw [ht] at hlt
       refine LWP_cond (t:=false) (by simp [LArg.ev,get_e0,get_e1,hlt]) (fun h => by cases h) (fun _ => LWP_skip ?_)
       apply LWP_runD
       ·simp -implicitDefEqProofs [Cmp.fn,rws_len,rws_get,C.ld,C.st,C.len,C.sc,get_ins,hb2,hb3,rws_set,setAt_enc,rws_swp,ins_ins,e3,e4,f3,w5]; rfl
       ·simp [AS.fin,delAll,del,Nat.add_assoc]; rfl
       apply LWP_run
       ·simp -implicitDefEqProofs [wrap_succ (n:=j) (by omega)]; rfl
       refine ⟨(j + 1,swp d4 j q,_),⟨by simp only; omega,?_,by simp [swp,f3],?_⟩,by simp only; omega,.mk' (by simp [leV,get_e0,get_e1,wkV.refl,Cmp.fn]) (fun _ _ h => h) rfl⟩
       ·simp only; omega
       ·rw [← f4]
        conv => rhs; rw [shiftUp,if_pos hc4,if_neg (by rw [← hqq]; simp [ht]),← hqq]
      | false =>
       rw [ht] at hlt
       refine LWP_cond (t:=true) (by simp [LArg.ev,get_e0,get_e1,hlt]) (fun _ => LWP_exit ?_) (fun h => by cases h)
       refine ⟨(i2,d4,_),⟨by simp only; omega,z2,f3,?_,?_⟩,.mk' (by simp [leV,get_e0,get_e1,wkV.refl,Cmp.fn]) (fun _ _ h => h) rfl⟩
       ·simp only; omega
       ·rw [hq,← f4]
        conv => rhs; rw [shiftUp,if_pos hc4,if_pos (by rw [← hqq]; simp [ht])]
     ·have hc4 : ¬ j < e:=by simpa using hc
      refine ⟨(i2,d4,_),⟨by simp only; omega,z2,f3,?_,?_⟩,.mk' (by simp [leV,get_e0,get_e1,wkV.refl,Cmp.fn]) (fun _ _ h => h) rfl⟩
      ·simp only; omega
      ·rw [hq,← f4]
       conv => rhs; rw [shiftUp,if_neg hc4]
    ·have hc3 : ¬ e - i2 ≥ 2:=by simpa using hc
     rw [if_neg hc3] at hq
     exact ⟨(i2,d3,nz),⟨by simp only; omega,z2,g2,g1,hq.symm⟩,.mk' (by simp [leV,get_e0,get_e1,wkV.refl,Cmp.fn]) (fun _ _ h => h) rfl⟩
   ·rintro ⟨i2,d2,ny⟩ ⟨k1,k2,k3,k4,k5⟩
    simp only at k1 k2 k3 k4 k5 ⊢
    apply LWP_run
    ·simp -implicitDefEqProofs; rfl
    refine ⟨(s,i2,d2,ny),⟨by simp only; omega,k1,k2,k3,k4,k5⟩,by simp only; omega,?_⟩
    refine .mk' ?_ (fun _ _ h => h) rfl
    simp [leV,get_e0,get_e1,wkV.refl,Cmp.fn,show IntKind.i64.wrap (5 - (s : Int)) = 5 - (s : Int) from wrap_i64 (by omega) (by omega),show (4 : Int) - (s : Int) + 1 = 5 - (s : Int) by omega]
 ·rintro nx ⟨h1,h2⟩
  refine LWP_seq ?_
  apply LWP_run
  ·simp -implicitDefEqProofs; rfl
  refine LWP_ret ?_
  show retO [.t 8] n _ _ Exit.ret _
  exact ⟨h1,⟨_,rfl,by rw [h2]; exact wkV.refl _⟩,fun c v h => h⟩
end
end Go.AM

/- The library's sort: the choice of a pivot. -/
namespace Go.AM
open Go.Sort
attribute [local simp] mm_ oo_ gg_ stepsS stepS gd opEff appEff LArg.ev app_val app_new app_upd app_kill putV ins_e0 ins_e1 get_e0 get_e1 binV binI grd bnd AV.scalar AV.known fillL chunks elems mxI mnI del Nat.add_assoc nlt_self nne_self nne_self' List.take_of_length_le ld1 cells_int setAt_one stepsD stepD ST.as dEffF LOp.cls softOK LOp.args LOp.rds AV.ids appD_val appD_new appD_upd appD_kill AS.flush delAll
section
variable {P : Program} {K : SK} {α : Type} [Inhabited α]
abbrev one (s : Nat) : Blk:=.rows 1 [[.int .i64 s]]
theorem ord_ok (L : Lays P K) (C : Cmp P K α) {H : Heap} {n b m c s : Nat} (hbn : b < n) (hcn : c < n) (hs : s < 1000) {d : Array α} (hm : d.size = m) (hd : m < 1073741824) (x y : Nat) (hx : x < m) (hy : y < m) (hb : get H b = some (.rows K.sz (rws C d))) (hc : get H c = some (one s)) :
  ACalls P K.ord [slA K b m,.int .i64 x,.int .i64 y,.ptr 1 c 0 0,C.fn] H n (postO n (.tup [.int .i64 (order2 C.lt d x y s).1,.int .i64 (order2 C.lt d x y s).2.1]) (ins c (one (order2 C.lt d x y s).2.2) H)):=by
 refine own_body L.ord rfl ?_
 simp only [parV,cOrd]
 have hb2 : ∀ k,b < n + k:=fun k => by omega
 have hb3 : b < n:=hbn
 refine LWP_seq ?_
 apply LWP_run
 ·simp -implicitDefEqProofs; rfl
 refine LWP_seq (LWP_seq (LWP_regD' fun K' hK => ?_))
 apply rgnD_pre 9
 ·simp -implicitDefEqProofs [Cmp.fn,rws_len,rws_get,C.ld,C.st,C.len,C.sc,get_ins,hb2,hb3,rws_set,setAt_enc,rws_swp,ins_ins,hx,hy,hm,hb]; rfl
 refine rgnD_call (C.call (el d y) (el d x)) rfl rfl (by simp [pureL,AV.pure,pureL_append,C.pv,C.pf,C.pc]) (by simp [AV.pure,pureL_append,C.pv,C.pf,C.pc]) (by simp [gd,get_e0,get_e1,LArg.ev]) (by simp [get]) ?_
 apply rgnD_pre 99
 ·simp -implicitDefEqProofs; rfl
 refine hK _ _ (by simp [AS.fin,delAll,del,Nat.add_assoc]; rfl) ?_; clear hK
 have hlt : decide (C.c (el d y) (el d x) < 0) = C.lt d[y]! d[x]!:=rfl
 have ho : order2 C.lt d x y s = if C.lt d[y]! d[x]! then (y,x,s + 1) else (x,y,s):=rfl
 cases ht : C.lt d[y]! d[x]! with
 | true =>
  rw [ht] at hlt
  rw [ht,if_pos rfl] at ho
  refine LWP_cond (t:=true) (by simp [LArg.ev,get_e0,get_e1,hlt]) (fun _ => ?_) (fun h => by cases h)
  refine LWP_seq ?_
  apply LWP_run
  ·simp -implicitDefEqProofs [hc,wrap_succ (n:=s) (by omega)]; rfl
  refine LWP_seq ?_
  apply LWP_run
  ·simp -implicitDefEqProofs; rfl
  refine LWP_ret ?_
  show retO [.t 10,.t 11] n _ _ Exit.ret _
  refine ⟨by simp only; omega,⟨_,rfl,?_⟩,fun c v h => ?_⟩
  ·rw [ho]; exact wkV.refl _
  ·rw [ho] at h; simpa [one] using h
 | false =>
  rw [ht] at hlt
  rw [ht,if_neg (by simp)] at ho
  refine LWP_cond (t:=false) (by simp [LArg.ev,get_e0,get_e1,hlt]) (fun h => by cases h) (fun _ => LWP_skip ?_)
  refine LWP_seq ?_
  apply LWP_run
  ·simp -implicitDefEqProofs; rfl
  refine LWP_ret ?_
  show retO [.t 10,.t 11] n _ _ Exit.ret _
  refine ⟨by simp only; omega,⟨_,rfl,?_⟩,fun c v h => ?_⟩
  ·rw [ho]; exact wkV.refl _
  ·rw [ho] at h; exact get_ins_same hc h
theorem ord_rng (lt : α → α → Bool) (d : Array α) {x y s m : Nat} (hx : x < m) (hy : y < m) : (order2 lt d x y s).1 < m ∧ (order2 lt d x y s).2.1 < m ∧ s ≤ (order2 lt d x y s).2.2 ∧ (order2 lt d x y s).2.2 ≤ s + 1:=by
 unfold order2; split <;> simp [hx,hy]
theorem med_ok (L : Lays P K) (C : Cmp P K α) {H : Heap} {n b m c s : Nat} (hbc : b ≠ c) (hbn : b < n) (hcn : c < n) (hs : s < 900) {d : Array α} (hm : d.size = m) (hd : m < 1073741824) (x y z : Nat) (hx : x < m) (hy : y < m) (hz : z < m) (hb : get H b = some (.rows K.sz (rws C d))) (hc : get H c = some (one s)) :
  ACalls P K.med [slA K b m,.int .i64 x,.int .i64 y,.int .i64 z,.ptr 1 c 0 0,C.fn] H n (postO n (.int .i64 (median C.lt d x y z s).1) (ins c (one (median C.lt d x y z s).2) H)):=by
 refine own_body L.med rfl ?_
 simp only [parV,cMed]
 obtain ⟨r1,h1⟩ : ∃ r,r = order2 C.lt d x y s:=⟨_,rfl⟩
 obtain ⟨a1,a2,a3,a4⟩:=ord_rng C.lt d (s:=s) hx hy
 rw [← h1] at a1 a2 a3 a4
 obtain ⟨r2,h2⟩ : ∃ r,r = order2 C.lt d r1.2.1 z r1.2.2:=⟨_,rfl⟩
 obtain ⟨b1,b2,b3,b4⟩:=ord_rng C.lt d (s:=r1.2.2) a2 hz
 rw [← h2] at b1 b2 b3 b4
 obtain ⟨r3,h3⟩ : ∃ r,r = order2 C.lt d r1.1 r2.1 r2.2.2:=⟨_,rfl⟩
 have hM : median C.lt d x y z s = (r3.2.1,r3.2.2):=by subst h1 h2 h3; rfl
 rw [hM]
 refine LWP_seq ?_
 apply LWP_run
 ·simp -implicitDefEqProofs; rfl
 refine LWP_seq (LWP_reg fun K' hK => ?_)
 apply rgnS_pre 5
 ·simp -implicitDefEqProofs; rfl
 refine rgnS_callO (ord_ok L C (s:=s) hbn hcn (by omega) hm hd x y hx hy hb hc) rfl rfl (by simp [gd,get_e0,get_e1,LArg.ev]) ?_
 rw [← h1]
 intro n1 hn1
 simp only at hn1 ⊢
 apply rgnS_pre 99
 ·simp -implicitDefEqProofs; rfl
 refine hK _ ?_; clear hK
 refine LWP_seq (LWP_reg fun K' hK => ?_)
 apply rgnS_pre 5
 ·simp -implicitDefEqProofs; rfl
 refine rgnS_callO (ord_ok L C (s:=r1.2.2) (b:=b) (c:=c) (by simp only; omega) (by simp only; omega) (by omega) hm hd r1.2.1 z a2 hz (by simp [get_ins,hbc.symm,hb]) (by simp [get_ins])) rfl rfl (by simp [gd,get_e0,get_e1,LArg.ev]) ?_
 rw [← h2]
 intro n2 hn2
 simp only [ins_ins] at hn2 ⊢
 apply rgnS_pre 99
 ·simp -implicitDefEqProofs; rfl
 refine hK _ ?_; clear hK
 refine LWP_seq (LWP_reg fun K' hK => ?_)
 apply rgnS_pre 5
 ·simp -implicitDefEqProofs; rfl
 refine rgnS_callO (ord_ok L C (s:=r2.2.2) (b:=b) (c:=c) (by simp only; omega) (by simp only; omega) (by omega) hm hd r1.1 r2.1 a1 b1 (by simp [get_ins,hbc.symm,hb]) (by simp [get_ins])) rfl rfl (by simp [gd,get_e0,get_e1,LArg.ev]) ?_
 rw [← h3]
 intro n3 hn3
 simp only [ins_ins] at hn3 ⊢
 apply rgnS_pre 99
 ·simp -implicitDefEqProofs; rfl
 refine hK _ ?_; clear hK
 refine LWP_seq ?_
 apply LWP_run
 ·simp -implicitDefEqProofs; rfl
 refine LWP_ret ?_
 show retO [.t 12] n _ _ Exit.ret _
 exact ⟨by simp only; omega,⟨_,rfl,wkV.refl _⟩,fun c v h => h⟩
theorem madj_ok (L : Lays P K) (C : Cmp P K α) {H : Heap} {n b m c s : Nat} (hbc : b ≠ c) (hbn : b < n) (hcn : c < n) (hs : s < 900) {d : Array α} (hm : d.size = m) (hd : m < 1073741824) (x : Nat) (hx : x + 1 < m) (hx1 : 1 ≤ x) (hb : get H b = some (.rows K.sz (rws C d))) (hc : get H c = some (one s)) :
  ACalls P K.madj [slA K b m,.int .i64 x,.ptr 1 c 0 0,C.fn] H n (postO n (.int .i64 (medianAdjacent C.lt d x s).1) (ins c (one (medianAdjacent C.lt d x s).2) H)):=by
 refine own_body L.madj rfl ?_
 simp only [parV,cMadj]
 have hM : medianAdjacent C.lt d x s = median C.lt d (x - 1) x (x + 1) s:=rfl
 rw [hM]
 have w1 : IntKind.i64.wrap ((x : Int) - 1) = ((x - 1 : Nat) : Int):=by rw [wrap_i64 (by omega) (by omega)]; omega
 refine LWP_seq ?_
 apply LWP_run
 ·simp -implicitDefEqProofs; rfl
 refine LWP_seq (LWP_reg fun K' hK => ?_)
 have w2 : IntKind.i64.wrap ((x : Int) + 1) = ((x + 1 : Nat) : Int):=wrap_succ (by omega)
 obtain ⟨p,hp⟩ : ∃ p,p = x - 1:=⟨_,rfl⟩
 obtain ⟨q,hq⟩ : ∃ q,q = x + 1:=⟨_,rfl⟩
 rw [← hp] at w1 hK
 rw [← hq] at w2 hK
 apply rgnS_pre 8
 ·simp -implicitDefEqProofs [w1,w2]; rfl
 refine rgnS_callO (med_ok L C (s:=s) hbc hbn hcn hs hm hd p x q (by omega) (by omega) (by omega) hb hc) rfl rfl (by simp [gd,get_e0,get_e1,LArg.ev]) ?_
 intro n1 hn1
 simp only at hn1 ⊢
 apply rgnS_pre 99
 ·simp -implicitDefEqProofs; rfl
 refine hK _ ?_; clear hK
 refine LWP_ret ?_
 show retO [.t 8] n _ _ Exit.ret _
 exact ⟨by simp only; omega,⟨_,rfl,wkV.refl _⟩,fun c v h => h⟩
end
end Go.AM

/- The library's sort: the choice of a pivot, whole. -/
namespace Go.AM
open Go.Sort
attribute [local simp] mm_ oo_ gg_ stepsS stepS gd opEff appEff LArg.ev app_val app_new app_upd app_kill putV ins_e0 ins_e1 get_e0 get_e1 binV binI grd bnd AV.scalar AV.known fillL chunks elems mxI mnI del Nat.add_assoc nlt_self nne_self nne_self' List.take_of_length_le ld1 cells_int setAt_one stepsD stepD ST.as dEffF LOp.cls softOK LOp.args LOp.rds AV.ids appD_val appD_new appD_upd appD_kill AS.flush delAll
section
variable {P : Program} {K : SK} {α : Type} [Inhabited α]
def hintI : Hint → Int
 | .unknown => 0
 | .increasing => 1
 | .decreasing => 2
theorem med_rng (lt : α → α → Bool) (d : Array α) {x y z s m : Nat} (hx : x < m) (hy : y < m) (hz : z < m) : (median lt d x y z s).1 < m ∧ (median lt d x y z s).2 ≤ s + 3:=by
 have h1:=ord_rng lt d (s:=s) hx hy
 have h2:=ord_rng lt d (s:=(order2 lt d x y s).2.2) h1.2.1 hz
 have h3:=ord_rng lt d (s:=(order2 lt d (order2 lt d x y s).2.1 z (order2 lt d x y s).2.2).2.2) h1.1 h2.1
 unfold median
 exact ⟨h3.2.1,by simp only; omega⟩
set_option maxHeartbeats 2000000 in
theorem piv_ok (L : Lays P K) (C : Cmp P K α) {H : Heap} {n b m : Nat} {d : Array α} (hm : d.size = m) (hd : m < 1073741824) (a e : Nat) (he : e ≤ m) (hae : a + 12 < e) (hb : get H b = some (.rows K.sz (rws C d))) :
  ACalls P K.piv [slA K b m,.int .i64 a,.int .i64 e,C.fn] H n (postO n (.tup [.int .i64 (choosePivot C.lt d a e).1,.int .i64 (hintI (choosePivot C.lt d a e).2)]) H):=by
 refine own_body L.piv rfl ?_
 simp only [parV,cPiv]
 refine LWP_keys fun hk => ?_
 simp only at hk
 have hbn : b < n:=hk _ _ hb
 have hbc : b ≠ n:=by omega
 obtain ⟨l,hl⟩ : ∃ l,l = e - a:=⟨_,rfl⟩
 obtain ⟨q,hq⟩ : ∃ q,q = l / 4:=⟨_,rfl⟩
 obtain ⟨i,hi⟩ : ∃ i,i = a + q * 1:=⟨_,rfl⟩
 obtain ⟨j,hj⟩ : ∃ i,i = a + q * 2:=⟨_,rfl⟩
 obtain ⟨k,hkk⟩ : ∃ i,i = a + q * 3:=⟨_,rfl⟩
 have h4 : q * 4 ≤ l:=by omega
 have w0 : IntKind.i64.wrap ((e : Int) - a) = (l : Int):=by rw [wrap_i64 (by omega) (by omega)]; omega
 have wq : IntKind.i64.wrap (Int.tdiv (l : Int) 4) = (q : Int):=by
  rw [show Int.tdiv (l : Int) 4 = ((l / 4 : Nat) : Int) from rfl,← hq]; exact wrap_nat (by omega)
 have wq' : IntKind.i64.wrap ((l : Int) / 4) = (q : Int):=by rw [wrap_i64 (by omega) (by omega)]; omega
 have w1 : IntKind.i64.wrap (q : Int) = (q : Int):=wrap_nat (by omega)
 have w2 : IntKind.i64.wrap ((q : Int) * 2) = (q : Int) * 2:=wrap_i64 (by omega) (by omega)
 have w3 : IntKind.i64.wrap ((q : Int) * 3) = (q : Int) * 3:=wrap_i64 (by omega) (by omega)
 have wi : IntKind.i64.wrap ((a : Int) + q) = (i : Int):=by rw [wrap_i64 (by omega) (by omega)]; omega
 have wj : IntKind.i64.wrap ((a : Int) + q * 2) = (j : Int):=by rw [wrap_i64 (by omega) (by omega)]; omega
 have wk : IntKind.i64.wrap ((a : Int) + q * 3) = (k : Int):=by rw [wrap_i64 (by omega) (by omega)]; omega
 have ei : i < m:=by omega
 have ej : j < m:=by omega
 have ek : k < m:=by omega
 obtain ⟨r,hr⟩ : ∃ r : Nat × Nat,r = if l ≥ 50 then median C.lt d (medianAdjacent C.lt d i 0).1 (medianAdjacent C.lt d j (medianAdjacent C.lt d i 0).2).1 (medianAdjacent C.lt d k (medianAdjacent C.lt d j (medianAdjacent C.lt d i 0).2).2).1 (medianAdjacent C.lt d k (medianAdjacent C.lt d j (medianAdjacent C.lt d i 0).2).2).2 else median C.lt d i j k 0:=⟨_,rfl⟩
 have hM : choosePivot C.lt d a e = (r.1,if r.2 = 0 then .increasing else if r.2 = 12 then .decreasing else .unknown):=by
  subst hr hi hj hkk hq hl
  simp only [choosePivot]
  rw [if_pos (show e - a ≥ 8 by omega)]
 rw [hM]
 refine LWP_seq ?_
 apply LWP_run
 ·simp -implicitDefEqProofs; rfl
 refine LWP_seq ?_
 apply LWP_run
 ·simp -implicitDefEqProofs [w0]; rfl
 refine LWP_seq ?_
 apply LWP_run
 ·simp -implicitDefEqProofs; rfl
 refine LWP_seq ?_
 apply LWP_run
 ·simp -implicitDefEqProofs [w0,wq,wq',w1,wi]; rfl
 refine LWP_seq ?_
 apply LWP_run
 ·simp -implicitDefEqProofs [w0,wq,wq',w2,wj]; rfl
 refine LWP_seq ?_
 apply LWP_run
 ·simp -implicitDefEqProofs [w0,wq,wq',w3,wk]; rfl
 refine LWP_cut (fun q : Nat => ⟨[(11,.ptr 1 n 0 0),(13,.int .i64 r.1)],ins n (one r.2) H,q⟩) (fun q => n ≤ q) ?_ ?_
 ·refine LWP_seq ?_
  apply LWP_run
  ·simp -implicitDefEqProofs; rfl
  refine LWP_cond (t:=true) (by simp [LArg.ev,get_e0,get_e1]; omega) (fun _ => ?_) (fun h => by cases h)
  refine LWP_cut (fun q : Nat × Nat × Nat × Nat × Nat => ⟨[(0,slA K b m),(3,C.fn),(11,.ptr 1 n 0 0),(12,.int .i64 q.1),(13,.int .i64 q.2.1),(14,.int .i64 q.2.2.1)],ins n (one q.2.2.2.1) H,q.2.2.2.2⟩) (fun q => n < q.2.2.2.2 ∧ q.1 < m ∧ q.2.1 < m ∧ q.2.2.1 < m ∧ q.2.2.2.1 < 900 ∧ r = median C.lt d q.1 q.2.1 q.2.2.1 q.2.2.2.1) ?_ ?_
  ·refine LWP_seq ?_
   apply LWP_run
   ·simp -implicitDefEqProofs; rfl
   refine LWP_cond (t:=decide (l ≥ 50)) (by simp [LArg.ev,get_e0,get_e1]; omega) (fun hc => ?_) (fun hc => LWP_skip ?_)
   ·have hc' : l ≥ 50:=by simpa using hc
    rw [if_pos hc'] at hr
    obtain ⟨r1,h1⟩ : ∃ r,r = medianAdjacent C.lt d i 0:=⟨_,rfl⟩
    rw [← h1] at hr
    obtain ⟨r2,h2⟩ : ∃ r,r = medianAdjacent C.lt d j r1.2:=⟨_,rfl⟩
    rw [← h2] at hr
    obtain ⟨r3,h3⟩ : ∃ r,r = medianAdjacent C.lt d k r2.2:=⟨_,rfl⟩
    rw [← h3] at hr
    obtain ⟨a1,a2⟩:=med_rng C.lt d (s:=0) (show i - 1 < m by omega) ei (show i + 1 < m by omega)
    obtain ⟨b1,b2⟩:=med_rng C.lt d (s:=r1.2) (show j - 1 < m by omega) ej (show j + 1 < m by omega)
    obtain ⟨c1,c2⟩:=med_rng C.lt d (s:=r2.2) (show k - 1 < m by omega) ek (show k + 1 < m by omega)
    rw [show median C.lt d (i - 1) i (i + 1) 0 = r1 from h1.symm] at a1 a2
    rw [show median C.lt d (j - 1) j (j + 1) r1.2 = r2 from h2.symm] at b1 b2
    rw [show median C.lt d (k - 1) k (k + 1) r2.2 = r3 from h3.symm] at c1 c2
    refine LWP_seq (LWP_reg fun K' hK => ?_)
    apply rgnS_pre 3
    ·simp -implicitDefEqProofs; rfl
    refine rgnS_callO (madj_ok L C (s:=0) (b:=b) (c:=n) hbc (by simp only; omega) (by simp only; omega) (by omega) hm hd i (by omega) (by omega) (by simp [get_ins,hbc.symm,hb]) (by simp [get_ins])) rfl rfl (by simp [gd,get_e0,get_e1,LArg.ev]) ?_
    rw [← h1]
    intro n1 hn1
    simp only [ins_ins] at hn1 ⊢
    apply rgnS_pre 99
    ·simp -implicitDefEqProofs; rfl
    refine hK _ ?_; clear hK
    refine LWP_seq (LWP_reg fun K' hK => ?_)
    apply rgnS_pre 3
    ·simp -implicitDefEqProofs; rfl
    refine rgnS_callO (madj_ok L C (s:=r1.2) (b:=b) (c:=n) hbc (by simp only; omega) (by simp only; omega) (by omega) hm hd j (by omega) (by omega) (by simp [get_ins,hbc.symm,hb]) (by simp [get_ins])) rfl rfl (by simp [gd,get_e0,get_e1,LArg.ev]) ?_
    rw [← h2]
    intro n2 hn2
    simp only [ins_ins] at hn2 ⊢
    apply rgnS_pre 99
    ·simp -implicitDefEqProofs; rfl
    refine hK _ ?_; clear hK
    refine LWP_reg fun K' hK => ?_
    apply rgnS_pre 3
    ·simp -implicitDefEqProofs; rfl
    refine rgnS_callO (madj_ok L C (s:=r2.2) (b:=b) (c:=n) hbc (by simp only; omega) (by simp only; omega) (by omega) hm hd k (by omega) (by omega) (by simp [get_ins,hbc.symm,hb]) (by simp [get_ins])) rfl rfl (by simp [gd,get_e0,get_e1,LArg.ev]) ?_
    rw [← h3]
    intro n3 hn3
    simp only [ins_ins] at hn3 ⊢
    apply rgnS_pre 99
    ·simp -implicitDefEqProofs; rfl
    refine hK _ ?_; clear hK
    refine ⟨(r1.1,r2.1,r3.1,r3.2,n3),⟨by simp only; omega,a1,b1,c1,by simp only; omega,hr⟩,.mk' (by simp [leV,get_e0,get_e1,wkV.refl,Cmp.fn]) (fun _ _ h => h) rfl⟩
   ·have hc' : ¬ l ≥ 50:=by simpa using hc
    rw [if_neg hc'] at hr
    exact ⟨(i,j,k,0,n + 1),⟨by simp only; omega,ei,ej,ek,by simp only; omega,hr⟩,.mk' (by simp [leV,get_e0,get_e1,wkV.refl,Cmp.fn]) (fun _ _ h => h) rfl⟩
  ·rintro ⟨i,j,k,s,nx⟩ ⟨k1,k2,k3,k4,k5,k6⟩
   simp only at k1 k2 k3 k4 k5 k6 ⊢
   refine LWP_reg fun K' hK => ?_
   apply rgnS_pre 5
   ·simp -implicitDefEqProofs; rfl
   refine rgnS_callO (med_ok L C (s:=s) (b:=b) (c:=n) hbc (by simp only; omega) (by simp only; omega) k5 hm hd i j k k2 k3 k4 (by simp [get_ins,hbc.symm,hb]) (by simp [get_ins])) rfl rfl (by simp [gd,get_e0,get_e1,LArg.ev]) ?_
   rw [← k6]
   intro n1 hn1
   simp only [ins_ins] at hn1 ⊢
   apply rgnS_pre 99
   ·simp -implicitDefEqProofs; rfl
   refine hK _ ?_; clear hK
   exact ⟨n1,by omega,.mk' (by simp [leV,get_e0,get_e1,wkV.refl,Cmp.fn]) (fun _ _ h => h) rfl⟩
 ·intro nx hnx
  have hfin : ∀ c v,get H c = some v → get (ins n (one r.2) H) c = some v:=fun c v h => by
   rw [get_ins,if_neg (fun e => by have:=hk c v h; omega)]; exact h
  refine LWP_seq ?_
  apply LWP_run
  ·simp -implicitDefEqProofs [get_ins]; rfl
  refine LWP_block (LWP_seq ?_)
  by_cases c0 : r.2 = 0
  ·apply LWP_run
   ·simp -implicitDefEqProofs [c0]; rfl
   refine LWP_cond (t:=true) (by simp [LArg.ev,get_e0,get_e1]) (fun _ => ?_) (fun h => by cases h)
   refine LWP_seq ?_
   apply LWP_run
   ·simp -implicitDefEqProofs; rfl
   refine LWP_ret ?_
   show retO [.t 8,.t 9] n _ _ Exit.ret _
   refine ⟨by simp only; omega,⟨_,rfl,?_⟩,fun c v h => ?_⟩
   ·rw [if_pos c0]; exact wkV.refl _
   ·simpa [c0] using hfin c v h
  have c0' : ((r.2 : Int) == 0) = false:=beq_false_of_ne (by omega)
  apply LWP_run
  ·simp -implicitDefEqProofs [c0']; rfl
  refine LWP_cond (t:=false) (by simp [LArg.ev,get_e0,get_e1]) (fun h => by cases h) (fun _ => ?_)
  refine LWP_seq ?_
  by_cases c1 : r.2 = 12
  ·apply LWP_run
   ·simp -implicitDefEqProofs [c1]; rfl
   refine LWP_cond (t:=true) (by simp [LArg.ev,get_e0,get_e1]) (fun _ => ?_) (fun h => by cases h)
   refine LWP_seq ?_
   apply LWP_run
   ·simp -implicitDefEqProofs; rfl
   refine LWP_ret ?_
   show retO [.t 8,.t 9] n _ _ Exit.ret _
   refine ⟨by simp only; omega,⟨_,rfl,?_⟩,fun c v h => ?_⟩
   ·rw [if_neg c0,if_pos c1]; exact wkV.refl _
   ·simpa [c1] using hfin c v h
  have c1' : ((r.2 : Int) == 12) = false:=beq_false_of_ne (by omega)
  apply LWP_run
  ·simp -implicitDefEqProofs [c1']; rfl
  refine LWP_cond (t:=false) (by simp [LArg.ev,get_e0,get_e1]) (fun h => by cases h) (fun _ => ?_)
  refine LWP_seq ?_
  apply LWP_run
  ·simp -implicitDefEqProofs; rfl
  refine LWP_ret ?_
  show retO [.t 8,.t 9] n _ _ Exit.ret _
  refine ⟨by simp only; omega,⟨_,rfl,?_⟩,fun c v h => hfin c v h⟩
  rw [if_neg c0,if_neg c1]; exact wkV.refl _
end
end Go.AM

/- The library's sort: the length in bits, the random numbers, the breaking of patterns. -/
namespace Go.AM
open Go.Sort
attribute [local simp] mm_ oo_ gg_ stepsS stepS gd opEff appEff LArg.ev app_val app_new app_upd app_kill putV ins_e0 ins_e1 get_e0 get_e1 binV binI grd bnd AV.scalar AV.known fillL chunks elems mxI mnI del Nat.add_assoc nlt_self nne_self nne_self' List.take_of_length_le ld1 cells_int setAt_one stepsD stepD ST.as dEffF LOp.cls softOK LOp.args LOp.rds AV.ids appD_val appD_new appD_upd appD_kill AS.flush delAll
theorem wrapU (x : Nat) : IntKind.u64.wrap (x : Int) = ((x % 18446744073709551616 : Nat) : Int):=by
 simp [IntKind.wrap,IntKind.signed,IntKind.bits]
theorem xorU {x y : Nat} (hx : x < 18446744073709551616) (hy : y < 18446744073709551616) : IntKind.u64.wrap ((BitVec.ofNat 64 x ^^^ BitVec.ofNat 64 y).toNat : Int) = ((x ^^^ y : Nat) : Int):=by
 have h1 : (BitVec.ofNat 64 x ^^^ BitVec.ofNat 64 y).toNat = x ^^^ y:=by
  simp only [BitVec.toNat_xor,BitVec.toNat_ofNat]
  rw [Nat.mod_eq_of_lt hx,Nat.mod_eq_of_lt hy]
 rw [h1,wrapU,Nat.mod_eq_of_lt]
 have p : (18446744073709551616 : Nat) = 2 ^ 64:=by decide
 rw [p] at *
 exact Nat.xor_lt_two_pow hx hy
theorem andU {x y : Nat} (hx : x < 18446744073709551616) (hy : y < 18446744073709551616) : IntKind.u64.wrap ((BitVec.ofNat 64 x &&& BitVec.ofNat 64 y).toNat : Int) = ((x &&& y : Nat) : Int):=by
 have h1 : (BitVec.ofNat 64 x &&& BitVec.ofNat 64 y).toNat = x &&& y:=by
  simp only [BitVec.toNat_and,BitVec.toNat_ofNat]
  rw [Nat.mod_eq_of_lt hx,Nat.mod_eq_of_lt hy]
 rw [h1,wrapU,Nat.mod_eq_of_lt]
 exact Nat.lt_of_le_of_lt Nat.and_le_left hx
theorem binI_xorU {x y : Nat} (hx : x < 18446744073709551616) (hy : y < 18446744073709551616) : binI .xor .u64 (x : Int) (y : Int) = some (.int .u64 ((x ^^^ y : Nat) : Int)):=congrArg (fun v => some (AV.int .u64 v)) (xorU hx hy)
theorem binI_andU {x y : Nat} (hx : x < 18446744073709551616) (hy : y < 18446744073709551616) : binI .and .u64 (x : Int) (y : Int) = some (.int .u64 ((x &&& y : Nat) : Int)):=congrArg (fun v => some (AV.int .u64 v)) (andU hx hy)
theorem tab8_ok : ((List.range 256).all fun i => decide ((tab8.getD i 0).toNat = bitsLen i)) = true:=by decide +kernel
theorem tab8_get {i : Nat} (h : i < 256) : (tab8.getD i 0).toNat = bitsLen i:=by
 have:=List.all_eq_true.1 tab8_ok i (by simpa using h)
 simpa using this
theorem bitsLen_256 {n : Nat} (h : 256 ≤ n) : bitsLen n = 8 + bitsLen (n / 256):=by
 have h1 : ∀ k,bitsLen n ≤ k + 8 ↔ bitsLen (n / 256) ≤ k:=fun k => by
  rw [bitsLen_le_iff,bitsLen_le_iff,Nat.div_lt_iff_lt_mul (by decide),Nat.pow_add]
 have h2:=(h1 (bitsLen (n / 256))).2 (Nat.le_refl _)
 have h3 : 8 ≤ bitsLen n:=by
  rcases Nat.lt_or_ge (bitsLen n) 9 with h | h
  ·have:=(bitsLen_le_iff n 8).1 (by omega)
   omega
  ·omega
 have h4:=(h1 (bitsLen n - 8)).1 (by omega)
 omega
section
variable {P : Program} {K : SK} {α : Type} [Inhabited α]
theorem len64_ok (L : Lays P K) (x : Nat) (hx : x < 65536) : ACalls P K.len64 [.int .u64 x] [] 0 (fun r _ _ => r = .int .i64 (bitsLen x)):=by
 refine pure_body L.len64 rfl ?_
 simp only [parV,cLen64]
 refine LWP_seq ?_
 apply LWP_run
 ·simp -implicitDefEqProofs; rfl
 have e1 : ¬ (4294967296 : Int) ≤ (x : Int):=by omega
 have e2 : ¬ (65536 : Int) ≤ (x : Int):=by omega
 refine LWP_seq (LWP_seq ?_)
 apply LWP_run
 ·simp -implicitDefEqProofs [e1]; rfl
 refine LWP_cond (t:=false) (by simp [LArg.ev,get_e0,get_e1]) (fun h => by cases h) (fun _ => LWP_skip ?_)
 refine LWP_seq (LWP_seq ?_)
 apply LWP_run
 ·simp -implicitDefEqProofs [e2]; rfl
 refine LWP_cond (t:=false) (by simp [LArg.ev,get_e0,get_e1]) (fun h => by cases h) (fun _ => LWP_skip ?_)
 refine LWP_cut (fun q : Nat × Nat => ⟨[(0,.int .u64 q.1),(2,.int .i64 q.2)],[],0⟩) (fun q => q.1 < 256 ∧ q.2 + bitsLen q.1 = bitsLen x ∧ q.2 ≤ 8) ?_ ?_
 ·refine LWP_seq ?_
  by_cases h : 256 ≤ x
  ·have e3 : (256 : Int) ≤ (x : Int):=by omega
   have e4 : Int.fdiv (x : Int) 256 = ((x / 256 : Nat) : Int):=by rw [Int.fdiv_eq_ediv_of_nonneg _ (by omega)]; rfl
   apply LWP_run
   ·simp -implicitDefEqProofs [e3]; rfl
   refine LWP_cond (t:=true) (by simp [LArg.ev,get_e0,get_e1]) (fun _ => ?_) (fun h => by cases h)
   refine LWP_seq ?_
   apply LWP_run
   ·simp -implicitDefEqProofs [binSh,IntKind.bits]; rfl
   apply LWP_run
   ·simp -implicitDefEqProofs [wrap_i64 (n:=8) (by omega) (by omega)]; rfl
   refine ⟨(x / 256,8),⟨by simp only; omega,by simp only; rw [bitsLen_256 h],Nat.le_refl _⟩,?_⟩
   refine .mk' ?_ (fun _ _ h => h) rfl
   simp [leV,get_e0,get_e1,wkV.refl,wrap_i64 (n:=8) (by omega) (by omega),Int.fdiv_eq_ediv_of_nonneg]
  ·have e3 : ¬ (256 : Int) ≤ (x : Int):=by omega
   apply LWP_run
   ·simp -implicitDefEqProofs [e3]; rfl
   refine LWP_cond (t:=false) (by simp [LArg.ev,get_e0,get_e1]) (fun h => by cases h) (fun _ => LWP_skip ?_)
   exact ⟨(x,0),⟨by simp only; omega,by simp,by simp⟩,.mk' (by simp [leV,get_e0,get_e1,wkV.refl]) (fun _ _ h => h) rfl⟩
 ·rintro ⟨y,k⟩ ⟨h1,h2,h3⟩
  simp only at h1 h2 h3 ⊢
  have w1 : IntKind.u8.wrap (y : Int) = y:=by simp [IntKind.wrap,IntKind.signed,IntKind.bits]; omega
  have hb : bitsLen y ≤ 8:=(bitsLen_le_iff y 8).2 (by omega)
  have w2:=tab8_get h1
  have w3 : IntKind.i64.wrap (bitsLen y : Int) = bitsLen y:=wrap_nat (by omega)
  have w4 : IntKind.i64.wrap ((k : Int) + bitsLen y) = bitsLen x:=by rw [wrap_i64 (by omega) (by omega)]; omega
  have e1 : y < tab8.length:=Nat.lt_of_lt_of_eq h1 (by decide +kernel)
  have w5 : (tab8[y]).toNat = bitsLen y:=by rw [← w2]; simp [e1]
  refine LWP_seq ?_
  apply LWP_run
  ·simp -implicitDefEqProofs [w1,tab8S,ByteArray.size,e1,w5,w3,w4]; rfl
  refine LWP_ret ?_
  show ∃ vs,resV _ _ = some vs ∧ wkV (retV vs) _
  exact ⟨_,rfl,wkV.refl _⟩
theorem len_ok (L : Lays P K) (x : Nat) (hx : x < 65536) : ACalls P K.len [.int .u64 x] [] 0 (fun r _ _ => r = .int .i64 (bitsLen x)):=by
 refine pure_body L.len rfl ?_
 simp only [parV,cLen]
 refine LWP_seq ?_
 apply LWP_run
 ·simp -implicitDefEqProofs; rfl
 refine LWP_seq ?_
 refine LWP_cond (t:=false) (by simp [LArg.ev,get_e0,get_e1]) (fun h => by cases h) (fun _ => LWP_skip ?_)
 refine LWP_seq (LWP_reg fun K' hK => ?_)
 apply rgnS_pre 1
 ·simp -implicitDefEqProofs; rfl
 refine rgnS_call (len64_ok L x hx) rfl rfl (by simp [pureL,AV.pure]) (by simp [AV.pure]) (by simp [gd,get_e0,get_e1,LArg.ev]) ?_
 apply rgnS_pre 99
 ·simp -implicitDefEqProofs; rfl
 refine hK _ ?_; clear hK
 refine LWP_ret ?_
 show ∃ vs,resV _ _ = some vs ∧ wkV (retV vs) _
 exact ⟨_,rfl,wkV.refl _⟩
theorem npo_ok (L : Lays P K) (x : Nat) (hx : x < 65536) : ACalls P K.npo [.int .i64 x] [] 0 (fun r _ _ => r = .int .u64 ((2 ^ bitsLen x : Nat) : Int)):=by
 refine pure_body L.npo rfl ?_
 simp only [parV,cNpo]
 refine LWP_seq ?_
 apply LWP_run
 ·simp -implicitDefEqProofs; rfl
 have w1 : IntKind.u64.wrap (x : Int) = x:=by rw [wrapU]; omega
 have hb : bitsLen x ≤ 16:=(bitsLen_le_iff x 16).2 (by omega)
 have w2 : IntKind.u64.wrap ((2 : Int) ^ min (bitsLen x) 64) = ((2 ^ bitsLen x : Nat) : Int):=by
  rw [Nat.min_eq_left (by omega),show (2 : Int) ^ bitsLen x = ((2 ^ bitsLen x : Nat) : Int) by simp,wrapU,Nat.mod_eq_of_lt]
  exact Nat.lt_of_le_of_lt (Nat.pow_le_pow_right (by omega) hb) (by decide)
 obtain ⟨p,hp⟩ : ∃ p,p = 2 ^ bitsLen x:=⟨_,rfl⟩
 rw [← hp] at w2 ⊢
 refine LWP_seq (LWP_reg fun K' hK => ?_)
 apply rgnS_pre 2
 ·simp -implicitDefEqProofs [w1]; rfl
 refine rgnS_call (len_ok L x hx) rfl rfl (by simp [pureL,AV.pure]) (by simp [AV.pure]) (by simp [gd,get_e0,get_e1,LArg.ev]) ?_
 apply rgnS_pre 99
 ·simp -implicitDefEqProofs [binSh,IntKind.bits,w2]; rfl
 refine hK _ ?_; clear hK
 refine LWP_ret ?_
 show ∃ vs,resV _ _ = some vs ∧ wkV (retV vs) _
 exact ⟨_,rfl,wkV.refl _⟩
abbrev oneU (s : Nat) : Blk:=.rows 1 [[.int .u64 s]]
theorem nxt_ok (L : Lays P K) {H : Heap} {n c r : Nat} (hcn : c < n) (hr : r < 18446744073709551616) (hc : get H c = some (oneU r)) :
  ACalls P K.nxt [.ptr 1 c 0 0] H n (postO n (.int .u64 (xorNextN r)) (ins c (oneU (xorNextN r)) H)):=by
 refine own_body L.nxt rfl ?_
 simp only [parV,cNxt]
 obtain ⟨r1,h1⟩ : ∃ x,x = r ^^^ (r * 8192 % 18446744073709551616):=⟨_,rfl⟩
 obtain ⟨r2,h2⟩ : ∃ x,x = r1 ^^^ (r1 / 128):=⟨_,rfl⟩
 obtain ⟨r3,h3⟩ : ∃ x,x = r2 ^^^ (r2 * 131072 % 18446744073709551616):=⟨_,rfl⟩
 have hx : xorNextN r = r3:=by subst h1 h2 h3; rfl
 have p : (18446744073709551616 : Nat) = 2 ^ 64:=by decide
 have b1 : r1 < 18446744073709551616:=by rw [h1,p]; exact Nat.xor_lt_two_pow (by omega) (by omega)
 have b2 : r2 < 18446744073709551616:=by rw [h2,p]; exact Nat.xor_lt_two_pow (by omega) (by omega)
 have hb2 : ∀ k,c < n + k:=fun k => by omega
 have u1 : IntKind.u64.wrap ((r : Int) * 8192) = ((r * 8192 % 18446744073709551616 : Nat) : Int):=by rw [show (r : Int) * 8192 = ((r * 8192 : Nat) : Int) by simp,wrapU]
 have u3 : IntKind.u64.wrap ((r2 : Int) * 131072) = ((r2 * 131072 % 18446744073709551616 : Nat) : Int):=by rw [show (r2 : Int) * 131072 = ((r2 * 131072 : Nat) : Int) by simp,wrapU]
 have u2 : Int.fdiv (r1 : Int) 128 = ((r1 / 128 : Nat) : Int):=by rw [Int.fdiv_eq_ediv_of_nonneg _ (by omega)]; rfl
 have x1:=binI_xorU hr (y:=r * 8192 % 18446744073709551616) (Nat.mod_lt _ (by decide))
 have x2:=binI_xorU b1 (y:=r1 / 128) (by omega)
 have x3:=binI_xorU b2 (y:=r2 * 131072 % 18446744073709551616) (Nat.mod_lt _ (by decide))
 rw [← h1] at x1
 rw [← h2] at x2
 rw [← h3] at x3
 obtain ⟨s1,hs1⟩ : ∃ x,x = r * 8192 % 18446744073709551616:=⟨_,rfl⟩
 obtain ⟨s2,hs2⟩ : ∃ x,x = r1 / 128:=⟨_,rfl⟩
 obtain ⟨s3,hs3⟩ : ∃ x,x = r2 * 131072 % 18446744073709551616:=⟨_,rfl⟩
 rw [← hs1] at u1 x1
 rw [← hs2] at u2 x2
 rw [← hs3] at u3 x3
 have e1 : (8192 : Int) = 2 ^ 13:=by decide
 have e2 : (128 : Int) = 2 ^ 7:=by decide
 have e3 : (131072 : Int) = 2 ^ 17:=by decide
 refine LWP_seq ?_
 apply LWP_run
 ·simp -implicitDefEqProofs; rfl
 refine LWP_seq ?_
 apply LWP_runD
 ·simp -implicitDefEqProofs [-binI,hc,hcn,hb2,binSh,IntKind.bits,u1,x1,get_ins,ins_ins]; rfl
 ·simp [AS.fin,delAll,del,Nat.add_assoc]; rfl
 refine LWP_seq ?_
 apply LWP_runD
 ·simp -implicitDefEqProofs [-binI,hc,hcn,hb2,binSh,IntKind.bits,u2,x2,get_ins,ins_ins]; rfl
 ·simp [AS.fin,delAll,del,Nat.add_assoc]; rfl
 refine LWP_seq ?_
 apply LWP_runD
 ·simp -implicitDefEqProofs [-binI,hc,hcn,hb2,binSh,IntKind.bits,u3,x3,get_ins,ins_ins]; rfl
 ·simp [AS.fin,delAll,del,Nat.add_assoc]; rfl
 refine LWP_seq ?_
 apply LWP_run
 ·simp -implicitDefEqProofs [get_ins]; rfl
 refine LWP_ret ?_
 show retO [.t 2] n _ _ Exit.ret _
 rw [hx]
 exact ⟨by simp only; omega,⟨_,rfl,wkV.refl _⟩,fun c v h => h⟩
end
end Go.AM

/- The library's sort: the breaking of patterns. -/
namespace Go.AM
open Go.Sort
attribute [local simp] mm_ oo_ gg_ stepsS stepS gd opEff appEff LArg.ev app_val app_new app_upd app_kill putV ins_e0 ins_e1 get_e0 get_e1 binV binI grd bnd AV.scalar AV.known fillL chunks elems mxI mnI del Nat.add_assoc nlt_self nne_self nne_self' List.take_of_length_le ld1 cells_int setAt_one stepsD stepD ST.as dEffF LOp.cls softOK LOp.args LOp.rds AV.ids appD_val appD_new appD_upd appD_kill AS.flush delAll
section
variable {P : Program} {K : SK} {α : Type} [Inhabited α]
theorem binI_sub (k : IntKind) (x y : Int) : binI .sub k x y = some (.int k (k.wrap (x - y))):=rfl
def brkN (a l mo : Nat) : Nat → Nat → UInt64 × Array α → UInt64 × Array α
 | 0,_,st => st
 | t + 1,idx,st => brkN a l mo t (idx + 1) (breakStep a l mo st idx)
set_option maxHeartbeats 2000000 in
theorem brk_ok (L : Lays P K) (C : Cmp P K α) {H : Heap} {n b m : Nat} {d : Array α} (hm : d.size = m) (hd : m < 65536) (a e : Nat) (he : e ≤ m) (hae : a + 12 < e) (hb : get H b = some (.rows K.sz (rws C d))) :
  ACalls P K.brk [slA K b m,.int .i64 a,.int .i64 e,C.fn] H n (postO n (.tup []) (ins b (.rows K.sz (rws C (breakPatterns d a e))) H)):=by
 refine own_body L.brk rfl ?_
 simp only [parV,cBrk]
 refine LWP_keys fun hk => ?_
 simp only at hk
 have hbn : b < n:=hk _ _ hb
 have hbc : b ≠ n:=by omega
 have hbc' : n ≠ b:=by omega
 obtain ⟨l,hl⟩ : ∃ l,l = e - a:=⟨_,rfl⟩
 obtain ⟨q,hq⟩ : ∃ q,q = l / 4:=⟨_,rfl⟩
 obtain ⟨i0,hi0⟩ : ∃ i,i = a + q * 2 - 1:=⟨_,rfl⟩
 obtain ⟨mo,hmo⟩ : ∃ i,i = 2 ^ bitsLen l:=⟨_,rfl⟩
 have h4 : q * 4 ≤ l:=by omega
 have m1 : mo ≤ 2 * l:=by rw [hmo]; exact two_pow_bitsLen_le (by omega)
 have m2 : 1 ≤ mo:=by rw [hmo]; exact Nat.one_le_two_pow
 have w0 : IntKind.i64.wrap ((e : Int) - a) = (l : Int):=by rw [wrap_i64 (by omega) (by omega)]; omega
 have wu : IntKind.u64.wrap (l : Int) = (l : Int):=by rw [wrapU]; omega
 have wq : IntKind.i64.wrap (Int.tdiv (l : Int) 4) = (q : Int):=by
  rw [show Int.tdiv (l : Int) 4 = ((l / 4 : Nat) : Int) from rfl,← hq]; exact wrap_nat (by omega)
 have wq' : IntKind.i64.wrap ((l : Int) / 4) = (q : Int):=by rw [wrap_i64 (by omega) (by omega)]; omega
 have w2 : IntKind.i64.wrap ((q : Int) * 2) = (q : Int) * 2:=wrap_i64 (by omega) (by omega)
 have wj : IntKind.i64.wrap ((a : Int) + q * 2) = (i0 : Int) + 1:=by rw [wrap_i64 (by omega) (by omega)]; omega
 have wi : IntKind.i64.wrap (i0 : Int) = (i0 : Int):=wrap_nat (by omega)
 have wi' : IntKind.i64.wrap ((i0 : Int) + 1 - 1) = (i0 : Int):=by rw [wrap_i64 (by omega) (by omega)]; omega
 have wk : IntKind.i64.wrap ((i0 : Int) + 2) = (i0 : Int) + 2:=wrap_i64 (by omega) (by omega)
 have wk' : IntKind.i64.wrap ((i0 : Int) + 1 + 1) = (i0 : Int) + 2:=by rw [wrap_i64 (by omega) (by omega)]; omega
 have wmo : IntKind.u64.wrap ((mo : Int) - 1) = ((mo - 1 : Nat) : Int):=by
  rw [show (mo : Int) - 1 = ((mo - 1 : Nat) : Int) by omega,wrapU]; omega
 obtain ⟨R,hR⟩ : ∃ R : UInt64 × Array α,R = brkN a l mo 3 i0 (UInt64.ofNat l,d):=⟨_,rfl⟩
 have hM : breakPatterns d a e = R.2:=by
  have e1 : l ≥ 8:=by omega
  have e2 : (1 <<< bitsLen l) = mo:=by rw [hmo,Nat.one_shiftLeft]
  simp only [breakPatterns,← hl,if_pos e1,e2,← hq,← hi0,hR,brkN]
 rw [hM]
 refine LWP_seq ?_
 apply LWP_run
 ·simp -implicitDefEqProofs [w0]; rfl
 refine LWP_seq ?_
 have c8 : (8 : Int) ≤ (l : Int):=by omega
 apply LWP_run
 ·simp -implicitDefEqProofs [c8]; rfl
 refine LWP_cond (t:=true) (by simp [LArg.ev,get_e0,get_e1]) (fun _ => ?_) (fun h => by cases h)
 refine LWP_seq ?_
 apply LWP_run
 ·simp -implicitDefEqProofs [wu,get_ins]; rfl
 refine LWP_seq (LWP_reg fun K' hK => ?_)
 apply rgnS_pre 1
 ·simp -implicitDefEqProofs; rfl
 refine rgnS_call (npo_ok L l (by omega)) rfl rfl (by simp [pureL,AV.pure]) (by simp [AV.pure]) (by simp [gd,get_e0,get_e1,LArg.ev]) ?_
 rw [← hmo]
 apply rgnS_pre 99
 ·simp -implicitDefEqProofs; rfl
 refine hK _ ?_; clear hK
 refine LWP_seq ?_
 apply LWP_run
 ·simp -implicitDefEqProofs [wq,wq',w2,wj,wi,wi']; rfl
 refine LWP_block (LWP_inv (fun q : Nat × (UInt64 × Array α) × Nat => ⟨[(0,slA K b m),(1,.int .i64 a),(8,.int .i64 l),(9,.ptr 1 n 0 0),(10,.int .u64 mo),(11,.int .i64 ((i0 : Int) + (3 - (q.1 : Int))))],ins b (.rows K.sz (rws C q.2.1.2)) (ins n (oneU q.2.1.1.toNat) H),q.2.2⟩) (fun q => q.1)
  (fun q => q.1 ≤ 3 ∧ q.2.1.2.size = m ∧ n < q.2.2 ∧ brkN a l mo q.1 (i0 + (3 - q.1)) q.2.1 = R) (3,(UInt64.ofNat l,d),n + 1) ?_ ⟨Nat.le_refl _,hm,by simp,hR.symm⟩ ?_)
 ·refine .mk' ?_ (fun c v h => ?_) (by simp)
  ·simp [leV,get_e0,get_e1,wkV.refl]
  ·have e1 : (UInt64.ofNat l).toNat = l:=by simp; omega
   simp only [e1,get_ins] at h ⊢
   by_cases q1 : b = c
   ·subst q1; simp only [if_pos,if_neg hbc'] at h ⊢; rw [← h]; exact hb
   ·simp only [if_neg q1] at h ⊢
    by_cases q2 : n = c
    ·simp only [if_pos q2] at h ⊢; exact h
    ·simp only [if_neg q2] at h ⊢; exact h
 rintro ⟨t,⟨r,d1⟩,nx⟩ ⟨h1,h2,h3,h5⟩
 simp only at h1 h2 h3 h5 ⊢
 have hb2 : ∀ k,b < nx + k:=fun k => by omega
 have hb3 : b < nx:=by omega
 refine LWP_seq (LWP_seq ?_)
 apply LWP_run
 ·simp -implicitDefEqProofs [wq,wq',w2,wj,wi,wk,wk']; rfl
 cases t with
 | zero =>
  refine LWP_cond (t:=false) (by simp [LArg.ev,get_e0,get_e1]) (fun h => by cases h) (fun _ => LWP_exit ?_)
  show retO [] n (.tup []) _ Exit.normal _
  refine ⟨by simp only; omega,⟨_,rfl,wkV.refl _⟩,fun c v h => ?_⟩
  simp only [brkN] at h5
  rw [← h5] at h
  simp only [get_ins] at h ⊢
  by_cases q1 : b = c
  ·simp only [if_pos q1] at h ⊢; exact h
  ·simp only [if_neg q1] at h ⊢
   rw [if_neg (fun e => by have:=hk c v h; omega)]; exact h
 | succ t =>
  refine LWP_cond (t:=true) (by simp [LArg.ev,get_e0,get_e1]; omega) (fun _ => LWP_skip ?_) (fun h => by cases h)
  obtain ⟨ix,hix⟩ : ∃ i,i = i0 + (3 - (t + 1)):=⟨_,rfl⟩
  have hix' : (i0 : Int) + (3 - ((t + 1 : Nat) : Int)) = (ix : Int):=by omega
  obtain ⟨r',hr'⟩ : ∃ r',r' = xorNext r:=⟨_,rfl⟩
  have hrn : xorNextN r.toNat = r'.toNat:=by rw [hr',xorNext_toNat]
  obtain ⟨ot,hot⟩ : ∃ o,o = r'.toNat &&& (mo - 1):=⟨_,rfl⟩
  have hot1 : ot ≤ mo - 1:=by rw [hot]; exact Nat.and_le_right
  obtain ⟨o2,ho2⟩ : ∃ o,o = if ot ≥ l then ot - l else ot:=⟨_,rfl⟩
  have ho2' : o2 < l:=by rw [ho2]; split <;> omega
  have hst : breakStep a l mo (r,d1) ix = (r',swp d1 ix (a + o2)):=by subst hr' hot ho2; rfl
  simp only [brkN] at h5
  rw [← hix,hst] at h5
  rw [hix']
  have hr2 : r'.toNat < 18446744073709551616:=r'.toNat_lt
  have x1:=binI_andU hr2 (y:=mo - 1) (by omega)
  rw [← hot] at x1
  have wot : IntKind.i64.wrap (ot : Int) = ot:=wrap_nat (by omega)
  refine LWP_seq ?_
  refine LWP_block (LWP_seq (LWP_reg fun K' hK => ?_))
  refine rgnS_callO (nxt_ok L (c:=n) (r:=r.toNat) h3 r.toNat_lt (by simp [get_ins,hbc])) rfl rfl (by simp [gd,get_e0,get_e1,LArg.ev]) ?_
  rw [hrn]
  intro n1 hn1
  simp only at hn1 ⊢
  apply rgnS_pre 99
  ·simp -implicitDefEqProofs [-binI,wmo,x1,wot,binI_sub]; rfl
  refine hK _ ?_; clear hK
  refine LWP_cut (fun q : Nat => ⟨[(0,slA K b m),(1,.int .i64 a),(8,.int .i64 l),(9,.ptr 1 n 0 0),(10,.int .u64 mo),(11,.int .i64 ix),(12,.int .i64 o2)],ins b (.rows K.sz (rws C d1)) (ins n (oneU r'.toNat) H),q⟩) (fun q => n < q) ?_ ?_
  ·have hh : ∀ c v,get (ins b (.rows K.sz (rws C d1)) (ins n (oneU r'.toNat) H)) c = some v → get (ins n (oneU r'.toNat) (ins b (.rows K.sz (rws C d1)) (ins n (oneU r.toNat) H))) c = some v:=fun c v h => by
    simp only [get_ins] at h ⊢
    by_cases q1 : b = c
    ·subst q1; simp only [if_pos,if_neg hbc'] at h ⊢; exact h
    ·simp only [if_neg q1] at h ⊢
     by_cases q2 : n = c
     ·simp only [if_pos q2] at h ⊢; exact h
     ·simp only [if_neg q2] at h ⊢; exact h
   refine LWP_seq ?_
   apply LWP_run
   ·simp -implicitDefEqProofs; rfl
   refine LWP_cond (t:=decide (ot ≥ l)) (by simp [LArg.ev,get_e0,get_e1]) (fun hc => ?_) (fun hc => LWP_skip ?_)
   ·have hc' : ot ≥ l:=by simpa using hc
    rw [if_pos hc'] at ho2
    have w9 : IntKind.i64.wrap ((ot : Int) - l) = o2:=by rw [wrap_i64 (by omega) (by omega)]; omega
    apply LWP_run
    ·simp -implicitDefEqProofs [w9]; rfl
    exact ⟨n1,by omega,.mk' (by simp [leV,get_e0,get_e1,wkV.refl]) hh rfl⟩
   ·have hc' : ¬ ot ≥ l:=by simpa using hc
    rw [if_neg hc'] at ho2
    exact ⟨n1,by omega,.mk' (by simp [leV,get_e0,get_e1,wkV.refl,ho2]) hh rfl⟩
  ·intro ny hny
   have hb2 : ∀ k,b < ny + k:=fun k => by omega
   have hb3 : b < ny:=by omega
   obtain ⟨p,hp⟩ : ∃ p,p = a + o2:=⟨_,rfl⟩
   rw [← hp] at h5
   have w9 : IntKind.i64.wrap ((a : Int) + o2) = p:=by rw [wrap_i64 (by omega) (by omega)]; omega
   have e1 : ix < m:=by omega
   have e2 : p < m:=by omega
   apply LWP_runD
   ·simp -implicitDefEqProofs [Cmp.fn,rws_len,rws_get,C.ld,C.st,C.len,C.sc,get_ins,hb2,hb3,rws_set,setAt_enc,rws_swp,ins_ins,w9,e1,e2,h2]; rfl
   ·simp [AS.fin,delAll,del,Nat.add_assoc]; rfl
   apply LWP_run
   ·simp -implicitDefEqProofs [wrap_succ (n:=ix) (by omega)]; rfl
   refine ⟨(t,(r',swp d1 ix p),ny + 20),⟨by simp only; omega,by simp [swp,h2],?_,?_⟩,by simp only; omega,?_⟩
   ·simp only; omega
   ·simp only
    rw [← h5]
    congr 1
    omega
   ·refine .mk' ?_ (fun _ _ h => h) rfl
    have e7 : (i0 : Int) + (3 - (t : Int)) = (ix : Int) + 1:=by omega
    simp [leV,get_e0,get_e1,wkV.refl,e7]
end
end Go.AM

/- The library's sort, whole. -/
namespace Go.AM
open Go.Sort
attribute [local simp] mm_ oo_ gg_ stepsS stepS gd opEff appEff LArg.ev app_val app_new app_upd app_kill putV ins_e0 ins_e1 get_e0 get_e1 binV binI grd bnd AV.scalar AV.known fillL chunks elems mxI mnI del Nat.add_assoc nlt_self nne_self nne_self' List.take_of_length_le ld1 cells_int setAt_one stepsD stepD ST.as dEffF LOp.cls softOK LOp.args LOp.rds AV.ids appD_val appD_new appD_upd appD_kill AS.flush delAll
section
variable {P : Program} {K : SK} {α : Type} [Inhabited α]
theorem par_size (lt : α → α → Bool) (a b : Nat) : ∀ (s i : Nat) (d : Array α),(partialIns lt a b s i d).1.size = d.size
 | 0,i,d => rfl
 | s + 1,i,d => by
  have h0 : (swp d (scanSorted lt d b i) (scanSorted lt d b i - 1)).size = d.size:=by simp [swp]
  have h1 : ∀ x : Array α,(if scanSorted lt d b i - a ≥ 2 then shiftDown lt (scanSorted lt d b i - 1) x else x).size = x.size:=fun x => by
   split
   ·exact shiftDown_size lt _ _
   ·rfl
  have h2 : ∀ x : Array α,(if b - scanSorted lt d b i ≥ 2 then shiftUp lt b (scanSorted lt d b i + 1) x else x).size = x.size:=fun x => by
   split
   ·exact shiftUp_size lt b _ _ _ (Nat.le_refl _)
   ·rfl
  simp only [partialIns]
  split
  ·rfl
  ·split
   ·rfl
   ·rw [par_size lt a b s,h2,h1,h0]
theorem peq_rng (lt : α → α → Bool) (d : Array α) {a b pivot : Nat} (hap : a ≤ pivot) (hpb : pivot < b) (hb : b ≤ d.size) : a < (partitionEqual lt d a b pivot).1 ∧ (partitionEqual lt d a b pivot).1 ≤ b ∧ (partitionEqual lt d a b pivot).2.size = d.size:=by
 have hb0 : b ≤ (swp d a pivot).size:=by simp [swp,hb]
 obtain ⟨r1,r2,r3,_⟩:=partEqLoop_spec lt a b _ (a + 1) (b - 1) (swp d a pivot) (Nat.le_refl _) (Nat.lt_succ_self a) (by omega) (by omega) hb0 (fun t h1 h2 => by omega) (fun t h1 h2 => by omega)
 exact ⟨r1,r2,by have:=r3.1; rw [show (partitionEqual lt d a b pivot).2 = (partEqLoop lt a (a + 1) (b - 1) (swp d a pivot)).2 from rfl,this]; simp [swp]⟩
theorem pdq_eq {lt : α → α → Bool} {d : Array α} {a b limit : Nat} {wb wp : Bool} (h : ¬ b - a ≤ 12) (h0 : ¬ limit = 0) {d1 d2 : Array α} {lim pv : Nat} {c : Nat × Hint} {hint : Hint} {pi : Array α × Bool} (hd1 : d1 = if !wb then breakPatterns d a b else d) (hl : lim = if !wb then limit - 1 else limit) (hc : c = choosePivot lt d1 a b)
  (hd2 : d2 = if c.2 = .decreasing then reverseRange d1 a b else d1) (hpv : pv = if c.2 = .decreasing then (b - 1) - (c.1 - a) else c.1) (hh : hint = if c.2 = .decreasing then .increasing else c.2) (hpi : pi = if wb && wp && decide (hint = .increasing) then partialInsertionSort lt d2 a b else (d2,false)) :
  pdq lt d a b limit wb wp = if pi.2 then pi.1 else if decide (a > 0) && !lt pi.1[a - 1]! pi.1[pv]! then
   (if _h : a < (partitionEqual lt pi.1 a b pv).1 ∧ (partitionEqual lt pi.1 a b pv).1 ≤ b then pdq lt (partitionEqual lt pi.1 a b pv).2 (partitionEqual lt pi.1 a b pv).1 b lim wb wp else (partitionEqual lt pi.1 a b pv).2)
   else (if _h : a ≤ (partition lt pi.1 a b pv).1 ∧ (partition lt pi.1 a b pv).1 < b then
    (if (partition lt pi.1 a b pv).1 - a < b - (partition lt pi.1 a b pv).1 then pdq lt (pdq lt (partition lt pi.1 a b pv).2.2 a (partition lt pi.1 a b pv).1 lim true true) ((partition lt pi.1 a b pv).1 + 1) b lim (decide ((partition lt pi.1 a b pv).1 - a ≥ (b - a) / 8)) (partition lt pi.1 a b pv).2.1
    else pdq lt (pdq lt (partition lt pi.1 a b pv).2.2 ((partition lt pi.1 a b pv).1 + 1) b lim true true) a (partition lt pi.1 a b pv).1 lim (decide (b - (partition lt pi.1 a b pv).1 ≥ (b - a) / 8)) (partition lt pi.1 a b pv).2.1)
    else (partition lt pi.1 a b pv).2.2):=by
 subst hpi hh hpv hd2 hc hl hd1
 rw [pdq,if_neg h,if_neg h0]
theorem pdq_size (lt : α → α → Bool) (hS : SWO lt) : ∀ (k : Nat) (d : Array α) (a b l : Nat) (wb wp : Bool),b - a ≤ k → a ≤ b → b ≤ d.size → (pdq lt d a b l wb wp).size = d.size:=by
 intro k
 induction k with
 | zero =>
  intro d a b l wb wp h hab hb
  rw [pdq,if_pos (by omega)]
  exact (insertionSort_holds hS d a b hab hb).1.1
 | succ k ih =>
  intro d a b l wb wp h hab hb
  by_cases h12 : b - a ≤ 12
  ·rw [pdq,if_pos h12]; exact (insertionSort_holds hS d a b hab hb).1.1
  by_cases h0 : l = 0
  ·rw [pdq,if_neg h12,if_pos h0]; exact (heapSort_holds hS d a b hab hb).1.1
  obtain ⟨d1,hd1⟩ : ∃ x,x = if !wb then breakPatterns d a b else d:=⟨_,rfl⟩
  obtain ⟨lim,hl⟩ : ∃ x,x = if !wb then l - 1 else l:=⟨_,rfl⟩
  obtain ⟨c,hc⟩ : ∃ x,x = choosePivot lt d1 a b:=⟨_,rfl⟩
  obtain ⟨d2,hd2⟩ : ∃ x,x = if c.2 = .decreasing then reverseRange d1 a b else d1:=⟨_,rfl⟩
  obtain ⟨pv,hpv⟩ : ∃ x,x = if c.2 = .decreasing then (b - 1) - (c.1 - a) else c.1:=⟨_,rfl⟩
  obtain ⟨hint,hh⟩ : ∃ x,x = if c.2 = .decreasing then .increasing else c.2:=⟨_,rfl⟩
  obtain ⟨pi,hpi⟩ : ∃ x,x = if wb && wp && decide (hint = .increasing) then partialInsertionSort lt d2 a b else (d2,false):=⟨_,rfl⟩
  rw [pdq_eq h12 h0 hd1 hl hc hd2 hpv hh hpi]
  have s1 : d1.size = d.size:=by
   rw [hd1]; split
   ·exact (breakPatterns_holds d a b hab hb).1
   ·rfl
  have hc2:=choosePivot_holds lt d1 a b (by omega)
  rw [← hc] at hc2
  have s2 : d2.size = d.size:=by
   rw [hd2]; split
   ·rw [(reverseRange_holds d1 a b hab (by omega)).1,s1]
   ·exact s1
  have hp : a ≤ pv ∧ pv < b:=by rw [hpv]; split <;> omega
  have s3 : pi.1.size = d.size:=by
   rw [hpi]; split
   ·rw [partialInsertionSort,par_size,s2]
   ·exact s2
  obtain ⟨q1,q2,q3⟩:=peq_rng lt pi.1 hp.1 hp.2 (by omega)
  obtain ⟨p1,p2,p3,_⟩:=partition_holds lt hS pi.1 a b pv hp.1 hp.2 (by omega)
  have p4:=p3.1
  rw [dif_pos ⟨q1,q2⟩,dif_pos ⟨p1,p2⟩]
  split
  ·exact s3
  ·split
   ·rw [ih _ _ _ _ _ _ (by omega) q2 (by omega)]; omega
   ·split
    ·have:=ih (partition lt pi.1 a b pv).2.2 a (partition lt pi.1 a b pv).1 lim true true (by omega) p1 (by omega)
     rw [ih _ _ _ _ _ _ (by omega) (by omega) (by omega)]
     omega
    ·have:=ih (partition lt pi.1 a b pv).2.2 ((partition lt pi.1 a b pv).1 + 1) b lim true true (by omega) (by omega) (by omega)
     rw [ih _ _ _ _ _ _ (by omega) p1 (by omega)]
     omega
end
end Go.AM

/- The library's sort: pdqsort's walk, and SortFunc. -/
namespace Go.AM
open Go.Sort
attribute [local simp] mm_ oo_ gg_ stepsS stepS gd opEff appEff LArg.ev app_val app_new app_upd app_kill putV ins_e0 ins_e1 get_e0 get_e1 binV binI grd bnd AV.scalar AV.known fillL chunks elems mxI mnI del Nat.add_assoc nlt_self nne_self nne_self' List.take_of_length_le ld1 cells_int setAt_one stepsD stepD ST.as dEffF LOp.cls softOK LOp.args LOp.rds AV.ids appD_val appD_new appD_upd appD_kill AS.flush delAll
section
variable {P : Program} {K : SK} {α : Type} [Inhabited α]
theorem hint_eq (h : Hint) (k : Hint) : (hintI h == hintI k) = decide (h = k):=by cases h <;> cases k <;> decide
set_option maxHeartbeats 8000000 in
theorem pdq_ok (L : Lays P K) (C : Cmp P K α) (hS : SWO C.lt) : ∀ (k : Nat) {H : Heap} {n b m : Nat} {d : Array α} (_ : d.size = m) (_ : m < 65536) (a e lim : Nat) (_ : e ≤ m) (_ : a ≤ e) (_ : e - a ≤ k) (_ : lim < 100) (_ : get H b = some (.rows K.sz (rws C d))),
  ACalls P K.pdq [slA K b m,.int .i64 a,.int .i64 e,.int .i64 lim,C.fn] H n (postO n (.tup []) (ins b (.rows K.sz (rws C (pdq C.lt d a e lim true true))) H)):=by
 intro k
 induction k using Nat.strongRecOn with
 | _ k ih =>
 intro H n b m d hm hd a0 e0 lim0 he0 hae0 hk0 hlim0 hb
 refine own_body L.pdq rfl ?_
 simp only [parV,cPdq]
 refine LWP_keys fun hk => ?_
 simp only at hk
 have hbn : b < n:=hk _ _ hb
 obtain ⟨R,hR⟩ : ∃ R,R = pdq C.lt d a0 e0 lim0 true true:=⟨_,rfl⟩
 rw [← hR]
 refine LWP_seq ?_
 apply LWP_run
 ·simp -implicitDefEqProofs; rfl
 refine LWP_seq ?_
 apply LWP_run
 ·simp -implicitDefEqProofs; rfl
 refine LWP_block (LWP_inv (fun q : (Nat × Nat × Nat) × (Bool × Bool) × Array α × Nat => ⟨[(0,slA K b m),(1,.int .i64 q.1.1),(2,.int .i64 q.1.2.1),(3,.int .i64 q.1.2.2),(4,C.fn),(10,.bool q.2.1.1),(11,.bool q.2.1.2)],ins b (.rows K.sz (rws C q.2.2.1)) H,q.2.2.2⟩) (fun q => q.1.2.1 - q.1.1)
  (fun q => q.1.1 ≤ q.1.2.1 ∧ q.1.2.1 ≤ m ∧ q.1.2.1 - q.1.1 ≤ k ∧ q.1.2.2 < 100 ∧ q.2.2.1.size = m ∧ n ≤ q.2.2.2 ∧ pdq C.lt q.2.2.1 q.1.1 q.1.2.1 q.1.2.2 q.2.1.1 q.2.1.2 = R) ((a0,e0,lim0),(true,true),d,n) ?_ ⟨hae0,he0,hk0,hlim0,hm,Nat.le_refl _,hR.symm⟩ ?_)
 ·refine .mk' ?_ (fun c v h => get_ins_same hb h) (by simp)
  simp [leV,get_e0,get_e1,wkV.refl,Cmp.fn]
 clear hm hR hb d hk0 hae0 he0 hlim0
 rintro ⟨⟨a,e,lim⟩,⟨wb,wp⟩,d,nx⟩ ⟨hae,he,hek,hlim,hm,hnx,h6⟩
 simp only at hae he hek hlim hm hnx h6 ⊢
 have hbx : b < nx:=by omega
 have hb : get (ins b (.rows K.sz (rws C d)) H) b = some (.rows K.sz (rws C d)):=by simp [get_ins]
 obtain ⟨l,hl⟩ : ∃ l,l = e - a:=⟨_,rfl⟩
 have w0 : IntKind.i64.wrap ((e : Int) - a) = (l : Int):=by rw [wrap_i64 (by omega) (by omega)]; omega
 refine LWP_block (LWP_seq ?_)
 apply LWP_run
 ·simp -implicitDefEqProofs [w0]; rfl
 refine LWP_seq (LWP_seq ?_)
 apply LWP_run
 ·simp -implicitDefEqProofs; rfl
 refine LWP_cond (t:=decide (l ≤ 12)) (by simp [LArg.ev,get_e0,get_e1]; omega) (fun hc => ?_) (fun hc => LWP_skip ?_)
 ·have hc' : e - a ≤ 12:=by simp at hc; omega
  refine LWP_seq (LWP_reg fun K' hK => ?_)
  apply rgnS_pre 4
  ·simp -implicitDefEqProofs; rfl
  refine rgnS_callO (ins_ok L C hbx hm (by omega) a e he hae hb) rfl rfl (by simp [gd,get_e0,get_e1,LArg.ev]) ?_
  intro n1 hn1
  simp only [ins_ins] at hn1 ⊢
  apply rgnS_pre 99
  ·simp -implicitDefEqProofs; rfl
  refine hK _ ?_; clear hK
  refine LWP_ret ?_
  show retO [] n (.tup []) _ Exit.ret _
  rw [← h6,pdq,if_pos hc']
  exact ⟨by simp only; omega,⟨_,rfl,wkV.refl _⟩,fun c v h => h⟩
 have h12 : ¬ e - a ≤ 12:=by simp at hc; omega
 refine LWP_seq (LWP_seq ?_)
 by_cases h0 : lim = 0
 ·apply LWP_run
  ·simp -implicitDefEqProofs [h0]; rfl
  refine LWP_cond (t:=true) (by simp [LArg.ev,get_e0,get_e1]) (fun _ => ?_) (fun h => by cases h)
  refine LWP_seq (LWP_reg fun K' hK => ?_)
  apply rgnS_pre 4
  ·simp -implicitDefEqProofs; rfl
  refine rgnS_callO (heap_ok L C hbx hm (by omega) a e he (by omega) hb) rfl rfl (by simp [gd,get_e0,get_e1,LArg.ev]) ?_
  intro n1 hn1
  simp only [ins_ins] at hn1 ⊢
  apply rgnS_pre 99
  ·simp -implicitDefEqProofs; rfl
  refine hK _ ?_; clear hK
  refine LWP_ret ?_
  show retO [] n (.tup []) _ Exit.ret _
  rw [← h6,pdq,if_neg h12,if_pos h0]
  exact ⟨by simp only; omega,⟨_,rfl,wkV.refl _⟩,fun c v h => h⟩
 have h0' : ((lim : Int) == 0) = false:=beq_false_of_ne (by omega)
 apply LWP_run
 ·simp -implicitDefEqProofs [h0']; rfl
 refine LWP_cond (t:=false) (by simp [LArg.ev,get_e0,get_e1]) (fun h => by cases h) (fun _ => LWP_skip ?_)
 obtain ⟨d1,hd1⟩ : ∃ x,x = if !wb then breakPatterns d a e else d:=⟨_,rfl⟩
 obtain ⟨lm,hlm⟩ : ∃ x,x = if !wb then lim - 1 else lim:=⟨_,rfl⟩
 obtain ⟨c,hcc⟩ : ∃ x,x = choosePivot C.lt d1 a e:=⟨_,rfl⟩
 obtain ⟨d2,hd2⟩ : ∃ x,x = if c.2 = .decreasing then reverseRange d1 a e else d1:=⟨_,rfl⟩
 obtain ⟨pv,hpv⟩ : ∃ x,x = if c.2 = .decreasing then (e - 1) - (c.1 - a) else c.1:=⟨_,rfl⟩
 obtain ⟨hint,hh⟩ : ∃ x,x = if c.2 = .decreasing then .increasing else c.2:=⟨_,rfl⟩
 obtain ⟨pi,hpi⟩ : ∃ x,x = if wb && wp && decide (hint = .increasing) then partialInsertionSort C.lt d2 a e else (d2,false):=⟨_,rfl⟩
 rw [pdq_eq h12 h0 hd1 hlm hcc hd2 hpv hh hpi] at h6
 have s1 : d1.size = m:=by
  rw [hd1]; split
  ·rw [(breakPatterns_holds d a e hae (by omega)).1,hm]
  ·exact hm
 have hc2:=choosePivot_holds C.lt d1 a e (by omega)
 rw [← hcc] at hc2
 have s2 : d2.size = m:=by
  rw [hd2]; split
  ·rw [(reverseRange_holds d1 a e hae (by omega)).1,s1]
  ·exact s1
 have hp : a ≤ pv ∧ pv < e:=by rw [hpv]; split <;> omega
 have s3 : pi.1.size = m:=by
  rw [hpi]; split
  ·rw [partialInsertionSort,par_size,s2]
  ·exact s2
 obtain ⟨q1,q2,q3⟩:=peq_rng C.lt pi.1 hp.1 hp.2 (by omega)
 obtain ⟨p1,p2,p3,_⟩:=partition_holds C.lt hS pi.1 a e pv hp.1 hp.2 (by omega)
 have p4:=p3.1
 rw [dif_pos ⟨q1,q2⟩,dif_pos ⟨p1,p2⟩] at h6
 have hlm2 : lm < 100:=by rw [hlm]; split <;> omega
 refine LWP_cut (fun q : Nat => ⟨[(0,slA K b m),(1,.int .i64 a),(2,.int .i64 e),(3,.int .i64 lm),(4,C.fn),(10,.bool wb),(11,.bool wp),(12,.int .i64 l)],ins b (.rows K.sz (rws C d1)) H,q⟩) (fun q => n ≤ q) ?_ ?_
 ·clear h6 p3
  refine LWP_seq ?_
  apply LWP_run
  ·simp -implicitDefEqProofs; rfl
  refine LWP_cond (t:=!wb) (by simp [LArg.ev,get_e0,get_e1]) (fun hc => ?_) (fun hc => LWP_skip ?_)
  ·have hc' : wb = false:=by simpa using hc
   subst hc'
   simp at hd1 hlm
   subst hd1 hlm
   refine LWP_seq (LWP_reg fun K' hK => ?_)
   apply rgnS_pre 4
   ·simp -implicitDefEqProofs; rfl
   refine rgnS_callO (brk_ok L C hm hd a e he (by omega) hb) rfl rfl (by simp [gd,get_e0,get_e1,LArg.ev]) ?_
   intro n1 hn1
   simp only [ins_ins] at hn1 ⊢
   apply rgnS_pre 99
   ·simp -implicitDefEqProofs; rfl
   refine hK _ ?_; clear hK
   have w1 : IntKind.i64.wrap ((lim : Int) - 1) = ((lim - 1 : Nat) : Int):=by rw [wrap_i64 (by omega) (by omega)]; omega
   apply LWP_run
   ·simp -implicitDefEqProofs [w1]; rfl
   exact ⟨n1,by omega,.mk' (by simp [leV,get_e0,get_e1,wkV.refl,Cmp.fn]) (fun _ _ h => h) rfl⟩
  ·have hc' : wb = true:=by simpa using hc
   subst hc'
   simp at hd1 hlm
   subst hd1 hlm
   exact ⟨nx,by omega,.mk' (by simp [leV,get_e0,get_e1,wkV.refl,Cmp.fn]) (fun _ _ h => h) rfl⟩
 intro ny hny
 have hb1 : get (ins b (.rows K.sz (rws C d1)) H) b = some (.rows K.sz (rws C d1)):=by simp [get_ins]
 refine LWP_seq (LWP_reg fun K' hK => ?_)
 apply rgnS_pre 4
 ·simp -implicitDefEqProofs; rfl
 refine rgnS_callO (piv_ok L C s1 (by omega) a e he (by omega) hb1) rfl rfl (by simp [gd,get_e0,get_e1,LArg.ev]) ?_
 rw [← hcc]
 intro n1 hn1
 simp only at hn1 ⊢
 apply rgnS_pre 99
 ·simp -implicitDefEqProofs; rfl
 refine hK _ ?_; clear hK
 refine LWP_cut (fun q : Nat => ⟨[(0,slA K b m),(1,.int .i64 a),(2,.int .i64 e),(3,.int .i64 lm),(4,C.fn),(10,.bool wb),(11,.bool wp),(12,.int .i64 l),(13,.int .i64 pv),(14,.int .i64 (hintI hint))],ins b (.rows K.sz (rws C d2)) H,q⟩) (fun q => n ≤ q) ?_ ?_
 ·clear h6 p3
  refine LWP_seq ?_
  have e1 : (hintI c.2 == 2) = decide (c.2 = .decreasing):=hint_eq c.2 .decreasing
  apply LWP_run
  ·simp -implicitDefEqProofs [e1]; rfl
  refine LWP_cond (t:=decide (c.2 = .decreasing)) (by simp [LArg.ev,get_e0,get_e1]) (fun hc => ?_) (fun hc => LWP_skip ?_)
  ·have hc' : c.2 = .decreasing:=by simpa using hc
   rw [if_pos hc'] at hd2 hpv hh
   refine LWP_seq (LWP_reg fun K' hK => ?_)
   apply rgnS_pre 4
   ·simp -implicitDefEqProofs; rfl
   refine rgnS_callO (rev_ok L C (by simp only; omega) s1 (by omega) a e he (by omega) hb1) rfl rfl (by simp [gd,get_e0,get_e1,LArg.ev]) ?_
   rw [← hd2]
   intro n2 hn2
   simp only [ins_ins] at hn2 ⊢
   apply rgnS_pre 99
   ·simp -implicitDefEqProofs; rfl
   refine hK _ ?_; clear hK
   have w1 : IntKind.i64.wrap ((e : Int) - 1) = (e : Int) - 1:=by rw [wrap_i64 (by omega) (by omega)]
   have w2 : IntKind.i64.wrap ((c.1 : Int) - a) = (c.1 : Int) - a:=by rw [wrap_i64 (by omega) (by omega)]
   have w3 : IntKind.i64.wrap ((e : Int) - 1 - ((c.1 : Int) - a)) = (pv : Int):=by rw [wrap_i64 (by omega) (by omega)]; omega
   refine LWP_seq ?_
   apply LWP_run
   ·simp -implicitDefEqProofs [w1,w2,w3]; rfl
   apply LWP_run
   ·simp -implicitDefEqProofs; rfl
   exact ⟨n2,by omega,.mk' (by simp [leV,get_e0,get_e1,wkV.refl,Cmp.fn,hh,hintI]) (fun _ _ h => h) rfl⟩
  ·have hc' : ¬ c.2 = .decreasing:=by simpa using hc
   rw [if_neg hc'] at hd2 hpv hh
   exact ⟨n1,by omega,.mk' (by simp [leV,get_e0,get_e1,wkV.refl,Cmp.fn,hh,hpv]) (fun _ _ h => by rw [hd2] at h; exact h) rfl⟩
 intro nz hnz
 have hb2' : get (ins b (.rows K.sz (rws C d2)) H) b = some (.rows K.sz (rws C d2)):=by simp [get_ins]
 refine LWP_cut (fun q : Nat => ⟨[(0,slA K b m),(1,.int .i64 a),(2,.int .i64 e),(3,.int .i64 lm),(4,C.fn),(10,.bool wb),(11,.bool wp),(12,.int .i64 l),(13,.int .i64 pv)],ins b (.rows K.sz (rws C pi.1)) H,q⟩) (fun q => n ≤ q ∧ pi.2 = false) ?_ ?_
 ·clear p3
  refine LWP_seq ?_
  have e1 : (hintI hint == 1) = decide (hint = .increasing):=hint_eq hint .increasing
  cases wb with
  | false =>
   apply LWP_run
   ·simp -implicitDefEqProofs; rfl
   refine LWP_cond (t:=false) (by simp [LArg.ev,get_e0,get_e1]) (fun h => by cases h) (fun _ => LWP_skip ?_)
   simp at hpi
   exact ⟨nz,⟨hnz,by rw [hpi]⟩,.mk' (by simp [leV,get_e0,get_e1,wkV.refl,Cmp.fn]) (fun _ _ h => by rw [hpi] at h; exact h) rfl⟩
  | true =>
   cases wp with
   | false =>
    apply LWP_run
    ·simp -implicitDefEqProofs; rfl
    refine LWP_cond (t:=false) (by simp [LArg.ev,get_e0,get_e1]) (fun h => by cases h) (fun _ => LWP_skip ?_)
    simp at hpi
    exact ⟨nz,⟨hnz,by rw [hpi]⟩,.mk' (by simp [leV,get_e0,get_e1,wkV.refl,Cmp.fn]) (fun _ _ h => by rw [hpi] at h; exact h) rfl⟩
   | true =>
    apply LWP_run
    ·simp -implicitDefEqProofs [e1]; rfl
    refine LWP_cond (t:=decide (hint = .increasing)) (by simp [LArg.ev,get_e0,get_e1]) (fun hc => ?_) (fun hc => LWP_skip ?_)
    ·have hc' : hint = .increasing:=by simpa using hc
     simp [hc'] at hpi
     refine LWP_seq (LWP_reg fun K' hK => ?_)
     apply rgnS_pre 4
     ·simp -implicitDefEqProofs; rfl
     refine rgnS_callO (par_ok L C (by simp only; omega) s2 (by omega) a e he (by omega) hb2') rfl rfl (by simp [gd,get_e0,get_e1,LArg.ev]) ?_
     rw [← hpi]
     intro n2 hn2
     simp only [ins_ins] at hn2 ⊢
     apply rgnS_pre 99
     ·simp -implicitDefEqProofs; rfl
     refine hK _ ?_; clear hK
     refine LWP_cond (t:=pi.2) (by simp [LArg.ev,get_e0,get_e1]) (fun hc => ?_) (fun hc => LWP_skip ?_)
     ·refine LWP_ret ?_
      show retO [] n (.tup []) _ Exit.ret _
      rw [if_pos hc] at h6
      rw [← h6]
      exact ⟨by simp only; omega,⟨_,rfl,wkV.refl _⟩,fun c v h => h⟩
     ·exact ⟨n2,⟨by omega,hc⟩,.mk' (by simp [leV,get_e0,get_e1,wkV.refl,Cmp.fn]) (fun _ _ h => h) rfl⟩
    ·have hc' : ¬ hint = .increasing:=by simpa using hc
     simp [hc'] at hpi
     exact ⟨nz,⟨hnz,by rw [hpi]⟩,.mk' (by simp [leV,get_e0,get_e1,wkV.refl,Cmp.fn]) (fun _ _ h => by rw [hpi] at h; exact h) rfl⟩
 rintro no ⟨hno,hpi2⟩
 rw [hpi2] at h6
 simp only [Bool.false_eq_true,if_false] at h6
 clear hpi hh hpv hd2 hcc hlm hd1
 obtain ⟨d3,hd3⟩ : ∃ x,x = pi.1:=⟨_,rfl⟩
 rw [← hd3] at h6 s3 q1 q2 q3 p1 p2 p4 ⊢
 clear hd3 hpi2 p3
 have hb2 : ∀ k,b < no + k:=fun k => by omega
 have hb3 : b < no:=by omega
 have hb4 : get (ins b (.rows K.sz (rws C d3)) H) b = some (.rows K.sz (rws C d3)):=by simp [get_ins]
 refine LWP_cut (fun q : Nat => ⟨[(0,slA K b m),(1,.int .i64 a),(2,.int .i64 e),(3,.int .i64 lm),(4,C.fn),(10,.bool wb),(11,.bool wp),(12,.int .i64 l),(13,.int .i64 pv)],ins b (.rows K.sz (rws C d3)) H,q⟩) (fun q => n ≤ q ∧ (decide (a > 0) && !C.lt d3[a - 1]! d3[pv]!) = false) ?_ ?_
 ·refine LWP_seq ?_
  by_cases ha : 0 < a
  ·obtain ⟨p,hpp⟩ : ∃ p,p = a - 1:=⟨_,rfl⟩
   have w1 : IntKind.i64.wrap ((a : Int) - 1) = (p : Int):=by rw [wrap_i64 (by omega) (by omega)]; omega
   have e1 : p < m:=by omega
   have e2 : pv < m:=by omega
   refine LWP_regD' fun K' hK => ?_
   apply rgnD_pre 13
   ·simp -implicitDefEqProofs [Cmp.fn,rws_len,rws_get,C.ld,C.st,C.len,C.sc,get_ins,hb2,hb3,rws_set,setAt_enc,rws_swp,ins_ins,ha,w1,e1,e2,s3]; rfl
   refine rgnD_call (C.call (el d3 p) (el d3 pv)) rfl rfl (by simp [pureL,AV.pure,pureL_append,C.pv,C.pf,C.pc]) (by simp [AV.pure,pureL_append,C.pv,C.pf,C.pc]) (by simp [gd,get_e0,get_e1,LArg.ev]) (by simp [get]) ?_
   apply rgnD_pre 99
   ·simp -implicitDefEqProofs; rfl
   refine hK _ _ (by simp [AS.fin,delAll,del,Nat.add_assoc]; rfl) ?_; clear hK
   have hlt : decide (C.c (el d3 p) (el d3 pv) < 0) = C.lt d3[p]! d3[pv]!:=rfl
   rw [← hpp] at h6 ⊢
   cases ht : C.lt d3[p]! d3[pv]! with
   | true =>
    rw [ht] at hlt
    refine LWP_cond (t:=false) (by simp [LArg.ev,get_e0,get_e1,hlt]) (fun h => by cases h) (fun _ => LWP_skip ?_)
    refine ⟨_,⟨?_,by simp⟩,.mk' (by simp [leV,get_e0,get_e1,wkV.refl,Cmp.fn]) (fun _ _ h => h) rfl⟩
    omega
   | false =>
    rw [ht] at hlt
    refine LWP_cond (t:=true) (by simp [LArg.ev,get_e0,get_e1,hlt]) (fun _ => ?_) (fun h => by cases h)
    rw [ht,if_pos (by simp [ha])] at h6
    refine LWP_seq (LWP_reg fun K' hK => ?_)
    apply rgnS_pre 5
    ·simp -implicitDefEqProofs; rfl
    refine rgnS_callO (peq_ok L C (by simp only; omega) s3 (by omega) a e pv he hp.1 hp.2 hb4) rfl rfl (by simp [gd,get_e0,get_e1,LArg.ev]) ?_
    intro n2 hn2
    simp only [ins_ins] at hn2 ⊢
    apply rgnS_pre 99
    ·simp -implicitDefEqProofs; rfl
    refine hK _ ?_; clear hK
    refine LWP_seq ?_
    apply LWP_run
    ·simp -implicitDefEqProofs; rfl
    refine LWP_exit ?_
    refine ⟨(((partitionEqual C.lt d3 a e pv).1,e,lm),(wb,wp),(partitionEqual C.lt d3 a e pv).2,n2),⟨q2,he,by simp only; omega,hlm2,by simp only; omega,by simp only; omega,h6⟩,by simp only; omega,.mk' (by simp [leV,get_e0,get_e1,wkV.refl,Cmp.fn]) (fun _ _ h => h) rfl⟩
  ·have ha0 : a = 0:=by omega
   apply LWP_runD
   ·simp -implicitDefEqProofs [ha0]; rfl
   ·simp [AS.fin,delAll,del,Nat.add_assoc]; rfl
   refine LWP_cond (t:=false) (by simp [LArg.ev,get_e0,get_e1]) (fun h => by cases h) (fun _ => LWP_skip ?_)
   refine ⟨_,⟨?_,by simp [ha0]⟩,.mk' (by simp [leV,get_e0,get_e1,wkV.refl,Cmp.fn,ha0]) (fun _ _ h => h) rfl⟩
   omega
 rintro np ⟨hnp,hx⟩
 rw [hx] at h6
 simp only [Bool.false_eq_true,if_false] at h6
 obtain ⟨pr,hpr⟩ : ∃ x,x = partition C.lt d3 a e pv:=⟨_,rfl⟩
 rw [← hpr] at h6 p1 p2 p4
 refine LWP_seq (LWP_reg fun K' hK => ?_)
 apply rgnS_pre 5
 ·simp -implicitDefEqProofs; rfl
 refine rgnS_callO (prt_ok L C (by simp only; omega) s3 (by omega) a e pv he hp.1 hp.2 hb4) rfl rfl (by simp [gd,get_e0,get_e1,LArg.ev]) ?_
 rw [← hpr]
 intro n2 hn2
 simp only [ins_ins] at hn2 ⊢
 apply rgnS_pre 99
 ·simp -implicitDefEqProofs; rfl
 refine hK _ ?_; clear hK
 obtain ⟨mid,ap,d4⟩:=pr
 simp only at h6 p1 p2 p4 ⊢
 have hs4 : d4.size = m:=by omega
 have w1 : IntKind.i64.wrap ((mid : Int) - a) = ((mid - a : Nat) : Int):=by rw [wrap_i64 (by omega) (by omega)]; omega
 have w2 : IntKind.i64.wrap ((e : Int) - mid) = ((e - mid : Nat) : Int):=by rw [wrap_i64 (by omega) (by omega)]; omega
 obtain ⟨ll,hll⟩ : ∃ x,x = mid - a:=⟨_,rfl⟩
 obtain ⟨rr,hrr⟩ : ∃ x,x = e - mid:=⟨_,rfl⟩
 rw [← hll] at w1 h6
 rw [← hrr] at w2 h6
 have w3 : IntKind.i64.wrap (Int.tdiv (l : Int) 8) = ((l / 8 : Nat) : Int):=by
  rw [show Int.tdiv (l : Int) 8 = ((l / 8 : Nat) : Int) from rfl]; exact wrap_nat (by omega)
 have w3' : IntKind.i64.wrap ((l : Int) / 8) = ((l / 8 : Nat) : Int):=by rw [wrap_i64 (by omega) (by omega)]; omega
 obtain ⟨bl,hbl⟩ : ∃ x,x = l / 8:=⟨_,rfl⟩
 rw [← hbl] at w3 w3'
 rw [← hl,← hbl] at h6
 have w4 : IntKind.i64.wrap ((mid : Int) + 1) = ((mid + 1 : Nat) : Int):=wrap_succ (by omega)
 obtain ⟨md,hmd⟩ : ∃ x,x = mid + 1:=⟨_,rfl⟩
 rw [← hmd] at w4 h6
 have hb5 : get (ins b (.rows K.sz (rws C d4)) H) b = some (.rows K.sz (rws C d4)):=by simp [get_ins]
 refine LWP_seq ?_
 apply LWP_run
 ·simp -implicitDefEqProofs; rfl
 refine LWP_seq ?_
 apply LWP_run
 ·simp -implicitDefEqProofs [w1,w2]; rfl
 refine LWP_seq ?_
 apply LWP_run
 ·simp -implicitDefEqProofs [w3,w3']; rfl
 refine LWP_seq ?_
 apply LWP_run
 ·simp -implicitDefEqProofs; rfl
 refine LWP_cond (t:=decide (ll < rr)) (by simp [LArg.ev,get_e0,get_e1]) (fun hc => ?_) (fun hc => ?_)
 ·have hc' : ll < rr:=by simpa using hc
  rw [if_pos hc'] at h6
  refine LWP_seq ?_
  apply LWP_run
  ·simp -implicitDefEqProofs; rfl
  refine LWP_seq (LWP_reg fun K' hK => ?_)
  apply rgnS_pre 5
  ·simp -implicitDefEqProofs; rfl
  refine rgnS_callO (ih (mid - a) (by omega) hs4 hd a mid lm (by omega) p1 (Nat.le_refl _) hlm2 hb5) rfl rfl (by simp [gd,get_e0,get_e1,LArg.ev]) ?_
  intro n3 hn3
  simp only [ins_ins] at hn3 ⊢
  apply rgnS_pre 99
  ·simp -implicitDefEqProofs; rfl
  refine hK _ ?_; clear hK
  apply LWP_run
  ·simp -implicitDefEqProofs [w4]; rfl
  refine ⟨((md,e,lm),(decide (ll ≥ bl),ap),pdq C.lt d4 a mid lm true true,n3),⟨by simp only; omega,he,by simp only; omega,hlm2,?_,by simp only; omega,h6⟩,by simp only; omega,.mk' (by simp [leV,get_e0,get_e1,wkV.refl,Cmp.fn]) (fun _ _ h => h) rfl⟩
  simp only
  rw [pdq_size C.lt hS _ _ _ _ _ _ _ (Nat.le_refl _) p1 (by omega),hs4]
 ·have hc' : ¬ ll < rr:=by simpa using hc
  rw [if_neg hc'] at h6
  refine LWP_seq ?_
  apply LWP_run
  ·simp -implicitDefEqProofs; rfl
  refine LWP_seq (LWP_reg fun K' hK => ?_)
  apply rgnS_pre 6
  ·simp -implicitDefEqProofs [w4]; rfl
  refine rgnS_callO (ih (e - md) (by omega) hs4 hd md e lm (by omega) (by omega) (Nat.le_refl _) hlm2 hb5) rfl rfl (by simp [gd,get_e0,get_e1,LArg.ev]) ?_
  intro n3 hn3
  simp only [ins_ins] at hn3 ⊢
  apply rgnS_pre 99
  ·simp -implicitDefEqProofs; rfl
  refine hK _ ?_; clear hK
  apply LWP_run
  ·simp -implicitDefEqProofs; rfl
  refine ⟨((a,mid,lm),(decide (rr ≥ bl),ap),pdq C.lt d4 md e lm true true,n3),⟨by simp only; omega,by simp only; omega,by simp only; omega,hlm2,?_,by simp only; omega,h6⟩,by simp only; omega,.mk' (by simp [leV,get_e0,get_e1,wkV.refl,Cmp.fn]) (fun _ _ h => h) rfl⟩
  simp only
  rw [pdq_size C.lt hS _ _ _ _ _ _ _ (Nat.le_refl _) (by omega) (by omega),hs4]
theorem srt_ok (L : Lays P K) (C : Cmp P K α) (hS : SWO C.lt) {H : Heap} {n b m : Nat} {d : Array α} (hm : d.size = m) (hd : m < 65536) (hb : get H b = some (.rows K.sz (rws C d))) :
  ACalls P K.srt [slA K b m,C.fn] H n (postO n (.tup []) (ins b (.rows K.sz (rws C (Go.Sort.sort C.lt d))) H)):=by
 refine own_body L.srt rfl ?_
 simp only [parV,cSrt]
 refine LWP_seq ?_
 apply LWP_run
 ·simp -implicitDefEqProofs; rfl
 have w1 : IntKind.u64.wrap (m : Int) = m:=by rw [wrapU]; omega
 have hl : bitsLen m ≤ 16:=(bitsLen_le_iff m 16).2 (by omega)
 refine LWP_reg fun K' hK => ?_
 apply rgnS_pre 4
 ·simp -implicitDefEqProofs [w1]; rfl
 refine rgnS_call (len_ok L m hd) rfl rfl (by simp [pureL,AV.pure]) (by simp [AV.pure]) (by simp [gd,get_e0,get_e1,LArg.ev]) ?_
 apply rgnS_pre 1
 ·simp -implicitDefEqProofs; rfl
 refine rgnS_callO (pdq_ok L C hS m hm hd 0 m (bitsLen m) (Nat.le_refl _) (Nat.zero_le _) (by omega) (by omega) hb) rfl rfl (by simp [gd,get_e0,get_e1,LArg.ev]) ?_
 intro n1 hn1
 simp only at hn1 ⊢
 apply rgnS_pre 99
 ·simp -implicitDefEqProofs; rfl
 refine hK _ ?_; clear hK
 show retO [] n (.tup []) _ Exit.normal _
 refine ⟨by simp only; omega,⟨_,rfl,wkV.refl _⟩,fun c v h => ?_⟩
 rw [Go.Sort.sort,hm] at h
 exact h
end
end Go.AM
