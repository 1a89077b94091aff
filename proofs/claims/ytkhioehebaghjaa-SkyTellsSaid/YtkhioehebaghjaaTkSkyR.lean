/- A part of a proof about the given program: what its name says. No premise beyond the statements'. -/
import Derived.Test.YtkhioehebaghjaaTkSkyL
set_option linter.unusedSimpArgs false
set_option linter.unusedVariables false
/- What the skyline of steps says: at each place the greatest height; two skylines that say the same are the same. -/
namespace Go.AM.Sk
open Go.AM
open Go.AM.SkyP
theorem sort_list {α : Type} [Inhabited α] {lt : α → α → Bool} (h : Go.Sort.SWO lt) (xs : List α) : ((Go.Sort.sort lt xs.toArray).toList).Perm xs ∧ ∀ (i j : Nat) (hi : i < (Go.Sort.sort lt xs.toArray).toList.length) (hj : j < (Go.Sort.sort lt xs.toArray).toList.length),i < j → lt ((Go.Sort.sort lt xs.toArray).toList[j]) ((Go.Sort.sort lt xs.toArray).toList[i]) = false:=by
  obtain ⟨⟨h1,h2,h3⟩,h4⟩:=Go.Sort.sort_sorts lt h xs.toArray
  generalize Go.Sort.sort lt xs.toArray = s at *
  refine ⟨?_,fun i j hi hj hij => ?_⟩
  · have e1 : (s.extract 0 xs.toArray.size).toList = s.toList:=by rw [← h1]; simp
    have e2 : (xs.toArray.extract 0 xs.toArray.size).toList = xs:=by simp
    rw [e1,e2] at h3
    exact h3
  · have hj' : j < xs.toArray.size:=by rw [← h1]; simpa using hj
    have:=h4 i j (Nat.zero_le _) hij hj'
    have hi2 : i < s.size:=by simpa using hi
    have hj2 : j < s.size:=by simpa using hj
    rw [getElem!_pos s j hj2,getElem!_pos s i hi2] at this
    simpa using this
theorem dedN_spec {s : List Int} (hs : ∀ (i j : Nat) (hi : i < s.length) (hj : j < s.length),i ≤ j → s[i] ≤ s[j]) : ∀ j,j ≤ s.length → (dedN s j).Pairwise (· < ·) ∧ ∀ y,y ∈ dedN s j ↔ ∃ (i : Nat) (h : i < s.length),i < j ∧ s[i] = y
  | 0,_ => ⟨by simp [dedN],fun y => by simp [dedN]⟩
  | j + 1,hj => by
    obtain ⟨h1,h2⟩:=dedN_spec hs j (by omega)
    have hjl : j < s.length:=by omega
    by_cases hc : 0 < j ∧ s[j] = s[j - 1]'(by omega)
    · rw [dedN_eq hjl hc.1 hc.2]
      refine ⟨h1,fun y => ?_⟩
      rw [h2 y]
      constructor
      · rintro ⟨i,hi,h3,h4⟩; exact ⟨i,hi,by omega,h4⟩
      · rintro ⟨i,hi,h3,h4⟩
        by_cases e : i = j
        · subst e
          exact ⟨i - 1,by omega,by omega,by rw [← h4,hc.2]⟩
        · exact ⟨i,hi,by omega,h4⟩
    · have hne : j = 0 ∨ ∃ (h0 : 0 < j),s[j] ≠ s[j - 1]'(by omega):=by
        rcases Nat.eq_zero_or_pos j with e | e
        · exact .inl e
        · exact .inr ⟨e,fun q => hc ⟨e,q⟩⟩
      rw [dedN_ne hjl hne]
      refine ⟨List.pairwise_append.2 ⟨h1,by simp,fun a ha b hb => ?_⟩,fun y => ?_⟩
      · simp only [List.mem_singleton] at hb
        subst hb
        obtain ⟨i,hi,h3,h4⟩:=(h2 a).1 ha
        rcases hne with e | ⟨e,hne⟩
        · omega
        · have k1:=hs i (j - 1) hi (by omega) (by omega)
          have k2:=hs (j - 1) j (by omega) hjl (by omega)
          omega
      · rw [List.mem_append,h2 y,List.mem_singleton]
        constructor
        · rintro (⟨i,hi,h3,h4⟩ | h)
          · exact ⟨i,hi,by omega,h4⟩
          · exact ⟨j,hjl,by omega,h.symm⟩
        · rintro ⟨i,hi,h3,h4⟩
          by_cases e : i = j
          · subst e; exact .inr h4.symm
          · exact .inl ⟨i,hi,by omega,h4⟩
noncomputable def edgS (l : List St) : List Int:=dedN (Go.Sort.sort cmpIs.lt (edgesL l).toArray).toList (2 * l.length)
noncomputable def ordS (l : List St) : List St:=(Go.Sort.sort cmpSt.lt l.toArray).toList
noncomputable def lineS (l : List St) : List St:=if l = [] then [] else lineL mxS (edgS l) [] (ordS l) []
theorem edgS_spec (l : List St) : (edgS l).Pairwise (· < ·) ∧ ∀ y,y ∈ edgS l ↔ y ∈ edgesL l:=by
  obtain ⟨h1,h2⟩:=sort_list swoI (edgesL l)
  have hlen : (Go.Sort.sort cmpIs.lt (edgesL l).toArray).toList.length = 2 * l.length:=by rw [h1.length_eq,edgesL_len]
  have hs : ∀ (i j : Nat) (hi : i < (Go.Sort.sort cmpIs.lt (edgesL l).toArray).toList.length) (hj : j < (Go.Sort.sort cmpIs.lt (edgesL l).toArray).toList.length),i ≤ j → (Go.Sort.sort cmpIs.lt (edgesL l).toArray).toList[i] ≤ (Go.Sort.sort cmpIs.lt (edgesL l).toArray).toList[j]:=fun i j hi hj hij => by
    rcases Nat.lt_or_ge i j with q | q
    · have:=h2 i j hi hj q
      rw [show ∀ x y : Int,cmpIs.lt x y = decide (x < y) from fun _ _ => rfl,decide_eq_false_iff_not] at this
      omega
    · have e : i = j:=by omega
      subst e; exact Int.le_refl _
  obtain ⟨k1,k2⟩:=dedN_spec hs (2 * l.length) (by omega)
  refine ⟨k1,fun y => ?_⟩
  unfold edgS
  rw [k2,← h1.mem_iff]
  constructor
  · rintro ⟨i,hi,_,h4⟩; rw [← h4]; exact List.getElem_mem hi
  · intro h
    obtain ⟨i,hi,h4⟩:=List.getElem_of_mem h
    exact ⟨i,hi,by omega,h4⟩
theorem ordS_spec (l : List St) : (ordS l).Perm l ∧ (ordS l).Pairwise fun a b => a.x0 ≤ b.x0:=by
  obtain ⟨h1,h2⟩:=sort_list swoS l
  refine ⟨h1,List.pairwise_iff_getElem.2 fun i j hi hj hij => ?_⟩
  have:=h2 i j hi hj hij
  rw [ltS,decide_eq_false_iff_not] at this
  unfold ordS
  omega
theorem mem_edges {l : List St} {s : St} (h : s ∈ l) : s.x0 ∈ edgesL l ∧ s.x1 ∈ edgesL l:=by
  simp only [edgesL,List.mem_flatMap]
  exact ⟨⟨s,h,by simp⟩,⟨s,h,by simp⟩⟩
theorem lineS_spec {l : List St} (hl : ∀ s ∈ l,s.x0 < s.x1) : good (lineS l) ∧ ∀ x k,says (lineS l) x k ↔ maxat l x k:=by
  by_cases h0 : l = []
  · subst h0
    rw [lineS,if_pos rfl]
    exact ⟨trivial,fun x k => ⟨fun ⟨s,h,_⟩ => absurd h (by simp),fun ⟨⟨s,h,_⟩,_⟩ => absurd h (by simp)⟩⟩
  rw [lineS,if_neg h0]
  obtain ⟨e1,e2⟩:=edgS_spec l
  obtain ⟨o1,o2⟩:=ordS_spec l
  obtain ⟨s0,hs0⟩:=List.exists_mem_of_ne_nil l h0
  cases hE : edgS l with
  | nil =>
    have:=(e2 _).2 (mem_edges hs0).1
    rw [hE] at this; cases this
  | cons x0 E =>
    rw [hE] at e1 e2
    have hmin : ∀ y ∈ edgesL l,x0 ≤ y:=fun y hy => by
      rcases List.mem_cons.1 ((e2 y).2 hy) with h | h
      · omega
      · exact Int.le_of_lt ((List.pairwise_cons.1 e1).1 y h)
    refine lineL_spec (l:=l) (mx:=mxS) (fun L hL => ?_) hl E x0 [] (ordS l) [] e1 (fun s hs => ⟨.inr ((e2 _).2 (mem_edges hs).1),.inr ((e2 _).2 (mem_edges hs).2)⟩) o2 (fun s h => absurd h (by simp)) (fun s h => o1.mem_iff.1 h) (fun s hs _ => .inr (o1.mem_iff.2 hs)) trivial (fun s h => absurd h (by simp)) (fun x k hx => ?_)
    · obtain ⟨m1,m2⟩:=maxS_spec hL
      exact ⟨⟨_,m1,rfl⟩,m2⟩
    · constructor
      · rintro ⟨s,h,_⟩; cases h
      · rintro ⟨⟨s,h,h2,_⟩,_⟩
        have:=hmin _ (mem_edges h).1
        have:=h2.1
        omega
theorem put_len (out : List St) (x0 x1 h : Int) : (put out x0 x1 h).length ≤ out.length + 1:=by
  unfold put
  split
  · split
    · rw [List.length_append,List.length_dropLast]; simp only [List.length_cons,List.length_nil]; omega
    · simp
  · simp
theorem lineL_len (mx : List St → Int) : ∀ (E : List Int) (op O out : List St),(lineL mx E op O out).length ≤ out.length + E.length
  | [],op,O,out => by simp [lineL]
  | [x],op,O,out => by simp [lineL]
  | x0 :: x1 :: E,op,O,out => by
    simp only [lineL]
    refine Nat.le_trans (lineL_len mx (x1 :: E) _ _ _) ?_
    split
    · simp
    · have:=put_len out x0 x1 (mx ((op ++ O.takeWhile (SkyP.early x0)).filter (live x0)))
      simp only [List.length_cons] at *
      omega
theorem lineS_len (l : List St) : (lineS l).length ≤ 2 * l.length:=by
  unfold lineS
  split
  · simp
  · refine Nat.le_trans (lineL_len _ _ _ _ _) ?_
    have : (edgS l).length ≤ 2 * l.length:=dedN_len _ _
    simp only [List.length_nil]; omega
theorem good_cons {s : St} {r : List St} : good (s :: r) ↔ s.x0 < s.x1 ∧ (∀ t ∈ r,s.x1 ≤ t.x0 ∧ (s.x1 = t.x0 → s.h ≠ t.h)) ∧ good r:=by
  induction r generalizing s with
  | nil => simp [good]
  | cons t r ih =>
    constructor
    · rintro ⟨h1,h2,h3⟩
      refine ⟨h1,fun u hu => ?_,h3⟩
      obtain ⟨k1,k2,_⟩:=ih.1 h3
      rcases List.mem_cons.1 hu with rfl | hu
      · simp only [fol] at h2
        refine ⟨by omega,fun e => ?_⟩
        rcases h2 with h2 | h2
        · omega
        · exact h2.2
      · have:=k2 u hu
        simp only [fol] at h2
        exact ⟨by omega,fun e => by omega⟩
    · rintro ⟨h1,h2,h3⟩
      have:=h2 t (by simp)
      refine ⟨h1,?_,h3⟩
      simp only [fol]
      by_cases e : s.x1 = t.x0
      · exact .inr ⟨e,this.2 e⟩
      · exact .inl (by omega)
theorem good_pos {l : List St} (h : good l) : ∀ s ∈ l,s.x0 < s.x1:=by
  induction l with
  | nil => simp
  | cons a r ih =>
    obtain ⟨h1,h2,h3⟩:=good_cons.1 h
    intro s hs
    rcases List.mem_cons.1 hs with rfl | hs
    · exact h1
    · exact ih h3 s hs
theorem says_cons {s : St} {r : List St} {x k : Int} : says (s :: r) x k ↔ (at_ s x ∧ s.h = k) ∨ says r x k:=by
  simp only [says,List.mem_cons,exists_eq_or_imp]
theorem good_ext : ∀ {a b : List St},good a → good b → (∀ x k,says a x k ↔ says b x k) → a = b
  | [],[],_,_,_ => rfl
  | [],t :: u,_,hb,h => by
    have:=good_pos hb t (by simp)
    have h1:=(h t.x0 t.h).2 ⟨t,by simp,⟨Int.le_refl _,this⟩,rfl⟩
    obtain ⟨s,hs,_⟩:=h1
    cases hs
  | s :: r,[],ha,_,h => by
    have:=good_pos ha s (by simp)
    have h1:=(h s.x0 s.h).1 ⟨s,by simp,⟨Int.le_refl _,this⟩,rfl⟩
    obtain ⟨s,hs,_⟩:=h1
    cases hs
  | s :: r,t :: u,ha,hb,h => by
    obtain ⟨a1,a2,a3⟩:=good_cons.1 ha
    obtain ⟨b1,b2,b3⟩:=good_cons.1 hb
    have pr:=good_pos a3
    have pu:=good_pos b3
    have hx0 : s.x0 = t.x0:=by
      have k1:=(h s.x0 s.h).1 (says_cons.2 (.inl ⟨⟨Int.le_refl _,a1⟩,rfl⟩))
      have k2:=(h t.x0 t.h).2 (says_cons.2 (.inl ⟨⟨Int.le_refl _,b1⟩,rfl⟩))
      have q1 : t.x0 ≤ s.x0:=by
        rcases says_cons.1 k1 with ⟨q,_⟩ | ⟨v,hv,q,_⟩
        · exact q.1
        · have:=(b2 v hv).1; have:=q.1; omega
      have q2 : s.x0 ≤ t.x0:=by
        rcases says_cons.1 k2 with ⟨q,_⟩ | ⟨v,hv,q,_⟩
        · exact q.1
        · have:=(a2 v hv).1; have:=q.1; omega
      omega
    have hh : s.h = t.h:=by
      have k1:=(h s.x0 s.h).1 (says_cons.2 (.inl ⟨⟨Int.le_refl _,a1⟩,rfl⟩))
      rcases says_cons.1 k1 with ⟨_,q⟩ | ⟨v,hv,q,_⟩
      · exact q.symm
      · have:=(b2 v hv).1; have:=q.1; omega
    have hx1 : s.x1 = t.x1:=by
      rcases Int.lt_trichotomy s.x1 t.x1 with q | q | q
      · exfalso
        have k1:=(h s.x1 t.h).2 (says_cons.2 (.inl ⟨⟨by omega,q⟩,rfl⟩))
        rcases says_cons.1 k1 with ⟨q2,_⟩ | ⟨v,hv,q2,q3⟩
        · have:=q2.2; omega
        · have z:=a2 v hv
          have z2:=q2.1
          exact z.2 (by omega) (by omega)
      · exact q
      · exfalso
        have k1:=(h t.x1 s.h).1 (says_cons.2 (.inl ⟨⟨by omega,q⟩,rfl⟩))
        rcases says_cons.1 k1 with ⟨q2,_⟩ | ⟨v,hv,q2,q3⟩
        · have:=q2.2; omega
        · have z:=b2 v hv
          have z2:=q2.1
          exact z.2 (by omega) (by omega)
    have hst : s = t:=by cases s; cases t; simp_all
    subst hst
    congr 1
    refine good_ext a3 b3 fun x k => ?_
    have hxk:=h x k
    rw [says_cons,says_cons] at hxk
    constructor
    · rintro ⟨v,hv,q1,q2⟩
      rcases hxk.1 (.inr ⟨v,hv,q1,q2⟩) with ⟨q3,_⟩ | q
      · have:=(a2 v hv).1; have:=q1.1; have:=q3.2; omega
      · exact q
    · rintro ⟨v,hv,q1,q2⟩
      rcases hxk.2 (.inr ⟨v,hv,q1,q2⟩) with ⟨q3,_⟩ | q
      · have:=(b2 v hv).1; have:=q1.1; have:=q3.2; omega
      · exact q
end Go.AM.Sk
