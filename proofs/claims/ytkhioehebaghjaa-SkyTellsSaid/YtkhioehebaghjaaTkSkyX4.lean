/- A part of a proof about the given program: what its name says. No premise beyond the statements'. -/
import Derived.Test.YtkhioehebaghjaaTkSkyX3
set_option linter.unusedSimpArgs false
set_option linter.unusedVariables false
/- The second opinion's skyline is the same one. -/

namespace Go.AM.Sk
open Go.AM
open Go.AM.SkyP
def cov (a b : Int) (s : St) : Prop:=s.x0 ≤ a ∧ b ≤ s.x1
theorem hi_fold (a b : Int) : ∀ (l : List St) (acc : Int × Bool),((l.foldl (hiS a b) acc).2 = true ↔ acc.2 = true ∨ ∃ s ∈ l,cov a b s) ∧ ((l.foldl (hiS a b) acc).2 = true → (acc.2 = true ∧ (l.foldl (hiS a b) acc).1 = acc.1) ∨ ∃ s ∈ l,cov a b s ∧ s.h = (l.foldl (hiS a b) acc).1) ∧
    (acc.2 = true → acc.1 ≤ (l.foldl (hiS a b) acc).1) ∧ ∀ s ∈ l,cov a b s → s.h ≤ (l.foldl (hiS a b) acc).1
  | [],acc => ⟨by simp,fun h => .inl ⟨h,rfl⟩,fun _ => Int.le_refl _,by simp⟩
  | s :: r,acc => by
    obtain ⟨h1,h2,h3,h4⟩:=hi_fold a b r (hiS a b acc s)
    simp only [List.foldl_cons]
    by_cases hc : cov a b s
    · by_cases hg : acc.2 = false ∨ acc.1 < s.h
      · have e : hiS a b acc s = (s.h,true):=if_pos ⟨hc,hg⟩
        rw [e] at h1 h2 h3 h4 ⊢
        refine ⟨?_,fun h => ?_,fun h => ?_,fun t ht hct => ?_⟩
        · rw [h1]; exact ⟨fun _ => .inr ⟨s,by simp,hc⟩,fun _ => .inl rfl⟩
        · rcases h2 h with ⟨_,q⟩ | ⟨t,t1,t2,t3⟩
          · exact .inr ⟨s,by simp,hc,q.symm⟩
          · exact .inr ⟨t,List.mem_cons_of_mem _ t1,t2,t3⟩
        · have:=h3 rfl
          rcases hg with hg | hg
          · rw [hg] at h; cases h
          · simp only at this; omega
        · rcases List.mem_cons.1 ht with rfl | ht
          · exact h3 rfl
          · exact h4 t ht hct
      · have e : hiS a b acc s = acc:=if_neg fun q => hg q.2
        have hok : acc.2 = true:=by
          cases h : acc.2 with
          | true => rfl
          | false => exact absurd (.inl h) hg
        rw [e] at h1 h2 h3 h4 ⊢
        refine ⟨?_,fun h => ?_,fun h => h3 h,fun t ht hct => ?_⟩
        · rw [h1]; exact ⟨fun _ => .inl hok,fun _ => .inl hok⟩
        · rcases h2 h with q | ⟨t,t1,t2,t3⟩
          · exact .inl q
          · exact .inr ⟨t,List.mem_cons_of_mem _ t1,t2,t3⟩
        · rcases List.mem_cons.1 ht with rfl | ht
          · have:=h3 hok
            have : ¬ acc.1 < t.h:=fun q => hg (.inr q)
            omega
          · exact h4 t ht hct
    · have e : hiS a b acc s = acc:=if_neg fun q => hc q.1
      rw [e] at h1 h2 h3 h4 ⊢
      refine ⟨?_,fun h => ?_,fun h => h3 h,fun t ht hct => ?_⟩
      · rw [h1]
        constructor
        · rintro (q | ⟨t,t1,t2⟩)
          · exact .inl q
          · exact .inr ⟨t,List.mem_cons_of_mem _ t1,t2⟩
        · rintro (q | ⟨t,t1,t2⟩)
          · exact .inl q
          · rcases List.mem_cons.1 t1 with rfl | t1
            · exact absurd t2 hc
            · exact .inr ⟨t,t1,t2⟩
      · rcases h2 h with q | ⟨t,t1,t2,t3⟩
        · exact .inl q
        · exact .inr ⟨t,List.mem_cons_of_mem _ t1,t2,t3⟩
      · rcases List.mem_cons.1 ht with rfl | ht
        · exact absurd hct hc
        · exact h4 t ht hct
theorem insI_spec {x : Int} : ∀ {l : List Int},l.Pairwise (· < ·) → (insI x l).Pairwise (· < ·) ∧ ∀ y,y ∈ insI x l ↔ y = x ∨ y ∈ l
  | [],_ => ⟨by simp [insI],fun y => by simp [insI]⟩
  | z :: r,h => by
    obtain ⟨h1,h2⟩:=List.pairwise_cons.1 h
    obtain ⟨i1,i2⟩:=insI_spec (x:=x) h2
    simp only [insI]
    split
    · rename_i hz
      refine ⟨List.pairwise_cons.2 ⟨fun y hy => ?_,i1⟩,fun y => ?_⟩
      · rcases (i2 y).1 hy with rfl | hy
        · exact hz
        · exact h1 y hy
      · rw [List.mem_cons,i2,List.mem_cons]
        constructor
        · rintro (q | q | q)
          · exact .inr (.inl q)
          · exact .inl q
          · exact .inr (.inr q)
        · rintro (q | q | q)
          · exact .inr (.inl q)
          · exact .inl q
          · exact .inr (.inr q)
    · split
      · rename_i hz
        refine ⟨h,fun y => ?_⟩
        rw [List.mem_cons]
        constructor
        · exact .inr
        · rintro (q | q)
          · exact .inl (by omega)
          · exact q
      · rename_i hz1 hz2
        refine ⟨List.pairwise_cons.2 ⟨fun y hy => ?_,h⟩,fun y => List.mem_cons⟩
        rcases List.mem_cons.1 hy with rfl | hy
        · omega
        · have:=h1 y hy; omega
theorem edgI_fold : ∀ (l : List St) (E : List Int),E.Pairwise (· < ·) → (l.foldl (fun E s => insI s.x1 (insI s.x0 E)) E).Pairwise (· < ·) ∧ ∀ y,y ∈ l.foldl (fun E s => insI s.x1 (insI s.x0 E)) E ↔ y ∈ E ∨ ∃ s ∈ l,y = s.x0 ∨ y = s.x1
  | [],E,h => ⟨h,fun y => by simp⟩
  | s :: r,E,h => by
    obtain ⟨a1,a2⟩:=insI_spec (x:=s.x0) h
    obtain ⟨b1,b2⟩:=insI_spec (x:=s.x1) a1
    obtain ⟨c1,c2⟩:=edgI_fold r _ b1
    refine ⟨c1,fun y => ?_⟩
    simp only [List.foldl_cons]
    rw [c2,b2,a2]
    simp only [List.mem_cons,exists_eq_or_imp]
    constructor
    · rintro ((q | q | q) | q)
      · exact .inr (.inl (.inr q))
      · exact .inr (.inl (.inl q))
      · exact .inl q
      · exact .inr (.inr q)
    · rintro (q | (q | q) | q)
      · exact .inl (.inr (.inr q))
      · exact .inl (.inr (.inl q))
      · exact .inl (.inl q)
      · exact .inr q
theorem rlL_spec {l : List St} (hl : ∀ s ∈ l,s.x0 < s.x1) : ∀ (E : List Int) (x0 : Int) (out : List St),(x0 :: E).Pairwise (· < ·) → (∀ s ∈ l,(s.x0 < x0 ∨ s.x0 ∈ x0 :: E) ∧ (s.x1 ≤ x0 ∨ s.x1 ∈ x0 :: E)) → good out → (∀ s ∈ out,s.x1 ≤ x0) → (∀ x k,x < x0 → (says out x k ↔ maxat l x k)) →
    good (rlL l (x0 :: E) out) ∧ ∀ x k,says (rlL l (x0 :: E) out) x k ↔ maxat l x k
  | [],x0,out,_,hE,hg,hb,hs => by
    simp only [rlL]
    refine ⟨hg,fun x k => ?_⟩
    by_cases hx : x < x0
    · exact hs x k hx
    · constructor
      · rintro ⟨s,h1,h2,_⟩
        have:=hb s h1
        have:=h2.2
        omega
      · rintro ⟨⟨s,h1,h2,_⟩,_⟩
        have h3:=(hE s h1).2
        have h4:=h2.2
        rw [List.mem_singleton] at h3
        omega
  | x1 :: E,x0,out,hP,hE,hg,hb,hs => by
    have hP':=List.pairwise_cons.1 hP
    have hx01 : x0 < x1:=hP'.1 x1 (by simp)
    have hP2:=List.pairwise_cons.1 hP'.2
    have far0 : ∀ y ∈ x1 :: E,x1 ≤ y:=fun y hy => by
      rcases List.mem_cons.1 hy with rfl | hy
      · exact Int.le_refl _
      · exact Int.le_of_lt (hP2.1 y hy)
    have e0 : ∀ s ∈ l,s.x0 ≤ x0 ∨ x1 ≤ s.x0:=fun s hs => by
      rcases (hE s hs).1 with h | h
      · exact .inl (by omega)
      · rcases List.mem_cons.1 h with h | h
        · exact .inl (by omega)
        · exact .inr (far0 _ h)
    have e1 : ∀ s ∈ l,s.x1 ≤ x0 ∨ x1 ≤ s.x1:=fun s hs => by
      rcases (hE s hs).2 with h | h
      · exact .inl h
      · rcases List.mem_cons.1 h with h | h
        · exact .inl (by omega)
        · exact .inr (far0 _ h)
    have hcov : ∀ s ∈ l,∀ x,x0 ≤ x → x < x1 → (at_ s x ↔ cov x0 x1 s):=fun s hs x h1 h2 => by
      have:=e0 s hs
      have:=e1 s hs
      simp only [at_,cov]
      omega
    obtain ⟨f1,f2,f3,f4⟩:=hi_fold x0 x1 l (0,false)
    have nos : ∀ x k,x0 ≤ x → ¬ says out x k:=fun x k hx ⟨s,h1,h2,_⟩ => by
      have:=hb s h1
      have:=h2.2
      omega
    simp only [rlL]
    have hout : good (if (hiF l x0 x1).2 = true then put out x0 x1 (hiF l x0 x1).1 else out) ∧ (∀ s ∈ (if (hiF l x0 x1).2 = true then put out x0 x1 (hiF l x0 x1).1 else out),s.x1 ≤ x1) ∧ ∀ x k,x < x1 → (says (if (hiF l x0 x1).2 = true then put out x0 x1 (hiF l x0 x1).1 else out) x k ↔ maxat l x k):=by
      by_cases hL : (hiF l x0 x1).2 = true
      · rw [if_pos hL]
        obtain ⟨p1,p2,p3⟩:=put_spec (h:=(hiF l x0 x1).1) hg hx01 hb
        refine ⟨p1,p2,fun x k hx => ?_⟩
        rw [p3]
        by_cases hx0 : x < x0
        · rw [← hs x k hx0]
          constructor
          · rintro (h | h)
            · exact h
            · omega
          · exact .inl
        · have hf2:=f2 hL
          rcases hf2 with ⟨q,_⟩ | ⟨s,q1,q2,q3⟩
          · cases q
          · constructor
            · rintro (h | ⟨_,_,h3⟩)
              · exact absurd h (nos x k (by omega))
              · subst h3
                exact ⟨⟨s,q1,(hcov s q1 x (by omega) hx).2 q2,q3⟩,fun t ht hat => f4 t ht ((hcov t ht x (by omega) hx).1 hat)⟩
            · rintro ⟨⟨t,h1,h2,h3⟩,h4⟩
              refine .inr ⟨by omega,hx,?_⟩
              have t1:=f4 t h1 ((hcov t h1 x (by omega) hx).1 h2)
              have t2:=h4 s q1 ((hcov s q1 x (by omega) hx).2 q2)
              have q3' : s.h = (hiF l x0 x1).1:=q3
              have t1' : t.h ≤ (hiF l x0 x1).1:=t1
              omega
      · rw [if_neg hL]
        refine ⟨hg,fun s h => by have:=hb s h; omega,fun x k hx => ?_⟩
        by_cases hx0 : x < x0
        · exact hs x k hx0
        · constructor
          · exact fun h => absurd h (nos x k (by omega))
          · rintro ⟨⟨s,h1,h2,_⟩,_⟩
            exact absurd (f1.2 (.inr ⟨s,h1,(hcov s h1 x (by omega) hx).1 h2⟩)) hL
    refine rlL_spec hl E x1 _ hP'.2 (fun s hs => ⟨?_,?_⟩) hout.1 hout.2.1 hout.2.2
    · rcases (hE s hs).1 with h | h
      · exact .inl (by omega)
      · rcases List.mem_cons.1 h with h | h
        · exact .inl (by omega)
        · exact .inr h
    · rcases (hE s hs).2 with h | h
      · exact .inl (by omega)
      · rcases List.mem_cons.1 h with h | h
        · exact .inl (by omega)
        · exact .inr h
theorem rl_line {l : List St} (hl : ∀ s ∈ l,s.x0 < s.x1) : rlL l (edgI l) [] = lineS l:=by
  obtain ⟨g2,s2⟩:=lineS_spec hl
  obtain ⟨e1,e2⟩:=edgI_fold l [] (by simp)
  change (edgI l).Pairwise (· < ·) at e1
  change ∀ y,y ∈ edgI l ↔ _ at e2
  suffices h : good (rlL l (edgI l) []) ∧ ∀ x k,says (rlL l (edgI l) []) x k ↔ maxat l x k from good_ext h.1 g2 fun x k => by rw [h.2,s2]
  cases hE : edgI l with
  | nil =>
    rw [hE] at e2
    have hn : ∀ s,s ∉ l:=fun s hs => by
      have:=(e2 s.x0).2 (.inr ⟨s,hs,.inl rfl⟩)
      cases this
    simp only [rlL]
    exact ⟨trivial,fun x k => ⟨fun ⟨s,h,_⟩ => absurd h (by simp),fun ⟨⟨s,h,_⟩,_⟩ => absurd h (hn s)⟩⟩
  | cons x0 E =>
    rw [hE] at e1 e2
    have hmin : ∀ s ∈ l,x0 ≤ s.x0:=fun s hs => by
      rcases List.mem_cons.1 ((e2 s.x0).2 (.inr ⟨s,hs,.inl rfl⟩)) with h | h
      · omega
      · exact Int.le_of_lt ((List.pairwise_cons.1 e1).1 _ h)
    refine rlL_spec hl E x0 [] e1 (fun s hs => ⟨.inr ((e2 _).2 (.inr ⟨s,hs,.inl rfl⟩)),.inr ((e2 _).2 (.inr ⟨s,hs,.inr rfl⟩))⟩) trivial (fun s h => absurd h (by simp)) (fun x k hx => ?_)
    constructor
    · rintro ⟨s,h,_⟩; cases h
    · rintro ⟨⟨s,h,h2,_⟩,_⟩
      have:=hmin s h
      have:=h2.1
      omega
end Go.AM.Sk
