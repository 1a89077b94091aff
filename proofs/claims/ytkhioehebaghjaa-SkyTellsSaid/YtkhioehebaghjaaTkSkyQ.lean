/- A part of a proof about the given program: what its name says. No premise beyond the statements'. -/
import Derived.Test.YtkhioehebaghjaaTkSkyP
set_option linter.unusedSimpArgs false
set_option linter.unusedVariables false
/- The plain law on the skyline of steps. -/
namespace Go.AM.SkyP
/-- Stands a step over a place? -/
def at_ (s : St) (x : Int) : Prop:=s.x0 ≤ x ∧ x < s.x1
/-- A step put behind a skyline, or made one with its last one. -/
def put (out : List St) (x0 x1 h : Int) : List St:=match out.getLast? with
  | some s => if s.x1 = x0 ∧ s.h = h then out.dropLast ++ [⟨s.x0,x1,h⟩] else out ++ [⟨x0,x1,h⟩]
  | none => [⟨x0,x1,h⟩]
/-- Steps of a skyline, one behind the other. -/
def fol (a b : St) : Prop:=a.x1 < b.x0 ∨ (a.x1 = b.x0 ∧ a.h ≠ b.h)
def good : List St → Prop
  | [] => True
  | [a] => a.x0 < a.x1
  | a :: b :: r => a.x0 < a.x1 ∧ fol a b ∧ good (b :: r)
theorem good_app : ∀ (l : List St) (s : St),good l → s.x0 < s.x1 → (∀ a,l.getLast? = some a → fol a s) → good (l ++ [s])
  | [],s,_,h,_ => h
  | [a],s,h1,h2,h3 => ⟨h1,h3 a rfl,h2⟩
  | a :: b :: r,s,h1,h2,h3 => ⟨h1.1,h1.2.1,good_app (b :: r) s h1.2.2 h2 fun c hc => h3 c (by rw [List.getLast?_cons_cons]; exact hc)⟩
theorem good_init : ∀ (l : List St) (s : St),good (l ++ [s]) → good l ∧ s.x0 < s.x1 ∧ (∀ a,l.getLast? = some a → fol a s)
  | [],s,h => ⟨trivial,h,by simp⟩
  | [a],s,h => ⟨h.1,h.2.2,fun b hb => by simp at hb; subst hb; exact h.2.1⟩
  | a :: b :: r,s,h => by
    obtain ⟨h1,h2,h3⟩:=good_init (b :: r) s h.2.2
    exact ⟨⟨h.1,h.2.1,h1⟩,h2,fun c hc => h3 c (by rw [List.getLast?_cons_cons] at hc; exact hc)⟩
/-- What a skyline says of a place. -/
def says (out : List St) (x h : Int) : Prop:=∃ s ∈ out,at_ s x ∧ s.h = h
theorem put_spec {out : List St} {x0 x1 h : Int} (hg : good out) (hx : x0 < x1) (hb : ∀ s ∈ out,s.x1 ≤ x0) :
    good (put out x0 x1 h) ∧ (∀ s ∈ put out x0 x1 h,s.x1 ≤ x1) ∧ ∀ x k,says (put out x0 x1 h) x k ↔ (says out x k ∨ (x0 ≤ x ∧ x < x1 ∧ k = h)):=by
  rcases List.eq_nil_or_concat out with rfl | ⟨L,s,rfl⟩
  · simp only [put,List.getLast?_nil]
    refine ⟨hx,by simp,fun x k => ?_⟩
    simp only [says,List.mem_cons,List.not_mem_nil,or_false,exists_eq_left,false_and,exists_false,false_or,at_]
    constructor
    · rintro ⟨⟨a,b⟩,c⟩; exact ⟨a,b,c.symm⟩
    · rintro ⟨a,b,c⟩; exact ⟨⟨a,b⟩,c.symm⟩
  · rw [List.concat_eq_append] at *
    have hl : (L ++ [s]).getLast? = some s:=by simp
    obtain ⟨g1,g2,g3⟩:=good_init L s hg
    have hs:=hb s (by simp)
    simp only [put,hl]
    split
    · rename_i hm
      have hd : (L ++ [s]).dropLast = L:=by simp
      rw [hd]
      refine ⟨good_app L _ g1 (by simp only; omega) (fun a ha => ?_),fun t ht => ?_,fun x k => ?_⟩
      · have:=g3 a ha
        simp only [fol] at this ⊢
        rw [hm.2] at this
        exact this
      · rcases List.mem_append.1 ht with ht | ht
        · have:=hb t (by simp [ht]); omega
        · simp at ht; subst ht; exact Int.le_refl _
      · constructor
        · rintro ⟨t,ht,h1,h2⟩
          rcases List.mem_append.1 ht with ht | ht
          · exact .inl ⟨t,by simp [ht],h1,h2⟩
          · simp at ht; subst ht
            simp only [at_] at h1 h2
            by_cases hxx : x < x0
            · exact .inl ⟨s,by simp,⟨h1.1,by omega⟩,by omega⟩
            · exact .inr ⟨by omega,h1.2,h2.symm⟩
        · rintro (⟨t,ht,h1,h2⟩ | ⟨h1,h2,h3⟩)
          · rcases List.mem_append.1 ht with ht | ht
            · exact ⟨t,by simp [ht],h1,h2⟩
            · simp at ht; subst ht
              exact ⟨⟨t.x0,x1,h⟩,by simp,⟨h1.1,by have:=h1.2; simp only; omega⟩,by simp only; omega⟩
          · exact ⟨⟨s.x0,x1,h⟩,by simp,⟨by simp only; omega,h2⟩,h3.symm⟩
    · rename_i hm
      refine ⟨good_app _ _ hg hx (fun a ha => ?_),fun t ht => ?_,fun x k => ?_⟩
      · rw [hl] at ha
        injection ha with ha; subst ha
        simp only [fol]
        by_cases e : s.x1 = x0
        · exact .inr ⟨e,fun q => hm ⟨e,q⟩⟩
        · exact .inl (by omega)
      · rcases List.mem_append.1 ht with ht | ht
        · have:=hb t ht; omega
        · simp at ht; subst ht; exact Int.le_refl _
      · constructor
        · rintro ⟨t,ht,h1,h2⟩
          rcases List.mem_append.1 ht with ht | ht
          · exact .inl ⟨t,ht,h1,h2⟩
          · simp at ht; subst ht
            exact .inr ⟨h1.1,h1.2,h2.symm⟩
        · rintro (⟨t,ht,h1,h2⟩ | ⟨h1,h2,h3⟩)
          · exact ⟨t,List.mem_append_left _ ht,h1,h2⟩
          · exact ⟨⟨x0,x1,h⟩,by simp,⟨h1,h2⟩,h3.symm⟩
end Go.AM.SkyP
namespace Go.AM.SkyP
def live (x : Int) (s : St) : Bool:=decide (x < s.x1)
def early (x : Int) (s : St) : Bool:=decide (s.x0 ≤ x)
/-- The skyline, from edge to edge. -/
def lineL (mx : List St → Int) : List Int → List St → List St → List St → List St
  | x0 :: x1 :: E,op,O,out => lineL mx (x1 :: E) ((op ++ O.takeWhile (early x0)).filter (live x0)) (O.dropWhile (early x0)) (if (op ++ O.takeWhile (early x0)).filter (live x0) = [] then out else put out x0 x1 (mx ((op ++ O.takeWhile (early x0)).filter (live x0))))
  | _,_,_,out => out
/-- How high the highest step over a place is. -/
def maxat (l : List St) (x k : Int) : Prop:=(∃ s ∈ l,at_ s x ∧ s.h = k) ∧ ∀ s ∈ l,at_ s x → s.h ≤ k
theorem mem_tw {p : St → Bool} : ∀ {l : List St} {s : St},s ∈ l.takeWhile p → s ∈ l ∧ p s = true
  | a :: r,s,h => by
    simp only [List.takeWhile_cons] at h
    split at h
    · rename_i hp
      rcases List.mem_cons.1 h with rfl | h
      · exact ⟨by simp,hp⟩
      · have:=mem_tw h; exact ⟨List.mem_cons_of_mem _ this.1,this.2⟩
    · cases h
  | [],s,h => by cases h
theorem tw_mem {x : Int} : ∀ {l : List St} {s : St},(l.Pairwise fun a b => a.x0 ≤ b.x0) → s ∈ l → s.x0 ≤ x → s ∈ l.takeWhile (early x)
  | a :: r,s,hp,hs,hx => by
    have h:=List.pairwise_cons.1 hp
    have ha : a.x0 ≤ s.x0:=by
      rcases List.mem_cons.1 hs with rfl | hs
      · exact Int.le_refl _
      · exact h.1 s hs
    have he : early x a = true:=by simp only [early,decide_eq_true_eq]; omega
    simp only [List.takeWhile_cons,he,if_true]
    rcases List.mem_cons.1 hs with rfl | hs
    · simp
    · exact List.mem_cons_of_mem _ (tw_mem h.2 hs hx)
  | [],s,_,hs,_ => by cases hs
theorem lineL_spec {l : List St} {mx : List St → Int} (hmx : ∀ L,L ≠ [] → (∃ s ∈ L,s.h = mx L) ∧ ∀ s ∈ L,s.h ≤ mx L) (hl : ∀ s ∈ l,s.x0 < s.x1) :
    ∀ (E : List Int) (x0 : Int) (op O out : List St),(x0 :: E).Pairwise (· < ·) → (∀ s ∈ l,(s.x0 < x0 ∨ s.x0 ∈ x0 :: E) ∧ (s.x1 ≤ x0 ∨ s.x1 ∈ x0 :: E)) → (O.Pairwise fun a b => a.x0 ≤ b.x0) →
      (∀ s ∈ op,s ∈ l ∧ s.x0 ≤ x0) → (∀ s ∈ O,s ∈ l) → (∀ s ∈ l,x0 < s.x1 → s ∈ op ∨ s ∈ O) → good out → (∀ s ∈ out,s.x1 ≤ x0) → (∀ x k,x < x0 → (says out x k ↔ maxat l x k)) →
      good (lineL mx (x0 :: E) op O out) ∧ ∀ x k,says (lineL mx (x0 :: E) op O out) x k ↔ maxat l x k
  | [],x0,op,O,out,_,hE,_,_,_,_,hg,hb,hs => by
    simp only [lineL]
    refine ⟨hg,fun x k => ?_⟩
    by_cases hx : x < x0
    · exact hs x k hx
    · constructor
      · rintro ⟨s,h1,h2,_⟩
        have:=hb s h1
        have:=h2.2
        omega
      · rintro ⟨⟨s,h1,h2,_⟩,_⟩
        have h3:=(hE s h1).2
        have h4:=h2.2
        rw [List.mem_singleton] at h3
        omega
  | x1 :: E,x0,op,O,out,hP,hE,hO,hop,hOl,hin,hg,hb,hs => by
    have hP':=List.pairwise_cons.1 hP
    have hx01 : x0 < x1:=hP'.1 x1 (by simp)
    have hP2:=List.pairwise_cons.1 hP'.2
    have far0 : ∀ y ∈ x1 :: E,x1 ≤ y:=fun y hy => by
      rcases List.mem_cons.1 hy with rfl | hy
      · exact Int.le_refl _
      · exact Int.le_of_lt (hP2.1 y hy)
    have e0 : ∀ s ∈ l,s.x0 ≤ x0 ∨ x1 ≤ s.x0:=fun s hs => by
      rcases (hE s hs).1 with h | h
      · exact .inl (by omega)
      · rcases List.mem_cons.1 h with h | h
        · exact .inl (by omega)
        · exact .inr (far0 _ h)
    have e1 : ∀ s ∈ l,s.x1 ≤ x0 ∨ x1 ≤ s.x1:=fun s hs => by
      rcases (hE s hs).2 with h | h
      · exact .inl h
      · rcases List.mem_cons.1 h with h | h
        · exact .inl (by omega)
        · exact .inr (far0 _ h)
    have hm : ∀ s,s ∈ (op ++ O.takeWhile (early x0)).filter (live x0) ↔ s ∈ l ∧ s.x0 ≤ x0 ∧ x0 < s.x1:=fun s => by
      rw [List.mem_filter,List.mem_append]
      simp only [live,decide_eq_true_eq]
      constructor
      · rintro ⟨h1 | h1,h2⟩
        · exact ⟨(hop s h1).1,(hop s h1).2,h2⟩
        · have:=mem_tw h1
          exact ⟨hOl s this.1,by simpa [early] using this.2,h2⟩
      · rintro ⟨h1,h2,h3⟩
        refine ⟨?_,h3⟩
        rcases hin s h1 h3 with h | h
        · exact .inl h
        · exact .inr (tw_mem hO h h2)
    have hcov : ∀ s ∈ l,∀ x,x0 ≤ x → x < x1 → (at_ s x ↔ s.x0 ≤ x0 ∧ x0 < s.x1):=fun s hs x h1 h2 => by
      have:=e0 s hs
      have:=e1 s hs
      simp only [at_]
      omega
    have hout : good (if (op ++ O.takeWhile (early x0)).filter (live x0) = [] then out else put out x0 x1 (mx ((op ++ O.takeWhile (early x0)).filter (live x0)))) ∧
        (∀ s ∈ (if (op ++ O.takeWhile (early x0)).filter (live x0) = [] then out else put out x0 x1 (mx ((op ++ O.takeWhile (early x0)).filter (live x0)))),s.x1 ≤ x1) ∧
        (∀ x k,x < x1 → (says (if (op ++ O.takeWhile (early x0)).filter (live x0) = [] then out else put out x0 x1 (mx ((op ++ O.takeWhile (early x0)).filter (live x0)))) x k ↔ maxat l x k)):=by
      generalize (op ++ O.takeWhile (early x0)).filter (live x0) = L at hm
      have nos : ∀ x k,x0 ≤ x → ¬ says out x k:=fun x k hx ⟨s,h1,h2,_⟩ => by
        have:=hb s h1
        have:=h2.2
        omega
      by_cases hL : L = []
      · rw [if_pos hL]
        refine ⟨hg,fun s h => by have:=hb s h; omega,fun x k hx => ?_⟩
        by_cases hx0 : x < x0
        · exact hs x k hx0
        · constructor
          · exact fun h => absurd h (nos x k (by omega))
          · rintro ⟨⟨s,h1,h2,_⟩,_⟩
            have:=(hm s).2 ⟨h1,(hcov s h1 x (by omega) hx).1 h2⟩
            rw [hL] at this; cases this
      · rw [if_neg hL]
        obtain ⟨p1,p2,p3⟩:=put_spec (h:=mx L) hg hx01 hb
        refine ⟨p1,p2,fun x k hx => ?_⟩
        rw [p3]
        by_cases hx0 : x < x0
        · rw [← hs x k hx0]
          constructor
          · rintro (h | h)
            · exact h
            · omega
          · exact .inl
        · obtain ⟨⟨s,q1,q2⟩,q3⟩:=hmx L hL
          constructor
          · rintro (h | ⟨_,_,h3⟩)
            · exact absurd h (nos x k (by omega))
            · subst h3
              have:=(hm s).1 q1
              exact ⟨⟨s,this.1,(hcov s this.1 x (by omega) hx).2 this.2,q2⟩,fun t ht hat => q3 t ((hm t).2 ⟨ht,(hcov t ht x (by omega) hx).1 hat⟩)⟩
          · rintro ⟨⟨t,h1,h2,h3⟩,h4⟩
            refine .inr ⟨by omega,hx,?_⟩
            have t1:=q3 t ((hm t).2 ⟨h1,(hcov t h1 x (by omega) hx).1 h2⟩)
            have:=(hm s).1 q1
            have t2:=h4 s this.1 ((hcov s this.1 x (by omega) hx).2 this.2)
            omega
    simp only [lineL]
    refine lineL_spec hmx hl E x1 _ _ _ hP'.2 (fun s hs => ⟨?_,?_⟩) (hO.sublist (List.dropWhile_sublist _)) (fun s h => ?_) (fun s h => hOl s ((List.dropWhile_sublist _).subset h)) (fun s h1 h2 => ?_) hout.1 hout.2.1 hout.2.2
    · rcases (hE s hs).1 with h | h
      · exact .inl (by omega)
      · rcases List.mem_cons.1 h with h | h
        · exact .inl (by omega)
        · exact .inr h
    · rcases (hE s hs).2 with h | h
      · exact .inl (by omega)
      · rcases List.mem_cons.1 h with h | h
        · exact .inl (by omega)
        · exact .inr h
    · have:=(hm s).1 h
      exact ⟨this.1,by omega⟩
    · by_cases hx : s.x0 ≤ x0
      · exact .inl ((hm s).2 ⟨h1,hx,by omega⟩)
      · right
        rcases hin s h1 (by omega) with h | h
        · exact absurd (hop s h).2 hx
        · rw [← List.takeWhile_append_dropWhile (p:=early x0) (l:=O)] at h
          rcases List.mem_append.1 h with h | h
          · have:=(mem_tw h).2
            simp only [early,decide_eq_true_eq] at this
            exact absurd this hx
          · exact h
end Go.AM.SkyP
