/- A part of a proof about the given program: what its name says. No premise beyond the statements'. -/
set_option linter.unusedSimpArgs false
set_option linter.unusedVariables false
/- The plain law on how far two skylines must be apart. -/
namespace Go.AM.SkyP
structure St where
  x0 : Int
  x1 : Int
  h : Int
/-- Do two steps stand over one place? -/
def ov (a b : St) : Prop:=max a.x0 b.x0 < min a.x1 b.x1
instance (a b : St) : Decidable (ov a b):=by unfold ov; infer_instance
def nxd (a b : St) (d : Int) : Int:=if ov a b then max d (a.h + b.h) else d
/-- How far two skylines must be apart, as two fingers reckon it. -/
def dis (l s : List St) (d : Int) : Int:=match l,s with
  | a :: r,b :: t => if a.x1 ≤ b.x1 then dis r (b :: t) (nxd a b d) else dis (a :: r) t (nxd a b d)
  | _,_ => d
termination_by l.length + s.length
def sorted (l : List St) : Prop:=l.Pairwise fun a b => a.x1 ≤ b.x0
theorem nxd_le (a b : St) (d : Int) : d ≤ nxd a b d:=by
  unfold nxd
  split <;> omega
theorem nxd_ov {a b : St} (d : Int) (h : ov a b) : a.h + b.h ≤ nxd a b d:=by
  unfold nxd
  rw [if_pos h]
  omega
theorem nxd_or (a b : St) (d : Int) : nxd a b d = d ∨ (ov a b ∧ a.h + b.h = nxd a b d):=by
  unfold nxd
  split
  · rename_i h
    rcases Int.le_total d (a.h + b.h) with q | q
    · exact .inr ⟨h,by omega⟩
    · exact .inl (by omega)
  · exact .inl rfl
theorem dis_spec : ∀ (n : Nat) (l s : List St) (d : Int),l.length + s.length ≤ n → sorted l → sorted s →
    d ≤ dis l s d ∧ (dis l s d = d ∨ ∃ a ∈ l,∃ b ∈ s,ov a b ∧ a.h + b.h = dis l s d) ∧ ∀ a ∈ l,∀ b ∈ s,ov a b → a.h + b.h ≤ dis l s d
  | n,[],s,d,_,_,_ => by
    unfold dis
    exact ⟨Int.le_refl _,.inl rfl,fun a ha => absurd ha (by simp)⟩
  | n,a :: r,[],d,_,_,_ => by
    unfold dis
    exact ⟨Int.le_refl _,.inl rfl,fun _ _ b hb => absurd hb (by simp)⟩
  | 0,a :: r,b :: t,d,h,_,_ => absurd h (by simp)
  | n + 1,a :: r,b :: t,d,h,hl,hs => by
    have hl':=List.pairwise_cons.1 hl
    have hs':=List.pairwise_cons.1 hs
    simp only [List.length_cons] at h
    have n1:=nxd_le a b d
    have n3:=nxd_or a b d
    unfold dis
    split
    · rename_i c
      obtain ⟨i1,i2,i3⟩:=dis_spec n r (b :: t) (nxd a b d) (by simp only [List.length_cons]; omega) hl'.2 hs
      refine ⟨Int.le_trans n1 i1,?_,?_⟩
      · rcases i2 with i2 | ⟨a',ha,b',hb,k⟩
        · rw [i2]
          rcases n3 with n3 | n3
          · exact .inl n3
          · exact .inr ⟨a,by simp,b,by simp,n3⟩
        · exact .inr ⟨a',List.mem_cons_of_mem _ ha,b',hb,k⟩
      · intro a' ha b' hb ho
        rcases List.mem_cons.1 ha with rfl | ha
        · rcases List.mem_cons.1 hb with rfl | hb
          · exact Int.le_trans (nxd_ov d ho) i1
          · exfalso
            have:=hs'.1 b' hb
            unfold ov at ho
            omega
        · exact i3 a' ha b' hb ho
    · rename_i c
      obtain ⟨i1,i2,i3⟩:=dis_spec n (a :: r) t (nxd a b d) (by simp only [List.length_cons]; omega) hl hs'.2
      refine ⟨Int.le_trans n1 i1,?_,?_⟩
      · rcases i2 with i2 | ⟨a',ha,b',hb,k⟩
        · rw [i2]
          rcases n3 with n3 | n3
          · exact .inl n3
          · exact .inr ⟨a,by simp,b,by simp,n3⟩
        · exact .inr ⟨a',ha,b',List.mem_cons_of_mem _ hb,k⟩
      · intro a' ha b' hb ho
        rcases List.mem_cons.1 hb with rfl | hb
        · rcases List.mem_cons.1 ha with rfl | ha
          · exact Int.le_trans (nxd_ov d ho) i1
          · exfalso
            have:=hl'.1 a' ha
            unfold ov at ho
            omega
        · exact i3 a' ha b' hb ho
/-- Steps that stand one behind the other. -/
theorem sorted_of : ∀ (l : List St),(∀ a ∈ l,a.x0 < a.x1) → (∀ (i : Nat) (h : i + 1 < l.length),(l[i]'(by omega)).x1 ≤ l[i + 1].x0) → sorted l
  | [],_,_ => List.Pairwise.nil
  | a :: r,h1,h2 => by
    have ih:=sorted_of r (fun b hb => h1 b (List.mem_cons_of_mem _ hb)) fun i h => by
      have:=h2 (i + 1) (by simpa using h)
      simpa using this
    refine List.pairwise_cons.2 ⟨?_,ih⟩
    cases r with
    | nil => intro b hb; exact absurd hb (by simp)
    | cons c r =>
      have e:=h2 0 (by simp)
      simp only [List.getElem_cons_zero,List.getElem_cons_succ] at e
      intro b hb
      rcases List.mem_cons.1 hb with rfl | hb
      · exact e
      · have k1:=(List.pairwise_cons.1 ih).1 b hb
        have k2:=h1 c (by simp)
        omega
end Go.AM.SkyP
