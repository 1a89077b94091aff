/- A part of a proof about the given program: what its name says. No premise beyond the statements'. -/
import Derived.Test.YteiapnjcelnfdaaRodWC
set_option linter.unusedSimpArgs false
set_option linter.unusedVariables false
/- The document's list of the longest rods is the program's. -/
namespace Go.AM.Rod
open Go.AM

theorem ltR_iff (x y : Rd) : ltR x y = true ↔ x.f < y.f ∨ (x.f = y.f ∧ x.t < y.t) := by simp [ltR]
theorem keyR_iff (x y : Rd) : keyR x y = true ↔ x.f = y.f ∧ x.t = y.t := by simp [keyR]
theorem mxd_or {x r : Rd} (h : keyR x r = true) : mxd x r = x ∨ mxd x r = r := by
  rw [keyR_iff] at h
  unfold mxd
  by_cases hd : x.d < r.d
  · rw [if_pos hd]; right; cases x; cases r; simp only at h ⊢; rw [h.1, h.2]
  · rw [if_neg hd]; left; rfl
theorem mxd_ge (x r : Rd) : x.d ≤ (mxd x r).d ∧ r.d ≤ (mxd x r).d := by
  simp only [mxd]; split <;> omega

structure RI (l A : List Rd) : Prop where
  srt : A.Pairwise fun x y => ltR x y = true
  frm : ∀ x ∈ A, x ∈ l ∧ okS x = true
  has : ∀ r ∈ l, okS r = true → ∃ x ∈ A, x.f = r.f ∧ x.t = r.t ∧ r.d ≤ x.d

theorem insR_frm {r : Rd} : ∀ {A : List Rd} {y : Rd}, y ∈ insR r A → y ∈ A ∨ y = r
  | [], y, h => by simp [insR] at h; exact .inr h
  | x :: A, y, h => by
    simp only [insR] at h
    split at h
    · rcases List.mem_cons.1 h with h | h
      · exact .inl (by rw [h]; simp)
      · exact (insR_frm h).imp (List.mem_cons_of_mem _) id
    · split at h
      · rename_i hk
        rcases List.mem_cons.1 h with h | h
        · rcases mxd_or hk with e | e
          · exact .inl (by rw [h, e]; simp)
          · exact .inr (by rw [h, e])
        · exact .inl (List.mem_cons_of_mem _ h)
      · rcases List.mem_cons.1 h with h | h
        · exact .inr h
        · exact .inl h
theorem insR_old {r : Rd} : ∀ {A : List Rd} {x : Rd}, x ∈ A → ∃ y ∈ insR r A, y.f = x.f ∧ y.t = x.t ∧ x.d ≤ y.d
  | z :: A, x, h => by
    simp only [insR]
    split
    · rcases List.mem_cons.1 h with h | h
      · exact ⟨z, by simp, by rw [h], by rw [h], by rw [h]; exact Int.le_refl _⟩
      · obtain ⟨y, h1, h2⟩ := insR_old (r := r) h
        exact ⟨y, List.mem_cons_of_mem _ h1, h2⟩
    · split
      · rcases List.mem_cons.1 h with h | h
        · exact ⟨mxd z r, by simp, by rw [h]; rfl, by rw [h]; rfl, by rw [h]; exact (mxd_ge z r).1⟩
        · exact ⟨x, List.mem_cons_of_mem _ h, rfl, rfl, Int.le_refl _⟩
      · exact ⟨x, List.mem_cons_of_mem _ h, rfl, rfl, Int.le_refl _⟩
theorem insR_self (r : Rd) : ∀ A : List Rd, ∃ y ∈ insR r A, y.f = r.f ∧ y.t = r.t ∧ r.d ≤ y.d
  | [] => ⟨r, by simp [insR], rfl, rfl, Int.le_refl _⟩
  | z :: A => by
    simp only [insR]
    split
    · obtain ⟨y, h1, h2⟩ := insR_self r A
      exact ⟨y, List.mem_cons_of_mem _ h1, h2⟩
    · split
      · rename_i hk
        rw [keyR_iff] at hk
        exact ⟨mxd z r, by simp, hk.1, hk.2, (mxd_ge z r).2⟩
      · exact ⟨r, by simp, rfl, rfl, Int.le_refl _⟩
theorem insR_srt {r : Rd} : ∀ {A : List Rd}, A.Pairwise (fun x y => ltR x y = true) → (insR r A).Pairwise fun x y => ltR x y = true
  | [], _ => by simp [insR]
  | x :: A, h => by
    obtain ⟨h1, h2⟩ := List.pairwise_cons.1 h
    simp only [insR]
    split
    · rename_i hx
      refine List.pairwise_cons.2 ⟨fun y hy => ?_, insR_srt h2⟩
      rcases insR_frm hy with hy | hy
      · exact h1 y hy
      · rw [hy]; exact hx
    · rename_i hx
      split
      · refine List.pairwise_cons.2 ⟨fun y hy => ?_, h2⟩
        have := h1 y hy
        rw [ltR_iff] at this ⊢
        exact this
      · rename_i hk
        have hrx : ltR r x = true := by
          rw [ltR_iff] at hx ⊢
          rw [keyR_iff] at hk
          omega
        refine List.pairwise_cons.2 ⟨fun y hy => ?_, h⟩
        rcases List.mem_cons.1 hy with hy | hy
        · rw [hy]; exact hrx
        · have := h1 y hy
          rw [ltR_iff] at this hrx ⊢
          omega

theorem rsur_spec (l : List Rd) : RI l (rsur l) := by
  have key : ∀ i, i ≤ l.length → RI (l.take i) (rsur (l.take i)) := by
    intro i
    induction i with
    | zero => intro _; exact ⟨by simp [rsur], by simp [rsur], by simp⟩
    | succ i ih =>
      intro hi
      obtain ⟨a1, a2, a3⟩ := ih (by omega)
      rw [rsur_take (by omega), List.take_succ_eq_append_getElem (by omega : i < l.length)]
      obtain ⟨r, hr⟩ : ∃ r, r = l[i] := ⟨_, rfl⟩
      rw [← hr]
      unfold rsS
      cases ho : okS r with
      | false =>
        refine ⟨a1, fun p hp => ⟨List.mem_append_left _ (a2 p hp).1, (a2 p hp).2⟩, fun x hx hox => ?_⟩
        rcases List.mem_append.1 hx with hx | hx
        · exact a3 x hx hox
        · rw [List.mem_singleton] at hx; subst hx; rw [ho] at hox; cases hox
      | true =>
        refine ⟨insR_srt a1, fun p hp => ?_, fun x hx hox => ?_⟩
        · rcases insR_frm hp with hp | hp
          · exact ⟨List.mem_append_left _ (a2 p hp).1, (a2 p hp).2⟩
          · subst hp; exact ⟨by simp, ho⟩
        · rcases List.mem_append.1 hx with hx | hx
          · obtain ⟨y, h1, h2, h3, h4⟩ := a3 x hx hox
            obtain ⟨z, g1, g2, g3, g4⟩ := insR_old (r := r) h1
            exact ⟨z, g1, by omega, by omega, by omega⟩
          · rw [List.mem_singleton] at hx; subst hx
            exact insR_self _ _
  have := key l.length (Nat.le_refl _)
  rwa [List.take_length] at this

theorem sure_spec (l : List Rd) : RI l (sureL l) := by
  refine ⟨?_, fun x hx => sureL_mem hx, fun r hr ho => sureL_has hr ho⟩
  rw [List.pairwise_iff_getElem]
  intro i j hi hj hij
  have h' : j < (sortK (surM l)).length := by simpa [sureL] using hj
  have := sortK_lt (surM_spec l).nd hij h'
  rw [ltR_iff]
  simp only [ltP, decide_eq_true_eq] at this
  simpa [sureL] using this

theorem key_uniq {A : List Rd} (h : A.Pairwise fun x y => ltR x y = true) {x y : Rd} (hx : x ∈ A) (hy : y ∈ A) (h1 : x.f = y.f) (h2 : x.t = y.t) : x = y := by
  obtain ⟨i, hi, rfl⟩ := List.getElem_of_mem hx
  obtain ⟨j, hj, rfl⟩ := List.getElem_of_mem hy
  rw [List.pairwise_iff_getElem] at h
  rcases Nat.lt_trichotomy i j with hij | hij | hij
  · have := h i j hi hj hij
    rw [ltR_iff] at this; omega
  · subst hij; rfl
  · have := h j i hj hi hij
    rw [ltR_iff] at this; omega
theorem rd_same {x y : Rd} (h1 : x.f = y.f) (h2 : x.t = y.t) (h3 : x.d = y.d) : x = y := by
  cases x; cases y; simp only at h1 h2 h3; rw [h1, h2, h3]
theorem RI_sub {l A B : List Rd} (a : RI l A) (b : RI l B) : ∀ x ∈ A, x ∈ B := fun x hx => by
  obtain ⟨h1, h2⟩ := a.frm x hx
  obtain ⟨y, h3, h4, h5, h6⟩ := b.has x h1 h2
  obtain ⟨h7, h8⟩ := b.frm y h3
  obtain ⟨z, g3, g4, g5, g6⟩ := a.has y h7 h8
  have e := key_uniq a.srt g3 hx (by omega) (by omega)
  rw [e] at g6
  rw [rd_same h4.symm h5.symm (by omega : x.d = y.d)]
  exact h3
theorem srt_eq : ∀ {A B : List Rd}, A.Pairwise (fun x y => ltR x y = true) → B.Pairwise (fun x y => ltR x y = true) → (∀ x, x ∈ A ↔ x ∈ B) → A = B
  | [], [], _, _, _ => rfl
  | [], y :: B, _, _, h => absurd ((h y).2 (by simp)) (by simp)
  | x :: A, [], _, _, h => absurd ((h x).1 (by simp)) (by simp)
  | x :: A, y :: B, ha, hb, h => by
    obtain ⟨a1, a2⟩ := List.pairwise_cons.1 ha
    obtain ⟨b1, b2⟩ := List.pairwise_cons.1 hb
    have irr : ∀ z, ltR z z = false := fun z => by
      cases e : ltR z z with
      | false => rfl
      | true => rw [ltR_iff] at e; omega
    have e : x = y := by
      rcases List.mem_cons.1 ((h x).1 (by simp)) with e | hx
      · exact e
      · rcases List.mem_cons.1 ((h y).2 (by simp)) with e | hy
        · exact e.symm
        · have q1 := b1 x hx
          have q2 := a1 y hy
          rw [ltR_iff] at q1 q2
          omega
    subst e
    congr 1
    refine srt_eq a2 b2 fun z => ⟨fun hz => ?_, fun hz => ?_⟩
    · rcases List.mem_cons.1 ((h z).1 (List.mem_cons_of_mem _ hz)) with e | hz'
      · subst e; have := a1 _ hz; rw [irr] at this; cases this
      · exact hz'
    · rcases List.mem_cons.1 ((h z).2 (List.mem_cons_of_mem _ hz)) with e | hz'
      · subst e; have := b1 _ hz; rw [irr] at this; cases this
      · exact hz'

theorem rsur_eq (l : List Rd) : rsur l = sureL l :=
  srt_eq (rsur_spec l).srt (sure_spec l).srt fun x => ⟨RI_sub (rsur_spec l) (sure_spec l) x, RI_sub (sure_spec l) (rsur_spec l) x⟩
end Go.AM.Rod
