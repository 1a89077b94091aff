/- A part of a proof about the given program: what its name says. No premise beyond the statements'. -/
import Derived.Test.YteiapnjcelnfdaaRodM
set_option linter.unusedSimpArgs false
set_option linter.unusedVariables false
namespace Go.AM.Rod
open Go.AM

theorem fold_mx {α : Type} (f : α → Int) : ∀ (l : List α) (x : Int), x ≤ l.foldl (fun x r => mx x (f r)) x ∧ (∀ r ∈ l, f r ≤ l.foldl (fun x r => mx x (f r)) x) ∧ (∀ y, x ≤ y → (∀ r ∈ l, f r ≤ y) → l.foldl (fun x r => mx x (f r)) x ≤ y)
  | [], x => by simp
  | a :: l, x => by
    obtain ⟨h1, h2, h3⟩ := fold_mx f l (mx x (f a))
    have hx : x ≤ mx x (f a) ∧ f a ≤ mx x (f a) := by unfold mx; split <;> omega
    refine ⟨by simp only [List.foldl_cons]; omega, fun r hr => ?_, fun y hy hr => ?_⟩
    · simp only [List.foldl_cons]
      rcases List.mem_cons.1 hr with rfl | hr
      · omega
      · exact h2 r hr
    · simp only [List.foldl_cons]
      refine h3 y ?_ (fun r hr' => hr r (List.mem_cons_of_mem _ hr'))
      have := hr a (by simp)
      unfold mx; split <;> omega

/-- What the places up to column k are. -/
structure Places (l : List Rd) (m k : Nat) (xs : List Int) : Prop where
  len : xs.length = m
  zero : xs.getD 0 0 = 0
  rng : ∀ i, i ≤ k → 0 ≤ xs.getD i 0 ∧ xs.getD i 0 ≤ 1125899906842624
  val : ∀ i, i < k → i + 1 < m → xs.getD (i + 1) 0 = placeL xs (fil l l.length (i + 1)) (i + 1)

theorem placeL_congr {xs ys : List Int} {F : List Rd} {i : Nat} (h : ∀ r ∈ F, xs.getD r.f.toNat 0 = ys.getD r.f.toNat 0) (h2 : xs.getD (i - 1) 0 = ys.getD (i - 1) 0) : placeL xs F i = placeL ys F i := by
  simp only [placeL, h2]
  generalize IntKind.i64.wrap (ys.getD (i - 1) 0 + 1) = x
  revert x
  induction F with
  | nil => intro x; rfl
  | cons a F ih =>
    intro x
    simp only [List.foldl_cons, h a (by simp)]
    exact ih (fun r hr => h r (List.mem_cons_of_mem _ hr)) _

theorem getD_set_ne' {xs : List Int} {i j : Nat} {v : Int} (h : j ≠ i) : (xs.set i v).getD j 0 = xs.getD j 0 := by
  simp only [List.getD_eq_getElem?_getD]
  rw [List.getElem?_set_ne (fun e => h e.symm)]

theorem places_ok {l : List Rd} {m : Nat} (hrg : ∀ x ∈ l, 0 ≤ x.f ∧ x.f < x.t ∧ x.t < m) (hd : ∀ x ∈ l, 1 ≤ x.d ∧ x.d ≤ 1073741824) : ∀ (k : Nat) (xs : List Int), leastSt l m k = some xs → k < m ∨ k = 0 → Places l m k xs
  | 0, xs, h, _ => by
    simp only [leastSt, Option.some.injEq] at h
    subst h
    have z : ∀ i, (List.replicate m (0 : Int)).getD i 0 = 0 := fun i => by
      simp only [List.getD_eq_getElem?_getD, List.getElem?_replicate]
      split <;> rfl
    exact ⟨by simp, z 0, fun i _ => by rw [z]; omega, fun i hi => by omega⟩
  | k + 1, xs, h, hk => by
    have hk' : k + 1 < m := by omega
    simp only [leastSt] at h
    cases h1 : leastSt l m k with
    | none => simp [h1] at h
    | some ys =>
      simp only [h1] at h
      split at h
      · cases h
      · rename_i hle
        cases h
        obtain ⟨p1, p2, p3, p4⟩ := places_ok hrg hd k ys h1 (by omega)
        have hf : ∀ i, i ≤ k → ∀ r ∈ fil l l.length (i + 1), r.f.toNat ≤ i := fun i hi r hr => by
          obtain ⟨q1, q2⟩ := fil_mem hr
          have := hrg r q1
          omega
        have hset : (ys.set (k + 1) (placeL ys (fil l l.length (k + 1)) (k + 1))).getD (k + 1) 0 = placeL ys (fil l l.length (k + 1)) (k + 1) := by
          simp [List.getD_eq_getElem?_getD, p1, hk']
        have hlow : 0 ≤ placeL ys (fil l l.length (k + 1)) (k + 1) := by
          have := (fold_mx (fun r : Rd => IntKind.i64.wrap (ys.getD r.f.toNat 0 + r.d)) (fil l l.length (k + 1)) (IntKind.i64.wrap (ys.getD (k + 1 - 1) 0 + 1))).1
          have hr := p3 k (Nat.le_refl _)
          rw [show k + 1 - 1 = k by omega, wrap_i64 (by omega) (by omega)] at this
          simp only [placeL, show k + 1 - 1 = k by omega]
          rw [wrap_i64 (by omega) (by omega)]
          omega
        refine ⟨by simp [p1], by rw [getD_set_ne' (by omega)]; exact p2, fun i hi => ?_, fun i hi hm => ?_⟩
        · by_cases hik : i = k + 1
          · subst hik; rw [hset]; omega
          · rw [getD_set_ne' hik]; exact p3 i (by omega)
        · by_cases hik : i = k
          · subst hik
            rw [hset]
            exact placeL_congr (fun r hr => by rw [getD_set_ne' (by have := hf i (Nat.le_refl _) r hr; omega)]) (by rw [getD_set_ne' (by omega)])
          · rw [getD_set_ne' (by omega), p4 i (by omega) hm]
            exact placeL_congr (fun r hr => by rw [getD_set_ne' (by have := hf i (by omega) r hr; omega)]) (by rw [getD_set_ne' (by omega)])

/-- Each place is behind the one before it, as far as each rod says, and no farther than it must be. -/
theorem places_law {l : List Rd} {m : Nat} (hrg : ∀ x ∈ l, 0 ≤ x.f ∧ x.f < x.t ∧ x.t < m) (hd : ∀ x ∈ l, 1 ≤ x.d ∧ x.d ≤ 1073741824) {xs : List Int} (h : leastSt l m (m - 1) = some xs) :
    Places l m (m - 1) xs ∧ (∀ i, i + 1 < m → xs.getD i 0 < xs.getD (i + 1) 0) ∧ (∀ r ∈ l, r.d ≤ xs.getD r.t.toNat 0 - xs.getD r.f.toNat 0) ∧
    (∀ ys : List Int, 0 ≤ ys.getD 0 0 → (∀ i, i + 1 < m → ys.getD i 0 < ys.getD (i + 1) 0) → (∀ r ∈ l, r.d ≤ ys.getD r.t.toNat 0 - ys.getD r.f.toNat 0) → ∀ i, i < m → xs.getD i 0 ≤ ys.getD i 0) := by
  have P := places_ok hrg hd (m - 1) xs h (by omega)
  have key : ∀ i, i + 1 < m → (xs.getD i 0 + 1 ≤ xs.getD (i + 1) 0) ∧ (∀ r ∈ fil l l.length (i + 1), xs.getD r.f.toNat 0 + r.d ≤ xs.getD (i + 1) 0) ∧ (∀ y, xs.getD i 0 + 1 ≤ y → (∀ r ∈ fil l l.length (i + 1), xs.getD r.f.toNat 0 + r.d ≤ y) → xs.getD (i + 1) 0 ≤ y) := fun i hi => by
    obtain ⟨f1, f2, f3⟩ := fold_mx (fun r : Rd => IntKind.i64.wrap (xs.getD r.f.toNat 0 + r.d)) (fil l l.length (i + 1)) (IntKind.i64.wrap (xs.getD (i + 1 - 1) 0 + 1))
    have hv := P.val i (by omega) hi
    simp only [placeL] at hv
    rw [← hv] at f1 f2 f3
    have ri := P.rng i (by omega)
    rw [show i + 1 - 1 = i by omega, wrap_i64 (by omega) (by omega)] at f1 f3
    have hw : ∀ r ∈ fil l l.length (i + 1), IntKind.i64.wrap (xs.getD r.f.toNat 0 + r.d) = xs.getD r.f.toNat 0 + r.d := fun r hr => by
      obtain ⟨q1, q2⟩ := fil_mem hr
      have a1 := hrg r q1
      have a2 := hd r q1
      have a3 := P.rng r.f.toNat (by omega)
      exact wrap_i64 (by omega) (by omega)
    exact ⟨f1, fun r hr => by rw [← hw r hr]; exact f2 r hr, fun y y1 y2 => f3 y y1 (fun r hr => by simp only [hw r hr]; exact y2 r hr)⟩
  refine ⟨P, fun i hi => by have := (key i hi).1; omega, fun r hr => ?_, fun ys y0 y1 y2 i => ?_⟩
  · obtain ⟨a1, a2, a3⟩ := hrg r hr
    have hmem : r ∈ fil l l.length (r.t.toNat - 1 + 1) := by
      simp only [fil, List.take_length, List.mem_filter, decide_eq_true_eq]
      exact ⟨hr, by omega⟩
    have := (key (r.t.toNat - 1) (by omega)).2.1 r hmem
    rw [show r.t.toNat - 1 + 1 = r.t.toNat by omega] at this
    omega
  · induction i using Nat.strongRecOn with
    | _ i ih =>
      intro hi
      cases i with
      | zero => rw [P.zero]; exact y0
      | succ i =>
        refine (key i hi).2.2 _ ?_ (fun r hr => ?_)
        · have := ih i (by omega) (by omega); have := y1 i hi; omega
        · obtain ⟨q1, q2⟩ := fil_mem hr
          have a1 := hrg r q1
          have b1 := ih r.f.toNat (by omega) (by omega)
          have b2 := y2 r q1
          rw [show r.t.toNat = i + 1 by omega] at b2
          omega
end Go.AM.Rod
