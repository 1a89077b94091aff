/- A part of a proof about the given program: what its name says. No premise beyond the statements'. -/
import Derived.Test.YteiapnjcelnfdaaRodS
set_option linter.unusedSimpArgs false
set_option linter.unusedVariables false
/- The longest rods alone: what the list of them has. -/
namespace Go.AM.Rod
open Go.AM

theorem put_mem {k : Int × Int} {v : Int} : ∀ {M : Mp} {p : (Int × Int) × Int}, p ∈ put k v M → p ∈ M ∨ p = (k, v)
  | [], p, h => by simp [put] at h; exact .inr h
  | (k', w) :: M, p, h => by
    simp only [put] at h
    by_cases hk : k = k'
    · subst hk
      rw [if_pos rfl, List.mem_cons] at h
      rcases h with h | h
      · by_cases hw : w < v
        · rw [if_pos hw] at h; exact .inr h
        · rw [if_neg hw] at h; exact .inl (by rw [h]; simp)
      · exact .inl (List.mem_cons_of_mem _ h)
    · rw [if_neg hk, List.mem_cons] at h
      rcases h with h | h
      · exact .inl (by rw [h]; simp)
      · rcases put_mem h with h | h
        · exact .inl (List.mem_cons_of_mem _ h)
        · exact .inr h
theorem put_old {k : Int × Int} {v : Int} : ∀ {M : Mp} {k0 : Int × Int} {w0 : Int}, (k0, w0) ∈ M → ∃ w, w0 ≤ w ∧ (k0, w) ∈ put k v M
  | (k', w) :: M, k0, w0, h => by
    simp only [put]
    rw [List.mem_cons] at h
    by_cases hk : k = k'
    · rw [if_pos hk]
      rcases h with h | h
      · have e1 : k0 = k' := congrArg Prod.fst h
        have e2 : w0 = w := congrArg Prod.snd h
        subst e1 e2
        by_cases hw : w0 < v
        · exact ⟨v, by omega, by rw [if_pos hw]; simp⟩
        · exact ⟨w0, Int.le_refl _, by rw [if_neg hw]; simp⟩
      · exact ⟨w0, Int.le_refl _, List.mem_cons_of_mem _ h⟩
    · rw [if_neg hk]
      rcases h with h | h
      · exact ⟨w0, Int.le_refl _, by rw [h]; simp⟩
      · obtain ⟨w, h1, h2⟩ := put_old (k := k) (v := v) h
        exact ⟨w, h1, List.mem_cons_of_mem _ h2⟩
theorem put_new (k : Int × Int) (v : Int) : ∀ (M : Mp), ∃ w, v ≤ w ∧ (k, w) ∈ put k v M
  | [] => ⟨v, Int.le_refl _, by simp [put]⟩
  | (k', w) :: M => by
    simp only [put]
    by_cases hk : k = k'
    · subst hk
      rw [if_pos rfl]
      by_cases hw : w < v
      · exact ⟨v, Int.le_refl _, by rw [if_pos hw]; simp⟩
      · exact ⟨w, by omega, by rw [if_neg hw]; simp⟩
    · rw [if_neg hk]
      obtain ⟨w, h1, h2⟩ := put_new k v M
      exact ⟨w, h1, List.mem_cons_of_mem _ h2⟩

structure SurI (l : List Rd) (M : Mp) : Prop where
  nd : (M.map (·.1)).Nodup
  frm : ∀ p ∈ M, ∃ r ∈ l, okS r = true ∧ (r.f, r.t) = p.1 ∧ r.d = p.2
  has : ∀ r ∈ l, okS r = true → ∃ w, r.d ≤ w ∧ ((r.f, r.t), w) ∈ M

theorem surM_spec (l : List Rd) : SurI l (surM l) := by
  have key : ∀ i, i ≤ l.length → SurI (l.take i) (surM (l.take i)) := by
    intro i
    induction i with
    | zero => intro _; exact ⟨by simp [surM], by simp [surM], by simp⟩
    | succ i ih =>
      intro hi
      obtain ⟨a1, a2, a3⟩ := ih (by omega)
      rw [surM_take (by omega), List.take_succ_eq_append_getElem (by omega : i < l.length)]
      obtain ⟨r, hr⟩ : ∃ r, r = l[i] := ⟨_, rfl⟩
      rw [← hr]
      unfold surS
      cases ho : okS r with
      | false =>
        refine ⟨a1, fun p hp => ?_, fun x hx hox => ?_⟩
        · obtain ⟨x, h1, h2⟩ := a2 p hp
          exact ⟨x, List.mem_append_left _ h1, h2⟩
        · rcases List.mem_append.1 hx with hx | hx
          · exact a3 x hx hox
          · rw [List.mem_singleton] at hx; subst hx; rw [ho] at hox; cases hox
      | true =>
        refine ⟨?_, fun p hp => ?_, fun x hx hox => ?_⟩
        · simp only [cond_true]
          rw [put_keys]
          split
          · exact a1
          · rename_i hn
            exact List.nodup_append.2 ⟨a1, by simp, fun x hx y hy => by rw [List.mem_singleton] at hy; subst hy; exact fun e => hn (e ▸ hx)⟩
        · rcases put_mem hp with hp | hp
          · obtain ⟨x, h1, h2⟩ := a2 p hp
            exact ⟨x, List.mem_append_left _ h1, h2⟩
          · exact ⟨r, by simp, ho, by rw [hp], by rw [hp]⟩
        · rcases List.mem_append.1 hx with hx | hx
          · obtain ⟨w, h1, h2⟩ := a3 x hx hox
            obtain ⟨w', h3, h4⟩ := put_old (k := (r.f, r.t)) (v := r.d) h2
            exact ⟨w', Int.le_trans h1 h3, h4⟩
          · rw [List.mem_singleton] at hx; subst hx
            exact put_new _ _ _
  have := key l.length (Nat.le_refl _)
  rwa [List.take_length] at this

theorem vl_mem {k : Int × Int} : ∀ {M : Mp}, k ∈ M.map (·.1) → (k, vl k M) ∈ M
  | (k', w) :: M, h => by
    simp only [vl]
    by_cases hk : k = k'
    · subst hk; simp
    · rw [if_neg hk]
      rw [List.map_cons, List.mem_cons] at h
      exact List.mem_cons_of_mem _ (vl_mem (h.resolve_left hk))
theorem vl_of {k : Int × Int} {v : Int} : ∀ {M : Mp}, (M.map (·.1)).Nodup → (k, v) ∈ M → vl k M = v
  | (k', w) :: M, hn, h => by
    rw [List.map_cons, List.nodup_cons] at hn
    simp only [vl]
    rw [List.mem_cons] at h
    rcases h with h | h
    · cases h; simp
    · by_cases hk : k = k'
      · subst hk
        exact absurd (List.mem_map.2 ⟨(k, v), h, rfl⟩) hn.1
      · rw [if_neg hk]; exact vl_of hn.2 h

theorem sortK_perm (M : Mp) : (sortK M).Perm (M.map (·.1)) := by
  obtain ⟨⟨h1, _, h3⟩, _⟩ := Go.Sort.sort_sorts ltP (by rw [← ltP_eq]; exact prK_swo) (keysA M)
  rw [show (Go.Sort.sort ltP (keysA M)).extract 0 (keysA M).size = Go.Sort.sort ltP (keysA M) by rw [← h1]; exact Array.extract_size, show (keysA M).extract 0 (keysA M).size = keysA M from Array.extract_size] at h3
  exact h3
theorem sortK_len (M : Mp) : (sortK M).length = M.length := by rw [(sortK_perm M).length_eq, List.length_map]
theorem sortK_lt {M : Mp} (hn : (M.map (·.1)).Nodup) {i j : Nat} (hij : i < j) (hj : j < (sortK M).length) : ltP (sortK M)[i] (sortK M)[j] = true := by
  obtain ⟨⟨h1, _, _⟩, h2⟩ := Go.Sort.sort_sorts ltP (by rw [← ltP_eq]; exact prK_swo) (keysA M)
  have hsz : (keysA M).size = (sortK M).length := by rw [sortK_len]; simp [keysA]
  have h3 := h2 i j (Nat.zero_le _) hij (by omega)
  have e : ∀ n (hn : n < (sortK M).length), (Go.Sort.sort ltP (keysA M))[n]! = (sortK M)[n] := fun n hn => by
    have hn' : n < (Go.Sort.sort ltP (keysA M)).size := by simpa [sortK] using hn
    simp [sortK, hn', getElem!_pos]
  rw [e i (by omega), e j hj] at h3
  have hnd : (sortK M).Nodup := (sortK_perm M).nodup_iff.2 hn
  have hne : (sortK M)[i] ≠ (sortK M)[j] := fun e => by
    have := (List.pairwise_iff_getElem.1 hnd) i j (by omega) hj hij
    exact this e
  obtain ⟨p, hx⟩ : ∃ p, p = (sortK M)[i] := ⟨_, rfl⟩
  obtain ⟨q, hy⟩ : ∃ p, p = (sortK M)[j] := ⟨_, rfl⟩
  rw [← hx, ← hy] at h3 hne ⊢
  have hne' : ¬ (p.1 = q.1 ∧ p.2 = q.2) := fun ⟨e1, e2⟩ => hne (Prod.ext e1 e2)
  simp only [ltP, decide_eq_false_iff_not] at h3
  simp only [ltP, decide_eq_true_eq]
  omega

theorem sureL_len (l : List Rd) : (sureL l).length ≤ l.length := by
  rw [sureL, List.length_map, sortK_len]; exact surM_len l
theorem sureL_mem {l : List Rd} {x : Rd} (h : x ∈ sureL l) : x ∈ l ∧ okS x = true := by
  obtain ⟨k, hk, rfl⟩ := List.mem_map.1 h
  have h1 : k ∈ (surM l).map (·.1) := (sortK_perm _).mem_iff.1 hk
  obtain ⟨r, h2, h3, h4, h5⟩ := (surM_spec l).frm _ (vl_mem h1)
  simp only at h4 h5
  have : (⟨k.1, k.2, vl k (surM l)⟩ : Rd) = r := by
    obtain ⟨f, t, d⟩ := r
    simp only at h4 h5
    subst h4
    simp only
    rw [← h5]
  rw [this]
  exact ⟨h2, h3⟩
theorem sureL_has {l : List Rd} {r : Rd} (hr : r ∈ l) (ho : okS r = true) : ∃ x ∈ sureL l, x.f = r.f ∧ x.t = r.t ∧ r.d ≤ x.d := by
  obtain ⟨w, h1, h2⟩ := (surM_spec l).has r hr ho
  have hk : (r.f, r.t) ∈ (surM l).map (·.1) := List.mem_map.2 ⟨_, h2, rfl⟩
  refine ⟨⟨r.f, r.t, vl (r.f, r.t) (surM l)⟩, List.mem_map.2 ⟨(r.f, r.t), (sortK_perm _).mem_iff.2 hk, rfl⟩, rfl, rfl, ?_⟩
  simp only
  rw [vl_of (surM_spec l).nd h2]
  exact h1
theorem sureL_lt {l : List Rd} {i : Nat} (h : i + 1 < (sureL l).length) : (sureL l)[i].f < (sureL l)[i + 1].f ∨ ((sureL l)[i].f = (sureL l)[i + 1].f ∧ (sureL l)[i].t < (sureL l)[i + 1].t) := by
  have h' : i + 1 < (sortK (surM l)).length := by simpa [sureL] using h
  have := sortK_lt (surM_spec l).nd (Nat.lt_succ_self i) h'
  simp only [ltP, decide_eq_true_eq] at this
  simpa [sureL] using this

theorem chk_okS {l : List Rd} {n : Int} (h : chkL l n = true) : ∀ x ∈ l, okS x = true := fun x hx => by
  have := chk_rng h x hx
  simp [okS]; omega

theorem sure_holds {l : List Rd} {xs : List Int} (h : chkL l xs.length = true) : holdsL (sureL l) xs = holdsL l xs := by
  have hc : chkL (sureL l) xs.length = true := by
    have h0 := h
    simp only [chkL, Bool.and_eq_true, decide_eq_true_eq, List.all_eq_true] at h ⊢
    refine ⟨h.1, ?_, fun x hx => h.2.2 x (sureL_mem hx).1⟩
    have := sureL_len l
    omega
  have hs : (sureL l).any (shortR xs) = l.any (shortR xs) := by
    apply Bool.eq_iff_iff.2
    simp only [List.any_eq_true]
    constructor
    · rintro ⟨x, hx, h1⟩
      exact ⟨x, (sureL_mem hx).1, h1⟩
    · rintro ⟨r, hr, h1⟩
      obtain ⟨x, hx, e1, e2, e3⟩ := sureL_has hr (chk_okS h r hr)
      refine ⟨x, hx, ?_⟩
      simp only [shortR, decide_eq_true_eq] at h1 ⊢
      rw [e1, e2]
      omega
  simp only [holdsL, h, hc, hs]
end Go.AM.Rod
