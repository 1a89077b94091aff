/- The executable reading is sound. -/
import Derived.Test.YteiapnjcelnfdaaAM20
set_option linter.unusedSimpArgs false
set_option linter.unusedVariables false
namespace Go.AM

section
variable {P : Program} {L : Nat → Option LFunc}

def CallOK (P : Program) (call : Nat → List AV → ST → Option (AV × ST)) : Prop :=
  ∀ f args S r S', call f args S = some (r, S') → S'.vars = S.vars ∧ ∀ K : AV → ST → Prop, K r S' → CallS P f args S K

theorem runS_sound {call : Nat → List AV → ST → Option (AV × ST)} (hc : CallOK P call) : ∀ (ls : List LOper) (S S' : ST) (K : ST → Prop), runS call ls S = some S' → K S' → rgnS P ls S K
  | [], S, S', K, h, hK => by simp only [runS, Option.some.injEq] at h; subst h; exact hK
  | o :: os, S, S', K, h, hK => by
    simp only [runS] at h
    simp only [rgnS]
    cases hg : gd S.vars o.guard with
    | none => rw [hg] at h; cases h
    | some b =>
      rw [hg] at h
      simp only [Option.sat]
      cases b with
      | false => exact runS_sound hc os _ S' K h hK
      | true =>
        cases ho : o.op with
        | call q f args =>
          rw [ho] at h
          simp only at h ⊢
          cases hf : f.ev S.vars with
          | fn g first caps =>
            rw [hf] at h
            simp only at h ⊢
            split at h
            · rename_i r S1 hr
              obtain ⟨h1, h2⟩ := hc _ _ _ _ _ hr
              exact h2 _ (by rw [h1]; exact runS_sound hc os _ S' K h hK)
            · cases h
          | _ => rw [hf] at h; cases h
        | _ =>
          rw [ho] at h
          simp only at h ⊢
          split at h
          · rename_i e he
            rw [he]
            exact runS_sound hc os _ S' K h hK
          · cases h

theorem ACalls_of_CallS {f : Nat} {args : List AV} {H : Heap} {n : Nat} {K : AV → ST → Prop} (h : CallS P f args ⟨[], H, n⟩ K) : ACalls P f args H n fun r H' n' => ∃ S', K r S' ∧ H' = S'.heap ∧ n' = S'.next :=
  ⟨h.1, fun w F φ I cargs R ha => by
    have hA : (ST.as ⟨[], H, n⟩).A = (· < n) := by funext b; exact propext (ST.as_A _ b)
    refine (h.2 ⟨w.heap, F, φ, n, I⟩ φ I w cargs R (by rw [hA]; exact ha)).mono fun e w' ⟨cv, r, φ', I', S', k1, k2, k3, k4, k5, k6, k7⟩ => ⟨cv, r, S'.heap, S'.next, φ', I', k1, ?_, ?_, ⟨S', k6, rfl, rfl⟩, k7⟩
    · exact (k2.vars []).conv rfl rfl (fun _ => rfl) (Nat.le_refl _)
    · have hA' : S'.as.A = (· < S'.next) := by funext b; exact propext (ST.as_A _ b)
      rw [← hA']; exact k4⟩

theorem runD_sound {call : Nat → List AV → ST → Option (AV × ST)} (hc : CallOK P call) : ∀ (ls : List LOper) (i : Nat) (S S' : AS) (K : AS → Prop), runD call ls i S = some S' → K S' → rgnD P ls i S K
  | [], i, S, S', K, h, hK => by simp only [runD, Option.some.injEq] at h; subst h; exact hK
  | o :: os, i, S, S', K, h, hK => by
    simp only [runD] at h
    simp only [rgnD]
    cases hg : gd S.vars o.guard with
    | none => rw [hg] at h; cases h
    | some b =>
      rw [hg] at h
      simp only [Option.sat]
      cases b with
      | false => exact runD_sound hc os _ _ S' K h hK
      | true =>
        simp only at h ⊢
        split at h
        · cases h
        · rename_i hu
          refine ⟨hu, ?_⟩
          cases ho : o.op with
          | call q f args =>
            rw [ho] at h
            simp only at h ⊢
            cases hf : f.ev S.vars with
            | fn g first caps =>
              rw [hf] at h
              simp only at h ⊢
              split at h
              · rename_i hp
                split at h
                · rename_i r S1 hr
                  split at h
                  · rename_i hrp
                    refine ⟨r, [], QC.of_pure ?_ hp hrp, fun b blk hb => by simp [get] at hb, runD_sound hc os _ _ S' K h hK⟩
                    exact (ACalls_of_CallS ((hc _ _ _ _ _ hr).2 (fun r' _ => r' = r) rfl)).mono fun r' _ _ ⟨_, h1, _⟩ => h1
                  · cases h
                · cases h
              · cases h
            | _ => rw [hf] at h; cases h
          | _ =>
            rw [ho] at h
            simp only at h ⊢
            rw [← ho] at h ⊢
            split at h
            · rename_i e he
              rw [he]
              exact runD_sound hc os _ _ S' K h hK
            · cases h

theorem callX_ok {k : Nat} (hL : ∀ f lf, L f = some lf → okFunc P f lf = true) (IH : ∀ c S e S', exec L k c S = some (e, S') → ∀ nt n0 (Q : Exit → ST → Prop), Q e.to S' → LWP P nt n0 c S Q) : CallOK P (callX L (exec L k)) := by
  intro f args S r S' h
  unfold callX at h
  split at h
  · rename_i lf hlf
    obtain ⟨h1, h2⟩ := grd_some h
    simp only [decide_eq_true_eq] at h1
    have hok := hL f lf hlf
    split at h2
    · cases h2
    · rename_i e S1 hne hex
      split at h2
      · rename_i vs hvs
        injection h2 with h2; injection h2 with h3 h4; subst h3 h4
        refine ⟨rfl, fun K hK => ⟨okFunc_okFn hok, fun X φ I w cargs R ha => ?_⟩⟩
        have hb2 := body_calls (P := P) (S := S) (K := fun r S2 => r = retV vs ∧ S2 = S1) hok h1 (IH _ _ _ _ hex lf.nt S.next _ (by
          cases e with
          | normal => simp [XE.to, bodyQ, hvs]
          | ret => simp [XE.to, bodyQ, hvs]
          | exit id => exact (hne id rfl).elim)) (X := ⟨w.heap, fun c => (X.F c ∨ X.h0.size ≤ c) ∧ ¬ I c, φ, S.next, I⟩) (φ := φ) (I := I) (w := w) (cargs := cargs) rfl
          ⟨R.heap, fun b blk c o k1 k2 => ⟨(R.live b blk c o k1 k2).1, (R.live b blk c o k1 k2).2.1, .inl ⟨(R.live b blk c o k1 k2).2.2, (R.live b blk c o k1 k2).2.1⟩⟩, R.inj, R.idom, fun c hc => .inl hc, fun c hc => hc, fun _ _ _ => rfl, Nat.le_refl _, fun _ _ h => h, fun _ _ => rfl, Nat.le_refl _⟩ ha
        refine hb2.mono fun e' w' ⟨cv, r, φ', I', S2, k1, k2, k3, ⟨k4, k5⟩, kp⟩ => ?_
        subst k4 k5
        have hnn : S.next ≤ S2.next := k2.n0
        refine ⟨cv, retV vs, φ', I', ⟨S.vars, S2.heap, S2.next⟩, k1, ?_, ?_, k3, rfl, hK, kp⟩
        · refine ⟨k2.heap, fun b blk c o q1 q2 => ?_, k2.inj, k2.idom, fun c hc => ?_, fun c hc => k2.isup c (R.isup c hc), fun c q1 q2 => ?_, Nat.le_trans R.size k2.size, fun c s q => k2.sizes c s (R.sizes c s q), fun b hb => ?_, Nat.le_trans R.n0 hnn⟩
          · obtain ⟨p1, p2, p3⟩ := k2.live b blk c o q1 q2
            refine ⟨p1, p2, ?_⟩
            rcases p3 with p3 | p3
            · exact p3.1
            · simp only at p3; exact .inr (Nat.le_trans R.size p3)
          · rcases k2.isub c hc with p | p | p
            · exact R.isub c p
            · exact .inr p.1
            · simp only at p; exact .inr (.inr (Nat.le_trans R.size p))
          · have p1 := k2.frame c (Nat.lt_of_lt_of_le q1 R.size) (fun h => by
              rcases h.1 with h | h
              · exact q2 h
              · omega)
            simp only at p1
            rw [p1]; exact R.frame c q1 q2
          · rw [k2.agree b (Nat.lt_of_lt_of_le hb R.n0)]; exact R.agree b hb
        · have hiF : ∀ c, I c → c < w.heap.size := R.idom
          refine ⟨fun c o' v q1 q2 => ?_, fun c s q => k2.sizes c s q, fun b q => ?_, fun c q => k2.isup c q, fun b q => ?_⟩
          · have p1 := k2.frame c (hiF c q1) (fun h => h.2 q1)
            simp only at p1
            simpa [hcell, p1] using q2
          · rw [ST.as_A] at q; exact k2.agree b q
          · rw [ST.as_A] at q ⊢; simp only; omega
      · cases h2
    · cases h2
  · cases h

theorem exec_sound (hL : ∀ f lf, L f = some lf → okFunc P f lf = true) (k : Nat) : ∀ (c : LCode) (S : ST) (e : XE) (S' : ST), exec L k c S = some (e, S') → ∀ nt n0 (Q : Exit → ST → Prop), Q e.to S' → LWP P nt n0 c S Q := by
  induction k using Nat.strongRecOn with
  | _ k IHs =>
  cases k with
  | zero => intro c S e S' h; simp [exec] at h
  | succ k =>
    intro c S e S' h nt n0 Q hQ
    have IH := IHs k (by omega)
    have hc := callX_ok hL (IH)
    cases c with
    | skip => simp only [exec, Option.some.injEq, Prod.mk.injEq] at h; obtain ⟨rfl, rfl⟩ := h; exact LWP_skip hQ
    | exit id => simp only [exec, Option.some.injEq, Prod.mk.injEq] at h; obtain ⟨rfl, rfl⟩ := h; exact LWP_exit hQ
    | ret => simp only [exec, Option.some.injEq, Prod.mk.injEq] at h; obtain ⟨rfl, rfl⟩ := h; exact LWP_ret hQ
    | region ls d =>
      cases d with
      | false =>
        simp only [exec] at h
        split at h
        · rename_i S1 h1
          simp only [Option.some.injEq, Prod.mk.injEq] at h; obtain ⟨rfl, rfl⟩ := h
          exact LWP_region (runS_sound hc ls S S1 _ h1 hQ)
        · cases h
      | true =>
        simp only [exec] at h
        split at h
        · rename_i S1 h1
          simp only [Option.some.injEq, Prod.mk.injEq] at h; obtain ⟨rfl, rfl⟩ := h
          exact LWP_drawn (runD_sound hc ls 0 S.as S1 _ h1 hQ)
        · cases h
    | seq a b =>
      simp only [exec] at h
      refine LWP_seq ?_
      split at h
      · rename_i S1 h1
        exact IH _ _ _ _ h1 nt n0 _ (IH _ _ _ _ h nt n0 Q hQ)
      · rename_i h1
        refine IH _ _ _ _ h nt n0 _ ?_
        cases e with
        | normal => exact absurd h (h1 S')
        | exit id => exact hQ
        | ret => exact hQ
    | cond x a b =>
      simp only [exec] at h
      split at h
      · rename_i t hx
        refine LWP_cond hx (fun ht => ?_) (fun ht => ?_)
        · subst ht; exact IH _ _ _ _ h nt n0 Q hQ
        · subst ht; exact IH _ _ _ _ h nt n0 Q hQ
      · cases h
    | block id a =>
      simp only [exec] at h
      refine LWP_block ?_
      split at h
      · rename_i id' S1 h1
        refine IH _ _ _ _ h1 nt n0 _ ?_
        simp only [XE.to, blockQ]
        simp only [Option.some.injEq] at h
        by_cases hid : id' = id
        · simp only [hid, decide_true, Prod.mk.injEq] at h; obtain ⟨rfl, rfl⟩ := h
          rw [if_pos hid]; exact hQ
        · simp only [hid, decide_false, Prod.mk.injEq] at h; obtain ⟨rfl, rfl⟩ := h
          rw [if_neg hid]; exact hQ
      · rename_i h1
        refine IH _ _ _ _ h nt n0 _ ?_
        cases e with
        | normal => exact hQ
        | exit id' => exact absurd h (h1 id' S')
        | ret => exact hQ
    | loop a =>
      have key : ∀ (j : Nat), j ≤ k → ∀ (S : ST), exec L (j + 1) (.loop a) S = some (e, S') →
          ∃ m, ∃ T : Nat → ST, T m = S ∧ (∀ i, i < m → LWP P nt n0 a (T (i + 1)) (seqQ (fun S2 => S2 = T i) Q)) ∧ LWP P nt n0 a (T 0) (seqQ (fun _ => False) Q) := by
        intro j
        induction j with
        | zero => intro _ S h; simp [exec] at h
        | succ j ihj =>
          intro hj S h
          have IH := IHs (j + 1) (by omega)
          rw [exec] at h
          split at h
          · rename_i S1 h1
            obtain ⟨m, T, h2, h3, h4⟩ := ihj (by omega) S1 h
            refine ⟨m + 1, fun i => if i = m + 1 then S else T i, by simp, fun i hi => ?_, ?_⟩
            · by_cases him : i = m
              · subst him
                dsimp only
                rw [if_pos rfl, if_neg (by omega), h2]
                exact IH _ _ _ _ h1 nt n0 _ rfl
              · dsimp only
                rw [if_neg (by omega), if_neg (by omega)]
                exact h3 i (by omega)
            · dsimp only
              rw [if_neg (by omega)]; exact h4
          · rename_i h1
            refine ⟨0, fun _ => S, rfl, fun i hi => by omega, IH _ _ _ _ h nt n0 _ ?_⟩
            cases e with
            | normal => exact absurd h (h1 S')
            | exit id => exact hQ
            | ret => exact hQ
      obtain ⟨m, T, h1, h2, h3⟩ := key k (Nat.le_refl _) S h
      refine LWP_loop (fun i S2 => i ≤ m ∧ S2 = T i) (m := m) ⟨Nat.le_refl _, h1.symm⟩ fun i S2 ⟨hi, hS⟩ => ?_
      subst hS
      cases i with
      | zero =>
        refine h3.mono fun e S3 h4 => ?_
        cases e <;> first | exact h4 | exact h4.elim
      | succ i =>
        refine (h2 i (by omega)).mono fun e S3 h4 => ?_
        cases e <;> first | exact h4 | exact ⟨i, by omega, by omega, h4⟩

/-- A call whose arguments are told, run to its end. -/
theorem ACalls_of_exec (hL : ∀ f lf, L f = some lf → okFunc P f lf = true) {k f : Nat} {args : List AV} {H : Heap} {n : Nat} {r : AV} {S' : ST} (h : callX L (exec L k) f args ⟨[], H, n⟩ = some (r, S')) :
    ACalls P f args H n fun r' H' n' => r' = r ∧ H' = S'.heap ∧ n' = S'.next :=
  (ACalls_of_CallS ((callX_ok hL (exec_sound hL k) _ _ _ _ _ h).2 (fun r' S2 => r' = r ∧ S2 = S') ⟨rfl, rfl⟩)).mono fun r' H' n' ⟨S2, ⟨h1, h2⟩, h3, h4⟩ => by subst h2; exact ⟨h1, h3, h4⟩
end
end Go.AM
