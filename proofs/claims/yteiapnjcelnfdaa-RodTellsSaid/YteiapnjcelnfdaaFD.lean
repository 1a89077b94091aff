/- A part of a proof about the given program: what its name says. No premise beyond the statements'. -/
import Derived.Test.YteiapnjcelnfdaaFB
set_option linter.unusedSimpArgs false
set_option linter.unusedVariables false
/- Rules for code, and for functions. -/
namespace Go.AM

def okCode (P : Program) (nt : Nat) : Code → LCode → Bool
  | .skip, .skip => true
  | .region _ ops draw, .region ls d => decide (d = draw) && (okOpers P nt ops ops.toList ls && (!draw || (P.follows .mixedOrders && regC ops ls)))
  | .seq a b, .seq a' b' => okCode P nt a a' && okCode P nt b b'
  | .cond c a b, .cond c' a' b' => okArg c c' && (okCode P nt a a' && okCode P nt b b')
  | .block id c, .block id' c' => decide (id = id') && okCode P nt c c'
  | .loop c, .loop c' => okCode P nt c c'
  | .exit id, .exit id' => decide (id = id')
  | .ret, .ret => true
  | _, _ => false

/-- What holds of each end of a run of the code that 'lc' stands for. -/
def LWP (P : Program) (nt n0 : Nat) (lc : LCode) (S : ST) (Q : Exit → ST → Prop) : Prop :=
  ∀ c, okCode P nt c lc = true → ∀ (X : Ctx) (φ : Nat → Option (Nat × Nat)) (I : Nat → Prop) (a : Act) (w : World), X.n0 = n0 → RelS X φ I S nt a w.heap →
    c.wp P (fun e a' w' => ∃ φ' I' S', RelS X φ' I' S' nt a' w'.heap ∧ Q e S' ∧ Keep w w') a w

section
variable {P : Program} {nt n0 : Nat} {S : ST} {Q : Exit → ST → Prop}

theorem LWP.mono {lc : LCode} {Q' : Exit → ST → Prop} (h : LWP P nt n0 lc S Q) (hq : ∀ e S, Q e S → Q' e S) : LWP P nt n0 lc S Q' :=
  fun c hc X φ I a w hn R => Go.wp_mono (h c hc X φ I a w hn R) fun e a' w' ⟨φ', I', S', h1, h2, h3⟩ => ⟨φ', I', S', h1, hq _ _ h2, h3⟩

theorem LWP_skip (h : Q .normal S) : LWP P nt n0 .skip S Q := fun c hc X φ I a w _ R => by
  cases c <;> simp only [okCode, Bool.false_eq_true] at hc
  exact wp_skip ⟨φ, I, S, R, h, Keep.refl w⟩

theorem LWP_exit {id : Nat} (h : Q (.exit id) S) : LWP P nt n0 (.exit id) S Q := fun c hc X φ I a w _ R => by
  cases c <;> simp only [okCode, Bool.false_eq_true, decide_eq_true_eq] at hc
  subst hc
  exact wp_exit ⟨φ, I, S, R, h, Keep.refl w⟩

theorem LWP_ret (h : Q .ret S) : LWP P nt n0 .ret S Q := fun c hc X φ I a w _ R => by
  cases c <;> simp only [okCode, Bool.false_eq_true] at hc
  exact wp_ret ⟨φ, I, S, R, h, Keep.refl w⟩

def seqQ (K : ST → Prop) (Q : Exit → ST → Prop) : Exit → ST → Prop
  | .normal, S => K S
  | e, S => Q e S

theorem LWP_seq {x y : LCode} (h : LWP P nt n0 x S (seqQ (fun S' => LWP P nt n0 y S' Q) Q)) : LWP P nt n0 (.seq x y) S Q := fun c hc X φ I a w hn R => by
  cases c <;> simp only [okCode, Bool.false_eq_true, Bool.and_eq_true] at hc
  refine wp_seq (Go.wp_mono (h _ hc.1 X φ I a w hn R) fun e a' w' ⟨φ', I', S', h1, h2, kp⟩ => ?_)
  cases e with
  | normal => exact Go.wp_mono (h2 _ hc.2 X φ' I' a' w' hn h1) fun e a'' w'' ⟨φ'', I'', S'', q1, q2, q3⟩ => ⟨φ'', I'', S'', q1, q2, kp.trans q3⟩
  | _ => exact ⟨φ', I', S', h1, h2, kp⟩

theorem LWP_cond {x : LArg} {t : Bool} {y z : LCode} (hx : x.ev S.vars = .bool t) (h1 : t = true → LWP P nt n0 y S Q) (h2 : t = false → LWP P nt n0 z S Q) : LWP P nt n0 (.cond x y z) S Q := fun c hc X φ I a w hn R => by
  cases c <;> simp only [okCode, Bool.false_eq_true, Bool.and_eq_true] at hc
  obtain ⟨h3, h4, h5⟩ := hc
  have h6 := ev_rel R.A h3
  simp only [ST.as] at h6
  rw [hx] at h6
  exact wp_cond_split (rel_bool h6) (fun ht => h1 ht _ h4 X φ I a w hn R) (fun ht => h2 ht _ h5 X φ I a w hn R)

def blockQ (id : Nat) (Q : Exit → ST → Prop) : Exit → ST → Prop
  | .exit id', S => if id' = id then Q .normal S else Q (.exit id') S
  | e, S => Q e S

theorem LWP_block {id : Nat} {x : LCode} (h : LWP P nt n0 x S (blockQ id Q)) : LWP P nt n0 (.block id x) S Q := fun c hc X φ I a w hn R => by
  cases c <;> simp only [okCode, Bool.false_eq_true, Bool.and_eq_true, decide_eq_true_eq] at hc
  obtain ⟨rfl, hc⟩ := hc
  refine wp_block (Go.wp_mono (h _ hc X φ I a w hn R) fun e a' w' ⟨φ', I', S', h1, h2, kp⟩ => ?_)
  cases e with
  | exit id' =>
    simp only [blockQ] at h2
    simp only [Exit.inBlock]
    split
    · rename_i h3; rw [if_pos h3] at h2; exact ⟨φ', I', S', h1, h2, kp⟩
    · rename_i h3; rw [if_neg h3] at h2; exact ⟨φ', I', S', h1, h2, kp⟩
  | _ => exact ⟨φ', I', S', h1, h2, kp⟩

theorem LWP_region {ls : List LOper} (h : rgnS P ls S fun S' => Q .normal S') : LWP P nt n0 (.region ls false) S Q := fun c hc X φ I a w _ R => by
  cases c <;> simp only [okCode, Bool.false_eq_true, Bool.and_eq_true, decide_eq_true_eq] at hc
  obtain ⟨rfl, hc, _⟩ := hc
  exact wp_region_list (rgnS_sound _ _ hc S a w φ I _ R h fun φ' I' S' a' w' k1 k2 k3 => ⟨φ', I', S', k2, k1, k3⟩)

theorem LWP_regionD {ls : List LOper} (h : dRun P ls 0 S.as fun S' => Q .normal (S'.fin ls.length)) : LWP P nt n0 (.region ls true) S Q := fun c hc X φ I a w _ R => by
  cases c <;> simp only [okCode, Bool.false_eq_true, Bool.and_eq_true, Bool.or_eq_true, Bool.not_eq_true', decide_eq_true_eq] at hc
  obtain ⟨rfl, hc, h1⟩ := hc
  rcases h1 with h1 | ⟨h1, h2⟩
  · cases h1
  · exact rgnD_sound (K := fun S' => Q .normal S') h1 hc h2 R h fun φ' I' S' a' w' k1 k2 k3 => ⟨φ', I', S', k2, k1, k3⟩

theorem least {p : Nat → Prop} (h : ∃ m, p m) : ∃ m, p m ∧ ∀ k, p k → m ≤ k := by
  obtain ⟨m, hm⟩ := h
  induction m using Nat.strongRecOn with
  | _ m ih =>
    by_cases h1 : ∃ k, k < m ∧ p k
    · obtain ⟨k, h2, h3⟩ := h1; exact ih k h2 h3
    · refine ⟨m, hm, fun k hk => ?_⟩
      rcases Nat.lt_or_ge k m with h2 | h2
      · exact absurd ⟨k, h2, hk⟩ h1
      · exact h2

open Classical in
/-- A loop: what holds at each round's head, with a number that goes down. -/
theorem LWP_loop {x : LCode} (Inv : Nat → ST → Prop) {m : Nat} (h0 : Inv m S) (h : ∀ m S, Inv m S → LWP P nt n0 x S (seqQ (fun S' => ∃ m', m' < m ∧ Inv m' S') Q)) : LWP P nt n0 (.loop x) S Q := fun c hc X φ I a w hn R => by
  cases c <;> simp only [okCode, Bool.false_eq_true] at hc
  rename_i body
  let At : Act → World → Nat → Prop := fun a w' m => ∃ φ I S, RelS X φ I S nt a w'.heap ∧ Inv m S ∧ Keep w w'
  let μ : Act → World → Nat := fun a w => if hh : ∃ m, At a w m then Classical.choose (least hh) else 0
  have hμ : ∀ a w m, At a w m → μ a w ≤ m ∧ At a w (μ a w) := fun a w m hm => by
    have hh : ∃ m, At a w m := ⟨m, hm⟩
    have e : μ a w = Classical.choose (least hh) := by simp only [μ]; rw [dif_pos hh]
    rw [e]
    have hs := Classical.choose_spec (least hh)
    exact ⟨hs.2 m hm, hs.1⟩
  refine wp_loop (fun a w => ∃ m, At a w m) μ ⟨m, φ, I, S, R, h0, Keep.refl w⟩ fun a w1 ⟨m, hm⟩ => ?_
  obtain ⟨h1, φ1, I1, S1, R1, hI, kp1⟩ := hμ a w1 m hm
  refine Go.wp_mono (h _ S1 hI _ hc X φ1 I1 a w1 hn R1) fun e a' w' ⟨φ', I', S', k1, k2, kp2⟩ => ?_
  cases e with
  | normal =>
    obtain ⟨m', k3, k4⟩ := k2
    have k5 : At a' w' m' := ⟨φ', I', S', k1, k4, kp1.trans kp2⟩
    exact ⟨⟨m', k5⟩, Nat.lt_of_le_of_lt (hμ a' w' m' k5).1 k3⟩
  | _ => exact ⟨φ', I', S', k1, k2, kp1.trans kp2⟩

/-! ### Functions -/
inductive LRes where
  | t (x : Nat)
  | cell (ag : Bool) (n x : Nat)
  deriving Inhabited

structure LFunc where
  nt : Nat
  np : Nat
  body : LCode
  res : List LRes

def okRes (P : Program) : List ResultVar → List LRes → Bool
  | [], [] => true
  | .tmp t :: l, .t x :: m => decide (t = x) && okRes P l m
  | .cell a t :: l, .cell ag n x :: m => decide (a = x) && (okPart P t ag n && okRes P l m)
  | _, _ => false

def okFunc (P : Program) (f : Nat) (lf : LFunc) : Bool := match P.funcs[f]? with
  | some fn => match fn.body with
    | some c => (fn.name != "runtime.NumGoroutine") && (decide (fn.ntmps = lf.nt) && (decide (lf.np ≤ lf.nt) && (okRes P fn.results.toList lf.res && okCode P lf.nt c lf.body)))
    | none => false
  | none => false

def resV1 (S : ST) : LRes → Option AV
  | .t x => get S.vars x
  | .cell ag n x => match get S.vars x with
    | some (.ptr sz b i j) => match get S.heap b with
      | some (.rows sz' es) => grd (decide (sz' = sz) && decide (i < es.length)) (ldCells ag n ((es.getD i []).drop j))
      | _ => none
    | _ => none

def resV (S : ST) : List LRes → Option (List AV)
  | [] => some []
  | r :: l => match resV1 S r with
    | some v => match resV S l with
      | some vs => some (v :: vs)
      | none => none
    | none => none

def retV : List AV → AV
  | [v] => v
  | vs => .tup vs

def parV : Nat → List AV → Vars
  | _, [] => []
  | i, v :: l => (i, v) :: parV (i + 1) l

theorem get_parV : ∀ (l : List AV) (i x : Nat), get (parV i l) x = if i ≤ x then l[x - i]? else none
  | [], i, x => by simp [parV, get]
  | v :: l, i, x => by
    simp only [parV, get, get_parV l (i + 1) x]
    by_cases h1 : i = x
    · subst h1; simp
    · rw [if_neg h1]
      by_cases h2 : i + 1 ≤ x
      · rw [if_pos h2, if_pos (by omega), show x - i = (x - (i + 1)) + 1 by omega]; simp
      · rw [if_neg h2, if_neg (by omega)]

def resF (tmps : Array Value) : ResultVar → Sem Value
  | .tmp t => pure (tmps.getD t undef)
  | .cell a t => do loadVar t (← asAddr (tmps.getD a undef))

theorem results_eq (fn : Func) (tmps : Array Value) : results fn tmps = (do
    let vs ← fn.results.mapM (resF tmps)
    pure (if h : vs.size = 1 then vs[0] else .tuple vs)) := by
  unfold results
  congr 2

theorem run_results {X : Ctx} {φ : Nat → Option (Nat × Nat)} {I : Nat → Prop} {a : Act} {w : World} (R : RelS X φ I S nt a w.heap) (f : ResultVar → Sem Value) (hf1 : ∀ t, f (.tmp t) = pure (a.tmps.getD t undef)) (hf2 : ∀ x t, f (.cell x t) = do loadVar t (← asAddr (a.tmps.getD x undef))) : ∀ (rs : List ResultVar) (ls : List LRes) (vs : List AV), okRes P rs ls = true → resV S ls = some vs →
    ∃ us : List Value, (rs.mapM f).run P w = .ok us w ∧ relL w.heap φ I S.as.A vs us
  | [], [], vs, _, h => by
    simp only [resV, Option.some.injEq] at h; subst h
    exact ⟨[], by simp, by simp [relL]⟩
  | r :: rs, l :: ls, vs, hok, h => by
    simp only [resV] at h
    split at h
    · rename_i v hv
      split at h
      · rename_i vs' hvs
        injection h with h; subst h
        have key : ∃ u, (f r).run P w = .ok u w ∧ relV w.heap φ I S.as.A v u ∧ okRes P rs ls = true := by
          cases r with
          | tmp t =>
            cases l with
            | t x =>
              simp only [okRes, Bool.and_eq_true, decide_eq_true_eq] at hok
              obtain ⟨rfl, hok⟩ := hok
              exact ⟨_, by rw [hf1]; rfl, R.A.vars _ _ (by simpa [resV1, ST.as] using hv), hok⟩
            | cell ag n x => simp [okRes] at hok
          | cell x t =>
            cases l with
            | t x => simp [okRes] at hok
            | cell ag n x' =>
              simp only [okRes, Bool.and_eq_true, decide_eq_true_eq] at hok
              obtain ⟨rfl, hp, hok⟩ := hok
              obtain ⟨u, h3, h4, h5⟩ := okPart_spec hp
              simp only [resV1] at hv
              split at hv
              · rename_i sz b i j hx
                split at hv
                · rename_i sz' es hb
                  obtain ⟨h6, h7⟩ := grd_some hv
                  simp only [Bool.and_eq_true, decide_eq_true_eq] at h6; obtain ⟨rfl, h8⟩ := h6
                  have hxr := R.A.vars _ _ (by simpa [ST.as] using hx)
                  simp only [relV] at hxr
                  obtain ⟨hA, c, oo, hφ, hxe⟩ := hxr
                  obtain ⟨_, hB⟩ := R.H.heap _ _ (by simpa [ST.as] using hb)
                  simp only [relB] at hB
                  rcases hB with ⟨k1, _⟩ | ⟨c', o', cs, el, k1, k2, k3⟩
                  · rw [hφ] at k1; cases k1
                  rw [hφ] at k1; injection k1 with k1; injection k1 with k4 k5; subst k4 k5
                  have k6 := relM_drop j (relR_get k3 h8).2
                  obtain ⟨v', w', k7, k8, k9⟩ := y_load (P := P) (w := w) h3 h4 h5 k6 h7
                  have hw : w' = w := by
                    unfold loadVar at k7
                    rw [Sem.run_bind, run_isAgg' h3, ← h4] at k7
                    cases ag with
                    | false =>
                      simp only [Result.andThen_ok, Bool.false_eq_true, if_false, run_load, cell_hcell] at k7
                      unfold ldCells at h7
                      simp only at h7
                      split at h7
                      · rename_i y ys hy
                        rw [hy] at k6
                        simp only [relM] at k6
                        obtain ⟨⟨q, q1, _, _⟩, _⟩ := k6
                        rw [q1] at k7
                        simp only [Result.ok.injEq] at k7
                        exact k7.2.symm
                      · cases h7
                    | true =>
                      simp only [Result.andThen_ok, if_true, Sem.run_bind] at k7
                      rw [run_szOf (h5 rfl)] at k7
                      unfold ldCells at h7
                      simp only at h7
                      obtain ⟨q1, q2⟩ := grd_some h7
                      obtain ⟨vs, q3, q4⟩ := relM_run (P := P) k6 n (by simpa using q1)
                      simp only [Result.andThen_ok, q4, Sem.run_pure, Result.ok.injEq] at k7
                      exact k7.2.symm
                  subst hw
                  refine ⟨v', ?_, k9, hok⟩
                  rw [hf2]
                  simp only [hxe, asAddr, Sem.run_bind, Sem.run_pure, Result.andThen_ok]
                  exact k7
                · cases hv
              · cases hv
        obtain ⟨u, k1, k2, k3⟩ := key
        obtain ⟨us, k4, k5⟩ := run_results R f hf1 hf2 rs ls vs' k3 hvs
        refine ⟨u :: us, ?_, by simp only [relL]; exact ⟨u, us, rfl, k2, k5⟩⟩
        simp only [List.mapM_cons, Sem.run_bind]
        rw [k1]
        simp only [Result.andThen_ok, k4, Sem.run_pure]
      · cases h
    · cases h
  | [], _ :: _, _, hok, _ => by simp [okRes] at hok
  | r :: rs, [], _, hok, _ => by cases r <;> simp [okRes] at hok

/-- What is left to show of a function's body. -/
def bodyQ (lf : LFunc) (K : AV → ST → Prop) (e : Exit) (S : ST) : Prop :=
  match e with
  | .normal | .ret => match resV S lf.res with
    | some vs => K (retV vs) S
    | none => False
  | _ => False

/-- A call, by the body. -/
theorem body_calls {f : Nat} {lf : LFunc} {args : List AV} {K : AV → ST → Prop} (hf : okFunc P f lf = true) (hn : args.length = lf.np) (h : LWP P lf.nt n0 lf.body ⟨parV 0 args, S.heap, S.next⟩ (bodyQ lf K))
    {X : Ctx} {φ : Nat → Option (Nat × Nat)} {I : Nat → Prop} {w : World} {cargs : List Value} (hX : X.n0 = n0) (R : RelH X φ I S.as w.heap) (ha : relL w.heap φ I S.as.A args cargs) :
    Calls P f cargs.toArray w fun e w' => ∃ cv r φ' I' S', e = .returned cv ∧ RelH X φ' I' S'.as w'.heap ∧ relV w'.heap φ' I' S'.as.A r cv ∧ K r S' ∧ Keep w w' := by
  unfold okFunc at hf
  split at hf
  · rename_i fn hfn
    split at hf
    · rename_i c hc
      simp only [Bool.and_eq_true, decide_eq_true_eq] at hf
      obtain ⟨_, h1, h2, h3, h4⟩ := hf
      have hcl := relL_length ha
      refine calls_of_wp hfn hc ?_
      have R0 : RelS X φ I ⟨parV 0 args, S.heap, S.next⟩ lf.nt { tmps := cargs.toArray ++ Array.replicate (fn.ntmps - cargs.toArray.size) undef, defers := [] } w.heap := by
        refine ⟨R.conv rfl rfl (fun _ => rfl) (Nat.le_refl _), fun x v hx => ?_, ?_, rfl⟩
        · simp only [ST.as, get_parV, Nat.zero_le, if_true, Nat.sub_zero] at hx
          obtain ⟨u, k1, k2⟩ := relL_get ha hx
          have hlt : x < cargs.length := by
            rcases Nat.lt_or_ge x cargs.length with h | h
            · exact h
            · rw [List.getElem?_eq_none h] at k1; cases k1
          rw [Array.getD_eq_getD_getElem?, Array.getElem?_append_left (by simpa using hlt)]
          simp only [List.getElem?_toArray, k1, Option.getD_some]
          exact k2
        · simp; omega
      refine Go.wp_mono (h c h4 X φ I _ w hX R0) fun e a' w' ⟨φ', I', S', k1, k2, kp⟩ => ?_
      have fin : (match resV S' lf.res with | some vs => K (retV vs) S' | none => False) → a'.defers = [] ∧ ∃ v, (results fn a'.tmps).run P w' = .ok v w' ∧ ∃ cv r φ' I' S', Ending.returned v = .returned cv ∧ RelH X φ' I' S'.as w'.heap ∧ relV w'.heap φ' I' S'.as.A r cv ∧ K r S' ∧ Keep w w' := fun k2 => by
        split at k2
        · rename_i vs hvs
          have k5 : ∃ us : List Value, (results fn a'.tmps).run P w' = .ok (if h : us.toArray.size = 1 then us.toArray[0] else .tuple us.toArray) w' ∧ relL w'.heap φ' I' S'.as.A vs us := by
            rw [results_eq, Array.mapM_eq_mapM_toList, Sem.run_bind, Sem.run_map]
            obtain ⟨us, k3, k4⟩ := run_results (P := P) k1 (resF a'.tmps) (fun _ => rfl) (fun _ _ => rfl) fn.results.toList lf.res vs h3 hvs
            refine ⟨us, ?_, k4⟩
            rw [k3]
            rfl
          obtain ⟨us, k5, k4⟩ := k5
          refine ⟨k1.A.defers, _, k5, _, retV vs, φ', I', S', rfl, k1.H.vars [] |>.conv rfl rfl (fun _ => rfl) (Nat.le_refl _), ?_, k2, kp⟩
          have hl := relL_length k4
          cases us with
          | nil =>
            cases vs with
            | nil => simp only [retV, relV]; exact ⟨[], rfl, by simp [relL]⟩
            | cons v vs => simp at hl
          | cons u us =>
            cases us with
            | nil =>
              cases vs with
              | nil => simp at hl
              | cons v vs =>
                cases vs with
                | nil => simp only [relL] at k4; obtain ⟨_, _, e, k6, _⟩ := k4; injection e with e _; subst e; exact k6
                | cons v' vs => simp at hl
            | cons u' us =>
              cases vs with
              | nil => simp at hl
              | cons v vs =>
                cases vs with
                | nil => simp at hl
                | cons v' vs => simp only [retV, relV]; exact ⟨_, rfl, k4⟩
        · exact k2.elim
      cases e with
      | normal => exact fin k2
      | ret => exact fin k2
      | _ => exact k2.elim
    · cases hf
  · cases hf

theorem okFunc_okFn {f : Nat} {lf : LFunc} (hf : okFunc P f lf = true) : okFn P f = true := by
  unfold okFunc at hf
  unfold okFn
  split at hf
  · rename_i fn hfn
    split at hf
    · rename_i c hc
      simp only [Bool.and_eq_true] at hf
      rw [hfn]; simp only [hc, Option.isSome_some, Bool.true_and]; exact hf.1
    · cases hf
  · cases hf

/-- A contract, by the body. -/
theorem ACalls_of_body {f : Nat} {lf : LFunc} {args : List AV} {H : Heap} {n : Nat} {Q : AV → Heap → Nat → Prop} (hf : okFunc P f lf = true) (hn : args.length = lf.np) (h : LWP P lf.nt n lf.body ⟨parV 0 args, H, n⟩ (bodyQ lf fun r S' => Q r S'.heap S'.next)) : ACalls P f args H n Q :=
  ⟨okFunc_okFn hf, fun w F φ I cargs R ha => by
    have hA : (ST.as ⟨[], H, n⟩).A = (· < n) := by funext b; exact propext (ST.as_A _ b)
    refine (body_calls (S := ⟨[], H, n⟩) (X := ⟨w.heap, F, φ, n, I⟩) hf hn h rfl R (by rw [hA]; exact ha)).mono fun e w' ⟨cv, r, φ', I', S', k1, k2, k3, k4, k5⟩ => ⟨cv, r, S'.heap, S'.next, φ', I', k1, k2.conv rfl rfl (fun _ => rfl) (Nat.le_refl _), ?_, k4, k5⟩
    have hA' : S'.as.A = (· < S'.next) := by funext b; exact propext (ST.as_A _ b)
    rw [← hA']; exact k3⟩
end
end Go.AM

/- Values without owned parts; calls on such values; the executable reading of code. -/
namespace Go.AM

theorem get_all {α : Type} {p : Nat → α → Prop} : ∀ {l : List (Nat × α)}, (∀ q ∈ l, p q.1 q.2) → ∀ x v, get l x = some v → p x v
  | [], _, _, _, h => by simp [get] at h
  | (k, u) :: l, H, x, v, h => by
    simp only [get] at h
    split at h
    · rename_i hk; subst hk; injection h with h; subst h; exact H (k, u) (by simp)
    · exact get_all (fun q hq => H q (List.mem_cons_of_mem _ hq)) x v h

mutual
def AV.pure : AV → Bool
  | .ptr _ _ _ _ | .sl _ _ _ _ | .map _ => false
  | .cptr cs => pureL cs
  | .tsl _ es => pureR es
  | .fn _ fs cs => pureL fs && pureL cs
  | .iface _ v => v.pure
  | .agg cs => pureL cs
  | .tup vs => pureL vs
  | _ => true
def pureL : List AV → Bool
  | [] => true
  | v :: l => v.pure && pureL l
def pureR : List (List AV) → Bool
  | [] => true
  | e :: es => pureL e && pureR es
end

section
variable {h : Array Obj} {φ φ' : Nat → Option (Nat × Nat)} {I A A' : Nat → Prop}
mutual
theorem relV_pure : ∀ (x : AV) (v : Value), x.pure = true → relV h φ I A x v → relV h φ' I A' x v
  | .any, _, _, _ => by simp [relV]
  | .bool _, _, _, H => by simpa [relV] using H
  | .int _ _, _, _, H => by simpa [relV] using H
  | .str _, _, _, H => by simpa [relV] using H
  | .nilp, _, _, H => by simpa [relV] using H
  | .nils, _, _, H => by simpa [relV] using H
  | .nilm, _, _, H => by simpa [relV] using H
  | .nilf, _, _, H => by simpa [relV] using H
  | .nili, _, _, H => by simpa [relV] using H
  | .ptr _ _ _ _, _, hp, _ => by simp [AV.pure] at hp
  | .sl _ _ _ _, _, hp, _ => by simp [AV.pure] at hp
  | .map _, _, hp, _ => by simp [AV.pure] at hp
  | .cptr cs, v, hp, H => by
    simp only [AV.pure] at hp
    simp only [relV] at H ⊢
    obtain ⟨c, o, h1, h2, h3⟩ := H
    exact ⟨c, o, h1, h2, relM_pure cs c o hp h3⟩
  | .tsl sz es, v, hp, H => by
    simp only [AV.pure] at hp
    simp only [relV] at H ⊢
    obtain ⟨base, cap, h1, h2, h3⟩ := H
    refine ⟨base, cap, h1, h2, ?_⟩
    rcases h3 with h3 | ⟨c, o, h3, h4, h5⟩
    · exact .inl h3
    · exact .inr ⟨c, o, h3, h4, relR_pure sz es c o hp h5⟩
  | .fn f fs cs, v, hp, H => by
    simp only [AV.pure, Bool.and_eq_true] at hp
    simp only [relV] at H ⊢
    obtain ⟨fs', cs', h1, h2, h3⟩ := H
    exact ⟨fs', cs', h1, relL_pure fs fs' hp.1 h2, relL_pure cs cs' hp.2 h3⟩
  | .iface t x, v, hp, H => by
    simp only [AV.pure] at hp
    simp only [relV] at H ⊢
    obtain ⟨y, h1, h2⟩ := H
    exact ⟨y, h1, relV_pure x y hp h2⟩
  | .agg cs, v, hp, H => by
    simp only [AV.pure] at hp
    simp only [relV] at H ⊢
    obtain ⟨vs, h1, h2⟩ := H
    exact ⟨vs, h1, relL_pure cs vs hp h2⟩
  | .tup cs, v, hp, H => by
    simp only [AV.pure] at hp
    simp only [relV] at H ⊢
    obtain ⟨vs, h1, h2⟩ := H
    exact ⟨vs, h1, relL_pure cs vs hp h2⟩
theorem relM_pure : ∀ (cs : List AV) (c o : Nat), pureL cs = true → relM h φ I A cs c o → relM h φ' I A' cs c o
  | [], _, _, _, _ => by simp [relM]
  | x :: cs, c, o, hp, H => by
    simp only [pureL, Bool.and_eq_true] at hp
    simp only [relM] at H ⊢
    obtain ⟨⟨v, h1, h0, h2⟩, h3⟩ := H
    exact ⟨⟨v, h1, h0, relV_pure x v hp.1 h2⟩, relM_pure cs c (o + 1) hp.2 h3⟩
theorem relR_pure (sz : Nat) : ∀ (es : List (List AV)) (c o : Nat), pureR es = true → relR h φ I A sz es c o → relR h φ' I A' sz es c o
  | [], _, _, _, _ => by simp [relR]
  | e :: es, c, o, hp, H => by
    simp only [pureR, Bool.and_eq_true] at hp
    simp only [relR] at H ⊢
    obtain ⟨h1, h2, h3⟩ := H
    exact ⟨h1, relM_pure e c o hp.1 h2, relR_pure sz es c (o + sz) hp.2 h3⟩
theorem relL_pure : ∀ (l : List AV) (vs : List Value), pureL l = true → relL h φ I A l vs → relL h φ' I A' l vs
  | [], _, _, H => by simpa [relL] using H
  | x :: l, vs, hp, H => by
    simp only [pureL, Bool.and_eq_true] at hp
    simp only [relL] at H ⊢
    obtain ⟨v, r, h1, h2, h3⟩ := H
    exact ⟨v, r, h1, relV_pure x v hp.1 h2, relL_pure l r hp.2 h3⟩
end
end

section
variable {P : Program} {X : Ctx} {φ : Nat → Option (Nat × Nat)} {I I' : Nat → Prop} {S : AS} {h h' : Array Obj}

/-- Memory has grown, and more of what is new stays as it is. -/
theorem RelH.later (R : RelH X φ I S h) (hsz : h.size ≤ h'.size) (hs : ∀ c, c < h.size → h'[c]? = h[c]?) (hI : ∀ c, I c → I' c) (hI' : ∀ c, I' c → I c ∨ h.size ≤ c) (hd : ∀ c, I' c → c < h'.size) :
    RelH X φ I' S h' ∧ Ext h φ I S.A h' φ I' S.A := by
  have E0 : Ext h φ I S.A h' φ I S.A := Ext.grown hs (fun _ _ => rfl) (fun _ h => h)
  have E : Ext h φ I S.A h' φ I' S.A := ⟨E0.cells, E0.sizes, E0.agree, hI, E0.inA⟩
  refine ⟨⟨fun b blk h1 => ?_, fun b blk c o h1 h2 => ?_, R.inj, hd, fun c hc => ?_, fun c hc => hI c (R.isup c hc), fun c h1 h2 => ?_, Nat.le_trans R.size hsz, fun c s h1 => E.sizes c s (R.sizes c s h1), R.agree, R.n0⟩, E⟩
  · obtain ⟨h2, h3⟩ := R.heap _ _ h1
    exact ⟨h2, relB_same E h2 (fun c o h4 => hs c (R.live _ _ _ _ h1 h4).1) h3⟩
  · obtain ⟨h3, h4, h5⟩ := R.live _ _ _ _ h1 h2
    refine ⟨by omega, fun h6 => ?_, h5⟩
    rcases hI' c h6 with h6 | h6
    · exact h4 h6
    · omega
  · rcases hI' c hc with hc | hc
    · exact R.isub c hc
    · exact .inr (.inr (by have := R.size; omega))
  · rw [hs c (by have := R.size; omega)]; exact R.frame c h1 h2

/-- A call on values without owned parts. -/
theorem ACalls.run {f : Nat} {args : List AV} {Q : AV → Heap → Nat → Prop} (H : ACalls P f args [] 0 Q) (hp : pureL args = true) {w : World} {cargs : List Value} (R : RelH X φ I S w.heap) (ha : relL w.heap φ I S.A args cargs) :
    Calls P f cargs.toArray w fun e w' => ∃ cv r H' n' I', e = .returned cv ∧ RelH X φ I' S w'.heap ∧ Ext w.heap φ I S.A w'.heap φ I' S.A ∧ Q r H' n' ∧ (r.pure = true → relV w'.heap φ I' S.A r cv) ∧ Keep w w' := by
  refine (H.2 w (fun _ => False) (fun _ => none) I cargs ⟨fun b blk h => by simp [get] at h, fun b blk c o h => by simp [get] at h, fun b b' c o c' o' h => by simp [get] at h, R.idom, fun c hc => .inl hc, fun c hc => hc, fun _ _ _ => rfl, Nat.le_refl _, fun _ _ h => h, fun b hb => absurd hb (Nat.not_lt_zero _), Nat.le_refl _⟩ (relL_pure _ _ hp ha)).mono ?_
  intro e w' ⟨cv, r, H', n', φ', I', h1, h2, h3, h4, h5⟩
  obtain ⟨k1, k2⟩ := R.later (h' := w'.heap) (I' := I') h2.size (fun c hc => h2.frame c hc (fun h => h)) h2.isup (fun c hc => (h2.isub c hc).imp id (fun h => h.resolve_left (fun h => h))) h2.idom
  exact ⟨cv, r, H', n', I', h1, k1, k2, h4, fun hr => relV_pure _ _ hr h3, h5⟩

theorem CallS.of_pure {f : Nat} {args : List AV} {Q : AV → Heap → Nat → Prop} {S : ST} {K : AV → ST → Prop} (H : ACalls P f args [] 0 Q) (hp : pureL args = true) (hK : ∀ r H' n', Q r H' n' → r.pure = true ∧ K r S) : CallS P f args S K :=
  ⟨H.1, fun X φ I w cargs R ha => (H.run hp R ha).mono fun e w' ⟨cv, r, H', n', I', h1, h2, h3, h4, h5, h6⟩ => ⟨cv, r, φ, I', S, h1, h2, h3, h5 (hK r H' n' h4).1, rfl, (hK r H' n' h4).2, h6⟩⟩

theorem QC.of_pure {f : Nat} {args : List AV} {n : Nat} {v : AV} (H : ACalls P f args [] 0 fun r _ _ => r = v) (hp : pureL args = true) (hv : v.pure = true) : QC P f args [] n v :=
  ⟨H.1, fun X φ I T w cargs R _ _ ha => (H.run hp R ha).mono fun e w' ⟨cv, r, H', n', I', h1, h2, h3, h4, h5, h6⟩ => ⟨cv, φ, I', h1, h2, h3, by subst h4; exact h5 hv, h6⟩⟩
end

/-! ### Drawn regions, as a function -/
def dEffF (S : AS) (i : Nat) (op : LOp) : Option Eff :=
  match op.cls with
  | 0 => opEff S.heap S.vars (S.next + i) op
  | 2 => opEff S.flush.heap S.vars (S.next + i) op
  | 4 => none
  | _ => match opEff S.heap S.vars (S.next + i) op with
    | some e => grd (softOK S.heap S.vars op && (op.args.all (fun x => (x.ev S.vars).ids.all fun b => decide (b < S.next)) && (match e.kill with
      | some b => (match get S.dead b with | none => true | some _ => false)
      | none => true))) (some e)
    | none => none

def rgnD (P : Program) : List LOper → Nat → AS → (AS → Prop) → Prop
  | [], _, S, K => K S
  | l :: ls, i, S, K => Option.sat (gd S.vars l.guard) fun b => match b with
    | false => rgnD P ls (i + 1) (S.appD l i { val := .tup [] }) K
    | true => (get S.used (S.next + i) = none) ∧ match l.op with
      | .call _ f args => match f.ev S.vars with
        | .fn g first caps => ∃ v H, QC P g (first ++ args.map (·.ev S.vars) ++ caps) H S.next v ∧ (∀ b blk, get H b = some blk → b < S.next ∧ get S.heap b = some blk ∧ get S.dead b = none) ∧ rgnD P ls (i + 1) (S.appD l i { val := v }) K
        | _ => False
      | op => Option.sat (dEffF S i op) fun e => rgnD P ls (i + 1) (S.appD l i e) K

theorem dEffF_spec {P : Program} {S : AS} {i : Nat} {l : LOper} {e : Eff} (hg : gd S.vars l.guard = some true) (hu : get S.used (S.next + i) = none) (h : dEffF S i l.op = some e) : DEff P S l i e := by
  refine .inr ⟨hg, hu, ?_⟩
  unfold dEffF at h
  split at h
  · rename_i hc; exact .inr (.inl ⟨hc, h⟩)
  · rename_i hc; exact .inr (.inr (.inr ⟨hc, h⟩))
  · cases h
  · rename_i h0 h2 h4
    split at h
    · rename_i e' he
      obtain ⟨h5, h6⟩ := grd_some h
      injection h6 with h6; subst h6
      simp only [Bool.and_eq_true, List.all_eq_true, decide_eq_true_eq] at h5
      have hc : l.op.cls = 1 ∨ l.op.cls = 3 := by
        have : l.op.cls ≤ 4 := by cases l.op <;> simp only [LOp.cls] <;> first | omega | skip
                                  rename_i k x; cases k <;> simp [LOp.cls]
        have a0 : l.op.cls ≠ 0 := fun h => h0 h
        have a2 : l.op.cls ≠ 2 := fun h => h2 h
        have a4 : l.op.cls ≠ 4 := fun h => h4 h
        omega
      refine .inr (.inr (.inl ⟨hc, he, h5.1, h5.2.1, fun b hb => ?_⟩))
      have := h5.2.2
      rw [hb] at this
      simp only at this
      split at this
      · assumption
      · cases this
    · cases h

theorem rgnD_run {P : Program} : ∀ {ls : List LOper} {i : Nat} {S : AS} {K : AS → Prop}, rgnD P ls i S K → dRun P ls i S K
  | [], _, _, _, h => h
  | l :: ls, i, S, K, h => by
    simp only [rgnD] at h
    cases hg : gd S.vars l.guard with
    | none => rw [hg] at h; exact h.elim
    | some b =>
      rw [hg] at h
      simp only [Option.sat] at h
      cases b with
      | false => exact ⟨_, .inl ⟨hg, rfl⟩, rgnD_run h⟩
      | true =>
        simp only at h
        obtain ⟨hu, h⟩ := h
        cases hl : l.op with
        | call q f args =>
          rw [hl] at h
          simp only at h
          cases hf : f.ev S.vars with
          | fn g first caps =>
            rw [hf] at h
            simp only at h
            obtain ⟨v, H, h1, h2, h3⟩ := h
            exact ⟨_, .inr ⟨hg, hu, .inl ⟨q, f, args, v, H, g, first, caps, hl, rfl, hf, h1, h2⟩⟩, rgnD_run h3⟩
          | _ => rw [hf] at h; exact h.elim
        | _ =>
          rw [hl] at h
          simp only at h
          rw [← hl] at h
          cases he : dEffF S i l.op with
          | none => rw [he] at h; exact h.elim
          | some e => rw [he] at h; exact ⟨e, dEffF_spec hg hu he, rgnD_run h⟩

theorem LWP_drawn {P : Program} {nt n0 : Nat} {S : ST} {Q : Exit → ST → Prop} {ls : List LOper} (h : rgnD P ls 0 S.as fun S' => Q .normal (S'.fin ls.length)) : LWP P nt n0 (.region ls true) S Q := LWP_regionD (rgnD_run h)

/-! ### The executable reading -/
inductive XE where
  | normal
  | exit (id : Nat)
  | ret

def XE.to : XE → Exit
  | .normal => .normal
  | .exit id => .exit id
  | .ret => .ret

def runS (call : Nat → List AV → ST → Option (AV × ST)) : List LOper → ST → Option ST
  | [], S => some S
  | o :: os, S => match gd S.vars o.guard with
    | none => none
    | some false => runS call os { S with vars := putV o.dst (.tup []) S.vars }
    | some true => match o.op with
      | .call _ f args => match f.ev S.vars with
        | .fn g first caps => match call g (first ++ args.map (·.ev S.vars) ++ caps) S with
          | some (r, S') => runS call os { S' with vars := putV o.dst r S.vars }
          | none => none
        | _ => none
      | op => match opEff S.heap S.vars S.next op with
        | some e => runS call os (S.app o.dst e)
        | none => none

def runD (call : Nat → List AV → ST → Option (AV × ST)) : List LOper → Nat → AS → Option AS
  | [], _, S => some S
  | l :: ls, i, S => match gd S.vars l.guard with
    | none => none
    | some false => runD call ls (i + 1) (S.appD l i { val := .tup [] })
    | some true => match get S.used (S.next + i) with
      | some _ => none
      | none => match l.op with
        | .call _ f args => match f.ev S.vars with
          | .fn g first caps => match pureL (first ++ args.map (·.ev S.vars) ++ caps) with
            | true => match call g (first ++ args.map (·.ev S.vars) ++ caps) ⟨[], [], 0⟩ with
              | some (r, _) => match r.pure with
                | true => runD call ls (i + 1) (S.appD l i { val := r })
                | false => none
              | none => none
            | false => none
          | _ => none
        | op => match dEffF S i op with
          | some e => runD call ls (i + 1) (S.appD l i e)
          | none => none

def callX (L : Nat → Option LFunc) (ex : LCode → ST → Option (XE × ST)) (f : Nat) (args : List AV) (S : ST) : Option (AV × ST) := match L f with
  | some lf => grd (decide (args.length = lf.np)) (match ex lf.body ⟨parV 0 args, S.heap, S.next⟩ with
    | some (.exit _, _) => none
    | some (_, S') => match resV S' lf.res with
      | some vs => some (retV vs, ⟨S.vars, S'.heap, S'.next⟩)
      | none => none
    | none => none)
  | none => none

def exec (L : Nat → Option LFunc) : Nat → LCode → ST → Option (XE × ST)
  | 0, _, _ => none
  | k + 1, c, S => match c with
    | .skip => some (.normal, S)
    | .region ls false => match runS (callX L (exec L k)) ls S with
      | some S' => some (.normal, S')
      | none => none
    | .region ls true => match runD (callX L (exec L k)) ls 0 S.as with
      | some S' => some (.normal, S'.fin ls.length)
      | none => none
    | .seq a b => match exec L k a S with
      | some (.normal, S') => exec L k b S'
      | r => r
    | .cond x a b => match x.ev S.vars with
      | .bool t => match t with
        | true => exec L k a S
        | false => exec L k b S
      | _ => none
    | .block id a => match exec L k a S with
      | some (.exit id', S') => some (match decide (id' = id) with | true => (.normal, S') | false => (.exit id', S'))
      | r => r
    | .loop a => match exec L k a S with
      | some (.normal, S') => exec L k (.loop a) S'
      | r => r
    | .exit id => some (.exit id, S)
    | .ret => some (.ret, S)
end Go.AM

/- The executable reading is sound. -/
namespace Go.AM

section
variable {P : Program} {L : Nat → Option LFunc}

def CallOK (P : Program) (call : Nat → List AV → ST → Option (AV × ST)) : Prop :=
  ∀ f args S r S', call f args S = some (r, S') → S'.vars = S.vars ∧ ∀ K : AV → ST → Prop, K r S' → CallS P f args S K

theorem runS_sound {call : Nat → List AV → ST → Option (AV × ST)} (hc : CallOK P call) : ∀ (ls : List LOper) (S S' : ST) (K : ST → Prop), runS call ls S = some S' → K S' → rgnS P ls S K
  | [], S, S', K, h, hK => by simp only [runS, Option.some.injEq] at h; subst h; exact hK
  | o :: os, S, S', K, h, hK => by
    simp only [runS] at h
    simp only [rgnS]
    cases hg : gd S.vars o.guard with
    | none => rw [hg] at h; cases h
    | some b =>
      rw [hg] at h
      simp only [Option.sat]
      cases b with
      | false => exact runS_sound hc os _ S' K h hK
      | true =>
        cases ho : o.op with
        | call q f args =>
          rw [ho] at h
          simp only at h ⊢
          cases hf : f.ev S.vars with
          | fn g first caps =>
            rw [hf] at h
            simp only at h ⊢
            split at h
            · rename_i r S1 hr
              obtain ⟨h1, h2⟩ := hc _ _ _ _ _ hr
              exact h2 _ (by rw [h1]; exact runS_sound hc os _ S' K h hK)
            · cases h
          | _ => rw [hf] at h; cases h
        | _ =>
          rw [ho] at h
          simp only at h ⊢
          split at h
          · rename_i e he
            rw [he]
            exact runS_sound hc os _ S' K h hK
          · cases h

theorem ACalls_of_CallS {f : Nat} {args : List AV} {H : Heap} {n : Nat} {K : AV → ST → Prop} (h : CallS P f args ⟨[], H, n⟩ K) : ACalls P f args H n fun r H' n' => ∃ S', K r S' ∧ H' = S'.heap ∧ n' = S'.next :=
  ⟨h.1, fun w F φ I cargs R ha => by
    have hA : (ST.as ⟨[], H, n⟩).A = (· < n) := by funext b; exact propext (ST.as_A _ b)
    refine (h.2 ⟨w.heap, F, φ, n, I⟩ φ I w cargs R (by rw [hA]; exact ha)).mono fun e w' ⟨cv, r, φ', I', S', k1, k2, k3, k4, k5, k6, k7⟩ => ⟨cv, r, S'.heap, S'.next, φ', I', k1, ?_, ?_, ⟨S', k6, rfl, rfl⟩, k7⟩
    · exact (k2.vars []).conv rfl rfl (fun _ => rfl) (Nat.le_refl _)
    · have hA' : S'.as.A = (· < S'.next) := by funext b; exact propext (ST.as_A _ b)
      rw [← hA']; exact k4⟩

theorem runD_sound {call : Nat → List AV → ST → Option (AV × ST)} (hc : CallOK P call) : ∀ (ls : List LOper) (i : Nat) (S S' : AS) (K : AS → Prop), runD call ls i S = some S' → K S' → rgnD P ls i S K
  | [], i, S, S', K, h, hK => by simp only [runD, Option.some.injEq] at h; subst h; exact hK
  | o :: os, i, S, S', K, h, hK => by
    simp only [runD] at h
    simp only [rgnD]
    cases hg : gd S.vars o.guard with
    | none => rw [hg] at h; cases h
    | some b =>
      rw [hg] at h
      simp only [Option.sat]
      cases b with
      | false => exact runD_sound hc os _ _ S' K h hK
      | true =>
        simp only at h ⊢
        split at h
        · cases h
        · rename_i hu
          refine ⟨hu, ?_⟩
          cases ho : o.op with
          | call q f args =>
            rw [ho] at h
            simp only at h ⊢
            cases hf : f.ev S.vars with
            | fn g first caps =>
              rw [hf] at h
              simp only at h ⊢
              split at h
              · rename_i hp
                split at h
                · rename_i r S1 hr
                  split at h
                  · rename_i hrp
                    refine ⟨r, [], QC.of_pure ?_ hp hrp, fun b blk hb => by simp [get] at hb, runD_sound hc os _ _ S' K h hK⟩
                    exact (ACalls_of_CallS ((hc _ _ _ _ _ hr).2 (fun r' _ => r' = r) rfl)).mono fun r' _ _ ⟨_, h1, _⟩ => h1
                  · cases h
                · cases h
              · cases h
            | _ => rw [hf] at h; cases h
          | _ =>
            rw [ho] at h
            simp only at h ⊢
            rw [← ho] at h ⊢
            split at h
            · rename_i e he
              rw [he]
              exact runD_sound hc os _ _ S' K h hK
            · cases h

theorem callX_ok {k : Nat} (hL : ∀ f lf, L f = some lf → okFunc P f lf = true) (IH : ∀ c S e S', exec L k c S = some (e, S') → ∀ nt n0 (Q : Exit → ST → Prop), Q e.to S' → LWP P nt n0 c S Q) : CallOK P (callX L (exec L k)) := by
  intro f args S r S' h
  unfold callX at h
  split at h
  · rename_i lf hlf
    obtain ⟨h1, h2⟩ := grd_some h
    simp only [decide_eq_true_eq] at h1
    have hok := hL f lf hlf
    split at h2
    · cases h2
    · rename_i e S1 hne hex
      split at h2
      · rename_i vs hvs
        injection h2 with h2; injection h2 with h3 h4; subst h3 h4
        refine ⟨rfl, fun K hK => ⟨okFunc_okFn hok, fun X φ I w cargs R ha => ?_⟩⟩
        have hb2 := body_calls (P := P) (S := S) (K := fun r S2 => r = retV vs ∧ S2 = S1) hok h1 (IH _ _ _ _ hex lf.nt S.next _ (by
          cases e with
          | normal => simp [XE.to, bodyQ, hvs]
          | ret => simp [XE.to, bodyQ, hvs]
          | exit id => exact (hne id rfl).elim)) (X := ⟨w.heap, fun c => (X.F c ∨ X.h0.size ≤ c) ∧ ¬ I c, φ, S.next, I⟩) (φ := φ) (I := I) (w := w) (cargs := cargs) rfl
          ⟨R.heap, fun b blk c o k1 k2 => ⟨(R.live b blk c o k1 k2).1, (R.live b blk c o k1 k2).2.1, .inl ⟨(R.live b blk c o k1 k2).2.2, (R.live b blk c o k1 k2).2.1⟩⟩, R.inj, R.idom, fun c hc => .inl hc, fun c hc => hc, fun _ _ _ => rfl, Nat.le_refl _, fun _ _ h => h, fun _ _ => rfl, Nat.le_refl _⟩ ha
        refine hb2.mono fun e' w' ⟨cv, r, φ', I', S2, k1, k2, k3, ⟨k4, k5⟩, kp⟩ => ?_
        subst k4 k5
        have hnn : S.next ≤ S2.next := k2.n0
        refine ⟨cv, retV vs, φ', I', ⟨S.vars, S2.heap, S2.next⟩, k1, ?_, ?_, k3, rfl, hK, kp⟩
        · refine ⟨k2.heap, fun b blk c o q1 q2 => ?_, k2.inj, k2.idom, fun c hc => ?_, fun c hc => k2.isup c (R.isup c hc), fun c q1 q2 => ?_, Nat.le_trans R.size k2.size, fun c s q => k2.sizes c s (R.sizes c s q), fun b hb => ?_, Nat.le_trans R.n0 hnn⟩
          · obtain ⟨p1, p2, p3⟩ := k2.live b blk c o q1 q2
            refine ⟨p1, p2, ?_⟩
            rcases p3 with p3 | p3
            · exact p3.1
            · simp only at p3; exact .inr (Nat.le_trans R.size p3)
          · rcases k2.isub c hc with p | p | p
            · exact R.isub c p
            · exact .inr p.1
            · simp only at p; exact .inr (.inr (Nat.le_trans R.size p))
          · have p1 := k2.frame c (Nat.lt_of_lt_of_le q1 R.size) (fun h => by
              rcases h.1 with h | h
              · exact q2 h
              · omega)
            simp only at p1
            rw [p1]; exact R.frame c q1 q2
          · rw [k2.agree b (Nat.lt_of_lt_of_le hb R.n0)]; exact R.agree b hb
        · have hiF : ∀ c, I c → c < w.heap.size := R.idom
          refine ⟨fun c o' v q1 q2 => ?_, fun c s q => k2.sizes c s q, fun b q => ?_, fun c q => k2.isup c q, fun b q => ?_⟩
          · have p1 := k2.frame c (hiF c q1) (fun h => h.2 q1)
            simp only at p1
            simpa [hcell, p1] using q2
          · rw [ST.as_A] at q; exact k2.agree b q
          · rw [ST.as_A] at q ⊢; simp only; omega
      · cases h2
    · cases h2
  · cases h

theorem exec_sound (hL : ∀ f lf, L f = some lf → okFunc P f lf = true) (k : Nat) : ∀ (c : LCode) (S : ST) (e : XE) (S' : ST), exec L k c S = some (e, S') → ∀ nt n0 (Q : Exit → ST → Prop), Q e.to S' → LWP P nt n0 c S Q := by
  induction k using Nat.strongRecOn with
  | _ k IHs =>
  cases k with
  | zero => intro c S e S' h; simp [exec] at h
  | succ k =>
    intro c S e S' h nt n0 Q hQ
    have IH := IHs k (by omega)
    have hc := callX_ok hL (IH)
    cases c with
    | skip => simp only [exec, Option.some.injEq, Prod.mk.injEq] at h; obtain ⟨rfl, rfl⟩ := h; exact LWP_skip hQ
    | exit id => simp only [exec, Option.some.injEq, Prod.mk.injEq] at h; obtain ⟨rfl, rfl⟩ := h; exact LWP_exit hQ
    | ret => simp only [exec, Option.some.injEq, Prod.mk.injEq] at h; obtain ⟨rfl, rfl⟩ := h; exact LWP_ret hQ
    | region ls d =>
      cases d with
      | false =>
        simp only [exec] at h
        split at h
        · rename_i S1 h1
          simp only [Option.some.injEq, Prod.mk.injEq] at h; obtain ⟨rfl, rfl⟩ := h
          exact LWP_region (runS_sound hc ls S S1 _ h1 hQ)
        · cases h
      | true =>
        simp only [exec] at h
        split at h
        · rename_i S1 h1
          simp only [Option.some.injEq, Prod.mk.injEq] at h; obtain ⟨rfl, rfl⟩ := h
          exact LWP_drawn (runD_sound hc ls 0 S.as S1 _ h1 hQ)
        · cases h
    | seq a b =>
      simp only [exec] at h
      refine LWP_seq ?_
      split at h
      · rename_i S1 h1
        exact IH _ _ _ _ h1 nt n0 _ (IH _ _ _ _ h nt n0 Q hQ)
      · rename_i h1
        refine IH _ _ _ _ h nt n0 _ ?_
        cases e with
        | normal => exact absurd h (h1 S')
        | exit id => exact hQ
        | ret => exact hQ
    | cond x a b =>
      simp only [exec] at h
      split at h
      · rename_i t hx
        refine LWP_cond hx (fun ht => ?_) (fun ht => ?_)
        · subst ht; exact IH _ _ _ _ h nt n0 Q hQ
        · subst ht; exact IH _ _ _ _ h nt n0 Q hQ
      · cases h
    | block id a =>
      simp only [exec] at h
      refine LWP_block ?_
      split at h
      · rename_i id' S1 h1
        refine IH _ _ _ _ h1 nt n0 _ ?_
        simp only [XE.to, blockQ]
        simp only [Option.some.injEq] at h
        by_cases hid : id' = id
        · simp only [hid, decide_true, Prod.mk.injEq] at h; obtain ⟨rfl, rfl⟩ := h
          rw [if_pos hid]; exact hQ
        · simp only [hid, decide_false, Prod.mk.injEq] at h; obtain ⟨rfl, rfl⟩ := h
          rw [if_neg hid]; exact hQ
      · rename_i h1
        refine IH _ _ _ _ h nt n0 _ ?_
        cases e with
        | normal => exact hQ
        | exit id' => exact absurd h (h1 id' S')
        | ret => exact hQ
    | loop a =>
      have key : ∀ (j : Nat), j ≤ k → ∀ (S : ST), exec L (j + 1) (.loop a) S = some (e, S') →
          ∃ m, ∃ T : Nat → ST, T m = S ∧ (∀ i, i < m → LWP P nt n0 a (T (i + 1)) (seqQ (fun S2 => S2 = T i) Q)) ∧ LWP P nt n0 a (T 0) (seqQ (fun _ => False) Q) := by
        intro j
        induction j with
        | zero => intro _ S h; simp [exec] at h
        | succ j ihj =>
          intro hj S h
          have IH := IHs (j + 1) (by omega)
          rw [exec] at h
          split at h
          · rename_i S1 h1
            obtain ⟨m, T, h2, h3, h4⟩ := ihj (by omega) S1 h
            refine ⟨m + 1, fun i => if i = m + 1 then S else T i, by simp, fun i hi => ?_, ?_⟩
            · by_cases him : i = m
              · subst him
                dsimp only
                rw [if_pos rfl, if_neg (by omega), h2]
                exact IH _ _ _ _ h1 nt n0 _ rfl
              · dsimp only
                rw [if_neg (by omega), if_neg (by omega)]
                exact h3 i (by omega)
            · dsimp only
              rw [if_neg (by omega)]; exact h4
          · rename_i h1
            refine ⟨0, fun _ => S, rfl, fun i hi => by omega, IH _ _ _ _ h nt n0 _ ?_⟩
            cases e with
            | normal => exact absurd h (h1 S')
            | exit id => exact hQ
            | ret => exact hQ
      obtain ⟨m, T, h1, h2, h3⟩ := key k (Nat.le_refl _) S h
      refine LWP_loop (fun i S2 => i ≤ m ∧ S2 = T i) (m := m) ⟨Nat.le_refl _, h1.symm⟩ fun i S2 ⟨hi, hS⟩ => ?_
      subst hS
      cases i with
      | zero =>
        refine h3.mono fun e S3 h4 => ?_
        cases e <;> first | exact h4 | exact h4.elim
      | succ i =>
        refine (h2 i (by omega)).mono fun e S3 h4 => ?_
        cases e <;> first | exact h4 | exact ⟨i, by omega, by omega, h4⟩

/-- A call whose arguments are told, run to its end. -/
theorem ACalls_of_exec (hL : ∀ f lf, L f = some lf → okFunc P f lf = true) {k f : Nat} {args : List AV} {H : Heap} {n : Nat} {r : AV} {S' : ST} (h : callX L (exec L k) f args ⟨[], H, n⟩ = some (r, S')) :
    ACalls P f args H n fun r' H' n' => r' = r ∧ H' = S'.heap ∧ n' = S'.next :=
  (ACalls_of_CallS ((callX_ok hL (exec_sound hL k) _ _ _ _ _ h).2 (fun r' S2 => r' = r ∧ S2 = S') ⟨rfl, rfl⟩)).mono fun r' H' n' ⟨S2, ⟨h1, h2⟩, h3, h4⟩ => by subst h2; exact ⟨h1, h3, h4⟩
end
end Go.AM
