/- Rules for code, and for functions. -/
import Derived.Test.YteiapnjcelnfdaaAM18
set_option linter.unusedSimpArgs false
set_option linter.unusedVariables false
namespace Go.AM

def okCode (P : Program) (nt : Nat) : Code → LCode → Bool
  | .skip, .skip => true
  | .region _ ops draw, .region ls d => decide (d = draw) && (okOpers P nt ops ops.toList ls && (!draw || (P.follows .mixedOrders && regC ops ls)))
  | .seq a b, .seq a' b' => okCode P nt a a' && okCode P nt b b'
  | .cond c a b, .cond c' a' b' => okArg c c' && (okCode P nt a a' && okCode P nt b b')
  | .block id c, .block id' c' => decide (id = id') && okCode P nt c c'
  | .loop c, .loop c' => okCode P nt c c'
  | .exit id, .exit id' => decide (id = id')
  | .ret, .ret => true
  | _, _ => false

/-- What holds of each end of a run of the code that 'lc' stands for. -/
def LWP (P : Program) (nt n0 : Nat) (lc : LCode) (S : ST) (Q : Exit → ST → Prop) : Prop :=
  ∀ c, okCode P nt c lc = true → ∀ (X : Ctx) (φ : Nat → Option (Nat × Nat)) (I : Nat → Prop) (a : Act) (w : World), X.n0 = n0 → RelS X φ I S nt a w.heap →
    c.wp P (fun e a' w' => ∃ φ' I' S', RelS X φ' I' S' nt a' w'.heap ∧ Q e S' ∧ Keep w w') a w

section
variable {P : Program} {nt n0 : Nat} {S : ST} {Q : Exit → ST → Prop}

theorem LWP.mono {lc : LCode} {Q' : Exit → ST → Prop} (h : LWP P nt n0 lc S Q) (hq : ∀ e S, Q e S → Q' e S) : LWP P nt n0 lc S Q' :=
  fun c hc X φ I a w hn R => Go.wp_mono (h c hc X φ I a w hn R) fun e a' w' ⟨φ', I', S', h1, h2, h3⟩ => ⟨φ', I', S', h1, hq _ _ h2, h3⟩

theorem LWP_skip (h : Q .normal S) : LWP P nt n0 .skip S Q := fun c hc X φ I a w _ R => by
  cases c <;> simp only [okCode, Bool.false_eq_true] at hc
  exact wp_skip ⟨φ, I, S, R, h, Keep.refl w⟩

theorem LWP_exit {id : Nat} (h : Q (.exit id) S) : LWP P nt n0 (.exit id) S Q := fun c hc X φ I a w _ R => by
  cases c <;> simp only [okCode, Bool.false_eq_true, decide_eq_true_eq] at hc
  subst hc
  exact wp_exit ⟨φ, I, S, R, h, Keep.refl w⟩

theorem LWP_ret (h : Q .ret S) : LWP P nt n0 .ret S Q := fun c hc X φ I a w _ R => by
  cases c <;> simp only [okCode, Bool.false_eq_true] at hc
  exact wp_ret ⟨φ, I, S, R, h, Keep.refl w⟩

def seqQ (K : ST → Prop) (Q : Exit → ST → Prop) : Exit → ST → Prop
  | .normal, S => K S
  | e, S => Q e S

theorem LWP_seq {x y : LCode} (h : LWP P nt n0 x S (seqQ (fun S' => LWP P nt n0 y S' Q) Q)) : LWP P nt n0 (.seq x y) S Q := fun c hc X φ I a w hn R => by
  cases c <;> simp only [okCode, Bool.false_eq_true, Bool.and_eq_true] at hc
  refine wp_seq (Go.wp_mono (h _ hc.1 X φ I a w hn R) fun e a' w' ⟨φ', I', S', h1, h2, kp⟩ => ?_)
  cases e with
  | normal => exact Go.wp_mono (h2 _ hc.2 X φ' I' a' w' hn h1) fun e a'' w'' ⟨φ'', I'', S'', q1, q2, q3⟩ => ⟨φ'', I'', S'', q1, q2, kp.trans q3⟩
  | _ => exact ⟨φ', I', S', h1, h2, kp⟩

theorem LWP_cond {x : LArg} {t : Bool} {y z : LCode} (hx : x.ev S.vars = .bool t) (h1 : t = true → LWP P nt n0 y S Q) (h2 : t = false → LWP P nt n0 z S Q) : LWP P nt n0 (.cond x y z) S Q := fun c hc X φ I a w hn R => by
  cases c <;> simp only [okCode, Bool.false_eq_true, Bool.and_eq_true] at hc
  obtain ⟨h3, h4, h5⟩ := hc
  have h6 := ev_rel R.A h3
  simp only [ST.as] at h6
  rw [hx] at h6
  exact wp_cond_split (rel_bool h6) (fun ht => h1 ht _ h4 X φ I a w hn R) (fun ht => h2 ht _ h5 X φ I a w hn R)

def blockQ (id : Nat) (Q : Exit → ST → Prop) : Exit → ST → Prop
  | .exit id', S => if id' = id then Q .normal S else Q (.exit id') S
  | e, S => Q e S

theorem LWP_block {id : Nat} {x : LCode} (h : LWP P nt n0 x S (blockQ id Q)) : LWP P nt n0 (.block id x) S Q := fun c hc X φ I a w hn R => by
  cases c <;> simp only [okCode, Bool.false_eq_true, Bool.and_eq_true, decide_eq_true_eq] at hc
  obtain ⟨rfl, hc⟩ := hc
  refine wp_block (Go.wp_mono (h _ hc X φ I a w hn R) fun e a' w' ⟨φ', I', S', h1, h2, kp⟩ => ?_)
  cases e with
  | exit id' =>
    simp only [blockQ] at h2
    simp only [Exit.inBlock]
    split
    · rename_i h3; rw [if_pos h3] at h2; exact ⟨φ', I', S', h1, h2, kp⟩
    · rename_i h3; rw [if_neg h3] at h2; exact ⟨φ', I', S', h1, h2, kp⟩
  | _ => exact ⟨φ', I', S', h1, h2, kp⟩

theorem LWP_region {ls : List LOper} (h : rgnS P ls S fun S' => Q .normal S') : LWP P nt n0 (.region ls false) S Q := fun c hc X φ I a w _ R => by
  cases c <;> simp only [okCode, Bool.false_eq_true, Bool.and_eq_true, decide_eq_true_eq] at hc
  obtain ⟨rfl, hc, _⟩ := hc
  exact wp_region_list (rgnS_sound _ _ hc S a w φ I _ R h fun φ' I' S' a' w' k1 k2 k3 => ⟨φ', I', S', k2, k1, k3⟩)

theorem LWP_regionD {ls : List LOper} (h : dRun P ls 0 S.as fun S' => Q .normal (S'.fin ls.length)) : LWP P nt n0 (.region ls true) S Q := fun c hc X φ I a w _ R => by
  cases c <;> simp only [okCode, Bool.false_eq_true, Bool.and_eq_true, Bool.or_eq_true, Bool.not_eq_true', decide_eq_true_eq] at hc
  obtain ⟨rfl, hc, h1⟩ := hc
  rcases h1 with h1 | ⟨h1, h2⟩
  · cases h1
  · exact rgnD_sound (K := fun S' => Q .normal S') h1 hc h2 R h fun φ' I' S' a' w' k1 k2 k3 => ⟨φ', I', S', k2, k1, k3⟩

theorem least {p : Nat → Prop} (h : ∃ m, p m) : ∃ m, p m ∧ ∀ k, p k → m ≤ k := by
  obtain ⟨m, hm⟩ := h
  induction m using Nat.strongRecOn with
  | _ m ih =>
    by_cases h1 : ∃ k, k < m ∧ p k
    · obtain ⟨k, h2, h3⟩ := h1; exact ih k h2 h3
    · refine ⟨m, hm, fun k hk => ?_⟩
      rcases Nat.lt_or_ge k m with h2 | h2
      · exact absurd ⟨k, h2, hk⟩ h1
      · exact h2

open Classical in
/-- A loop: what holds at each round's head, with a number that goes down. -/
theorem LWP_loop {x : LCode} (Inv : Nat → ST → Prop) {m : Nat} (h0 : Inv m S) (h : ∀ m S, Inv m S → LWP P nt n0 x S (seqQ (fun S' => ∃ m', m' < m ∧ Inv m' S') Q)) : LWP P nt n0 (.loop x) S Q := fun c hc X φ I a w hn R => by
  cases c <;> simp only [okCode, Bool.false_eq_true] at hc
  rename_i body
  let At : Act → World → Nat → Prop := fun a w' m => ∃ φ I S, RelS X φ I S nt a w'.heap ∧ Inv m S ∧ Keep w w'
  let μ : Act → World → Nat := fun a w => if hh : ∃ m, At a w m then Classical.choose (least hh) else 0
  have hμ : ∀ a w m, At a w m → μ a w ≤ m ∧ At a w (μ a w) := fun a w m hm => by
    have hh : ∃ m, At a w m := ⟨m, hm⟩
    have e : μ a w = Classical.choose (least hh) := by simp only [μ]; rw [dif_pos hh]
    rw [e]
    have hs := Classical.choose_spec (least hh)
    exact ⟨hs.2 m hm, hs.1⟩
  refine wp_loop (fun a w => ∃ m, At a w m) μ ⟨m, φ, I, S, R, h0, Keep.refl w⟩ fun a w1 ⟨m, hm⟩ => ?_
  obtain ⟨h1, φ1, I1, S1, R1, hI, kp1⟩ := hμ a w1 m hm
  refine Go.wp_mono (h _ S1 hI _ hc X φ1 I1 a w1 hn R1) fun e a' w' ⟨φ', I', S', k1, k2, kp2⟩ => ?_
  cases e with
  | normal =>
    obtain ⟨m', k3, k4⟩ := k2
    have k5 : At a' w' m' := ⟨φ', I', S', k1, k4, kp1.trans kp2⟩
    exact ⟨⟨m', k5⟩, Nat.lt_of_le_of_lt (hμ a' w' m' k5).1 k3⟩
  | _ => exact ⟨φ', I', S', k1, k2, kp1.trans kp2⟩

/-! ### Functions -/
inductive LRes where
  | t (x : Nat)
  | cell (ag : Bool) (n x : Nat)
  deriving Inhabited

structure LFunc where
  nt : Nat
  np : Nat
  body : LCode
  res : List LRes

def okRes (P : Program) : List ResultVar → List LRes → Bool
  | [], [] => true
  | .tmp t :: l, .t x :: m => decide (t = x) && okRes P l m
  | .cell a t :: l, .cell ag n x :: m => decide (a = x) && (okPart P t ag n && okRes P l m)
  | _, _ => false

def okFunc (P : Program) (f : Nat) (lf : LFunc) : Bool := match P.funcs[f]? with
  | some fn => match fn.body with
    | some c => (fn.name != "runtime.NumGoroutine") && (decide (fn.ntmps = lf.nt) && (decide (lf.np ≤ lf.nt) && (okRes P fn.results.toList lf.res && okCode P lf.nt c lf.body)))
    | none => false
  | none => false

def resV1 (S : ST) : LRes → Option AV
  | .t x => get S.vars x
  | .cell ag n x => match get S.vars x with
    | some (.ptr sz b i j) => match get S.heap b with
      | some (.rows sz' es) => grd (decide (sz' = sz) && decide (i < es.length)) (ldCells ag n ((es.getD i []).drop j))
      | _ => none
    | _ => none

def resV (S : ST) : List LRes → Option (List AV)
  | [] => some []
  | r :: l => match resV1 S r with
    | some v => match resV S l with
      | some vs => some (v :: vs)
      | none => none
    | none => none

def retV : List AV → AV
  | [v] => v
  | vs => .tup vs

def parV : Nat → List AV → Vars
  | _, [] => []
  | i, v :: l => (i, v) :: parV (i + 1) l

theorem get_parV : ∀ (l : List AV) (i x : Nat), get (parV i l) x = if i ≤ x then l[x - i]? else none
  | [], i, x => by simp [parV, get]
  | v :: l, i, x => by
    simp only [parV, get, get_parV l (i + 1) x]
    by_cases h1 : i = x
    · subst h1; simp
    · rw [if_neg h1]
      by_cases h2 : i + 1 ≤ x
      · rw [if_pos h2, if_pos (by omega), show x - i = (x - (i + 1)) + 1 by omega]; simp
      · rw [if_neg h2, if_neg (by omega)]

def resF (tmps : Array Value) : ResultVar → Sem Value
  | .tmp t => pure (tmps.getD t undef)
  | .cell a t => do loadVar t (← asAddr (tmps.getD a undef))

theorem results_eq (fn : Func) (tmps : Array Value) : results fn tmps = (do
    let vs ← fn.results.mapM (resF tmps)
    pure (if h : vs.size = 1 then vs[0] else .tuple vs)) := by
  unfold results
  congr 2

theorem run_results {X : Ctx} {φ : Nat → Option (Nat × Nat)} {I : Nat → Prop} {a : Act} {w : World} (R : RelS X φ I S nt a w.heap) (f : ResultVar → Sem Value) (hf1 : ∀ t, f (.tmp t) = pure (a.tmps.getD t undef)) (hf2 : ∀ x t, f (.cell x t) = do loadVar t (← asAddr (a.tmps.getD x undef))) : ∀ (rs : List ResultVar) (ls : List LRes) (vs : List AV), okRes P rs ls = true → resV S ls = some vs →
    ∃ us : List Value, (rs.mapM f).run P w = .ok us w ∧ relL w.heap φ I S.as.A vs us
  | [], [], vs, _, h => by
    simp only [resV, Option.some.injEq] at h; subst h
    exact ⟨[], by simp, by simp [relL]⟩
  | r :: rs, l :: ls, vs, hok, h => by
    simp only [resV] at h
    split at h
    · rename_i v hv
      split at h
      · rename_i vs' hvs
        injection h with h; subst h
        have key : ∃ u, (f r).run P w = .ok u w ∧ relV w.heap φ I S.as.A v u ∧ okRes P rs ls = true := by
          cases r with
          | tmp t =>
            cases l with
            | t x =>
              simp only [okRes, Bool.and_eq_true, decide_eq_true_eq] at hok
              obtain ⟨rfl, hok⟩ := hok
              exact ⟨_, by rw [hf1]; rfl, R.A.vars _ _ (by simpa [resV1, ST.as] using hv), hok⟩
            | cell ag n x => simp [okRes] at hok
          | cell x t =>
            cases l with
            | t x => simp [okRes] at hok
            | cell ag n x' =>
              simp only [okRes, Bool.and_eq_true, decide_eq_true_eq] at hok
              obtain ⟨rfl, hp, hok⟩ := hok
              obtain ⟨u, h3, h4, h5⟩ := okPart_spec hp
              simp only [resV1] at hv
              split at hv
              · rename_i sz b i j hx
                split at hv
                · rename_i sz' es hb
                  obtain ⟨h6, h7⟩ := grd_some hv
                  simp only [Bool.and_eq_true, decide_eq_true_eq] at h6; obtain ⟨rfl, h8⟩ := h6
                  have hxr := R.A.vars _ _ (by simpa [ST.as] using hx)
                  simp only [relV] at hxr
                  obtain ⟨hA, c, oo, hφ, hxe⟩ := hxr
                  obtain ⟨_, hB⟩ := R.H.heap _ _ (by simpa [ST.as] using hb)
                  simp only [relB] at hB
                  rcases hB with ⟨k1, _⟩ | ⟨c', o', cs, el, k1, k2, k3⟩
                  · rw [hφ] at k1; cases k1
                  rw [hφ] at k1; injection k1 with k1; injection k1 with k4 k5; subst k4 k5
                  have k6 := relM_drop j (relR_get k3 h8).2
                  obtain ⟨v', w', k7, k8, k9⟩ := y_load (P := P) (w := w) h3 h4 h5 k6 h7
                  have hw : w' = w := by
                    unfold loadVar at k7
                    rw [Sem.run_bind, run_isAgg' h3, ← h4] at k7
                    cases ag with
                    | false =>
                      simp only [Result.andThen_ok, Bool.false_eq_true, if_false, run_load, cell_hcell] at k7
                      unfold ldCells at h7
                      simp only at h7
                      split at h7
                      · rename_i y ys hy
                        rw [hy] at k6
                        simp only [relM] at k6
                        obtain ⟨⟨q, q1, _, _⟩, _⟩ := k6
                        rw [q1] at k7
                        simp only [Result.ok.injEq] at k7
                        exact k7.2.symm
                      · cases h7
                    | true =>
                      simp only [Result.andThen_ok, if_true, Sem.run_bind] at k7
                      rw [run_szOf (h5 rfl)] at k7
                      unfold ldCells at h7
                      simp only at h7
                      obtain ⟨q1, q2⟩ := grd_some h7
                      obtain ⟨vs, q3, q4⟩ := relM_run (P := P) k6 n (by simpa using q1)
                      simp only [Result.andThen_ok, q4, Sem.run_pure, Result.ok.injEq] at k7
                      exact k7.2.symm
                  subst hw
                  refine ⟨v', ?_, k9, hok⟩
                  rw [hf2]
                  simp only [hxe, asAddr, Sem.run_bind, Sem.run_pure, Result.andThen_ok]
                  exact k7
                · cases hv
              · cases hv
        obtain ⟨u, k1, k2, k3⟩ := key
        obtain ⟨us, k4, k5⟩ := run_results R f hf1 hf2 rs ls vs' k3 hvs
        refine ⟨u :: us, ?_, by simp only [relL]; exact ⟨u, us, rfl, k2, k5⟩⟩
        simp only [List.mapM_cons, Sem.run_bind]
        rw [k1]
        simp only [Result.andThen_ok, k4, Sem.run_pure]
      · cases h
    · cases h
  | [], _ :: _, _, hok, _ => by simp [okRes] at hok
  | r :: rs, [], _, hok, _ => by cases r <;> simp [okRes] at hok

/-- What is left to show of a function's body. -/
def bodyQ (lf : LFunc) (K : AV → ST → Prop) (e : Exit) (S : ST) : Prop :=
  match e with
  | .normal | .ret => match resV S lf.res with
    | some vs => K (retV vs) S
    | none => False
  | _ => False

/-- A call, by the body. -/
theorem body_calls {f : Nat} {lf : LFunc} {args : List AV} {K : AV → ST → Prop} (hf : okFunc P f lf = true) (hn : args.length = lf.np) (h : LWP P lf.nt n0 lf.body ⟨parV 0 args, S.heap, S.next⟩ (bodyQ lf K))
    {X : Ctx} {φ : Nat → Option (Nat × Nat)} {I : Nat → Prop} {w : World} {cargs : List Value} (hX : X.n0 = n0) (R : RelH X φ I S.as w.heap) (ha : relL w.heap φ I S.as.A args cargs) :
    Calls P f cargs.toArray w fun e w' => ∃ cv r φ' I' S', e = .returned cv ∧ RelH X φ' I' S'.as w'.heap ∧ relV w'.heap φ' I' S'.as.A r cv ∧ K r S' ∧ Keep w w' := by
  unfold okFunc at hf
  split at hf
  · rename_i fn hfn
    split at hf
    · rename_i c hc
      simp only [Bool.and_eq_true, decide_eq_true_eq] at hf
      obtain ⟨_, h1, h2, h3, h4⟩ := hf
      have hcl := relL_length ha
      refine calls_of_wp hfn hc ?_
      have R0 : RelS X φ I ⟨parV 0 args, S.heap, S.next⟩ lf.nt { tmps := cargs.toArray ++ Array.replicate (fn.ntmps - cargs.toArray.size) undef, defers := [] } w.heap := by
        refine ⟨R.conv rfl rfl (fun _ => rfl) (Nat.le_refl _), fun x v hx => ?_, ?_, rfl⟩
        · simp only [ST.as, get_parV, Nat.zero_le, if_true, Nat.sub_zero] at hx
          obtain ⟨u, k1, k2⟩ := relL_get ha hx
          have hlt : x < cargs.length := by
            rcases Nat.lt_or_ge x cargs.length with h | h
            · exact h
            · rw [List.getElem?_eq_none h] at k1; cases k1
          rw [Array.getD_eq_getD_getElem?, Array.getElem?_append_left (by simpa using hlt)]
          simp only [List.getElem?_toArray, k1, Option.getD_some]
          exact k2
        · simp; omega
      refine Go.wp_mono (h c h4 X φ I _ w hX R0) fun e a' w' ⟨φ', I', S', k1, k2, kp⟩ => ?_
      have fin : (match resV S' lf.res with | some vs => K (retV vs) S' | none => False) → a'.defers = [] ∧ ∃ v, (results fn a'.tmps).run P w' = .ok v w' ∧ ∃ cv r φ' I' S', Ending.returned v = .returned cv ∧ RelH X φ' I' S'.as w'.heap ∧ relV w'.heap φ' I' S'.as.A r cv ∧ K r S' ∧ Keep w w' := fun k2 => by
        split at k2
        · rename_i vs hvs
          have k5 : ∃ us : List Value, (results fn a'.tmps).run P w' = .ok (if h : us.toArray.size = 1 then us.toArray[0] else .tuple us.toArray) w' ∧ relL w'.heap φ' I' S'.as.A vs us := by
            rw [results_eq, Array.mapM_eq_mapM_toList, Sem.run_bind, Sem.run_map]
            obtain ⟨us, k3, k4⟩ := run_results (P := P) k1 (resF a'.tmps) (fun _ => rfl) (fun _ _ => rfl) fn.results.toList lf.res vs h3 hvs
            refine ⟨us, ?_, k4⟩
            rw [k3]
            rfl
          obtain ⟨us, k5, k4⟩ := k5
          refine ⟨k1.A.defers, _, k5, _, retV vs, φ', I', S', rfl, k1.H.vars [] |>.conv rfl rfl (fun _ => rfl) (Nat.le_refl _), ?_, k2, kp⟩
          have hl := relL_length k4
          cases us with
          | nil =>
            cases vs with
            | nil => simp only [retV, relV]; exact ⟨[], rfl, by simp [relL]⟩
            | cons v vs => simp at hl
          | cons u us =>
            cases us with
            | nil =>
              cases vs with
              | nil => simp at hl
              | cons v vs =>
                cases vs with
                | nil => simp only [relL] at k4; obtain ⟨_, _, e, k6, _⟩ := k4; injection e with e _; subst e; exact k6
                | cons v' vs => simp at hl
            | cons u' us =>
              cases vs with
              | nil => simp at hl
              | cons v vs =>
                cases vs with
                | nil => simp at hl
                | cons v' vs => simp only [retV, relV]; exact ⟨_, rfl, k4⟩
        · exact k2.elim
      cases e with
      | normal => exact fin k2
      | ret => exact fin k2
      | _ => exact k2.elim
    · cases hf
  · cases hf

theorem okFunc_okFn {f : Nat} {lf : LFunc} (hf : okFunc P f lf = true) : okFn P f = true := by
  unfold okFunc at hf
  unfold okFn
  split at hf
  · rename_i fn hfn
    split at hf
    · rename_i c hc
      simp only [Bool.and_eq_true] at hf
      rw [hfn]; simp only [hc, Option.isSome_some, Bool.true_and]; exact hf.1
    · cases hf
  · cases hf

/-- A contract, by the body. -/
theorem ACalls_of_body {f : Nat} {lf : LFunc} {args : List AV} {H : Heap} {n : Nat} {Q : AV → Heap → Nat → Prop} (hf : okFunc P f lf = true) (hn : args.length = lf.np) (h : LWP P lf.nt n lf.body ⟨parV 0 args, H, n⟩ (bodyQ lf fun r S' => Q r S'.heap S'.next)) : ACalls P f args H n Q :=
  ⟨okFunc_okFn hf, fun w F φ I cargs R ha => by
    have hA : (ST.as ⟨[], H, n⟩).A = (· < n) := by funext b; exact propext (ST.as_A _ b)
    refine (body_calls (S := ⟨[], H, n⟩) (X := ⟨w.heap, F, φ, n, I⟩) hf hn h rfl R (by rw [hA]; exact ha)).mono fun e w' ⟨cv, r, φ', I', S', k1, k2, k3, k4, k5⟩ => ⟨cv, r, S'.heap, S'.next, φ', I', k1, k2.conv rfl rfl (fun _ => rfl) (Nat.le_refl _), ?_, k4, k5⟩
    have hA' : S'.as.A = (· < S'.next) := by funext b; exact propext (ST.as_A _ b)
    rw [← hA']; exact k3⟩
end
end Go.AM
