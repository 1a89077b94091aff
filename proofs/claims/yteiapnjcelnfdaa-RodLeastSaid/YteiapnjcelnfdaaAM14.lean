/- Regions in order, calls, code: what a run of the abstract code says of the program's. -/
import Derived.Test.YteiapnjcelnfdaaAM13
import Derived.Tactics
set_option linter.unusedSimpArgs false
set_option linter.unusedVariables false
namespace Go.AM

/-- A state at rest. -/
structure ST where
  vars : Vars
  heap : Heap
  next : Nat

def ST.as (S : ST) : AS := ⟨S.vars, S.heap, S.next, [], []⟩

theorem ST.as_A (S : ST) (b : Nat) : S.as.A b ↔ b < S.next := by simp [ST.as, AS.A, get]

def ST.app (S : ST) (dst : Option Nat) (e : Eff) : ST where
  vars := putV dst e.val S.vars
  heap :=
    let h1 := match e.upd with
      | some p => ins p.1 p.2 S.heap
      | none => S.heap
    let h2 := match e.kill with
      | some b => del b h1
      | none => h1
    match e.new with
    | some blk => ins S.next blk h2
    | none => h2
  next := match e.new with
    | some _ => S.next + 1
    | none => S.next

structure RelS (X : Ctx) (φ : Nat → Option (Nat × Nat)) (I : Nat → Prop) (S : ST) (nt : Nat) (a : Act) (h : Array Obj) : Prop where
  H : RelH X φ I S.as h
  A : RelA φ I S.as nt a h

/-- The relation goes by the lists, and by which numbers are in use. -/
theorem RelH.conv {X : Ctx} {φ : Nat → Option (Nat × Nat)} {I : Nat → Prop} {S T : AS} {h : Array Obj} (R : RelH X φ I S h) (hA : S.A = T.A) (hh : S.heap = T.heap) (hd : ∀ b, get S.dead b = none) (hn : S.next ≤ T.next) : RelH X φ I T h :=
  ⟨fun b blk h1 => by rw [← hA]; exact R.heap b blk (hh ▸ h1), fun b blk c o h1 => R.live b blk c o (hh ▸ h1), fun b b' c o c' o' h1 h2 h3 _ => R.inj b b' c o c' o' (hh ▸ h1) (hh ▸ h2) h3 (.inl ⟨hd _, hd _⟩), R.idom, R.isub, R.isup, R.frame, R.size, R.sizes, R.agree, Nat.le_trans R.n0 hn⟩

theorem RelA.conv {φ : Nat → Option (Nat × Nat)} {I : Nat → Prop} {S T : AS} {nt : Nat} {a : Act} {h : Array Obj} (R : RelA φ I S nt a h) (hA : S.A = T.A) (hv : S.vars = T.vars) : RelA φ I T nt a h :=
  ⟨fun x v h1 => by rw [← hA]; exact R.vars x v (hv ▸ h1), R.nt, R.defers⟩

section
variable {P : Program} {X : Ctx} {φ : Nat → Option (Nat × Nat)} {I : Nat → Prop} {S : ST} {nt : Nat} {a : Act} {w : World}

theorem ST.app_A (S : ST) (dst : Option Nat) (e : Eff) : (S.as.app dst S.next true e).A = (S.app dst e).as.A := by
  funext b
  apply propext
  rw [ST.as_A]
  cases hn : e.new with
  | none => simp [AS.A, AS.app, ST.as, ST.app, hn, get]
  | some blk =>
    simp only [AS.A, AS.app, ST.as, ST.app, hn, get_ins, get]
    by_cases h1 : S.next = b
    · simp [h1]
    · simp [h1]; omega

theorem RelS.step {o : Oper} {l : LOp} {e : Eff} {dst : Option Nat} (R : RelS X φ I S nt a w.heap) (hd : ∀ d, dst = some d → d < nt) (hok : okOp P o.op l = true) (he : opEff S.heap S.vars S.next l = some e) :
    ∃ φ' I' cv w', ((execOp a.eval o).run P w = .ok (.value cv) w' ∨ ((execOp a.eval o).run P w = .ok .skip w' ∧ cv = undef)) ∧ RelS X φ' I' (S.app dst e) nt (a.put dst cv) w'.heap ∧ Keep w w' := by
  have hid : ¬ S.as.A S.next := by rw [ST.as_A]; omega
  obtain ⟨φ', I', cv, w', h1, h2, h3, hkp⟩ := op_sound (P := P) (o := o) (l := l) (e := e) (dst := dst) (id := S.next) (hard := true) R.H R.A hd hid hok he (fun _ _ => rfl) (fun b h => by simp [ST.as, get] at h) (fun h => by cases h) (fun _ _ => rfl)
  refine ⟨φ', I', cv, w', h1, ⟨h2.conv (S.app_A dst e) ?_ ?_ ?_, h3.conv (S.app_A dst e) ?_⟩, hkp⟩
  · cases h4 : e.kill <;> cases h5 : e.new <;> cases h6 : e.upd <;> simp [AS.app, ST.as, ST.app, khp, h4, h5, h6]
  · intro b; cases h4 : e.kill <;> simp [AS.app, ST.as, kdd, h4, get]
  · cases h5 : e.new <;> simp [AS.app, ST.as, ST.app, h5]
  · simp [AS.app, ST.as, ST.app]

/-! ### Calls -/
def okFn (P : Program) (f : Nat) : Bool := match P.funcs[f]? with
  | some fn => fn.body.isSome && (fn.name != "runtime.NumGoroutine")
  | none => false

/-- What a call does, told of its arguments and the blocks that it is handed; block numbers below 'n' are the caller's. -/
def ACalls (P : Program) (f : Nat) (args : List AV) (H : Heap) (n : Nat) (Q : AV → Heap → Nat → Prop) : Prop :=
  okFn P f = true ∧ ∀ (w : World) (F : Nat → Prop) (φ : Nat → Option (Nat × Nat)) (I : Nat → Prop) (cargs : List Value), RelH ⟨w.heap, F, φ, n, I⟩ φ I ⟨[], H, n, [], []⟩ w.heap → relL w.heap φ I (· < n) args cargs →
    Calls P f cargs.toArray w fun e w' => ∃ cv r H' n' φ' I', e = .returned cv ∧ RelH ⟨w.heap, F, φ, n, I⟩ φ' I' ⟨[], H', n', [], []⟩ w'.heap ∧ relV w'.heap φ' I' (· < n') r cv ∧ Q r H' n' ∧ Keep w w'

theorem ACalls.mono {f : Nat} {args : List AV} {H : Heap} {n : Nat} {Q Q' : AV → Heap → Nat → Prop} (h : ACalls P f args H n Q) (hq : ∀ r H' n', Q r H' n' → Q' r H' n') : ACalls P f args H n Q' :=
  ⟨h.1, fun w F φ I cargs h1 h2 => (h.2 w F φ I cargs h1 h2).mono fun e w' ⟨cv, r, H', n', φ', I', k1, k2, k3, k4, k5⟩ => ⟨cv, r, H', n', φ', I', k1, k2, k3, hq _ _ _ k4, k5⟩⟩

/-- A call seen from a state: the frame's variables stay; what is told of the rest. -/
def CallS (P : Program) (f : Nat) (args : List AV) (S : ST) (K : AV → ST → Prop) : Prop :=
  okFn P f = true ∧ ∀ (X : Ctx) (φ : Nat → Option (Nat × Nat)) (I : Nat → Prop) (w : World) (cargs : List Value), RelH X φ I S.as w.heap → relL w.heap φ I S.as.A args cargs →
    Calls P f cargs.toArray w fun e w' => ∃ cv r φ' I' S', e = .returned cv ∧ RelH X φ' I' S'.as w'.heap ∧ Ext w.heap φ I S.as.A w'.heap φ' I' S'.as.A ∧ relV w'.heap φ' I' S'.as.A r cv ∧ S'.vars = S.vars ∧ K r S' ∧ Keep w w'

theorem CallS.mono {f : Nat} {args : List AV} {K K' : AV → ST → Prop} (h : CallS P f args S K) (hq : ∀ r S', K r S' → K' r S') : CallS P f args S K' :=
  ⟨h.1, fun X φ I w cargs h1 h2 => (h.2 X φ I w cargs h1 h2).mono fun e w' ⟨cv, r, φ', I', S', k1, k2, k3, k4, k5, k6, k7⟩ => ⟨cv, r, φ', I', S', k1, k2, k3, k4, k5, hq _ _ k6, k7⟩⟩

/-! ### Regions whose order is fixed -/
def gd (vs : Vars) : Option (Nat × Bool) → Option Bool
  | none => some true
  | some (x, b) => match get vs x with
    | some (.bool t) => some (t == b)
    | some (.tup []) => some false
    | _ => none

def Option.sat {α : Type} (x : Option α) (K : α → Prop) : Prop := match x with
  | some a => K a
  | none => False

def rgnS (P : Program) : List LOper → ST → (ST → Prop) → Prop
  | [], S, K => K S
  | o :: os, S, K => Option.sat (gd S.vars o.guard) fun b => match b with
    | false => rgnS P os { S with vars := putV o.dst (.tup []) S.vars } K
    | true => match o.op with
      | .call _ f args => match f.ev S.vars with
        | .fn g first caps => CallS P g (first ++ args.map (·.ev S.vars) ++ caps) S fun r S' => rgnS P os { S' with vars := putV o.dst r S'.vars } K
        | _ => False
      | op => Option.sat (opEff S.heap S.vars S.next op) fun e => rgnS P os (S.app o.dst e) K

def okCall (op : Op) (l : LOp) : Bool := match op, l with
  | .call { callee := .value f, args := args, argTypes := _ }, .call _ f' args' => okArg f f' && okArgs args.toList args'
  | _, _ => false

def okGuard (ops : Array Oper) : Option (Nat × Bool) → Option (Nat × Bool) → Bool
  | none, none => true
  | some (j, b), some (x, b') => decide ((ops[j]?).bind (·.dst) = some x) && decide (b = b')
  | _, _ => false

def okDst (nt : Nat) : Option Nat → Option Nat → Bool
  | none, none => true
  | some d, some d' => decide (d = d') && decide (d < nt)
  | _, _ => false

def okOper (P : Program) (nt : Nat) (ops : Array Oper) (o : Oper) (l : LOper) : Bool :=
  okDst nt o.dst l.dst && (okGuard ops o.guard l.guard && (okOp P o.op l.op || okCall o.op l.op))

def okOpers (P : Program) (nt : Nat) (ops : Array Oper) : List Oper → List LOper → Bool
  | [], [] => true
  | o :: os, l :: ls => okOper P nt ops o l && okOpers P nt ops os ls
  | _, _ => false

theorem okDst_spec {d d' : Option Nat} (H : okDst nt d d' = true) : d = d' ∧ ∀ x, d' = some x → x < nt := by
  cases d <;> cases d' <;> simp only [okDst, Bool.false_eq_true] at H
  · exact ⟨rfl, by simp⟩
  · simp only [Bool.and_eq_true, decide_eq_true_eq] at H
    obtain ⟨rfl, h2⟩ := H
    exact ⟨rfl, fun x hx => by injection hx with hx; omega⟩

theorem wanted_gd {ops : Array Oper} {o : Oper} {g : Option (Nat × Bool)} {b : Bool} {h : Array Obj} {T : AS} (RA : RelA φ I T nt a h) (hg : okGuard ops o.guard g = true) (hb : gd T.vars g = some b) : Region.wanted o (yielded ops a.tmps) = b := by
  unfold Region.wanted
  cases hog : o.guard with
  | none =>
    rw [hog] at hg
    cases g with
    | none => simp only [gd, Option.some.injEq] at hb; exact hb
    | some p => simp [okGuard] at hg
  | some q =>
    obtain ⟨j, b1⟩ := q
    rw [hog] at hg
    cases g with
    | none => simp [okGuard] at hg
    | some p =>
      obtain ⟨x, b2⟩ := p
      simp only [okGuard, Bool.and_eq_true, decide_eq_true_eq] at hg
      obtain ⟨h1, rfl⟩ := hg
      simp only [gd] at hb
      split at hb
      · rename_i t ht
        injection hb with hb; subst hb
        have h2 := rel_bool (RA.vars _ _ ht)
        have h3 : a.tmps[x]? = some (.bool t) := by
          rw [Array.getD_eq_getD_getElem?] at h2
          cases h4 : a.tmps[x]? with
          | none => rw [h4] at h2; simp [undef] at h2
          | some v => rw [h4] at h2; simp at h2; rw [h2]
        have h5 : yielded ops a.tmps j = some t := by
          unfold yielded; rw [h1]; simp [h3]
        show (yielded ops a.tmps j == some b1) = (t == b1)
        rw [h5]; cases t <;> cases b1 <;> rfl
      · rename_i ht
        injection hb with hb; subst hb
        have h2 := RA.vars _ _ ht
        simp only [relV, relL] at h2
        obtain ⟨vs, h2, rfl⟩ := h2
        have h5 : yielded ops a.tmps j = none := by
          unfold yielded; rw [h1]
          rw [Array.getD_eq_getD_getElem?] at h2
          cases h4 : a.tmps[x]? with
          | none => simp [h4]
          | some v => rw [h4] at h2; simp at h2; simp [h4, h2]
        show (yielded ops a.tmps j == some b1) = false
        rw [h5]; rfl
      · cases hb

theorem RelS.any (R : RelS X φ I S nt a w.heap) {dst : Option Nat} (hd : ∀ d, dst = some d → d < nt) : RelS X φ I { S with vars := putV dst (.tup []) S.vars } nt (a.put dst undef) w.heap :=
  ⟨R.H.vars (putV dst (.tup []) S.vars), RelA.app (S := S.as) (id := 0) (hard := true) (e := { val := .tup [] }) R.A (Ext.refl' fun _ h => h) hd (by simp [relV, relL, undef])⟩

theorem RelS.put {φ' : Nat → Option (Nat × Nat)} {I' : Nat → Prop} {S' : ST} {h h' : Array Obj} {r : AV} {cv : Value} (RA : RelA φ I S.as nt a h) (R' : RelH X φ' I' S'.as h') (E : Ext h φ I S.as.A h' φ' I' S'.as.A) (hv : S'.vars = S.vars) {dst : Option Nat} (hd : ∀ d, dst = some d → d < nt)
    (hr : relV h' φ' I' S'.as.A r cv) : RelS X φ' I' { S' with vars := putV dst r S'.vars } nt (a.put dst cv) h' := by
  refine ⟨R'.vars (putV dst r S'.vars), ?_⟩
  have RA' : RelA φ' I' S'.as nt a h' := ⟨fun x v hx => relV_mono E _ _ (RA.vars x v (by simpa [ST.as, hv] using hx)), RA.nt, RA.defers⟩
  exact RelA.app (S := S'.as) (id := 0) (hard := true) (e := { val := r }) RA' (Ext.refl' fun _ h => h) hd hr

/-- A call operation enters its function. -/
theorem exec_call {o : Oper} {f : Operand} {args : Array Operand} {tys : Array TypeId} {g : Nat} {fs cs : List Value} (ho : o.op = .call { callee := .value f, args := args, argTypes := tys })
    (hf : a.eval f = .func (.func g) fs.toArray cs.toArray) (hok : okFn P g = true) : (execOp a.eval o).run P w = .ok (.enter g (fs ++ args.toList.map a.eval ++ cs).toArray) w := by
  unfold okFn at hok
  split at hok
  · rename_i fn hfn
    simp only [Bool.and_eq_true, bne_iff_ne, ne_eq] at hok
    have h1 : (fn.name == "runtime.NumGoroutine") = false := by simp [hok.2]
    have h2 : fn.body.isNone = false := by
      cases hb : fn.body with
      | none => rw [hb] at hok; simp at hok
      | some b => rfl
    simp only [execOp, ho, resolve, Sem.run_bind, hf, Deferred.ofValue, Sem.run_pure, Result.andThen_ok, invoke, callFunc, run_program, hfn, h1, h2, Bool.false_eq_true, if_false]
    congr 2
    apply Array.ext'; simp
  · cases hok

theorem rgnS_sound {ops : Array Oper} {Q : Exit → Act → World → Prop} : ∀ (os : List Oper) (ls : List LOper), okOpers P nt ops os ls = true → ∀ (S : ST) (a : Act) (w : World) (φ : Nat → Option (Nat × Nat)) (I : Nat → Prop) (K : ST → Prop), RelS X φ I S nt a w.heap → rgnS P ls S K →
    (∀ φ' I' S' a' w', K S' → RelS X φ' I' S' nt a' w'.heap → Keep w w' → Q .normal a' w') → wpList P ops Q os a w
  | [], [], _, S, a, w, φ, I, K, R, H, hQ => hQ φ I S a w H R (Keep.refl w)
  | o :: os, l :: ls, hok, S, a, w, φ, I, K, R, H, hQ => by
    simp only [okOpers, Bool.and_eq_true] at hok
    obtain ⟨h1, h2⟩ := hok
    simp only [okOper, Bool.and_eq_true, Bool.or_eq_true] at h1
    obtain ⟨h3, h4, h5⟩ := h1
    obtain ⟨h6, h7⟩ := okDst_spec h3
    simp only [rgnS] at H
    cases hg : gd S.vars l.guard with
    | none => rw [hg] at H; exact H.elim
    | some b =>
      rw [hg] at H
      simp only [Option.sat] at H
      have hw := wanted_gd (ops := ops) (o := o) R.A h4 (by simpa [ST.as] using hg)
      cases b with
      | false =>
        unfold wpList
        rw [hw]
        simp only [Bool.false_eq_true, if_false]
        rw [h6]
        exact rgnS_sound os ls h2 _ _ w φ I K (R.any h7) H hQ
      | true =>
        unfold wpList
        rw [hw]
        simp only [if_true]
        left
        have hop : okOp P o.op l.op = true → (∀ q f args, l.op ≠ .call q f args) → Option.sat (opEff S.heap S.vars S.next l.op) (fun e => rgnS P ls (S.app l.dst e) K) → o.wp P a w (wpList P ops Q os) Q := by
          intro hk _ H
          cases he : opEff S.heap S.vars S.next l.op with
          | none => rw [he] at H; exact H.elim
          | some e =>
            rw [he] at H
            obtain ⟨φ', I', cv, w', k1, k2, kp⟩ := R.step (P := P) h7 hk he
            rw [← h6] at k2
            have k3 := rgnS_sound os ls h2 _ _ w' φ' I' K (by rw [← h6]; exact k2) H (fun φ' I' S' a' w'' q1 q2 q3 => hQ φ' I' S' a' w'' q1 q2 (kp.trans q3))
            unfold Oper.wp
            rcases k1 with k1 | ⟨k1, rfl⟩
            · rw [k1]; exact k3
            · rw [k1]; exact k3
        cases hl : l.op with
        | call q f args =>
          rw [hl] at H h5
          simp only at H
          rcases h5 with h5 | h5
          · unfold okOp at h5
            split at h5 <;> first | (rename_i hh _; cases hh; done) | (cases h5; done) | skip
            all_goals first | (rename_i hh; cases hh; done) | skip
          · unfold okCall at h5
            split at h5
            · rename_i f0 args0 tys q' f' args' ho hl'
              injection hl' with e1 e2 e3
              subst e1 e2 e3
              simp only [Bool.and_eq_true] at h5
              have hf := ev_rel R.A h5.1
              have ha := evs_rel R.A h5.2
              cases hfe : f.ev S.vars with
              | fn g first caps =>
                rw [hfe] at H
                simp only [ST.as] at hf
                rw [hfe] at hf
                simp only [relV] at hf
                obtain ⟨fs, cs, k1, k2, k3⟩ := hf
                have hx := exec_call (P := P) (w := w) (o := o) (a := a) ho k1 H.1
                have hc := H.2 X φ I w _ R.H (relL_append (relL_append k2 ha) k3)
                unfold Oper.wp
                rw [hx]
                simp only [Oper.upon]
                refine hc.mono fun e w' hh => ?_
                obtain ⟨cv, r, φ', I', S', k4, k5, k6, k7, k8, k9, kp⟩ := hh
                subst k4
                simp only
                rw [h6]
                exact rgnS_sound os ls h2 _ _ w' φ' I' K (RelS.put R.A k5 k6 k8 h7 k7) k9 (fun φ' I' S' a' w'' q1 q2 q3 => hQ φ' I' S' a' w'' q1 q2 (kp.trans q3))
              | _ => rw [hfe] at H; exact H.elim
            · cases h5
        | _ =>
          rw [hl] at H h5 hop
          simp only at H
          rcases h5 with h5 | h5
          · exact hop h5 (by simp) H
          · unfold okCall at h5
            split at h5
            · rename_i hh; cases hh
            · cases h5
  | [], _ :: _, hok, _, _, _, _, _, _, _, _, _ => by simp [okOpers] at hok
  | _ :: _, [], hok, _, _, _, _, _, _, _, _, _ => by simp [okOpers] at hok
end
end Go.AM
