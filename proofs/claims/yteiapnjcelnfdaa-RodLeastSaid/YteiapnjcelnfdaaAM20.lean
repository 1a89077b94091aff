/- Values without owned parts; calls on such values; the executable reading of code. -/
import Derived.Test.YteiapnjcelnfdaaAM19
set_option linter.unusedSimpArgs false
set_option linter.unusedVariables false
namespace Go.AM

theorem get_all {α : Type} {p : Nat → α → Prop} : ∀ {l : List (Nat × α)}, (∀ q ∈ l, p q.1 q.2) → ∀ x v, get l x = some v → p x v
  | [], _, _, _, h => by simp [get] at h
  | (k, u) :: l, H, x, v, h => by
    simp only [get] at h
    split at h
    · rename_i hk; subst hk; injection h with h; subst h; exact H (k, u) (by simp)
    · exact get_all (fun q hq => H q (List.mem_cons_of_mem _ hq)) x v h

mutual
def AV.pure : AV → Bool
  | .ptr _ _ _ _ | .sl _ _ _ _ | .map _ => false
  | .cptr cs => pureL cs
  | .tsl _ es => pureR es
  | .fn _ fs cs => pureL fs && pureL cs
  | .iface _ v => v.pure
  | .agg cs => pureL cs
  | .tup vs => pureL vs
  | _ => true
def pureL : List AV → Bool
  | [] => true
  | v :: l => v.pure && pureL l
def pureR : List (List AV) → Bool
  | [] => true
  | e :: es => pureL e && pureR es
end

section
variable {h : Array Obj} {φ φ' : Nat → Option (Nat × Nat)} {I A A' : Nat → Prop}
mutual
theorem relV_pure : ∀ (x : AV) (v : Value), x.pure = true → relV h φ I A x v → relV h φ' I A' x v
  | .any, _, _, _ => by simp [relV]
  | .bool _, _, _, H => by simpa [relV] using H
  | .int _ _, _, _, H => by simpa [relV] using H
  | .str _, _, _, H => by simpa [relV] using H
  | .nilp, _, _, H => by simpa [relV] using H
  | .nils, _, _, H => by simpa [relV] using H
  | .nilm, _, _, H => by simpa [relV] using H
  | .nilf, _, _, H => by simpa [relV] using H
  | .nili, _, _, H => by simpa [relV] using H
  | .ptr _ _ _ _, _, hp, _ => by simp [AV.pure] at hp
  | .sl _ _ _ _, _, hp, _ => by simp [AV.pure] at hp
  | .map _, _, hp, _ => by simp [AV.pure] at hp
  | .cptr cs, v, hp, H => by
    simp only [AV.pure] at hp
    simp only [relV] at H ⊢
    obtain ⟨c, o, h1, h2, h3⟩ := H
    exact ⟨c, o, h1, h2, relM_pure cs c o hp h3⟩
  | .tsl sz es, v, hp, H => by
    simp only [AV.pure] at hp
    simp only [relV] at H ⊢
    obtain ⟨base, cap, h1, h2, h3⟩ := H
    refine ⟨base, cap, h1, h2, ?_⟩
    rcases h3 with h3 | ⟨c, o, h3, h4, h5⟩
    · exact .inl h3
    · exact .inr ⟨c, o, h3, h4, relR_pure sz es c o hp h5⟩
  | .fn f fs cs, v, hp, H => by
    simp only [AV.pure, Bool.and_eq_true] at hp
    simp only [relV] at H ⊢
    obtain ⟨fs', cs', h1, h2, h3⟩ := H
    exact ⟨fs', cs', h1, relL_pure fs fs' hp.1 h2, relL_pure cs cs' hp.2 h3⟩
  | .iface t x, v, hp, H => by
    simp only [AV.pure] at hp
    simp only [relV] at H ⊢
    obtain ⟨y, h1, h2⟩ := H
    exact ⟨y, h1, relV_pure x y hp h2⟩
  | .agg cs, v, hp, H => by
    simp only [AV.pure] at hp
    simp only [relV] at H ⊢
    obtain ⟨vs, h1, h2⟩ := H
    exact ⟨vs, h1, relL_pure cs vs hp h2⟩
  | .tup cs, v, hp, H => by
    simp only [AV.pure] at hp
    simp only [relV] at H ⊢
    obtain ⟨vs, h1, h2⟩ := H
    exact ⟨vs, h1, relL_pure cs vs hp h2⟩
theorem relM_pure : ∀ (cs : List AV) (c o : Nat), pureL cs = true → relM h φ I A cs c o → relM h φ' I A' cs c o
  | [], _, _, _, _ => by simp [relM]
  | x :: cs, c, o, hp, H => by
    simp only [pureL, Bool.and_eq_true] at hp
    simp only [relM] at H ⊢
    obtain ⟨⟨v, h1, h0, h2⟩, h3⟩ := H
    exact ⟨⟨v, h1, h0, relV_pure x v hp.1 h2⟩, relM_pure cs c (o + 1) hp.2 h3⟩
theorem relR_pure (sz : Nat) : ∀ (es : List (List AV)) (c o : Nat), pureR es = true → relR h φ I A sz es c o → relR h φ' I A' sz es c o
  | [], _, _, _, _ => by simp [relR]
  | e :: es, c, o, hp, H => by
    simp only [pureR, Bool.and_eq_true] at hp
    simp only [relR] at H ⊢
    obtain ⟨h1, h2, h3⟩ := H
    exact ⟨h1, relM_pure e c o hp.1 h2, relR_pure sz es c (o + sz) hp.2 h3⟩
theorem relL_pure : ∀ (l : List AV) (vs : List Value), pureL l = true → relL h φ I A l vs → relL h φ' I A' l vs
  | [], _, _, H => by simpa [relL] using H
  | x :: l, vs, hp, H => by
    simp only [pureL, Bool.and_eq_true] at hp
    simp only [relL] at H ⊢
    obtain ⟨v, r, h1, h2, h3⟩ := H
    exact ⟨v, r, h1, relV_pure x v hp.1 h2, relL_pure l r hp.2 h3⟩
end
end

section
variable {P : Program} {X : Ctx} {φ : Nat → Option (Nat × Nat)} {I I' : Nat → Prop} {S : AS} {h h' : Array Obj}

/-- Memory has grown, and more of what is new stays as it is. -/
theorem RelH.later (R : RelH X φ I S h) (hsz : h.size ≤ h'.size) (hs : ∀ c, c < h.size → h'[c]? = h[c]?) (hI : ∀ c, I c → I' c) (hI' : ∀ c, I' c → I c ∨ h.size ≤ c) (hd : ∀ c, I' c → c < h'.size) :
    RelH X φ I' S h' ∧ Ext h φ I S.A h' φ I' S.A := by
  have E0 : Ext h φ I S.A h' φ I S.A := Ext.grown hs (fun _ _ => rfl) (fun _ h => h)
  have E : Ext h φ I S.A h' φ I' S.A := ⟨E0.cells, E0.sizes, E0.agree, hI, E0.inA⟩
  refine ⟨⟨fun b blk h1 => ?_, fun b blk c o h1 h2 => ?_, R.inj, hd, fun c hc => ?_, fun c hc => hI c (R.isup c hc), fun c h1 h2 => ?_, Nat.le_trans R.size hsz, fun c s h1 => E.sizes c s (R.sizes c s h1), R.agree, R.n0⟩, E⟩
  · obtain ⟨h2, h3⟩ := R.heap _ _ h1
    exact ⟨h2, relB_same E h2 (fun c o h4 => hs c (R.live _ _ _ _ h1 h4).1) h3⟩
  · obtain ⟨h3, h4, h5⟩ := R.live _ _ _ _ h1 h2
    refine ⟨by omega, fun h6 => ?_, h5⟩
    rcases hI' c h6 with h6 | h6
    · exact h4 h6
    · omega
  · rcases hI' c hc with hc | hc
    · exact R.isub c hc
    · exact .inr (.inr (by have := R.size; omega))
  · rw [hs c (by have := R.size; omega)]; exact R.frame c h1 h2

/-- A call on values without owned parts. -/
theorem ACalls.run {f : Nat} {args : List AV} {Q : AV → Heap → Nat → Prop} (H : ACalls P f args [] 0 Q) (hp : pureL args = true) {w : World} {cargs : List Value} (R : RelH X φ I S w.heap) (ha : relL w.heap φ I S.A args cargs) :
    Calls P f cargs.toArray w fun e w' => ∃ cv r H' n' I', e = .returned cv ∧ RelH X φ I' S w'.heap ∧ Ext w.heap φ I S.A w'.heap φ I' S.A ∧ Q r H' n' ∧ (r.pure = true → relV w'.heap φ I' S.A r cv) ∧ Keep w w' := by
  refine (H.2 w (fun _ => False) (fun _ => none) I cargs ⟨fun b blk h => by simp [get] at h, fun b blk c o h => by simp [get] at h, fun b b' c o c' o' h => by simp [get] at h, R.idom, fun c hc => .inl hc, fun c hc => hc, fun _ _ _ => rfl, Nat.le_refl _, fun _ _ h => h, fun b hb => absurd hb (Nat.not_lt_zero _), Nat.le_refl _⟩ (relL_pure _ _ hp ha)).mono ?_
  intro e w' ⟨cv, r, H', n', φ', I', h1, h2, h3, h4, h5⟩
  obtain ⟨k1, k2⟩ := R.later (h' := w'.heap) (I' := I') h2.size (fun c hc => h2.frame c hc (fun h => h)) h2.isup (fun c hc => (h2.isub c hc).imp id (fun h => h.resolve_left (fun h => h))) h2.idom
  exact ⟨cv, r, H', n', I', h1, k1, k2, h4, fun hr => relV_pure _ _ hr h3, h5⟩

theorem CallS.of_pure {f : Nat} {args : List AV} {Q : AV → Heap → Nat → Prop} {S : ST} {K : AV → ST → Prop} (H : ACalls P f args [] 0 Q) (hp : pureL args = true) (hK : ∀ r H' n', Q r H' n' → r.pure = true ∧ K r S) : CallS P f args S K :=
  ⟨H.1, fun X φ I w cargs R ha => (H.run hp R ha).mono fun e w' ⟨cv, r, H', n', I', h1, h2, h3, h4, h5, h6⟩ => ⟨cv, r, φ, I', S, h1, h2, h3, h5 (hK r H' n' h4).1, rfl, (hK r H' n' h4).2, h6⟩⟩

theorem QC.of_pure {f : Nat} {args : List AV} {n : Nat} {v : AV} (H : ACalls P f args [] 0 fun r _ _ => r = v) (hp : pureL args = true) (hv : v.pure = true) : QC P f args [] n v :=
  ⟨H.1, fun X φ I T w cargs R _ _ ha => (H.run hp R ha).mono fun e w' ⟨cv, r, H', n', I', h1, h2, h3, h4, h5, h6⟩ => ⟨cv, φ, I', h1, h2, h3, by subst h4; exact h5 hv, h6⟩⟩
end

/-! ### Drawn regions, as a function -/
def dEffF (S : AS) (i : Nat) (op : LOp) : Option Eff :=
  match op.cls with
  | 0 => opEff S.heap S.vars (S.next + i) op
  | 2 => opEff S.flush.heap S.vars (S.next + i) op
  | 4 => none
  | _ => match opEff S.heap S.vars (S.next + i) op with
    | some e => grd (softOK S.heap S.vars op && (op.args.all (fun x => (x.ev S.vars).ids.all fun b => decide (b < S.next)) && (match e.kill with
      | some b => (match get S.dead b with | none => true | some _ => false)
      | none => true))) (some e)
    | none => none

def rgnD (P : Program) : List LOper → Nat → AS → (AS → Prop) → Prop
  | [], _, S, K => K S
  | l :: ls, i, S, K => Option.sat (gd S.vars l.guard) fun b => match b with
    | false => rgnD P ls (i + 1) (S.appD l i { val := .tup [] }) K
    | true => (get S.used (S.next + i) = none) ∧ match l.op with
      | .call _ f args => match f.ev S.vars with
        | .fn g first caps => ∃ v H, QC P g (first ++ args.map (·.ev S.vars) ++ caps) H S.next v ∧ (∀ b blk, get H b = some blk → b < S.next ∧ get S.heap b = some blk ∧ get S.dead b = none) ∧ rgnD P ls (i + 1) (S.appD l i { val := v }) K
        | _ => False
      | op => Option.sat (dEffF S i op) fun e => rgnD P ls (i + 1) (S.appD l i e) K

theorem dEffF_spec {P : Program} {S : AS} {i : Nat} {l : LOper} {e : Eff} (hg : gd S.vars l.guard = some true) (hu : get S.used (S.next + i) = none) (h : dEffF S i l.op = some e) : DEff P S l i e := by
  refine .inr ⟨hg, hu, ?_⟩
  unfold dEffF at h
  split at h
  · rename_i hc; exact .inr (.inl ⟨hc, h⟩)
  · rename_i hc; exact .inr (.inr (.inr ⟨hc, h⟩))
  · cases h
  · rename_i h0 h2 h4
    split at h
    · rename_i e' he
      obtain ⟨h5, h6⟩ := grd_some h
      injection h6 with h6; subst h6
      simp only [Bool.and_eq_true, List.all_eq_true, decide_eq_true_eq] at h5
      have hc : l.op.cls = 1 ∨ l.op.cls = 3 := by
        have : l.op.cls ≤ 4 := by cases l.op <;> simp only [LOp.cls] <;> first | omega | skip
                                  rename_i k x; cases k <;> simp [LOp.cls]
        have a0 : l.op.cls ≠ 0 := fun h => h0 h
        have a2 : l.op.cls ≠ 2 := fun h => h2 h
        have a4 : l.op.cls ≠ 4 := fun h => h4 h
        omega
      refine .inr (.inr (.inl ⟨hc, he, h5.1, h5.2.1, fun b hb => ?_⟩))
      have := h5.2.2
      rw [hb] at this
      simp only at this
      split at this
      · assumption
      · cases this
    · cases h

theorem rgnD_run {P : Program} : ∀ {ls : List LOper} {i : Nat} {S : AS} {K : AS → Prop}, rgnD P ls i S K → dRun P ls i S K
  | [], _, _, _, h => h
  | l :: ls, i, S, K, h => by
    simp only [rgnD] at h
    cases hg : gd S.vars l.guard with
    | none => rw [hg] at h; exact h.elim
    | some b =>
      rw [hg] at h
      simp only [Option.sat] at h
      cases b with
      | false => exact ⟨_, .inl ⟨hg, rfl⟩, rgnD_run h⟩
      | true =>
        simp only at h
        obtain ⟨hu, h⟩ := h
        cases hl : l.op with
        | call q f args =>
          rw [hl] at h
          simp only at h
          cases hf : f.ev S.vars with
          | fn g first caps =>
            rw [hf] at h
            simp only at h
            obtain ⟨v, H, h1, h2, h3⟩ := h
            exact ⟨_, .inr ⟨hg, hu, .inl ⟨q, f, args, v, H, g, first, caps, hl, rfl, hf, h1, h2⟩⟩, rgnD_run h3⟩
          | _ => rw [hf] at h; exact h.elim
        | _ =>
          rw [hl] at h
          simp only at h
          rw [← hl] at h
          cases he : dEffF S i l.op with
          | none => rw [he] at h; exact h.elim
          | some e => rw [he] at h; exact ⟨e, dEffF_spec hg hu he, rgnD_run h⟩

theorem LWP_drawn {P : Program} {nt n0 : Nat} {S : ST} {Q : Exit → ST → Prop} {ls : List LOper} (h : rgnD P ls 0 S.as fun S' => Q .normal (S'.fin ls.length)) : LWP P nt n0 (.region ls true) S Q := LWP_regionD (rgnD_run h)

/-! ### The executable reading -/
inductive XE where
  | normal
  | exit (id : Nat)
  | ret

def XE.to : XE → Exit
  | .normal => .normal
  | .exit id => .exit id
  | .ret => .ret

def runS (call : Nat → List AV → ST → Option (AV × ST)) : List LOper → ST → Option ST
  | [], S => some S
  | o :: os, S => match gd S.vars o.guard with
    | none => none
    | some false => runS call os { S with vars := putV o.dst (.tup []) S.vars }
    | some true => match o.op with
      | .call _ f args => match f.ev S.vars with
        | .fn g first caps => match call g (first ++ args.map (·.ev S.vars) ++ caps) S with
          | some (r, S') => runS call os { S' with vars := putV o.dst r S.vars }
          | none => none
        | _ => none
      | op => match opEff S.heap S.vars S.next op with
        | some e => runS call os (S.app o.dst e)
        | none => none

def runD (call : Nat → List AV → ST → Option (AV × ST)) : List LOper → Nat → AS → Option AS
  | [], _, S => some S
  | l :: ls, i, S => match gd S.vars l.guard with
    | none => none
    | some false => runD call ls (i + 1) (S.appD l i { val := .tup [] })
    | some true => match get S.used (S.next + i) with
      | some _ => none
      | none => match l.op with
        | .call _ f args => match f.ev S.vars with
          | .fn g first caps => match pureL (first ++ args.map (·.ev S.vars) ++ caps) with
            | true => match call g (first ++ args.map (·.ev S.vars) ++ caps) ⟨[], [], 0⟩ with
              | some (r, _) => match r.pure with
                | true => runD call ls (i + 1) (S.appD l i { val := r })
                | false => none
              | none => none
            | false => none
          | _ => none
        | op => match dEffF S i op with
          | some e => runD call ls (i + 1) (S.appD l i e)
          | none => none

def callX (L : Nat → Option LFunc) (ex : LCode → ST → Option (XE × ST)) (f : Nat) (args : List AV) (S : ST) : Option (AV × ST) := match L f with
  | some lf => grd (decide (args.length = lf.np)) (match ex lf.body ⟨parV 0 args, S.heap, S.next⟩ with
    | some (.exit _, _) => none
    | some (_, S') => match resV S' lf.res with
      | some vs => some (retV vs, ⟨S.vars, S'.heap, S'.next⟩)
      | none => none
    | none => none)
  | none => none

def exec (L : Nat → Option LFunc) : Nat → LCode → ST → Option (XE × ST)
  | 0, _, _ => none
  | k + 1, c, S => match c with
    | .skip => some (.normal, S)
    | .region ls false => match runS (callX L (exec L k)) ls S with
      | some S' => some (.normal, S')
      | none => none
    | .region ls true => match runD (callX L (exec L k)) ls 0 S.as with
      | some S' => some (.normal, S'.fin ls.length)
      | none => none
    | .seq a b => match exec L k a S with
      | some (.normal, S') => exec L k b S'
      | r => r
    | .cond x a b => match x.ev S.vars with
      | .bool t => match t with
        | true => exec L k a S
        | false => exec L k b S
      | _ => none
    | .block id a => match exec L k a S with
      | some (.exit id', S') => some (match decide (id' = id) with | true => (.normal, S') | false => (.exit id', S'))
      | r => r
    | .loop a => match exec L k a S with
      | some (.normal, S') => exec L k (.loop a) S'
      | r => r
    | .exit id => some (.exit id, S)
    | .ret => some (.ret, S)
end Go.AM
