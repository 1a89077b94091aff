/- A part of a proof about the given program: what its name says. No premise beyond the statements'. -/
import Derived.Test.YtjmcolfdpbohpaaGreatFC
import Derived.Test.YtjmcolfdpbohpaaGreatFB
set_option linter.unusedSimpArgs false
set_option linter.unusedVariables false
/- The executable reading, made for the kernel: recursors, slots and blocks that are forgotten. -/
namespace Go.AM
noncomputable section

/-- What a run is told: functions that are run beside the state, runs that are known, functions behind which new blocks are forgotten, slots that are kept behind a region (bits, by function). -/
structure XP where
  Z : Nat → Bool
  T : List (Nat × (List AV × AV))
  G : Nat → Bool
  Kp : Nat → Nat

inductive TN where
  | em
  | nd (k v : Nat) (l r : TN)
def TN.find (t : TN) (x : Nat) : Nat :=
  TN.rec (motive := fun _ => Nat) 0 (fun k v _ _ a b => Bool.casesOn (motive := fun _ => Nat) (Nat.beq x k) (Bool.casesOn (motive := fun _ => Nat) (Nat.ble x k) b a) v) t
def bitOf (m x : Nat) : Bool := Nat.beq (Nat.land (Nat.shiftRight m x) 1) 1

def prune (m : Nat) (vs : Vars) : Vars := List.rec (motive := fun _ => Vars) [] (fun p _ ih => Bool.casesOn (motive := fun _ => Vars) (Nat.beq (Nat.land (Nat.shiftRight m p.1) 1) 1) ih (p :: ih)) vs
theorem get_prune (m : Nat) : ∀ (vs : Vars) (x : Nat), get (prune m vs) x = match Nat.beq (Nat.land (Nat.shiftRight m x) 1) 1 with | true => get vs x | false => none
  | [], x => by
    show get [] x = _
    rw [get_e0]; split <;> rfl
  | (k, v) :: l, x => by
    have ih := get_prune m l x
    show get (Bool.casesOn (motive := fun _ => Vars) (Nat.beq (Nat.land (Nat.shiftRight m k) 1) 1) (prune m l) ((k, v) :: prune m l)) x = _
    cases hk : Nat.beq (Nat.land (Nat.shiftRight m k) 1) 1 with
    | false =>
      show get (prune m l) x = _
      rw [ih, get_e1]
      by_cases e : k = x
      · subst e; rw [hk]
      · rw [if_neg e]
    | true =>
      show get ((k, v) :: prune m l) x = _
      rw [get_e1, get_e1]
      by_cases e : k = x
      · subst e; rw [if_pos rfl, if_pos rfl, hk]
      · rw [if_neg e, if_neg e, ih]
theorem prune_le (m : Nat) (vs : Vars) : ∀ x v, get (prune m vs) x = some v → get vs x = some v := fun x v h => by
  rw [get_prune] at h
  split at h
  · exact h
  · cases h

def belowH (n : Nat) (H : Heap) : Heap := List.rec (motive := fun _ => Heap) [] (fun p _ ih => Bool.casesOn (motive := fun _ => Heap) (Nat.ble n p.1) (p :: ih) ih) H
theorem get_belowH (n : Nat) : ∀ (H : Heap) (x : Nat), get (belowH n H) x = match Nat.ble n x with | true => none | false => get H x
  | [], x => by
    show get [] x = _
    rw [get_e0]; split <;> rfl
  | (k, v) :: l, x => by
    have ih := get_belowH n l x
    show get (Bool.casesOn (motive := fun _ => Heap) (Nat.ble n k) ((k, v) :: belowH n l) (belowH n l)) x = _
    cases hk : Nat.ble n k with
    | true =>
      show get (belowH n l) x = _
      rw [ih, get_e1]
      by_cases e : k = x
      · subst e; rw [hk]
      · rw [if_neg e]
    | false =>
      show get ((k, v) :: belowH n l) x = _
      rw [get_e1, get_e1]
      by_cases e : k = x
      · subst e; rw [if_pos rfl, if_pos rfl, hk]
      · rw [if_neg e, if_neg e, ih]
theorem belowH_le (n : Nat) (H : Heap) : ∀ b blk, get (belowH n H) b = some blk → get H b = some blk := fun x v h => by
  rw [get_belowH] at h
  split at h
  · cases h
  · exact h

def stepX (call : Nat → List AV → ST → Option (AV × ST)) (o : LOper) (k : ST → Option ST) (S : ST) : Option ST :=
  match gd S.vars o.guard with
  | none => none
  | some false => k { S with vars := putV o.dst (.tup []) S.vars }
  | some true => match o.op with
    | .call _ f args => match f.ev S.vars with
      | .fn g first caps => match call g (first ++ args.map (·.ev S.vars) ++ caps) S with
        | some (r, S') => k { S' with vars := putV o.dst r S'.vars }
        | none => none
      | _ => none
    | op => match opK op S.heap S.vars S.next with
      | some e => k (S.app o.dst e)
      | none => none
def runX (call : Nat → List AV → ST → Option (AV × ST)) (ls : List LOper) : ST → Option ST := List.rec (motive := fun _ => ST → Option ST) (fun S => some S) (fun o _ ih => stepX call o ih) ls

theorem natNe {a b : Nat} (h : a ≠ b) : Nat.beq a b = false := by
  cases hb : Nat.beq a b with
  | false => rfl
  | true => exact absurd (Nat.eq_of_beq_eq_true hb) h
theorem clsK_eq (op : LOp) : clsK op = op.cls := by
  cases op <;> first | rfl | skip
  rename_i k x; cases k <;> rfl

/-- An operation's effect in a region that draws, as `effX` has it. -/
def effY (all : List LOper) (Wr : RW) (S : AS) (i : Nat) (l : LOper) (c : Nat) : Option Eff :=
  match Nat.beq c 0 with
  | true => opK l.op S.heap S.vars (S.next + i)
  | false => match Nat.beq c 2 with
    | true => match S.dead with
      | [] => opK l.op S.heap S.vars (S.next + i)
      | _ :: _ => effX all Wr S i l
    | false => match Nat.beq c 1 with
      | true => match opK l.op S.heap S.vars (S.next + i) with
        | some e => grd ((l.op.rds S.vars).all (fun b => decide (b < S.next) && !(Wr.w.contains b)) && (match e.kill with
          | some b => (match get S.dead b with | none => true | some _ => false)
          | none => true)) (some e)
        | none => none
      | false => effX all Wr S i l

theorem effY_eq {all : List LOper} {Wr : RW} {S : AS} {i : Nat} {l : LOper} : effY all Wr S i l (clsK l.op) = effX all Wr S i l := by
  unfold effY
  rw [clsK_eq]
  by_cases h0 : l.op.cls = 0
  · rw [h0]
    simp only [effX, h0, opK_eq, opEffK_eq]
    try rfl
  · rw [show Nat.beq l.op.cls 0 = false from natNe h0]
    by_cases h2 : l.op.cls = 2
    · rw [h2]
      simp only [effX, h2, opK_eq, opEffK_eq]
      cases hd : S.dead with
      | nil =>
        have : S.flush.heap = S.heap := by simp [AS.flush, hd, delAll]
        rw [this]
      | cons a r => rfl
    · rw [show Nat.beq l.op.cls 2 = false from natNe h2]
      by_cases h1 : l.op.cls = 1
      · rw [h1]
        simp only [effX, h1, opK_eq, opEffK_eq]
        have : softOK S.heap S.vars l.op = true := softOK_cls (by omega) (by omega)
        rw [this]
        simp only [Bool.true_and]
        rfl
      · rw [show Nat.beq l.op.cls 1 = false from natNe h1]

def appY (S : AS) (l : LOper) (i : Nat) (e : Eff) (c : Nat) : AS := match Nat.beq c 2 with
  | true => match S.dead with
    | [] => S.app l.dst (S.next + i) false e
    | _ :: _ => S.appD l i e
  | false => S.app l.dst (S.next + i) (Nat.beq c 5) e
theorem appY_eq {S : AS} {l : LOper} {i : Nat} {e : Eff} : appY S l i e (clsK l.op) = S.appD l i e := by
  unfold appY
  rw [clsK_eq]
  by_cases h2 : l.op.cls = 2
  · rw [h2]
    cases hd : S.dead with
    | nil =>
      have : S.flush = S := by cases S; simp only at hd; subst hd; rfl
      simp only [AS.appD, h2, if_true, this]; rfl
    | cons a r => rfl
  · rw [show Nat.beq l.op.cls 2 = false from natNe h2]
    simp only [AS.appD, h2, if_false]
    by_cases h5 : l.op.cls = 5
    · simp [h5]
    · rw [show Nat.beq l.op.cls 5 = false from natNe h5]; simp [h5]

def stepY (call : Nat → List AV → ST → Option (AV × ST)) (all : List LOper) (Wr : RW) (l : LOper) (k : Nat → AS → Option AS) (i : Nat) (S : AS) : Option AS := match gd S.vars l.guard with
  | none => none
  | some false => k (i + 1) (appY S l i { val := .tup [] } (clsK l.op))
  | some true => match get S.used (S.next + i) with
    | some _ => none
    | none => match Nat.beq (clsK l.op) 4 with
      | true => match l.op with
        | .call _ f args => match f.ev S.vars with
          | .fn g first caps => match callD call Wr.w S g (first ++ args.map (·.ev S.vars) ++ caps) with
            | some e => k (i + 1) (appY S l i e 4)
            | none => none
          | _ => none
        | _ => none
      | false => match effY all Wr S i l (clsK l.op) with
        | some e => k (i + 1) (appY S l i e (clsK l.op))
        | none => none
def runY (call : Nat → List AV → ST → Option (AV × ST)) (all : List LOper) (Wr : RW) (ls : List LOper) : Nat → AS → Option AS := List.rec (motive := fun _ => Nat → AS → Option AS) (fun _ S => some S) (fun l _ ih => stepY call all Wr l ih) ls

theorem runY_eq {call : Nat → List AV → ST → Option (AV × ST)} {all : List LOper} {Wr : RW} : ∀ (ls : List LOper) (i : Nat) (S S' : AS), runY call all Wr ls i S = some S' → runD call all Wr ls i S = some S'
  | [], _, S, S', h => h
  | l :: ls, i, S, S', h => by
    have h : stepY call all Wr l (runY call all Wr ls) i S = some S' := h
    simp only [stepY, appY_eq, effY_eq] at h
    simp only [runD]
    cases hg : gd S.vars l.guard with
    | none => rw [hg] at h; cases h
    | some b =>
      rw [hg] at h
      cases b with
      | false => exact runY_eq ls _ _ _ h
      | true =>
        simp only at h ⊢
        cases hu : get S.used (S.next + i) with
        | some u => rw [hu] at h; cases h
        | none =>
          rw [hu] at h
          simp only at h ⊢
          cases hb : Nat.beq (clsK l.op) 4 with
          | true =>
            rw [hb] at h
            have h4 : l.op.cls = 4 := by rw [← clsK_eq]; exact Nat.eq_of_beq_eq_true hb
            simp only at h
            split at h
            · rename_i q f args hop
              rw [hop]
              simp only
              split at h
              · rename_i g first caps hf
                rw [hf]
                simp only
                split at h
                · rename_i e he
                  rw [he]
                  have ha : appY S l i e 4 = S.appD l i e := by
                    rw [← appY_eq (l := l)]
                    rw [Nat.eq_of_beq_eq_true hb]
                  rw [ha] at h
                  exact runY_eq ls _ _ _ h
                · cases h
              · cases h
            · cases h
          | false =>
            rw [hb] at h
            have h4 : l.op.cls ≠ 4 := fun e => by rw [clsK_eq, e] at hb; cases hb
            simp only at h
            split at h
            · rename_i e he
              cases hop : l.op with
              | call q f args => rw [hop] at h4; simp [LOp.cls] at h4
              | _ => simp only [he]; exact runY_eq ls _ _ _ h
            · cases h

/-- The guesses, by classes. -/
def hasC (ls : List LOper) (c : Nat) : Bool := List.rec (motive := fun _ => Bool) false (fun l _ ih => Bool.casesOn (motive := fun _ => Bool) (Nat.beq (clsK l.op) c) ih true) ls
def wrY (H : Heap) (vs : Vars) (ls : List LOper) : List Nat := match hasC ls 4 with
  | true => wrk H vs ls [] []
  | false => []
def adY (H : Heap) (vs : Vars) (n : Nat) (ls : List LOper) : List (Nat × Fp) := match hasC ls 6 with
  | true => adk H vs n 0 ls []
  | false => []

def callG (L : Nat → Option LFunc) (X : XP) (ih : Nat → LCode → ST → Option (XE × ST)) (f : Nat) (args : List AV) (S : ST) : Option (AV × ST) := match callX L (ih (X.Kp f)) f args S with
  | some (r, S') => some (r, match X.G f with
    | true => ⟨S'.vars, belowH S.next S'.heap, S'.next⟩
    | false => S')
  | none => none

def runH (call : Nat → List AV → ST → Option (AV × ST)) : List HOp → ST → Option ST
  | [], S => some S
  | o :: r, S => match decide (o.2.1 ≤ 1) with
    | true => match litV o.2.1 S o.1 with
      | some v => runH call r { S with vars := putV o.1.dst v S.vars }
      | none => none
    | false => match runX call [o.1] S with
      | some S' => runH call r S'
      | none => none

def execF (L : Nat → Option LFunc) (X : XP) (ih : Nat → LCode → ST → Option (XE × ST)) (m : Nat) (c : LCode) (S : ST) : Option (XE × ST) := match c with
  | .skip => some (.normal, S)
  | .region ls d => match d with
    | false => match runX (callZ X.Z X.T (callG L X ih)) ls S with
      | some S' => some (.normal, ⟨prune m S'.vars, S'.heap, S'.next⟩)
      | none => none
    | true => match adY S.heap S.vars S.next ls with
      | ad => match okAdL ls ad ad with
        | true => match runY (callZ X.Z X.T (callG L X ih)) ls ⟨wrY S.heap S.vars ls, ad⟩ ls 0 S.as with
          | some S' => match S'.fin ls.length with
            | S2 => some (.normal, ⟨prune m S2.vars, S2.heap, S2.next⟩)
          | none => none
        | false => none
  | .seq a b => match ih m a S with
    | some (.normal, S') => ih m b S'
    | r => r
  | .cond x a b => match x.ev S.vars with
    | .bool t => match t with
      | true => ih m a S
      | false => ih m b S
    | _ => none
  | .block id a => match ih m a S with
    | some (.exit id', S') => some (match decide (id' = id) with | true => (.normal, S') | false => (.exit id', S'))
    | r => r
  | .loop a => match ih m a S with
    | some (.normal, S') => ih m (.loop a) S'
    | r => r
  | .scope a => match ih m a S with
    | some (.goto _, _) => none
    | r => r
  | .goto l => some (.goto l, S)
  | .regionL ls l => match adY S.heap S.vars S.next ls with
      | ad => match okAdL (ls ++ [l]) ad ad with
        | true => match runY (callZ X.Z X.T (callG L X ih)) (ls ++ [l]) ⟨wrY S.heap S.vars ls, ad⟩ ls 0 S.as with
          | some S1 => match runX (callZ X.Z X.T (callG L X ih)) [l] (S1.fin ls.length) with
            | some S2 => some (.normal, ⟨prune m S2.vars, S2.heap, S2.next⟩)
            | none => none
          | none => none
        | false => none
  | .regionH os => match runH (callZ X.Z X.T (callG L X ih)) os S with
      | some S' => some (.normal, ⟨prune m S'.vars, S'.heap, S'.next⟩)
      | none => none
  | .jump l x y => match ih m x S with
    | some (.goto l', S') => match decide (l' = l) with
      | true => ih m (.jump l y y) S'
      | false => none
    | r => r
  | .exit id => some (.exit id, S)
  | .ret => some (.ret, S)
def execX (L : Nat → Option LFunc) (X : XP) (k : Nat) : Nat → LCode → ST → Option (XE × ST) := Nat.rec (motive := fun _ => Nat → LCode → ST → Option (XE × ST)) (fun _ _ _ => none) (fun _ ih => execF L X ih) k
theorem execX_zero {L : Nat → Option LFunc} {X : XP} {m : Nat} {c : LCode} {S : ST} : execX L X 0 m c S = none := rfl
theorem execX_succ {L : Nat → Option LFunc} {X : XP} {k m : Nat} {c : LCode} {S : ST} : execX L X (k + 1) m c S = execF L X (execX L X k) m c S := rfl

section
variable {P : Program} {L : Nat → Option LFunc} {X : XP}

theorem LWP_forget {nt n0 : Nat} {c : LCode} {S : ST} {Q : Exit → ST → Prop} (h : LWP P nt n0 c S fun e S1 => ∃ T : ST, T.le S1 ∧ Q e T) : LWP P nt n0 c S Q :=
  fun c' hc Y φ I a w hn R => Go.wp_mono (h c' hc Y φ I a w hn R) fun e a' w' ⟨φ', I', S', h1, ⟨T, hT, hq⟩, kp⟩ => ⟨φ', I', T, h1.sub hT, hq, kp⟩

theorem CallS.forget {f : Nat} {args : List AV} {S : ST} {K : AV → ST → Prop} (h : CallS P f args S fun r S1 => ∃ H : Heap, (∀ b blk, get H b = some blk → get S1.heap b = some blk) ∧ K r ⟨S1.vars, H, S1.next⟩) : CallS P f args S K :=
  ⟨h.1, fun Y φ I w cargs R ha => (h.2 Y φ I w cargs R ha).mono fun e w' ⟨cv, r, φ', I', S1, k1, k2, k3, k4, k5, ⟨H, k6, k7⟩, k8⟩ => by
    have hA : (ST.as ⟨S1.vars, H, S1.next⟩).A = S1.as.A := by funext b; simp [ST.as, AS.A]
    refine ⟨cv, r, φ', I', ⟨S1.vars, H, S1.next⟩, k1, ?_, by rw [hA]; exact k3, by rw [hA]; exact k4, k5, k7, k8⟩
    exact k2.sub (H := H) (D := []) (vs := S1.vars) k6 fun _ _ _ => rfl⟩

theorem runX_eq {call : Nat → List AV → ST → Option (AV × ST)} (hv : ∀ f args S r S', call f args S = some (r, S') → S'.vars = S.vars) : ∀ (ls : List LOper) (S : ST), runX call ls S = runS call ls S
  | [], S => rfl
  | o :: os, S => by
    show stepX call o (runX call os) S = _
    simp only [stepX, runS]
    cases gd S.vars o.guard with
    | none => rfl
    | some b =>
      cases b with
      | false => exact runX_eq hv os _
      | true =>
        cases o.op with
        | call q f args =>
          simp only
          cases f.ev S.vars with
          | fn g first caps =>
            simp only
            cases hc : call g (first ++ args.map (·.ev S.vars) ++ caps) S with
            | none => rfl
            | some p => obtain ⟨r, S'⟩ := p; simp only [hv _ _ _ _ _ hc]; exact runX_eq hv os _
          | _ => rfl
        | _ =>
          simp only
          rw [opEffK_eq, ← opK_eq]
          split
          · rename_i e he; rw [he]; exact runX_eq hv os _
          · rename_i he; rw [he]

theorem runH_sound {call : Nat → List AV → ST → Option (AV × ST)} (hc : CallOK P call) : ∀ (os : List HOp) (S S' : ST) (K : ST → Prop), runH call os S = some S' → K S' → hRun P os S K
  | [], S, S', K, h, hK => by simp only [runH, Option.some.injEq] at h; subst h; exact hK
  | o :: r, S, S', K, h, hK => by
    simp only [runH] at h
    simp only [hRun, hOp1]
    split at h
    · rename_i hb
      rw [hb]
      split at h
      · rename_i v hv
        exact ⟨v, hv, runH_sound hc r _ _ K h hK⟩
      · cases h
    · rename_i hb
      rw [hb]
      rw [runX_eq (fun f args S r S' h => (hc f args S r S' h).1)] at h
      split at h
      · rename_i S1 h1
        exact runS_sound hc [o.1] S S1 _ h1 (runH_sound hc r _ _ K h hK)
      · cases h

theorem callG_ok {ih : Nat → LCode → ST → Option (XE × ST)} (hL : ∀ f lf, L f = some lf → okFunc P f lf = true) (IH : ∀ m c S e S', ih m c S = some (e, S') → ∀ nt n0 (Q : Exit → ST → Prop), Q e.to S' → LWP P nt n0 c S Q) : CallOK P (callG L X ih) := by
  intro f args S r S' h
  unfold callG at h
  split at h
  · rename_i r1 S1 h1
    simp only [Option.some.injEq, Prod.mk.injEq] at h
    obtain ⟨rfl, rfl⟩ := h
    obtain ⟨k1, k2⟩ := callX_okG (P := P) hL (IH (X.Kp f)) _ _ _ _ _ h1
    cases X.G f with
    | false => exact ⟨k1, k2⟩
    | true =>
      refine ⟨k1, fun K hK => CallS.forget ((k2 (fun r' S2 => r' = r1 ∧ S2 = S1) ⟨rfl, rfl⟩).mono fun r' S2 ⟨e1, e2⟩ => ?_)⟩
      subst e1 e2
      exact ⟨belowH S.next S2.heap, belowH_le _ _, hK⟩
  · cases h

theorem pruned {m : Nat} {S1 : ST} {Q : Exit → ST → Prop} {e : Exit} (h : Q e ⟨prune m S1.vars, S1.heap, S1.next⟩) : ∃ T : ST, T.le S1 ∧ Q e T :=
  ⟨⟨prune m S1.vars, S1.heap, S1.next⟩, ⟨fun x v hx => ⟨v, prune_le m _ x v hx, .refl v⟩, fun _ _ h => h, rfl⟩, h⟩

theorem execX_sound (hT : TOK P X.T) (hL : ∀ f lf, L f = some lf → okFunc P f lf = true) (k : Nat) : ∀ (m0 : Nat) (c : LCode) (S : ST) (e : XE) (S' : ST), execX L X k m0 c S = some (e, S') → ∀ nt n0 (Q : Exit → ST → Prop), Q e.to S' → LWP P nt n0 c S Q := by
  induction k using Nat.strongRecOn with
  | _ k IHs =>
  cases k with
  | zero => intro m0 c S e S' h; simp [execX_zero] at h
  | succ k =>
    intro m0 c S e S' h nt n0 Q hQ
    have IH := IHs k (by omega)
    have hc := callZ_ok (Z := X.Z) hT (callG_ok (X := X) hL IH)
    rw [execX_succ] at h
    cases c with
    | skip => simp only [execF, Option.some.injEq, Prod.mk.injEq] at h; obtain ⟨rfl, rfl⟩ := h; exact LWP_skip hQ
    | exit id => simp only [execF, Option.some.injEq, Prod.mk.injEq] at h; obtain ⟨rfl, rfl⟩ := h; exact LWP_exit hQ
    | ret => simp only [execF, Option.some.injEq, Prod.mk.injEq] at h; obtain ⟨rfl, rfl⟩ := h; exact LWP_ret hQ
    | region ls d =>
      cases d with
      | false =>
        simp only [execF] at h
        rw [runX_eq (fun f args S r S' h => (hc f args S r S' h).1)] at h
        split at h
        · rename_i S1 h1
          simp only [Option.some.injEq, Prod.mk.injEq] at h; obtain ⟨rfl, rfl⟩ := h
          exact LWP_forget (LWP_region (runS_sound hc ls S S1 _ h1 (pruned (e := .normal) hQ)))
        · cases h
      | true =>
        simp only [execF] at h
        generalize adY S.heap S.vars S.next ls = ad at h
        split at h
        · rename_i hok
          split at h
          · rename_i S1 h1
            simp only [Option.some.injEq, Prod.mk.injEq] at h; obtain ⟨rfl, rfl⟩ := h
            exact LWP_forget (LWP_regionD (okAd_spec (r := ⟨wrY S.heap S.vars ls, ad⟩) hok) (runD_sound hc ls 0 S.as S1 _ (runY_eq _ _ _ _ h1) (pruned (e := .normal) hQ)))
          · cases h
        · cases h
    | seq a b =>
      simp only [execF] at h
      refine LWP_seq ?_
      split at h
      · rename_i S1 h1
        exact IH _ _ _ _ _ h1 nt n0 _ (IH _ _ _ _ _ h nt n0 Q hQ)
      · rename_i h1
        refine IH _ _ _ _ _ h nt n0 _ ?_
        cases e with
        | normal => exact absurd h (h1 S')
        | exit id => exact hQ
        | goto l => exact hQ
        | ret => exact hQ
    | cond x a b =>
      simp only [execF] at h
      split at h
      · rename_i t hx
        refine LWP_cond hx (fun ht => ?_) (fun ht => ?_)
        · subst ht; exact IH _ _ _ _ _ h nt n0 Q hQ
        · subst ht; exact IH _ _ _ _ _ h nt n0 Q hQ
      · cases h
    | scope a =>
      simp only [execF] at h
      split at h
      · cases h
      · rename_i h1
        refine LWP_scope (IH _ _ _ _ _ h nt n0 _ ?_)
        cases e with
        | goto l => exact absurd h (h1 l S')
        | normal => exact hQ
        | exit id => exact hQ
        | ret => exact hQ
    | regionL ls l =>
      simp only [execF] at h
      generalize adY S.heap S.vars S.next ls = ad at h
      split at h
      · rename_i hok
        split at h
        · rename_i S1 h1
          rw [runX_eq (fun f args S r S' h => (hc f args S r S' h).1)] at h
          split at h
          · rename_i S2 h2
            simp only [Option.some.injEq, Prod.mk.injEq] at h; obtain ⟨rfl, rfl⟩ := h
            exact LWP_forget (LWP_regionL (okAd_spec (r := ⟨wrY S.heap S.vars ls, ad⟩) hok) (runD_sound hc ls 0 S.as S1 _ (runY_eq _ _ _ _ h1) (runS_sound hc [l] (S1.fin ls.length) S2 _ h2 (pruned (e := .normal) hQ))))
          · cases h
        · cases h
      · cases h
    | regionH os =>
      simp only [execF] at h
      split at h
      · rename_i S1 h1
        simp only [Option.some.injEq, Prod.mk.injEq] at h; obtain ⟨rfl, rfl⟩ := h
        exact LWP_forget (LWP_regionH (runH_sound hc os S S1 _ h1 (pruned (e := .normal) hQ)))
      · cases h
    | goto l => simp only [execF, Option.some.injEq, Prod.mk.injEq] at h; obtain ⟨rfl, rfl⟩ := h; exact LWP_goto hQ
    | jump l x y =>
      have key : ∀ (j : Nat), j ≤ k → ∀ (x : LCode) (S : ST), execX L X (j + 1) m0 (.jump l x y) S = some (e, S') →
          LWP P nt n0 x S (gotoQ l (fun _ => False) Q) ∨ ∃ m, ∃ U : Nat → ST, LWP P nt n0 x S (gotoQ l (fun S2 => S2 = U m) Q) ∧ (∀ i, i < m → LWP P nt n0 y (U (i + 1)) (gotoQ l (fun S2 => S2 = U i) Q)) ∧ LWP P nt n0 y (U 0) (gotoQ l (fun _ => False) Q) := by
        intro j
        induction j with
        | zero => intro _ x S h; simp [execX_succ, execF, execX_zero] at h
        | succ j ihj =>
          intro hj x S h
          have IH := IHs (j + 1) (by omega)
          rw [execX_succ] at h
          simp only [execF] at h
          split at h
          · rename_i l' S1 h1
            split at h
            · rename_i hl
              have hl := of_decide_eq_true hl
              subst hl
              rcases ihj (by omega) y S1 h with h2 | ⟨m, U, h2, h3, h4⟩
              · exact .inr ⟨0, fun _ => S1, IH _ _ _ _ _ h1 nt n0 _ ⟨rfl, rfl⟩, fun i hi => by omega, h2⟩
              · refine .inr ⟨m + 1, fun i => if i = m + 1 then S1 else U i, IH _ _ _ _ _ h1 nt n0 _ ⟨rfl, by simp⟩, fun i hi => ?_, ?_⟩
                · by_cases him : i = m
                  · subst him
                    dsimp only
                    rw [if_pos rfl, if_neg (by omega)]
                    exact h2
                  · dsimp only
                    rw [if_neg (by omega), if_neg (by omega)]
                    exact h3 i (by omega)
                · dsimp only
                  rw [if_neg (by omega)]; exact h4
            · cases h
          · rename_i h1
            refine .inl (IH _ _ _ _ _ h nt n0 _ ?_)
            cases e with
            | goto l' => exact absurd h (h1 l' S')
            | normal => exact hQ
            | exit id => exact hQ
            | ret => exact hQ
      rcases key k (Nat.le_refl _) x S (by rw [execX_succ]; exact h) with h1 | ⟨m, U, h1, h2, h3⟩
      · refine LWP_jump (fun _ _ => False) (h1.mono fun e S3 h4 => ?_) (fun _ _ hf => hf.elim)
        cases e <;> first | exact h4 | exact h4.2.elim
      · refine LWP_jump (fun i S2 => i ≤ m ∧ S2 = U i) (h1.mono fun e S3 h4 => ?_) fun i S2 ⟨hi, hS⟩ => ?_
        · cases e <;> first | exact h4 | exact ⟨h4.1, m, Nat.le_refl _, h4.2⟩
        · subst hS
          cases i with
          | zero =>
            refine h3.mono fun e S3 h4 => ?_
            cases e <;> first | exact h4 | exact h4.2.elim
          | succ i =>
            refine (h2 i (by omega)).mono fun e S3 h4 => ?_
            cases e <;> first | exact h4 | exact ⟨h4.1, i, by omega, by omega, h4.2⟩
    | block id a =>
      simp only [execF] at h
      refine LWP_block ?_
      split at h
      · rename_i id' S1 h1
        refine IH _ _ _ _ _ h1 nt n0 _ ?_
        simp only [XE.to, blockQ]
        simp only [Option.some.injEq] at h
        by_cases hid : id' = id
        · simp only [hid, decide_true, Prod.mk.injEq] at h; obtain ⟨rfl, rfl⟩ := h
          rw [if_pos hid]; exact hQ
        · simp only [hid, decide_false, Prod.mk.injEq] at h; obtain ⟨rfl, rfl⟩ := h
          rw [if_neg hid]; exact hQ
      · rename_i h1
        refine IH _ _ _ _ _ h nt n0 _ ?_
        cases e with
        | normal => exact hQ
        | exit id' => exact absurd h (h1 id' S')
        | goto l => exact hQ
        | ret => exact hQ
    | loop a =>
      have key : ∀ (j : Nat), j ≤ k → ∀ (S : ST), execX L X (j + 1) m0 (.loop a) S = some (e, S') →
          ∃ m, ∃ U : Nat → ST, U m = S ∧ (∀ i, i < m → LWP P nt n0 a (U (i + 1)) (seqQ (fun S2 => S2 = U i) Q)) ∧ LWP P nt n0 a (U 0) (seqQ (fun _ => False) Q) := by
        intro j
        induction j with
        | zero => intro _ S h; simp [execX_succ, execF, execX_zero] at h
        | succ j ihj =>
          intro hj S h
          have IH := IHs (j + 1) (by omega)
          rw [execX_succ] at h
          simp only [execF] at h
          split at h
          · rename_i S1 h1
            obtain ⟨m, U, h2, h3, h4⟩ := ihj (by omega) S1 h
            refine ⟨m + 1, fun i => if i = m + 1 then S else U i, by simp, fun i hi => ?_, ?_⟩
            · by_cases him : i = m
              · subst him
                dsimp only
                rw [if_pos rfl, if_neg (by omega), h2]
                exact IH _ _ _ _ _ h1 nt n0 _ rfl
              · dsimp only
                rw [if_neg (by omega), if_neg (by omega)]
                exact h3 i (by omega)
            · dsimp only
              rw [if_neg (by omega)]; exact h4
          · rename_i h1
            refine ⟨0, fun _ => S, rfl, fun i hi => by omega, IH _ _ _ _ _ h nt n0 _ ?_⟩
            cases e with
            | normal => exact absurd h (h1 S')
            | exit id => exact hQ
            | goto l => exact hQ
            | ret => exact hQ
      obtain ⟨m, U, h1, h2, h3⟩ := key k (Nat.le_refl _) S (by rw [execX_succ]; exact h)
      refine LWP_loop (fun i S2 => i ≤ m ∧ S2 = U i) (m := m) ⟨Nat.le_refl _, h1.symm⟩ fun i S2 ⟨hi, hS⟩ => ?_
      subst hS
      cases i with
      | zero =>
        refine h3.mono fun e S3 h4 => ?_
        cases e <;> first | exact h4 | exact h4.elim
      | succ i =>
        refine (h2 i (by omega)).mono fun e S3 h4 => ?_
        cases e <;> first | exact h4 | exact ⟨i, by omega, by omega, h4⟩


/-- A call, run to its end, answers a tree. -/
def runOKX (L : Nat → Option LFunc) (X : XP) (k f : Nat) (args : List AV) (r : AV) : Bool := match callG L X (execX L X k) f args ⟨[], [], 0⟩ with
  | some (r0, S') => match deepV S'.heap 99 r0 with
    | some r2 => smV r2 r && r.pure
    | none => false
  | none => false

theorem runOKX_sound {k f : Nat} {args : List AV} {r : AV} (hL : ∀ f lf, L f = some lf → okFunc P f lf = true) (hT : TOK P X.T) (h : runOKX L X k f args r = true) : r.pure = true ∧ ACalls P f args [] 0 fun r' _ _ => r' = r := by
  unfold runOKX at h
  split at h
  · rename_i r0 S' hr
    split at h
    · rename_i r2 h2
      simp only [Bool.and_eq_true] at h
      have e := smV_spec _ _ h.1
      subst e
      exact ⟨h.2, (ACalls.of_call (callG_ok hL (execX_sound hT hL k)) hr).deep0 h2⟩
    · cases h
  · cases h
end
end
end Go.AM

/- Steps of a walk over told states. -/
namespace Go.AM
noncomputable section
section
variable {P : Program} {nt n0 : Nat} {S T : ST} {Q : Exit → ST → Prop}

/-- One operation that is no call. -/
def stepS (o : LOper) (S : ST) : Option ST := (gd S.vars o.guard).bind fun b => match b with
  | false => some { S with vars := putV o.dst (.tup []) S.vars }
  | true => (opEff S.heap S.vars S.next o.op).map (S.app o.dst)
def stepsS : List LOper → ST → Option ST
  | [], S => some S
  | o :: os, S => (stepS o S).bind (stepsS os)

theorem rgnS_step {o : LOper} {os : List LOper} {S' : ST} {K : ST → Prop} (h : stepS o S = some S') (k : rgnS P os S' K) : rgnS P (o :: os) S K := by
  unfold stepS at h
  simp only [Option.bind_eq_some_iff] at h
  obtain ⟨b, h1, h2⟩ := h
  simp only [rgnS, h1, Option.sat]
  cases b with
  | false => cases h2; exact k
  | true =>
    simp only [Option.map_eq_some_iff] at h2
    obtain ⟨e, h2, rfl⟩ := h2
    obtain ⟨d, op, g⟩ := o
    cases op <;> first | (simp only [h2]; exact k) | (simp [opEff] at h2)

theorem rgnS_steps : ∀ {l os : List LOper} {S S' : ST} {K : ST → Prop}, stepsS l S = some S' → rgnS P os S' K → rgnS P (l ++ os) S K
  | [], _, S, S', K, h, k => by cases h; exact k
  | o :: l, os, S, S', K, h, k => by
    simp only [stepsS, Option.bind_eq_some_iff] at h
    obtain ⟨S1, h1, h2⟩ := h
    exact rgnS_step h1 (rgnS_steps h2 k)

theorem LWP_run {ls : List LOper} (h : stepsS ls S = some T) (k : Q .normal T) : LWP P nt n0 (.region ls false) S Q :=
  LWP_region (by have := rgnS_steps (P := P) (os := []) (K := fun S' => Q .normal S') h k; rwa [List.append_nil] at this)

/-- The operations in front of a call. -/
theorem rgnS_pre (n : Nat) {ls : List LOper} {K : ST → Prop} (h : stepsS (ls.take n) S = some T) (k : rgnS P (ls.drop n) T K) : rgnS P ls S K := by
  have := rgnS_steps h k
  rwa [List.take_append_drop] at this

/-- A call with trees, its answer a tree. -/
theorem rgnS_call {d : Option Nat} {q : Bool} {f : LArg} {xs : List LArg} {os : List LOper} {K : ST → Prop} {g : Nat} {first caps args : List AV} {v : AV} (hc : ACalls P g args [] 0 (fun r _ _ => r = v)) (hf : f.ev S.vars = .fn g first caps) (ha : first ++ xs.map (·.ev S.vars) ++ caps = args)
    (hp : pureL args = true) (hv : v.pure = true) {gg : Option (Nat × Bool)} (hg : gd S.vars gg = some true) (k : rgnS P os ⟨putV d v S.vars, S.heap, S.next⟩ K) : rgnS P (⟨d, .call q f xs, gg⟩ :: os) S K := by
  simp only [rgnS, hg, Option.sat, hf]
  rw [ha]
  refine CallS.of_pure hc hp fun r H' n' hr => ?_
  subst hr
  exact ⟨hv, k⟩

theorem LWP_reg {ls : List LOper} (h : ∀ K : ST → Prop, (∀ S', Q .normal S' → K S') → rgnS P ls S K) : LWP P nt n0 (.region ls false) S Q :=
  LWP_region (h _ fun _ h => h)

theorem LWP_regD {ls : List LOper} (h : ∀ K : AS → Prop, (∀ S' : AS, Q .normal (S'.fin ls.length) → K S') → rgnD P ls 0 S.as K) : LWP P nt n0 (.region ls true) S Q :=
  LWP_drawn (h _ fun _ h => h)

theorem app_val (d : Option Nat) (v : AV) : S.app d { val := v } = ⟨putV d v S.vars, S.heap, S.next⟩ := rfl
theorem app_new (d : Option Nat) (v : AV) (b : Blk) : S.app d { val := v, new := some b } = ⟨putV d v S.vars, ins S.next b S.heap, S.next + 1⟩ := rfl
theorem app_upd (d : Option Nat) (v : AV) (b : Nat × Blk) : S.app d { val := v, upd := some b } = ⟨putV d v S.vars, ins b.1 b.2 S.heap, S.next⟩ := rfl
theorem app_kill (d : Option Nat) (v : AV) (b : Blk) (x : Nat) : S.app d { val := v, new := some b, kill := some x } = ⟨putV d v S.vars, ins S.next b (del x S.heap), S.next + 1⟩ := rfl

/-- What a body's end says. -/
def retQ (res : List LRes) (v : AV) : Exit → ST → Prop
  | .normal, S => ∃ vs, resV S res = some vs ∧ wkV (retV vs) v
  | .ret, S => ∃ vs, resV S res = some vs ∧ wkV (retV vs) v
  | _, _ => False

/-- A call of a body, its answer a tree. -/
theorem pure_body {f : Nat} {lf : LFunc} {args : List AV} {v : AV} (hf : okFunc P f lf = true) (hn : args.length = lf.np) (h : LWP P lf.nt 0 lf.body ⟨parV 0 args, [], 0⟩ (retQ lf.res v)) : ACalls P f args [] 0 (fun r _ _ => r = v) := by
  have H : ACalls P f args [] 0 (fun r _ _ => wkV r v) := by
    refine ACalls_of_body hf hn (LWP.mono h fun e S' he => ?_)
    cases e with
    | normal => obtain ⟨vs, h1, h2⟩ := he; simp only [bodyQ, h1]; exact h2
    | ret => obtain ⟨vs, h1, h2⟩ := he; simp only [bodyQ, h1]; exact h2
    | _ => exact he.elim
  refine ⟨H.1, fun w F φ I cargs R ha => (H.2 w F φ I cargs R ha).mono ?_⟩
  rintro e w' ⟨cv, r, H', n', φ', I', k1, k2, k3, k4, k5⟩
  exact ⟨cv, v, H', n', φ', I', k1, k2, k4 _ _ _ _ _ k3, rfl, k5⟩

theorem retQ_ret {res : List LRes} {v : AV} (vs : List AV) (h : resV S res = some vs) (hv : wkV (retV vs) v) : LWP P nt n0 .ret S (retQ res v) := LWP_ret ⟨vs, h, hv⟩

end

def leH : Heap → Heap → Prop
  | [], _ => True
  | (x, v) :: l, m => get m x = some v ∧ leH l m
theorem leH_spec : ∀ {l m : Heap}, leH l m → ∀ x v, get l x = some v → get m x = some v
  | [], _, _, x, v, h => by simp [get_e0, get_e1] at h
  | (k, w) :: l, m, H, x, v, h => by
    simp only [get_e0, get_e1] at h
    split at h
    · rename_i e; subst e; cases h; exact H.1
    · exact leH_spec H.2 x v h
theorem ST.le.mk2 {T S : ST} (hv : leV T.vars S.vars) (hh : leH T.heap S.heap) (hn : S.next = T.next) : T.le S := ⟨leV_spec hv, leH_spec hh, hn⟩

theorem nlt_self (n k : Nat) : (n + k < n) = False := by simp
theorem nne_self (n k : Nat) : (n + (k + 1) = n) = False := by simp
theorem nne_self' (n k : Nat) : (n = n + (k + 1)) = False := by simp
theorem wrap_i64 {n : Int} (h1 : -9223372036854775808 ≤ n) (h2 : n ≤ 9223372036854775807) : IntKind.i64.wrap n = n := by
  unfold IntKind.wrap
  simp [IntKind.signed, IntKind.bits]
  omega

theorem wrap_nat {n : Nat} (h : n ≤ 9223372036854775807) : IntKind.i64.wrap (n : Int) = n := wrap_i64 (by omega) (by omega)
theorem wrap_succ {n : Nat} (h : n < 9223372036854775807) : IntKind.i64.wrap ((n : Int) + 1) = ((n + 1 : Nat) : Int) := by rw [wrap_i64 (by omega) (by omega)]; omega
end
end Go.AM

/- Steps of a drawn region. -/
namespace Go.AM
noncomputable section

/-- One operation of a drawn region that is no call. -/
def stepD (l : LOper) (i : Nat) (S : AS) : Option AS := (gd S.vars l.guard).bind fun b => match b with
  | false => some (S.appD l i { val := .tup [] })
  | true => (grd (get S.used (S.next + i)).isNone (dEffF S i l.op)).map (S.appD l i)
def stepsD : List LOper → Nat → AS → Option AS
  | [], _, S => some S
  | l :: ls, i, S => (stepD l i S).bind (stepsD ls (i + 1))

section
variable {P : Program} {nt n0 : Nat} {S T : AS}

theorem rgnD_step {l : LOper} {ls : List LOper} {i : Nat} {K : AS → Prop} (h : stepD l i S = some T) (k : rgnD P ls (i + 1) T K) : rgnD P (l :: ls) i S K := by
  unfold stepD at h
  simp only [Option.bind_eq_some_iff] at h
  obtain ⟨b, h1, h2⟩ := h
  simp only [rgnD, h1, Option.sat]
  cases b with
  | false => cases h2; exact k
  | true =>
    simp only [Option.map_eq_some_iff] at h2
    obtain ⟨e, h2, rfl⟩ := h2
    obtain ⟨h3, h4⟩ := grd_some h2
    refine ⟨by simpa using h3, ?_⟩
    obtain ⟨d, op, g⟩ := l
    cases op <;> first | (simp only [h4]; exact k) | (simp [dEffF, LOp.cls] at h4)

theorem rgnD_steps : ∀ {l ls : List LOper} {i : Nat} {S T : AS} {K : AS → Prop}, stepsD l i S = some T → rgnD P ls (i + l.length) T K → rgnD P (l ++ ls) i S K
  | [], _, i, S, T, K, h, k => by cases h; exact k
  | o :: l, ls, i, S, T, K, h, k => by
    simp only [stepsD, Option.bind_eq_some_iff] at h
    obtain ⟨S1, h1, h2⟩ := h
    exact rgnD_step h1 (rgnD_steps h2 (by rw [show i + 1 + l.length = i + (o :: l).length by simp; omega]; exact k))

theorem LWP_runD {S : ST} {T : AS} {U : ST} {Q : Exit → ST → Prop} {ls : List LOper} (h : stepsD ls 0 S.as = some T) (hU : T.fin ls.length = U) (k : Q .normal U) : LWP P nt n0 (.region ls true) S Q :=
  LWP_drawn (by subst hU; have := rgnD_steps (P := P) (ls := []) (K := fun S' => Q .normal (S'.fin ls.length)) h k; rwa [List.append_nil] at this)

theorem rgnD_pre (n : Nat) {ls : List LOper} {i : Nat} {K : AS → Prop} (h : stepsD (ls.take n) i S = some T) (k : rgnD P (ls.drop n) (i + (ls.take n).length) T K) : rgnD P ls i S K := by
  have := rgnD_steps h k
  rwa [List.take_append_drop] at this

theorem appD_val (l : LOper) (i : Nat) (v : AV) : S.appD l i { val := v } = bif l.op.cls == 2 then ⟨putV l.dst v S.vars, delAll S.dead S.heap, S.next, S.used, []⟩ else ⟨putV l.dst v S.vars, S.heap, S.next, S.used, S.dead⟩ := by
  simp only [AS.appD]; by_cases h : l.op.cls = 2
  · simp [h, AS.app, AS.flush]
  · rw [beq_false_of_ne h]; simp [h, AS.app]
theorem appD_new (l : LOper) (i : Nat) (v : AV) (b : Blk) : S.appD l i { val := v, new := some b } = bif l.op.cls == 2 then ⟨putV l.dst v S.vars, ins (S.next + i) b (delAll S.dead S.heap), S.next, ins (S.next + i) () S.used, []⟩ else ⟨putV l.dst v S.vars, ins (S.next + i) b S.heap, S.next, ins (S.next + i) () S.used, S.dead⟩ := by
  simp only [AS.appD]; by_cases h : l.op.cls = 2
  · simp [h, AS.app, AS.flush]
  · rw [beq_false_of_ne h]; simp [h, AS.app]
theorem appD_kill (l : LOper) (i : Nat) (v : AV) (b : Blk) (x : Nat) : S.appD l i { val := v, new := some b, kill := some x } = bif l.op.cls == 2 then ⟨putV l.dst v S.vars, ins (S.next + i) b (delAll S.dead S.heap), S.next, ins (S.next + i) () S.used, ins x () []⟩ else bif l.op.cls == 5 then ⟨putV l.dst v S.vars, ins (S.next + i) b (del x S.heap), S.next, ins (S.next + i) () S.used, S.dead⟩ else ⟨putV l.dst v S.vars, ins (S.next + i) b S.heap, S.next, ins (S.next + i) () S.used, ins x () S.dead⟩ := by
  simp only [AS.appD]; by_cases h : l.op.cls = 2
  · simp [h, AS.app, AS.flush, khp, kdd]
  · rw [beq_false_of_ne h]; by_cases h5 : l.op.cls = 5
    · simp [h5, AS.app, khp, kdd]
    · rw [beq_false_of_ne h5]; simp [h, h5, AS.app, khp, kdd]
theorem appD_upd (l : LOper) (i : Nat) (v : AV) (b : Nat × Blk) : S.appD l i { val := v, upd := some b } = bif l.op.cls == 2 then ⟨putV l.dst v S.vars, ins b.1 b.2 (delAll S.dead S.heap), S.next, S.used, []⟩ else ⟨putV l.dst v S.vars, ins b.1 b.2 S.heap, S.next, S.used, S.dead⟩ := by
  simp only [AS.appD]; by_cases h : l.op.cls = 2
  · simp [h, AS.app, AS.flush]
  · rw [beq_false_of_ne h]; simp [h, AS.app]

theorem rgnD_call {i : Nat} {d : Option Nat} {q : Bool} {f : LArg} {xs : List LArg} {os : List LOper} {K : AS → Prop} {g : Nat} {first caps args : List AV} {v : AV} (hc : ACalls P g args [] 0 (fun r _ _ => r = v)) (hf : f.ev S.vars = .fn g first caps) (ha : first ++ xs.map (·.ev S.vars) ++ caps = args)
    (hp : pureL args = true) (hv : v.pure = true) {gg : Option (Nat × Bool)} (hg : gd S.vars gg = some true) (hu : get S.used (S.next + i) = none) (k : rgnD P os (i + 1) ⟨putV d v S.vars, S.heap, S.next, S.used, S.dead⟩ K) : rgnD P (⟨d, .call q f xs, gg⟩ :: os) i S K := by
  simp only [rgnD, hg, Option.sat, hf]
  rw [ha]
  exact ⟨hu, v, [], QC.of_pure hc hp hv, fun b blk h => by simp [get_e0, get_e1] at h, by rw [appD_val]; exact k⟩

end
end
end Go.AM

namespace Go.AM
noncomputable section
section
variable {h : Array Obj} {φ : Nat → Option (Nat × Nat)} {I A : Nat → Prop}
/-- A state whose blocks are written no more. -/
theorem RelS.deep {X : Ctx} {S : ST} {nt : Nat} {a : Act} (R : RelS X φ I S nt a h) {vs : Vars} (hv : ∀ x v, get vs x = some v → ∃ u n, get S.vars x = some u ∧ deepV S.heap n u = some v) : ∃ I', RelS X φ I' ⟨vs, [], S.next⟩ nt a h := by
  have hA : (ST.mk vs [] S.next).as.A = S.as.A := by funext x; simp [ST.as, AS.A]
  let I' : Nat → Prop := fun c => I c ∨ ∃ b blk o, get S.heap b = some blk ∧ φ b = some (c, o)
  have hI : ∀ c, I c → I' c := fun c hc => .inl hc
  have E : Ext h φ I S.as.A h φ I' S.as.A := ⟨fun _ _ _ _ h => h, fun _ _ h => h, fun _ _ => rfl, hI, fun _ h => h⟩
  have hb : ∀ b sz es, get S.heap b = some (.rows sz es) → (φ b = none ∧ es = []) ∨ ∃ c o, φ b = some (c, o) ∧ I' c ∧ relR h φ I' S.as.A sz es c o := fun b sz es hg => by
    have := (R.H.heap b _ hg).2
    simp only [relB] at this
    rcases this with k | ⟨c, o, cs, el, k1, _, k3⟩
    · exact .inl k
    · exact .inr ⟨c, o, k1, .inr ⟨b, _, o, hg, k1⟩, relR_mono E sz es c o (fun _ _ h => h) k3⟩
  refine ⟨I', ⟨⟨fun b blk h1 => by simp [ST.as, get_e0, get_e1] at h1, fun b blk c o h1 => by simp [ST.as, get_e0, get_e1] at h1, fun b b' c o c' o' h1 => by simp [ST.as, get_e0, get_e1] at h1, fun c hc => ?_, fun c hc => ?_, fun c hc => hI _ (R.H.isup c hc), R.H.frame, R.H.size, R.H.sizes, R.H.agree, R.H.n0⟩, ⟨fun x v hx => ?_, R.A.nt, R.A.defers⟩⟩⟩
  · rcases hc with hc | ⟨b, blk, o, h1, h2⟩
    · exact R.H.idom c hc
    · exact (R.H.live b blk c o h1 h2).1
  · rcases hc with hc | ⟨b, blk, o, h1, h2⟩
    · exact R.H.isub c hc
    · exact .inr (R.H.live b blk c o h1 h2).2.2
  · obtain ⟨u, n, h1, h2⟩ := hv x v hx
    rw [hA]
    exact deepV_rel hb n u v _ h2 (relV_mono E _ _ (R.A.vars x u h1))
end

/-- The check, row by row. -/
def deepL (H : Heap) (m : Vars) (n : Nat) : Vars → Prop
  | [] => True
  | (x, v) :: l => (∃ u, get m x = some u ∧ deepV H n u = some v) ∧ deepL H m n l
theorem deepL_spec {H : Heap} {m : Vars} {n : Nat} : ∀ {l : Vars}, deepL H m n l → ∀ x v, get l x = some v → ∃ u n, get m x = some u ∧ deepV H n u = some v
  | [], _, x, v, h => by simp [get_e0, get_e1] at h
  | (k, w) :: l, K, x, v, h => by
    simp only [get_e0, get_e1] at h
    split at h
    · rename_i e; subst e; cases h; obtain ⟨u, h1, h2⟩ := K.1; exact ⟨u, n, h1, h2⟩
    · exact deepL_spec K.2 x v h

theorem LWP_deep {P : Program} {nt n0 : Nat} {S : ST} {Q : Exit → ST → Prop} {lc : LCode} (vs : Vars) (n : Nat) (hv : deepL S.heap S.vars n vs) (h : LWP P nt n0 lc ⟨vs, [], S.next⟩ Q) : LWP P nt n0 lc S Q :=
  fun c hc X φ I a w hn R => by
    obtain ⟨I', R'⟩ := R.deep (deepL_spec hv)
    exact h c hc X φ I' a w hn R'
end
end Go.AM

/- Calls that are handed owned blocks. -/
namespace Go.AM
noncomputable section
section
variable {P : Program} {nt n0 : Nat} {S T : ST} {Q : Exit → ST → Prop}

theorem CallS.of_owned {f : Nat} {args : List AV} {Q : AV → Heap → Nat → Prop} {K : AV → ST → Prop} (H : ACalls P f args S.heap S.next Q) (hK : ∀ r H' n', Q r H' n' → K r ⟨S.vars, H', n'⟩) : CallS P f args S K :=
  ⟨H.1, fun X φ I w cargs R ha => by
    have hA : S.as.A = (· < S.next) := by funext b; exact propext (ST.as_A _ b)
    have hA0 : (ST.as ⟨[], S.heap, S.next⟩).A = (· < S.next) := by funext b; exact propext (ST.as_A _ b)
    have R0 : RelH ⟨w.heap, fun c => (X.F c ∨ X.h0.size ≤ c) ∧ ¬ I c, φ, S.next, I⟩ φ I ⟨[], S.heap, S.next, [], []⟩ w.heap := by
      refine ⟨fun b blk h1 => ?_, fun b blk c o h1 h2 => ?_, R.inj, R.idom, fun c hc => .inl hc, fun c hc => hc, fun _ _ _ => rfl, Nat.le_refl _, fun _ _ h => h, fun _ _ => rfl, Nat.le_refl _⟩
      · have := R.heap b blk h1
        rw [hA] at this
        show (ST.as ⟨[], S.heap, S.next⟩).A b ∧ relB _ _ _ (ST.as ⟨[], S.heap, S.next⟩).A _ _
        rw [hA0]; exact this
      · obtain ⟨k1, k2, k3⟩ := R.live b blk c o h1 h2
        exact ⟨k1, k2, .inl ⟨k3, k2⟩⟩
    refine (H.2 w _ φ I cargs R0 (by rw [← hA]; exact ha)).mono fun e w' ⟨cv, r, H', n', φ', I', h1, h2, h3, h4, h5⟩ => ?_
    have hA' : (ST.as ⟨S.vars, H', n'⟩).A = (· < n') := by funext b; exact propext (ST.as_A _ b)
    refine ⟨cv, r, φ', I', ⟨S.vars, H', n'⟩, h1, ?_, ?_, by rw [hA']; exact h3, rfl, hK _ _ _ h4, h5⟩
    · refine ⟨fun b blk k1 => ?_, fun b blk c o k1 k2 => ?_, h2.inj, h2.idom, fun c hc => ?_, fun c hc => h2.isup c (R.isup c hc), fun c k1 k2 => ?_, Nat.le_trans R.size h2.size, fun c s k1 => h2.sizes c s (R.sizes c s k1), fun b hb => ?_, Nat.le_trans R.n0 h2.n0⟩
      · exact h2.heap b blk k1
      · obtain ⟨q1, q2, q3⟩ := h2.live b blk c o k1 k2
        refine ⟨q1, q2, ?_⟩
        rcases q3 with q3 | q3
        · exact q3.1
        · exact .inr (Nat.le_trans R.size q3)
      · rcases h2.isub c hc with q | q | q
        · exact R.isub c q
        · exact .inr q.1
        · exact .inr (.inr (Nat.le_trans R.size q))
      · rw [h2.frame c (Nat.lt_of_lt_of_le k1 R.size) (fun hc => ?_)]
        · exact R.frame c k1 k2
        · rcases hc.1 with q | q
          · exact k2 q
          · omega
      · rw [h2.agree b (Nat.lt_of_lt_of_le hb R.n0)]; exact R.agree b hb
    · refine ⟨fun c o v k1 k2 => ?_, fun c s k1 => h2.sizes c s k1, fun b hb => h2.agree b (by rw [hA] at hb; exact hb), h2.isup, fun b hb => ?_⟩
      · have := h2.frame c (R.idom c k1) (fun hc => hc.2 k1)
        simpa [hcell, this] using k2
      · rw [hA] at hb; rw [hA']; exact Nat.lt_of_lt_of_le hb h2.n0⟩

/-- A call told with less behind it. -/
theorem ACalls.sub {f : Nat} {args : List AV} {H : Heap} {n : Nat} {Q Q' : AV → Heap → Nat → Prop} (h : ACalls P f args H n Q) (hq : ∀ r H' n', Q r H' n' → ∃ r2 H2, wkV r r2 ∧ (∀ b blk, get H2 b = some blk → get H' b = some blk) ∧ Q' r2 H2 n') : ACalls P f args H n Q' :=
  ⟨h.1, fun w F φ I cargs R ha => (h.2 w F φ I cargs R ha).mono fun e w' ⟨cv, r, H', n', φ', I', k1, k2, k3, k4, k5⟩ => by
    obtain ⟨r2, H2, q1, q2, q3⟩ := hq _ _ _ k4
    exact ⟨cv, r2, H2, n', φ', I', k1, RelH.sub (S := ⟨[], H', n', [], []⟩) k2 (vs := []) q2 fun _ _ _ => rfl, q1 _ _ _ _ _ k3, q3, k5⟩⟩

/-- What an owned body's end says: the answer, the blocks behind it. -/
def retO (res : List LRes) (n : Nat) (v : AV) (H2 : Heap) : Exit → ST → Prop
  | .normal, S => n ≤ S.next ∧ (∃ vs, resV S res = some vs ∧ wkV (retV vs) v) ∧ ∀ b blk, get H2 b = some blk → get S.heap b = some blk
  | .ret, S => n ≤ S.next ∧ (∃ vs, resV S res = some vs ∧ wkV (retV vs) v) ∧ ∀ b blk, get H2 b = some blk → get S.heap b = some blk
  | _, _ => False

def postO (n : Nat) (v : AV) (H2 : Heap) (r : AV) (H' : Heap) (n' : Nat) : Prop := r = v ∧ H' = H2 ∧ n ≤ n'

theorem own_body {f : Nat} {lf : LFunc} {args : List AV} {v : AV} {H H2 : Heap} {n : Nat} (hf : okFunc P f lf = true) (hn : args.length = lf.np) (h : LWP P lf.nt n lf.body ⟨parV 0 args, H, n⟩ (retO lf.res n v H2)) : ACalls P f args H n (postO n v H2) := by
  have h0 : ACalls P f args H n (fun r H' n' => n ≤ n' ∧ wkV r v ∧ ∀ b blk, get H2 b = some blk → get H' b = some blk) := by
    refine ACalls_of_body hf hn (LWP.mono h fun e S' he => ?_)
    cases e with
    | normal => obtain ⟨h0, ⟨vs, h1, h2⟩, h3⟩ := he; simp only [bodyQ, h1]; exact ⟨h0, h2, h3⟩
    | ret => obtain ⟨h0, ⟨vs, h1, h2⟩, h3⟩ := he; simp only [bodyQ, h1]; exact ⟨h0, h2, h3⟩
    | _ => exact he.elim
  exact h0.sub fun r H' n' ⟨k1, k2, k3⟩ => ⟨v, H2, k2, k3, rfl, rfl, k1⟩

/-- A call in a region that is handed owned blocks. -/
theorem rgnS_callO {d : Option Nat} {q : Bool} {f : LArg} {xs : List LArg} {os : List LOper} {K : ST → Prop} {g : Nat} {first caps args : List AV} {v : AV} {H2 : Heap} (hc : ACalls P g args S.heap S.next (postO S.next v H2)) (hf : f.ev S.vars = .fn g first caps) (ha : first ++ xs.map (·.ev S.vars) ++ caps = args)
    {gg : Option (Nat × Bool)} (hg : gd S.vars gg = some true) (k : ∀ n', S.next ≤ n' → rgnS P os ⟨putV d v S.vars, H2, n'⟩ K) : rgnS P (⟨d, .call q f xs, gg⟩ :: os) S K := by
  simp only [rgnS, hg, Option.sat, hf]
  rw [ha]
  refine CallS.of_owned hc fun r H' n' hr => ?_
  obtain ⟨rfl, rfl, hn⟩ := hr
  exact k n' hn

theorem LWP_regD' {ls : List LOper} (h : ∀ K : AS → Prop, (∀ (S' : AS) (U : ST), S'.fin ls.length = U → Q .normal U → K S') → rgnD P ls 0 S.as K) : LWP P nt n0 (.region ls true) S Q :=
  LWP_regD fun K hK => h K fun S' U h1 h2 => hK S' (by rw [h1]; exact h2)

/-- The told blocks have numbers that are in use. -/
theorem LWP_keys {lc : LCode} (h : (∀ b blk, get S.heap b = some blk → b < S.next) → LWP P nt n0 lc S Q) : LWP P nt n0 lc S Q :=
  fun c hc X φ I a w hn R => h (fun b blk hb => (ST.as_A S b).1 (R.H.heap b blk hb).1) c hc X φ I a w hn R

theorem LWP_cut {β : Type} {x y : LCode} (T : β → ST) (C : β → Prop) (h : LWP P nt n0 x S (seqQ (fun S' => ∃ a, C a ∧ (T a).le S') Q)) (k : ∀ a, C a → LWP P nt n0 y (T a) Q) : LWP P nt n0 (.seq x y) S Q :=
  LWP_seq (LWP.mono h fun e S' he => by
    cases e with
    | normal => obtain ⟨a, h1, h2⟩ := he; exact LWP_sub h2 (k a h1)
    | _ => exact he)

theorem get_ins_ins {α : Type} {b : Nat} {x y : α} {H : List (Nat × α)} : ∀ c v, get (ins b x H) c = some v → get (ins b x (ins b y H)) c = some v := fun c v h => by
  rw [get_ins] at h ⊢
  split
  · rename_i e; rw [if_pos e] at h; exact h
  · rename_i e; rw [if_neg e] at h; rw [get_ins, if_neg e]; exact h
end
end
end Go.AM

/- Walking: guards, runs up to a guard or a call, loops over told states. -/
namespace Go.AM
noncomputable section
section
variable {P : Program} {nt n0 : Nat} {S T : ST} {Q : Exit → ST → Prop}

theorem decT {p : Prop} [Decidable p] (h : p) : decide p = true := decide_eq_true h
theorem decF {p : Prop} [Decidable p] (h : ¬ p) : decide p = false := decide_eq_false h

/-- What becomes of a condition that was met. -/
theorem bn : (∀ (p : Prop) [Decidable p], (decide p = true) = p) ∧ (∀ {p : Prop} {_ : Decidable p}, decide p = false ↔ ¬p) ∧ (∀ (b : Bool), ((!b) = true) = (b = false)) ∧ (∀ (b : Bool), ((!b) = false) = (b = true)) ∧ ((!true) = false) ∧ ((!false) = true) ∧
    (∀ {α : Type} [BEq α] [LawfulBEq α] {a b : α}, (a == b) = true ↔ a = b) ∧ (∀ {α : Type} [BEq α] [LawfulBEq α] {a b : α}, (a != b) = true ↔ a ≠ b) ∧ (∀ {α : Type} [BEq α] [LawfulBEq α] {a b : α}, (a == b) = false ↔ a ≠ b) ∧ (∀ {α : Type} [BEq α] [LawfulBEq α] {a b : α}, (a != b) = false ↔ a = b) ∧
    (∀ (a b : Bool), ((a && b) = true) = (a = true ∧ b = true)) ∧ (∀ (a b : Bool), ((a || b) = false) = (a = false ∧ b = false)) ∧ (∀ {a b : Int}, ¬a < b ↔ b ≤ a) ∧ (∀ {a b : Int}, ¬a ≤ b ↔ b < a) ∧ (∀ {a b : Nat}, ¬a < b ↔ b ≤ a) ∧ (∀ {a b : Nat}, ¬a ≤ b ↔ b < a) ∧
    (∀ {α : Sort 1} (a b : α), (a ≠ b) = ¬a = b) ∧ (¬true = false) ∧ (¬false = true) :=
  ⟨fun p _ => decide_eq_true_eq, decide_eq_false_iff_not, fun b => by cases b <;> simp, fun b => by cases b <;> simp, rfl, rfl, beq_iff_eq, bne_iff_ne, beq_eq_false_iff_ne, bne_eq_false_iff_eq, fun a b => by cases a <;> cases b <;> simp, fun a b => by cases a <;> cases b <;> simp, Int.not_lt, Int.not_le, Nat.not_lt, Nat.not_le, fun _ _ => rfl, by simp, by simp⟩
theorem gz : (∀ {α : Type} {a : α} {l : List α}, (a :: l)[0]? = some a) ∧ (∀ {α : Type} (a b : α), (some a).getD b = a) ∧ (∀ {S : ST} (d : Option Nat) (v : AV), S.app d { val := v } = ⟨putV d v S.vars, S.heap, S.next⟩) := ⟨rfl, fun _ _ => rfl, fun _ _ => rfl⟩
theorem gd_at {vs : Vars} {x : Nat} {b c : Bool} (hx : get vs x = some (.bool c)) : gd vs (some (x, b)) = some (c == b) := by
  simp only [gd, hx]

/-- An operation whose guard is not known. -/
theorem rgnS_guard {x : Nat} {b c : Bool} {d : Option Nat} {op : LOp} {os : List LOper} {K : ST → Prop} (hx : get S.vars x = some (.bool c)) (k1 : c = b → rgnS P (⟨d, op, none⟩ :: os) S K) (k2 : c = (!b) → rgnS P os ⟨putV d (.tup []) S.vars, S.heap, S.next⟩ K) : rgnS P (⟨d, op, some (x, b)⟩ :: os) S K := by
  by_cases h : c = b
  · have k3 := k1 h
    clear k1 k2
    subst h
    have h1 : gd S.vars (some (x, c)) = some true := by simp [gd_at hx]
    simp only [rgnS, h1, Option.sat]
    simpa only [rgnS, gd, Option.sat] using k3
  · have hc : c = !b := by cases c <;> cases b <;> simp at h ⊢
    have k3 := k2 hc
    clear k1 k2
    have h1 : gd S.vars (some (x, b)) = some false := by rw [gd_at hx, hc]; cases b <;> rfl
    simp only [rgnS, h1, Option.sat]
    exact k3

theorem rgnD_guard {x : Nat} {b c : Bool} {d : Option Nat} {op : LOp} {os : List LOper} {i : Nat} {S : AS} {K : AS → Prop} (hx : get S.vars x = some (.bool c)) (k1 : c = b → rgnD P (⟨d, op, none⟩ :: os) i S K) (k2 : c = (!b) → rgnD P os (i + 1) (S.appD ⟨d, op, none⟩ i { val := .tup [] }) K) : rgnD P (⟨d, op, some (x, b)⟩ :: os) i S K := by
  by_cases h : c = b
  · have k3 := k1 h
    clear k1 k2
    subst h
    have h1 : gd S.vars (some (x, c)) = some true := by simp [gd_at hx]
    have he : ∀ e, S.appD ⟨d, op, some (x, c)⟩ i e = S.appD ⟨d, op, none⟩ i e := fun _ => rfl
    simp only [rgnD, h1, Option.sat, he]
    simpa only [rgnD, gd, Option.sat] using k3
  · have hc : c = !b := by cases c <;> cases b <;> simp at h ⊢
    have k3 := k2 hc
    clear k1 k2
    have h1 : gd S.vars (some (x, b)) = some false := by rw [gd_at hx, hc]; cases b <;> rfl
    simp only [rgnD, h1, Option.sat]
    exact k3

theorem wkV_of_eq {u v : AV} (h : u = v) : wkV u v := h ▸ .refl u
theorem wkV_int {k : IntKind} {a b : Int} (h : a = b) : wkV (.int k a) (.int k b) := wkV_of_eq (by rw [h])

/-- A loop, its state told by a parameter; the next number is whatever it is. -/
theorem LWP_for {α : Type} {x : LCode} (V : α → Vars) (H : α → Heap) (C : α → Nat → Prop) (μ : α → Nat) (a0 : α) (hv : leV (V a0) S.vars) (hh : leH (H a0) S.heap) (h0 : C a0 S.next)
    (h : ∀ a n, C a n → LWP P nt n0 x ⟨V a, H a, n⟩ (seqQ (fun S' => ∃ a', C a' S'.next ∧ μ a' < μ a ∧ leV (V a') S'.vars ∧ leH (H a') S'.heap) Q)) : LWP P nt n0 (.loop x) S Q := by
  refine LWP_inv (fun q : α × Nat => ⟨V q.1, H q.1, q.2⟩) (fun q => μ q.1) (fun q => C q.1 q.2) (a0, S.next) (.mk2 hv hh rfl) h0 ?_
  rintro ⟨a, n⟩ hc
  refine LWP.mono (h a n hc) fun e S' he => ?_
  cases e with
  | normal =>
    obtain ⟨a', h1, h2, h3, h4⟩ := he
    exact ⟨(a', S'.next), h1, h2, .mk2 h3 h4 rfl⟩
  | _ => exact he

end
end
end Go.AM

/- Drawn regions with cells told ahead, walked step by step. -/
namespace Go.AM
noncomputable section
def stepF (all : List LOper) (ad : List (Nat × Fp)) (l : LOper) (i : Nat) (S : AS) : Option AS := (gd S.vars l.guard).bind fun b => match b with
  | false => some (S.appD l i { val := .tup [] })
  | true => (grd (get S.used (S.next + i)).isNone (effX all ⟨[], ad⟩ S i l)).map (S.appD l i)
def stepsF (all : List LOper) (ad : List (Nat × Fp)) : List LOper → Nat → AS → Option AS
  | [], _, S => some S
  | l :: ls, i, S => (stepF all ad l i S).bind (stepsF all ad ls (i + 1))
theorem stepsF_run {all : List LOper} {ad : List (Nat × Fp)} : ∀ (ls : List LOper) (i : Nat) (S T : AS), stepsF all ad ls i S = some T → runD (fun _ _ _ => none) all ⟨[], ad⟩ ls i S = some T
  | [], _, S, T, h => h
  | l :: ls, i, S, T, h => by
    simp only [stepsF, Option.bind_eq_some_iff] at h
    obtain ⟨S1, h1, h2⟩ := h
    unfold stepF at h1
    simp only [Option.bind_eq_some_iff] at h1
    obtain ⟨b, h3, h4⟩ := h1
    simp only [runD, h3]
    cases b with
    | false => cases h4; exact stepsF_run ls _ _ _ h2
    | true =>
      simp only [Option.map_eq_some_iff] at h4
      obtain ⟨e, h5, rfl⟩ := h4
      obtain ⟨h6, h7⟩ := grd_some h5
      have h8 : get S.used (S.next + i) = none := by simpa using h6
      simp only [h8]
      obtain ⟨d, op, g⟩ := l
      cases op <;> first | (simp only [h7]; exact stepsF_run ls _ _ _ h2) | (simp [effX, LOp.cls] at h7)
theorem LWP_runDX {P : Program} {nt n0 : Nat} {S : ST} {T : AS} {U : ST} {Q : Exit → ST → Prop} {ls : List LOper} (ad : List (Nat × Fp)) (hok : okAdL ls ad ad = true) (h : stepsF ls ad ls 0 S.as = some T) (hU : T.fin ls.length = U) (k : Q .normal U) : LWP P nt n0 (.region ls true) S Q :=
  LWP_regionD (okAd_spec (r := ⟨[], ad⟩) hok) (runD_sound (call := fun _ _ _ => none) (fun _ _ _ _ _ h => by cases h) ls 0 S.as T _ (stepsF_run _ _ _ _ h) (by rw [hU]; exact k))
theorem mx_ite (a b : Int) : (if a < b then b else a) = max a b := by omega
theorem mn_ite (a b : Int) : (if b < a then b else a) = min a b := by omega
end
end Go.AM

/- Owned blocks lent to a call that is told of trees: it reads them, and leaves them. -/
namespace Go.AM
noncomputable section
def AV.flat0 : AV → Bool
  | .bool _ | .int _ _ | .str _ | .nilp | .nils | .nilm | .nilf | .nili => true
  | _ => false
def AV.flat : AV → Bool
  | .agg cs => cs.all AV.flat0
  | v => v.flat0
section
variable {P : Program} {h : Array Obj} {φ φ' : Nat → Option (Nat × Nat)} {I I' A A' : Nat → Prop}
theorem relV_flat0 {v : AV} {c : Value} (hv : v.flat0 = true) (H : relV h φ I A v c) : relV h φ' I' A' v c := by
  cases v <;> simp only [AV.flat0, Bool.false_eq_true] at hv <;> simpa only [relV] using H
theorem relL_flat0 : ∀ (l : List AV) (vs : List Value), l.all AV.flat0 = true → relL h φ I A l vs → relL h φ' I' A' l vs
  | [], _, _, H => by simpa [relL] using H
  | x :: l, vs, hp, H => by
    simp only [List.all_cons, Bool.and_eq_true] at hp
    simp only [relL] at H ⊢
    obtain ⟨v, r, h1, h2, h3⟩ := H
    exact ⟨v, r, h1, relV_flat0 hp.1 h2, relL_flat0 l r hp.2 h3⟩
theorem relV_flat {v : AV} {c : Value} (hv : v.flat = true) (H : relV h φ I A v c) : relV h φ' I' A' v c := by
  cases v with
  | agg cs =>
    simp only [AV.flat] at hv
    simp only [relV] at H ⊢
    obtain ⟨us, h1, h2⟩ := H
    exact ⟨us, h1, relL_flat0 _ _ hv h2⟩
  | _ => exact relV_flat0 hv H
end
section
variable {P : Program}
theorem CallS.lend {f : Nat} {args args' : List AV} {v : AV} {S : ST} {K : AV → ST → Prop} {m : Nat} (H : ACalls P f args' [] 0 (fun r _ _ => r = v)) (hp : pureL args' = true) (hd : mapO (deepV S.heap m) args = some args') (hv : v.flat = true) (hK : K v S) : CallS P f args S K := by
  refine ⟨H.1, fun X φ I w cargs R ha => ?_⟩
  have E0 : Ext w.heap φ I S.as.A w.heap φ I S.as.A := Ext.grown (fun _ _ => rfl) (fun _ _ => rfl) (fun _ h => h)
  have E : Ext w.heap φ I S.as.A w.heap φ (fun c => c < w.heap.size) S.as.A := ⟨E0.cells, E0.sizes, E0.agree, R.idom, E0.inA⟩
  have ha1 := relL_mono E _ _ ha
  have hb : ∀ b sz es, get S.heap b = some (.rows sz es) → (φ b = none ∧ es = []) ∨ ∃ c o, φ b = some (c, o) ∧ c < w.heap.size ∧ relR w.heap φ (fun c => c < w.heap.size) S.as.A sz es c o := fun b sz es hg => by
    obtain ⟨k1, k2⟩ := R.heap b _ hg
    simp only [relB] at k2
    rcases k2 with k2 | ⟨c, o, cs, el, k3, k4, k5⟩
    · exact .inl k2
    · exact .inr ⟨c, o, k3, (R.live b _ c o hg k3).1, relR_mono E _ _ _ _ (fun _ _ h => h) k5⟩
  have ha2 := mapO_relL (fun v u c h1 h2 => deepV_rel (I := fun c => c < w.heap.size) hb m v u c h1 h2) args args' cargs hd ha1
  refine (H.2 w (fun _ => False) (fun _ => none) (fun c => c < w.heap.size) cargs ⟨fun b blk h => by simp [get_e0, get_e1] at h, fun b blk c o h => by simp [get_e0, get_e1] at h, fun b b' c o c' o' h => by simp [get_e0, get_e1] at h, fun c hc => hc, fun c hc => .inl hc, fun c hc => hc, fun _ _ _ => rfl, Nat.le_refl _, fun _ _ h => h, fun b hb => absurd hb (Nat.not_lt_zero _), Nat.le_refl _⟩ (relL_pure _ _ hp ha2)).mono ?_
  intro e w' ⟨cv, r, H', n', φ', I', h1, h2, h3, h4, h5⟩
  subst h4
  obtain ⟨k1, k2⟩ := R.later (h' := w'.heap) (I' := fun c => I c ∨ (I' c ∧ w.heap.size ≤ c)) h2.size (fun c hc => h2.frame c hc (fun h => h)) (fun c hc => .inl hc) (fun c hc => hc.imp id (fun h => h.2)) (fun c hc => by
    rcases hc with hc | hc
    · exact Nat.lt_of_lt_of_le (R.idom c hc) h2.size
    · exact h2.idom c hc.1)
  exact ⟨cv, r, φ, _, S, h1, k1, k2, relV_flat hv h3, rfl, hK, h5⟩

/-- A call that is handed owned blocks to read. -/
theorem rgnS_lend {d : Option Nat} {q : Bool} {f : LArg} {xs : List LArg} {os : List LOper} {K : ST → Prop} {S : ST} {g : Nat} {first caps args args' : List AV} {v : AV} {m : Nat} (hc : ACalls P g args' [] 0 (fun r _ _ => r = v)) (hf : f.ev S.vars = .fn g first caps) (ha : first ++ xs.map (·.ev S.vars) ++ caps = args)
    (hp : pureL args' = true) (hd : mapO (deepV S.heap m) args = some args') (hv : v.flat = true) {gg : Option (Nat × Bool)} (hg : gd S.vars gg = some true) (k : rgnS P os ⟨putV d v S.vars, S.heap, S.next⟩ K) : rgnS P (⟨d, .call q f xs, gg⟩ :: os) S K := by
  simp only [rgnS, hg, Option.sat, hf]
  rw [ha]
  exact CallS.lend hc hp hd hv k
end
end
end Go.AM

/- Walking drawn regions with calls that change blocks. -/
namespace Go.AM
noncomputable section
section
variable {P : Program} {nt n0 : Nat} {S T : ST} {Q : Exit → ST → Prop}
theorem onlyV_val (v : AV) : onlyV (some { val := v }) = some v := rfl
def stepH (o : HOp) (S : ST) : Option ST := match o.2.1 with
  | 0 => (litV 0 S o.1).map fun v => { S with vars := putV o.1.dst v S.vars }
  | 1 => (litV 1 S o.1).map fun v => { S with vars := putV o.1.dst v S.vars }
  | _ => stepS o.1 S
def stepsH : List HOp → ST → Option ST
  | [], S => some S
  | o :: os, S => (stepH o S).bind (stepsH os)
theorem LWP_regH {os : List HOp} (h : ∀ K : ST → Prop, (∀ S', Q .normal S' → K S') → hRun P os S K) : LWP P nt n0 (.regionH os) S Q :=
  LWP_regionH (h _ fun _ h => h)
theorem rgnH_op {l : LOper} {i : Nat} {os : List HOp} {K : ST → Prop} (h : rgnS P [l] S (fun T => hRun P os T K)) : hRun P ((l, 2, i) :: os) S K := h
theorem rgnS_nil {K : ST → Prop} (h : K S) : rgnS P [] S K := h
theorem rgnH_nil {K : ST → Prop} (h : K S) : hRun P [] S K := h
theorem rgnH_steps : ∀ {l os : List HOp} {S S' : ST} {K : ST → Prop}, stepsH l S = some S' → hRun P os S' K → hRun P (l ++ os) S K
  | [], _, S, S', K, h, k => by cases h; exact k
  | o :: l, os, S, S', K, h, k => by
    simp only [stepsH, Option.bind_eq_some_iff] at h
    obtain ⟨S1, h1, h2⟩ := h
    obtain ⟨lo, kd, ix⟩ := o
    have k2 := rgnH_steps h2 k
    show hOp1 P (lo, kd, ix) _ S
    unfold stepH at h1
    unfold hOp1
    simp only at h1 ⊢
    match kd, h1 with
    | 0, h1 =>
      simp only [Option.map_eq_some_iff] at h1
      obtain ⟨v, h3, rfl⟩ := h1
      exact ⟨v, h3, k2⟩
    | 1, h1 =>
      simp only [Option.map_eq_some_iff] at h1
      obtain ⟨v, h3, rfl⟩ := h1
      exact ⟨v, h3, k2⟩
    | n + 2, h1 =>
      rw [show decide (n + 2 ≤ 1) = false from decide_eq_false (by omega)]
      exact rgnS_step h1 k2
theorem rgnH_pre (n : Nat) {os : List HOp} {K : ST → Prop} (h : stepsH (os.take n) S = some T) (k : hRun P (os.drop n) T K) : hRun P os S K := by
  have := rgnH_steps h k
  rwa [List.take_append_drop] at this
theorem rgnH_guard {x : Nat} {b c : Bool} {d : Option Nat} {op : LOp} {kd ix : Nat} {os : List HOp} {K : ST → Prop} (hx : get S.vars x = some (.bool c)) (k1 : c = b → hRun P ((⟨d, op, none⟩, kd, ix) :: os) S K) (k2 : c = (!b) → hRun P os ⟨putV d (.tup []) S.vars, S.heap, S.next⟩ K) : hRun P ((⟨d, op, some (x, b)⟩, kd, ix) :: os) S K := by
  by_cases h : c = b
  · have k3 := k1 h
    clear k1 k2
    subst h
    have h1 : gd S.vars (some (x, c)) = some true := by simp [gd_at hx]
    simp only [hRun, hOp1, litV, rgnS] at k3 ⊢
    simp only [h1]
    simpa only [gd] using k3
  · have hc : c = !b := by cases c <;> cases b <;> simp at h ⊢
    have k3 := k2 hc
    clear k1 k2
    have h1 : gd S.vars (some (x, b)) = some false := by rw [gd_at hx, hc]; cases b <;> rfl
    simp only [hRun, hOp1, litV, rgnS]
    simp only [h1, Option.bind_some, Option.sat]
    split
    · exact ⟨_, rfl, k3⟩
    · exact k3
/-- A call that is handed owned blocks, whatever it leaves. -/
theorem rgnS_callE {d : Option Nat} {q : Bool} {f : LArg} {xs : List LArg} {os : List LOper} {K : ST → Prop} {g : Nat} {first caps args : List AV} {R : AV → Heap → Nat → Prop} (hc : ACalls P g args S.heap S.next R) (hf : f.ev S.vars = .fn g first caps) (ha : first ++ xs.map (·.ev S.vars) ++ caps = args)
    {gg : Option (Nat × Bool)} (hg : gd S.vars gg = some true) (k : ∀ v H2 n', R v H2 n' → rgnS P os ⟨putV d v S.vars, H2, n'⟩ K) : rgnS P (⟨d, .call q f xs, gg⟩ :: os) S K := by
  simp only [rgnS, hg, Option.sat, hf]
  rw [ha]
  exact CallS.of_owned hc fun r H' n' hr => k r H' n' hr
end
end
end Go.AM

/- A call that is handed owned blocks which nobody writes any more: they become trees. -/
namespace Go.AM
noncomputable section
section
variable {P : Program}
theorem CallS.eat {f : Nat} {args args' : List AV} {v : AV} {S : ST} {K : AV → ST → Prop} {m : Nat} (H : ACalls P f args' [] 0 (fun r _ _ => r = v)) (hp : pureL args' = true) (hd : mapO (deepV S.heap m) args = some args') (hv : v.pure = true) (hK : K v ⟨S.vars, [], S.next⟩) : CallS P f args S K := by
  refine ⟨H.1, fun X φ I w cargs R ha => ?_⟩
  have hA : (ST.mk S.vars [] S.next).as.A = S.as.A := by funext x; simp [ST.as, AS.A]
  let I' : Nat → Prop := fun c => I c ∨ ∃ b blk o, get S.heap b = some blk ∧ φ b = some (c, o)
  have hI : ∀ c, I c → I' c := fun c hc => .inl hc
  have E : Ext w.heap φ I S.as.A w.heap φ I' S.as.A := ⟨fun _ _ _ _ h => h, fun _ _ h => h, fun _ _ => rfl, hI, fun _ h => h⟩
  have hb : ∀ b sz es, get S.heap b = some (.rows sz es) → (φ b = none ∧ es = []) ∨ ∃ c o, φ b = some (c, o) ∧ I' c ∧ relR w.heap φ I' S.as.A sz es c o := fun b sz es hg => by
    have := (R.heap b _ hg).2
    simp only [relB] at this
    rcases this with k | ⟨c, o, cs, el, k1, _, k3⟩
    · exact .inl k
    · exact .inr ⟨c, o, k1, .inr ⟨b, _, o, hg, k1⟩, relR_mono E sz es c o (fun _ _ h => h) k3⟩
  have R' : RelH X φ I' (ST.mk S.vars [] S.next).as w.heap := by
    refine ⟨fun b blk h1 => by simp [ST.as, get_e0, get_e1] at h1, fun b blk c o h1 => by simp [ST.as, get_e0, get_e1] at h1, fun b b' c o c' o' h1 => by simp [ST.as, get_e0, get_e1] at h1, fun c hc => ?_, fun c hc => ?_, fun c hc => hI _ (R.isup c hc), R.frame, R.size, R.sizes, R.agree, R.n0⟩
    · rcases hc with hc | ⟨b, blk, o, h1, h2⟩
      · exact R.idom c hc
      · exact (R.live b blk c o h1 h2).1
    · rcases hc with hc | ⟨b, blk, o, h1, h2⟩
      · exact R.isub c hc
      · exact .inr (R.live b blk c o h1 h2).2.2
  have ha2 := mapO_relL (fun v u c h1 h2 => deepV_rel hb m v u c h1 h2) args args' cargs hd (relL_mono E _ _ ha)
  have C := CallS.of_pure (S := ⟨S.vars, [], S.next⟩) (K := K) H hp (fun r H' n' hr => by subst hr; exact ⟨hv, hK⟩)
  rw [← hA] at ha2
  refine (C.2 X φ I' w cargs R' ha2).mono fun e w' ⟨cv, r, φ', I'', S', h1, h2, h3, h4, h5, h6, h7⟩ => ⟨cv, r, φ', I'', S', h1, h2, ?_, h4, h5, h6, h7⟩
  rw [hA] at h3
  exact ⟨fun c o v hc hh => h3.cells c o v (hI c hc) hh, h3.sizes, h3.agree, fun c hc => h3.inI c (hI c hc), h3.inA⟩
theorem rgnS_eat {d : Option Nat} {q : Bool} {f : LArg} {xs : List LArg} {os : List LOper} {K : ST → Prop} {S : ST} {g : Nat} {first caps args args' : List AV} {v : AV} {m : Nat} (hc : ACalls P g args' [] 0 (fun r _ _ => r = v)) (hf : f.ev S.vars = .fn g first caps) (ha : first ++ xs.map (·.ev S.vars) ++ caps = args)
    (hp : pureL args' = true) (hd : mapO (deepV S.heap m) args = some args') (hv : v.pure = true) {gg : Option (Nat × Bool)} (hg : gd S.vars gg = some true) (k : rgnS P os ⟨putV d v S.vars, [], S.next⟩ K) : rgnS P (⟨d, .call q f xs, gg⟩ :: os) S K := by
  simp only [rgnS, hg, Option.sat, hf]
  rw [ha]
  exact CallS.eat hc hp hd hv k
end
end
end Go.AM

/- What holds no block is read as it is. -/
namespace Go.AM
variable {H : Heap}
theorem deep_step {x : AV} {m0 : Nat} (h : ∀ m, m0 ≤ m → deepV H (m + 1) x = some x) : ∃ m1, ∀ m, m1 ≤ m → deepV H m x = some x :=
  ⟨m0 + 1, fun m hm => by
    obtain ⟨k, rfl⟩ : ∃ k, m = k + 1 := ⟨m - 1, by omega⟩
    exact h k (by omega)⟩
mutual
theorem deepV_pure : ∀ x : AV, x.pure = true → ∃ m0, ∀ m, m0 ≤ m → deepV H m x = some x
  | .any, _ => deep_step (m0 := 0) fun _ _ => rfl
  | .bool _, _ => deep_step (m0 := 0) fun _ _ => rfl
  | .int _ _, _ => deep_step (m0 := 0) fun _ _ => rfl
  | .str _, _ => deep_step (m0 := 0) fun _ _ => rfl
  | .nilp, _ => deep_step (m0 := 0) fun _ _ => rfl
  | .nils, _ => deep_step (m0 := 0) fun _ _ => rfl
  | .nilm, _ => deep_step (m0 := 0) fun _ _ => rfl
  | .nilf, _ => deep_step (m0 := 0) fun _ _ => rfl
  | .nili, _ => deep_step (m0 := 0) fun _ _ => rfl
  | .map _, h => by simp [AV.pure] at h
  | .ptr _ _ _ _, h => by simp [AV.pure] at h
  | .sl _ _ _ _, h => by simp [AV.pure] at h
  | .cptr cs, h => by
    obtain ⟨m0, e⟩ := deepP_pure cs (by simpa [AV.pure] using h)
    exact deep_step (m0 := m0) fun m hm => by simp only [deepV, e m hm, Option.map_some]
  | .agg cs, h => by
    obtain ⟨m0, e⟩ := deepP_pure cs (by simpa [AV.pure] using h)
    exact deep_step (m0 := m0) fun m hm => by simp only [deepV, e m hm, Option.map_some]
  | .tup cs, h => by
    obtain ⟨m0, e⟩ := deepP_pure cs (by simpa [AV.pure] using h)
    exact deep_step (m0 := m0) fun m hm => by simp only [deepV, e m hm, Option.map_some]
  | .tsl sz es, h => by
    obtain ⟨m0, e⟩ := deepR_pure es (by simpa [AV.pure] using h)
    exact deep_step (m0 := m0) fun m hm => by simp only [deepV, e m hm, Option.map_some]
  | .iface t x, h => by
    obtain ⟨m0, e⟩ := deepV_pure x (by simpa [AV.pure] using h)
    exact deep_step (m0 := m0) fun m hm => by simp only [deepV, e m hm, Option.map_some]
  | .fn f fs cs, h => by
    simp only [AV.pure, Bool.and_eq_true] at h
    obtain ⟨m0, e⟩ := deepP_pure fs h.1
    obtain ⟨m1, e1⟩ := deepP_pure cs h.2
    exact deep_step (m0 := max m0 m1) fun m hm => by simp only [deepV, e m (by omega), e1 m (by omega), Option.map_some, Option.bind_some]
theorem deepP_pure : ∀ l : List AV, pureL l = true → ∃ m0, ∀ m, m0 ≤ m → mapO (deepV H m) l = some l
  | [], _ => ⟨0, fun _ _ => rfl⟩
  | x :: l, h => by
    simp only [pureL, Bool.and_eq_true] at h
    obtain ⟨m0, e⟩ := deepV_pure x h.1
    obtain ⟨m1, e1⟩ := deepP_pure l h.2
    exact ⟨max m0 m1, fun m hm => by simp only [mapO, e m (by omega), e1 m (by omega)]⟩
theorem deepR_pure : ∀ l : List (List AV), pureR l = true → ∃ m0, ∀ m, m0 ≤ m → mapO (mapO (deepV H m)) l = some l
  | [], _ => ⟨0, fun _ _ => rfl⟩
  | x :: l, h => by
    simp only [pureR, Bool.and_eq_true] at h
    obtain ⟨m0, e⟩ := deepP_pure x h.1
    obtain ⟨m1, e1⟩ := deepR_pure l h.2
    exact ⟨max m0 m1, fun m hm => by simp only [mapO, e m (by omega), e1 m (by omega)]⟩
end
/-- A box of a tree, read. -/
theorem deep_box {b sz : Nat} {cs : List AV} (hb : get H b = some (.rows sz [cs])) (hp : pureL cs = true) : ∃ m0, ∀ m, m0 ≤ m → deepV H m (.ptr sz b 0 0) = some (.cptr cs) := by
  obtain ⟨m0, e⟩ := deepP_pure (H := H) cs hp
  refine ⟨m0 + 1, fun m hm => ?_⟩
  obtain ⟨k, rfl⟩ : ∃ k, m = k + 1 := ⟨m - 1, by omega⟩
  simp only [deepV, hb]
  simp [grd, e k (by omega)]
/-- A call that is lent a tree and a closure over boxes. -/
theorem deep_lent {v : AV} {g : Nat} {c1 c2 d1 d2 : AV} (hv : v.pure = true) (h1 : ∃ m0, ∀ m, m0 ≤ m → deepV H m c1 = some d1) (h2 : ∃ m0, ∀ m, m0 ≤ m → deepV H m c2 = some d2) : ∃ m, mapO (deepV H m) [v, .fn g [] [c1, c2]] = some [v, .fn g [] [d1, d2]] := by
  obtain ⟨a, e⟩ := deepV_pure (H := H) v hv
  obtain ⟨b, e1⟩ := h1
  obtain ⟨c, e2⟩ := h2
  refine ⟨max a (max b c) + 1, ?_⟩
  have ea := e (max a (max b c) + 1) (by omega)
  have eb := e1 (max a (max b c)) (by omega)
  have ec := e2 (max a (max b c)) (by omega)
  have ef : deepV H (max a (max b c) + 1) (.fn g [] [c1, c2]) = some (.fn g [] [d1, d2]) := by simp only [deepV, mapO, eb, ec, Option.map_some, Option.bind_some]
  simp only [mapO, ea, ef]
end Go.AM
