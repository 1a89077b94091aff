/- States told with less; a block that is written no more becomes a tree; loops over told states. -/
import Derived.Test.YteiapnjcelnfdaaAM21
set_option linter.unusedSimpArgs false
set_option linter.unusedVariables false
namespace Go.AM

/-- What stands for 'u' stands for 'v', too. -/
def wkV (u v : AV) : Prop := ∀ (h : Array Obj) (φ : Nat → Option (Nat × Nat)) (I A : Nat → Prop) (c : Value), relV h φ I A u c → relV h φ I A v c

theorem wkV.refl (u : AV) : wkV u u := fun _ _ _ _ _ h => h
theorem wkV.trans {u v x : AV} (h : wkV u v) (k : wkV v x) : wkV u x := fun a b c d e f => k a b c d e (h a b c d e f)
theorem wkV.nils (sz : Nat) : wkV .nils (.tsl sz []) := fun _ _ _ _ _ h => by simp only [relV] at h ⊢; exact ⟨none, 0, by rw [h]; rfl, Nat.le_refl _, .inl trivial⟩
theorem wkV.tup2 {a b x y : AV} (h : wkV a x) (k : wkV b y) : wkV (.tup [a, b]) (.tup [x, y]) := fun _ _ _ _ _ H => by
  simp only [relV, relL] at H ⊢
  obtain ⟨vs, rfl, v, r, rfl, h1, v', r', rfl, h2, rfl⟩ := H
  exact ⟨_, rfl, v, _, rfl, h _ _ _ _ _ h1, v', _, rfl, k _ _ _ _ _ h2, rfl⟩

/-- 'T' tells no more than 'S'. -/
structure ST.le (T S : ST) : Prop where
  vars : ∀ x v, get T.vars x = some v → ∃ u, get S.vars x = some u ∧ wkV u v
  heap : ∀ b blk, get T.heap b = some blk → get S.heap b = some blk
  next : S.next = T.next

theorem ST.le.refl (S : ST) : S.le S := ⟨fun _ v h => ⟨v, h, .refl v⟩, fun _ _ h => h, rfl⟩

theorem get_le {α : Type} {l m : List (Nat × α)} (h : ∀ q ∈ l, get m q.1 = some q.2) : ∀ x v, get l x = some v → get m x = some v :=
  get_all (p := fun x v => get m x = some v) h

/-- The check of one state against another, row by row. -/
def leV : Vars → Vars → Prop
  | [], _ => True
  | (x, v) :: l, m => (∃ u, get m x = some u ∧ wkV u v) ∧ leV l m
theorem leV_spec : ∀ {l m : Vars}, leV l m → ∀ x v, get l x = some v → ∃ u, get m x = some u ∧ wkV u v
  | [], _, _, x, v, h => by simp [get] at h
  | (k, w) :: l, m, H, x, v, h => by
    simp only [get] at h
    split at h
    · rename_i e; subst e; cases h; exact H.1
    · exact leV_spec H.2 x v h
theorem ST.le.mk' {T S : ST} (hv : leV T.vars S.vars) (hh : ∀ b blk, get T.heap b = some blk → get S.heap b = some blk) (hn : S.next = T.next) : T.le S := ⟨leV_spec hv, hh, hn⟩

theorem RelS.sub {X : Ctx} {φ : Nat → Option (Nat × Nat)} {I : Nat → Prop} {S T : ST} {nt : Nat} {a : Act} {h : Array Obj} (R : RelS X φ I S nt a h) (L : T.le S) : RelS X φ I T nt a h := by
  have hA : S.as.A = T.as.A := by funext b; simp only [AS.A, ST.as, L.next]
  refine ⟨?_, ⟨fun x v hx => ?_, R.A.nt, R.A.defers⟩⟩
  · refine RelH.conv (S := { S.as with vars := S.vars, heap := T.heap, dead := [] }) (R.H.sub (H := T.heap) (D := []) (vs := S.vars) L.heap fun _ _ _ => rfl) ?_ rfl (fun _ => rfl) (Nat.le_of_eq L.next)
    rw [← hA]; rfl
  · rw [← hA]; obtain ⟨u, h1, h2⟩ := L.vars x v hx; exact h2 _ _ _ _ _ (R.A.vars x u h1)

section
variable {P : Program} {nt n0 : Nat} {S T : ST} {Q : Exit → ST → Prop}

theorem LWP_sub {lc : LCode} (L : T.le S) (h : LWP P nt n0 lc T Q) : LWP P nt n0 lc S Q :=
  fun c hc X φ I a w hn R => h c hc X φ I a w hn (R.sub L)

/-- A loop, its state told by a parameter. -/
theorem LWP_inv {α : Type} {x : LCode} (T : α → ST) (μ : α → Nat) (C : α → Prop) (a0 : α) (hL : (T a0).le S) (h0 : C a0)
    (h : ∀ a, C a → LWP P nt n0 x (T a) (seqQ (fun S' => ∃ a', C a' ∧ μ a' < μ a ∧ (T a').le S') Q)) : LWP P nt n0 (.loop x) S Q := by
  refine LWP_sub hL (LWP_loop (fun m S => ∃ a, C a ∧ μ a = m ∧ (T a).le S) (m := μ a0) ⟨a0, h0, rfl, ST.le.refl _⟩ ?_)
  rintro m S ⟨a, hc, rfl, hs⟩
  refine LWP_sub hs (LWP.mono (h a hc) fun e S' he => ?_)
  cases e with
  | normal => obtain ⟨a', k1, k2, k3⟩ := he; exact ⟨_, k2, a', k1, rfl, k3⟩
  | _ => exact he
end

/-! ### Freezing -/
mutual
/-- A value as it reads where the block 'b', of the rows 'es', is written no more. -/
def frzV (b sz : Nat) (es : List (List AV)) : AV → AV
  | .ptr sz' b' i j => if b' = b then (if sz' = sz ∧ i < es.length then .cptr ((es.getD i []).drop j) else .any) else .ptr sz' b' i j
  | .sl sz' b' i n => if b' = b then (if sz' = sz ∧ i + n ≤ es.length then .tsl sz ((es.drop i).take n) else .any) else .sl sz' b' i n
  | .cptr cs => .cptr (frzL b sz es cs)
  | .tsl s l => .tsl s (frzR b sz es l)
  | .fn f fs cs => .fn f (frzL b sz es fs) (frzL b sz es cs)
  | .iface t v => .iface t (frzV b sz es v)
  | .agg cs => .agg (frzL b sz es cs)
  | .tup cs => .tup (frzL b sz es cs)
  | v => v
def frzL (b sz : Nat) (es : List (List AV)) : List AV → List AV
  | [] => []
  | v :: l => frzV b sz es v :: frzL b sz es l
def frzR (b sz : Nat) (es : List (List AV)) : List (List AV) → List (List AV)
  | [] => []
  | v :: l => frzL b sz es v :: frzR b sz es l
end

def frzE (b sz : Nat) (es : List (List AV)) : List (AV × AV) → List (AV × AV)
  | [] => []
  | (k, v) :: l => (frzV b sz es k, frzV b sz es v) :: frzE b sz es l

def frzB (b sz : Nat) (es : List (List AV)) : Blk → Blk
  | .rows s l => .rows s (frzR b sz es l)
  | .mp l => .mp (frzE b sz es l)

def mapS {α β : Type} (f : α → β) : List (Nat × α) → List (Nat × β)
  | [] => []
  | (x, v) :: l => (x, f v) :: mapS f l

theorem get_mapS {α β : Type} (f : α → β) : ∀ (l : List (Nat × α)) (x : Nat), get (mapS f l) x = (get l x).map f
  | [], x => rfl
  | (k, v) :: l, x => by
    simp only [mapS, get]
    by_cases h : k = x
    · simp [h]
    · simp [h, get_mapS f l x]

section
variable {h : Array Obj} {φ : Nat → Option (Nat × Nat)} {I I' A : Nat → Prop} {b sz : Nat} {es : List (List AV)}

theorem frzR_length : ∀ l : List (List AV), (frzR b sz es l).length = l.length
  | [] => rfl
  | _ :: l => by simp [frzR, frzR_length l]
theorem frzL_length : ∀ l : List AV, (frzL b sz es l).length = l.length
  | [] => rfl
  | _ :: l => by simp [frzL, frzL_length l]

mutual
theorem frzV_rel (hI : ∀ c, I c → I' c) (hb : (φ b = none ∧ es = []) ∨ ∃ c o, φ b = some (c, o) ∧ I' c ∧ relR h φ I' A sz es c o) : ∀ (x : AV) (v : Value), relV h φ I A x v → relV h φ I' A (frzV b sz es x) v
  | .any, _, _ => by simp [frzV, relV]
  | .bool _, _, H => by simpa [frzV, relV] using H
  | .int _ _, _, H => by simpa [frzV, relV] using H
  | .str _, _, H => by simpa [frzV, relV] using H
  | .nilp, _, H => by simpa [frzV, relV] using H
  | .nils, _, H => by simpa [frzV, relV] using H
  | .nilm, _, H => by simpa [frzV, relV] using H
  | .nilf, _, H => by simpa [frzV, relV] using H
  | .nili, _, H => by simpa [frzV, relV] using H
  | .map _, _, H => by simpa [frzV, relV] using H
  | .ptr sz' b' i j, v, H => by
    simp only [relV] at H
    obtain ⟨h1, c, o, h2, h3⟩ := H
    simp only [frzV]
    split
    · rename_i e; subst e
      split
      · rename_i hc
        obtain ⟨rfl, hi⟩ := hc
        rcases hb with ⟨k1, _⟩ | ⟨c', o', k1, k2, k3⟩
        · rw [k1] at h2; cases h2
        · rw [k1] at h2; cases h2
          simp only [relV]
          exact ⟨c, _, h3, k2, relM_drop j (relR_get k3 hi).2⟩
      · simp [relV]
    · simp only [relV]; exact ⟨h1, c, o, h2, h3⟩
  | .sl sz' b' i n, v, H => by
    simp only [relV] at H
    obtain ⟨h1, base, cap, h2, h3⟩ := H
    simp only [frzV]
    split
    · rename_i e; subst e
      split
      · rename_i hc
        obtain ⟨rfl, hi⟩ := hc
        have hlen : ((es.drop i).take n).length = n := by simp; omega
        simp only [relV, hlen]
        rcases h3 with ⟨h3, h4⟩ | ⟨c, o, s, h3, h4, h5, _, _⟩
        · subst h3
          exact ⟨base, cap, h2, Nat.zero_le _, .inl (by simp)⟩
        · refine ⟨base, cap, h2, h5, ?_⟩
          rcases hb with ⟨k1, _⟩ | ⟨c', o', k1, k2, k3⟩
          · rw [k1] at h3; cases h3
          · rw [k1] at h3; cases h3
            exact .inr ⟨c, _, h4, k2, relR_take n (relR_drop i k3 (by omega))⟩
      · simp [relV]
    · simp only [relV]; exact ⟨h1, base, cap, h2, h3⟩
  | .cptr cs, v, H => by
    simp only [relV] at H
    simp only [frzV, relV]
    obtain ⟨c, o, h1, h2, h3⟩ := H
    exact ⟨c, o, h1, hI _ h2, frzM_rel hI hb cs c o h3⟩
  | .tsl s l, v, H => by
    simp only [relV] at H
    simp only [frzV, relV, frzR_length]
    obtain ⟨base, cap, h1, h2, h3⟩ := H
    refine ⟨base, cap, h1, h2, ?_⟩
    rcases h3 with h3 | ⟨c, o, h3, h4, h5⟩
    · subst h3; exact .inl rfl
    · exact .inr ⟨c, o, h3, hI _ h4, frzR_rel hI hb s l c o h5⟩
  | .fn f fs cs, v, H => by
    simp only [relV] at H
    simp only [frzV, relV]
    obtain ⟨fs', cs', h1, h2, h3⟩ := H
    exact ⟨fs', cs', h1, frzL_rel hI hb fs fs' h2, frzL_rel hI hb cs cs' h3⟩
  | .iface t x, v, H => by
    simp only [relV] at H
    simp only [frzV, relV]
    obtain ⟨y, h1, h2⟩ := H
    exact ⟨y, h1, frzV_rel hI hb x y h2⟩
  | .agg cs, v, H => by
    simp only [relV] at H
    simp only [frzV, relV]
    obtain ⟨vs, h1, h2⟩ := H
    exact ⟨vs, h1, frzL_rel hI hb cs vs h2⟩
  | .tup cs, v, H => by
    simp only [relV] at H
    simp only [frzV, relV]
    obtain ⟨vs, h1, h2⟩ := H
    exact ⟨vs, h1, frzL_rel hI hb cs vs h2⟩
theorem frzM_rel (hI : ∀ c, I c → I' c) (hb : (φ b = none ∧ es = []) ∨ ∃ c o, φ b = some (c, o) ∧ I' c ∧ relR h φ I' A sz es c o) : ∀ (cs : List AV) (c o : Nat), relM h φ I A cs c o → relM h φ I' A (frzL b sz es cs) c o
  | [], _, _, _ => by simp [frzL, relM]
  | x :: cs, c, o, H => by
    simp only [relM] at H
    simp only [frzL, relM]
    obtain ⟨⟨v, h1, h0, h2⟩, h3⟩ := H
    exact ⟨⟨v, h1, h0, frzV_rel hI hb x v h2⟩, frzM_rel hI hb cs c (o + 1) h3⟩
theorem frzR_rel (hI : ∀ c, I c → I' c) (hb : (φ b = none ∧ es = []) ∨ ∃ c o, φ b = some (c, o) ∧ I' c ∧ relR h φ I' A sz es c o) (s : Nat) : ∀ (l : List (List AV)) (c o : Nat), relR h φ I A s l c o → relR h φ I' A s (frzR b sz es l) c o
  | [], _, _, _ => by simp [frzR, relR]
  | e :: l, c, o, H => by
    simp only [relR] at H
    simp only [frzR, relR, frzL_length]
    exact ⟨H.1, frzM_rel hI hb e c o H.2.1, frzR_rel hI hb s l c (o + s) H.2.2⟩
theorem frzL_rel (hI : ∀ c, I c → I' c) (hb : (φ b = none ∧ es = []) ∨ ∃ c o, φ b = some (c, o) ∧ I' c ∧ relR h φ I' A sz es c o) : ∀ (l : List AV) (vs : List Value), relL h φ I A l vs → relL h φ I' A (frzL b sz es l) vs
  | [], vs, H => by simpa [frzL, relL] using H
  | x :: l, vs, H => by
    simp only [relL] at H
    simp only [frzL, relL]
    obtain ⟨v, r, h1, h2, h3⟩ := H
    exact ⟨v, r, h1, frzV_rel hI hb x v h2, frzL_rel hI hb l r h3⟩
end

theorem frzE_rel (hI : ∀ c, I c → I' c) (hb : (φ b = none ∧ es = []) ∨ ∃ c o, φ b = some (c, o) ∧ I' c ∧ relR h φ I' A sz es c o) : ∀ (l : List (AV × AV)) (vs : List MapEntry), relE h φ I A l vs → relE h φ I' A (frzE b sz es l) vs
  | [], vs, H => by simpa [frzE, relE] using H
  | (k, x) :: l, vs, H => by
    simp only [relE] at H
    simp only [frzE, relE]
    obtain ⟨e, r, h1, h2, h3, h4⟩ := H
    exact ⟨e, r, h1, frzV_rel hI hb k _ h2, frzV_rel hI hb x _ h3, frzE_rel hI hb l r h4⟩

/-- The state where the block 'b' is written no more. -/
def ST.frz (S : ST) (b sz : Nat) (es : List (List AV)) : ST := ⟨mapS (frzV b sz es) S.vars, mapS (frzB b sz es) (del b S.heap), S.next⟩

theorem RelS.frz {X : Ctx} {S : ST} {nt : Nat} {a : Act} (R : RelS X φ I S nt a h) (hb : get S.heap b = some (.rows sz es)) : ∃ I', RelS X φ I' (S.frz b sz es) nt a h := by
  have hA : (S.frz b sz es).as.A = S.as.A := by funext x; simp [ST.as, ST.frz, AS.A]
  have hR := (R.H.heap b _ hb).2
  simp only [relB] at hR
  have hget : ∀ b' blk, get (S.frz b sz es).as.heap b' = some blk → b' ≠ b ∧ ∃ blk0, get S.heap b' = some blk0 ∧ blk = frzB b sz es blk0 := fun b' blk h1 => by
    have h1' : get (mapS (frzB b sz es) (del b S.heap)) b' = some blk := h1
    rw [get_mapS, get_del] at h1'
    split at h1'
    · simp at h1'
    · rename_i hne
      simp only [Option.map_eq_some_iff] at h1'
      obtain ⟨x, k1, k2⟩ := h1'
      exact ⟨fun e => hne e.symm, x, k1, k2.symm⟩
  have hsome : ∀ b', get (S.frz b sz es).as.heap b' ≠ none → b' ≠ b ∧ get S.heap b' ≠ none := fun b' h1 => by
    cases h2 : get (S.frz b sz es).as.heap b' with
    | none => exact absurd h2 h1
    | some blk => obtain ⟨k1, x, k2, _⟩ := hget _ _ h2; exact ⟨k1, by rw [k2]; simp⟩
  let I' : Nat → Prop := fun c => I c ∨ ∃ o, φ b = some (c, o)
  have hI : ∀ c, I c → I' c := fun c hc => .inl hc
  have hrel0 : (φ b = none ∧ es = []) ∨ ∃ c o, φ b = some (c, o) ∧ I' c ∧ relR h φ I' S.as.A sz es c o := by
    rcases hR with hR | ⟨c, o, cs, el, h1, h2, h3⟩
    · exact .inl hR
    · refine .inr ⟨c, o, h1, .inr ⟨o, h1⟩, ?_⟩
      exact relR_mono (⟨fun _ _ _ _ h => h, fun _ _ h => h, fun _ _ => rfl, hI, fun _ h => h⟩ : Ext h φ I S.as.A h φ I' S.as.A) sz es c o (fun _ _ h => h) h3
  refine ⟨I', ⟨?_, ⟨fun x v hx => ?_, R.A.nt, R.A.defers⟩⟩⟩
  · refine ⟨fun b' blk h1 => ?_, fun b' blk c o h1 h2 => ?_, fun b1 b2 c o c' o' h1 h2 h3 _ h5 h6 => ?_, fun c hc => ?_, fun c hc => ?_, fun c hc => hI _ (R.H.isup c hc), R.H.frame, R.H.size, R.H.sizes, R.H.agree, R.H.n0⟩
    · obtain ⟨_, blk0, k1, rfl⟩ := hget _ _ h1
      obtain ⟨k2, k3⟩ := R.H.heap b' blk0 k1
      rw [hA]
      refine ⟨k2, ?_⟩
      cases blk0 with
      | rows s l =>
        simp only [relB] at k3
        simp only [frzB, relB]
        rcases k3 with ⟨k3, k4⟩ | ⟨c, o, cs, el, k3, k4, k5⟩
        · subst k4; exact .inl ⟨k3, rfl⟩
        · exact .inr ⟨c, o, cs, el, k3, k4, frzR_rel hI hrel0 s l c o k5⟩
      | mp l =>
        simp only [relB] at k3
        simp only [frzB, relB]
        obtain ⟨c, ees, clk, k4, k5, k6⟩ := k3
        exact ⟨c, ees, clk, k4, k5, frzE_rel hI hrel0 l _ k6⟩
    · obtain ⟨hne, blk0, k1, rfl⟩ := hget _ _ h1
      obtain ⟨k2, k3, k4⟩ := R.H.live b' blk0 c o k1 h2
      refine ⟨k2, fun hc => ?_, k4⟩
      rcases hc with hc | ⟨o', hc⟩
      · exact k3 hc
      · exact R.H.inj b' b c o c o' (by rw [show get S.as.heap b' = some blk0 from k1]; simp) (by rw [show get S.as.heap b = _ from hb]; simp) hne (.inl ⟨rfl, rfl⟩) h2 hc rfl
    · exact R.H.inj b1 b2 c o c' o' (hsome _ h1).2 (hsome _ h2).2 h3 (.inl ⟨rfl, rfl⟩) h5 h6
    · rcases hc with hc | ⟨o, hc⟩
      · exact R.H.idom c hc
      · exact (R.H.live b _ c o hb hc).1
    · rcases hc with hc | ⟨o, hc⟩
      · exact R.H.isub c hc
      · exact .inr (R.H.live b _ c o hb hc).2.2
  · have hx' : get (mapS (frzV b sz es) S.vars) x = some v := hx
    rw [get_mapS] at hx'
    simp only [Option.map_eq_some_iff] at hx'
    obtain ⟨v0, k1, rfl⟩ := hx'
    rw [hA]
    exact frzV_rel hI hrel0 v0 _ (R.A.vars x v0 k1)
end

theorem LWP_frz {P : Program} {nt n0 : Nat} {S : ST} {Q : Exit → ST → Prop} {lc : LCode} (b : Nat) {sz : Nat} {es : List (List AV)} (hb : get S.heap b = some (.rows sz es)) (h : LWP P nt n0 lc (S.frz b sz es) Q) : LWP P nt n0 lc S Q :=
  fun c hc X φ I a w hn R => by
    obtain ⟨I', R'⟩ := R.frz hb
    exact h c hc X φ I' a w hn R'

mutual
/-- What holds no block is not touched. -/
theorem frzV_pure (b sz : Nat) (es : List (List AV)) : ∀ x : AV, x.pure = true → frzV b sz es x = x
  | .any, _ => rfl
  | .bool _, _ => rfl
  | .int _ _, _ => rfl
  | .str _, _ => rfl
  | .nilp, _ => rfl
  | .nils, _ => rfl
  | .nilm, _ => rfl
  | .nilf, _ => rfl
  | .nili, _ => rfl
  | .map _, _ => rfl
  | .ptr _ _ _ _, h => by simp [AV.pure] at h
  | .sl _ _ _ _, h => by simp [AV.pure] at h
  | .cptr cs, h => by simp only [AV.pure] at h; simp only [frzV, frzL_pure b sz es cs h]
  | .tsl _ l, h => by simp only [AV.pure] at h; simp only [frzV, frzR_pure b sz es l h]
  | .fn _ fs cs, h => by simp only [AV.pure, Bool.and_eq_true] at h; simp only [frzV, frzL_pure b sz es fs h.1, frzL_pure b sz es cs h.2]
  | .iface _ v, h => by simp only [AV.pure] at h; simp only [frzV, frzV_pure b sz es v h]
  | .agg cs, h => by simp only [AV.pure] at h; simp only [frzV, frzL_pure b sz es cs h]
  | .tup cs, h => by simp only [AV.pure] at h; simp only [frzV, frzL_pure b sz es cs h]
theorem frzL_pure (b sz : Nat) (es : List (List AV)) : ∀ l : List AV, pureL l = true → frzL b sz es l = l
  | [], _ => rfl
  | x :: l, h => by simp only [pureL, Bool.and_eq_true] at h; simp only [frzL, frzV_pure b sz es x h.1, frzL_pure b sz es l h.2]
theorem frzR_pure (b sz : Nat) (es : List (List AV)) : ∀ l : List (List AV), pureR l = true → frzR b sz es l = l
  | [], _ => rfl
  | x :: l, h => by simp only [pureR, Bool.and_eq_true] at h; simp only [frzR, frzL_pure b sz es x h.1, frzR_pure b sz es l h.2]
end
end Go.AM
