/- All that a state holds becomes trees at once. -/
import Derived.Test.YteiapnjcelnfdaaAM26
set_option linter.unusedSimpArgs false
set_option linter.unusedVariables false
namespace Go.AM

def mapO {α β : Type} (f : α → Option β) : List α → Option (List β)
  | [] => some []
  | x :: l => match f x with
    | some y => match mapO f l with
      | some m => some (y :: m)
      | none => none
    | none => none

theorem mapO_cons {α β : Type} {f : α → Option β} {x : α} {l : List α} {r : List β} (h : mapO f (x :: l) = some r) : ∃ y m, f x = some y ∧ mapO f l = some m ∧ r = y :: m := by
  simp only [mapO] at h
  cases h1 : f x with
  | none => simp [h1] at h
  | some y =>
    cases h2 : mapO f l with
    | none => simp [h1, h2] at h
    | some m => simp [h1, h2] at h; exact ⟨y, m, rfl, rfl, h.symm⟩

theorem mapO_length {α β : Type} {f : α → Option β} : ∀ {l : List α} {r : List β}, mapO f l = some r → r.length = l.length
  | [], r, h => by simp [mapO] at h; subst h; rfl
  | x :: l, r, h => by
    obtain ⟨y, m, _, h2, rfl⟩ := mapO_cons h
    simp [mapO_length h2]

/-- A value read to its ground. -/
def deepV (H : Heap) : Nat → AV → Option AV
  | 0, _ => none
  | n + 1, v => match v with
    | .ptr sz b i j => match get H b with
      | some (.rows sz' es) => grd (decide (sz' = sz) && decide (i < es.length)) ((mapO (deepV H n) ((es.getD i []).drop j)).map .cptr)
      | _ => none
    | .sl sz b i k => match get H b with
      | some (.rows sz' es) => grd (decide (sz' = sz) && decide (i + k ≤ es.length)) ((mapO (mapO (deepV H n)) ((es.drop i).take k)).map (.tsl sz))
      | _ => none
    | .map _ => none
    | .cptr cs => (mapO (deepV H n) cs).map .cptr
    | .tsl sz es => (mapO (mapO (deepV H n)) es).map (.tsl sz)
    | .fn f fs cs => (mapO (deepV H n) fs).bind fun a => (mapO (deepV H n) cs).map (.fn f a)
    | .iface t x => (deepV H n x).map (.iface t)
    | .agg cs => (mapO (deepV H n) cs).map .agg
    | .tup cs => (mapO (deepV H n) cs).map .tup
    | v => some v

theorem deepV_sl {H : Heap} {n sz b i k : Nat} {es r : List (List AV)} (hg : get H b = some (.rows sz es)) (hi : i + k ≤ es.length) (h : mapO (mapO (deepV H n)) ((es.drop i).take k) = some r) : deepV H (n + 1) (.sl sz b i k) = some (.tsl sz r) := by
  simp only [deepV, hg, h]
  simp [grd, hi]

section
variable {h : Array Obj} {φ : Nat → Option (Nat × Nat)} {I A : Nat → Prop} {H : Heap}

theorem mapO_relM {f : AV → Option AV} (hf : ∀ v u c, f v = some u → relV h φ I A v c → relV h φ I A u c) : ∀ (l r : List AV) (c o : Nat), mapO f l = some r → relM h φ I A l c o → relM h φ I A r c o
  | [], r, c, o, hr, _ => by simp [mapO] at hr; subst hr; simp [relM]
  | x :: l, r, c, o, hr, H => by
    obtain ⟨y, m, h1, h2, rfl⟩ := mapO_cons hr
    simp only [relM] at H ⊢
    obtain ⟨⟨v, k1, k2, k3⟩, k4⟩ := H
    exact ⟨⟨v, k1, k2, hf _ _ _ h1 k3⟩, mapO_relM hf l m c (o + 1) h2 k4⟩

theorem mapO_relL {f : AV → Option AV} (hf : ∀ v u c, f v = some u → relV h φ I A v c → relV h φ I A u c) : ∀ (l r : List AV) (vs : List Value), mapO f l = some r → relL h φ I A l vs → relL h φ I A r vs
  | [], r, vs, hr, H => by simp [mapO] at hr; subst hr; exact H
  | x :: l, r, vs, hr, H => by
    obtain ⟨y, m, h1, h2, rfl⟩ := mapO_cons hr
    simp only [relL] at H ⊢
    obtain ⟨v, s, e, k3, k4⟩ := H
    exact ⟨v, s, e, hf _ _ _ h1 k3, mapO_relL hf l m s h2 k4⟩

theorem mapO_relR {f : AV → Option AV} (hf : ∀ v u c, f v = some u → relV h φ I A v c → relV h φ I A u c) (sz : Nat) : ∀ (l r : List (List AV)) (c o : Nat), mapO (mapO f) l = some r → relR h φ I A sz l c o → relR h φ I A sz r c o
  | [], r, c, o, hr, _ => by simp [mapO] at hr; subst hr; simp [relR]
  | x :: l, r, c, o, hr, H => by
    obtain ⟨y, m, h1, h2, rfl⟩ := mapO_cons hr
    simp only [relR] at H ⊢
    exact ⟨by rw [mapO_length h1]; exact H.1, mapO_relM hf x y c o h1 H.2.1, mapO_relR hf sz l m c (o + sz) h2 H.2.2⟩

theorem deepV_rel (hb : ∀ b sz es, get H b = some (.rows sz es) → (φ b = none ∧ es = []) ∨ ∃ c o, φ b = some (c, o) ∧ I c ∧ relR h φ I A sz es c o) : ∀ (n : Nat) (v u : AV) (c : Value), deepV H n v = some u → relV h φ I A v c → relV h φ I A u c
  | 0, v, u, c, hd, _ => by simp [deepV] at hd
  | n + 1, v, u, c, hd, hr => by
    have ih := deepV_rel hb n
    cases v with
    | ptr sz b i j =>
      simp only [deepV] at hd
      split at hd
      · rename_i sz' es hg
        obtain ⟨h1, h2⟩ := grd_some hd
        simp only [Bool.and_eq_true, decide_eq_true_eq] at h1
        obtain ⟨rfl, hi⟩ := h1
        simp only [Option.map_eq_some_iff] at h2
        obtain ⟨r, h2, rfl⟩ := h2
        simp only [relV] at hr ⊢
        obtain ⟨_, c1, o, k1, k2⟩ := hr
        rcases hb b _ es hg with ⟨q1, _⟩ | ⟨c2, o2, q1, q2, q3⟩
        · rw [q1] at k1; cases k1
        · rw [q1] at k1; cases k1
          exact ⟨c1, _, k2, q2, mapO_relM ih _ _ _ _ h2 (relM_drop j (relR_get q3 hi).2)⟩
      · cases hd
    | sl sz b i k =>
      simp only [deepV] at hd
      split at hd
      · rename_i sz' es hg
        obtain ⟨h1, h2⟩ := grd_some hd
        simp only [Bool.and_eq_true, decide_eq_true_eq] at h1
        obtain ⟨rfl, hi⟩ := h1
        simp only [Option.map_eq_some_iff] at h2
        obtain ⟨r, h2, rfl⟩ := h2
        have hlen : r.length = k := by rw [mapO_length h2]; simp; omega
        simp only [relV, hlen] at hr ⊢
        obtain ⟨_, base, cap, k1, k2⟩ := hr
        rcases k2 with ⟨k2, k3⟩ | ⟨c1, o, s, k2, k3, k4, _, _⟩
        · subst k2
          have : r = [] := List.length_eq_zero_iff.1 hlen
          exact ⟨base, cap, k1, Nat.zero_le _, .inl this⟩
        · refine ⟨base, cap, k1, k4, ?_⟩
          rcases hb b _ es hg with ⟨q1, _⟩ | ⟨c2, o2, q1, q2, q3⟩
          · rw [q1] at k2; cases k2
          · rw [q1] at k2; cases k2
            exact .inr ⟨c1, _, k3, q2, mapO_relR ih _ _ _ _ _ h2 (relR_take k (relR_drop i q3 (by omega)))⟩
      · cases hd
    | map b => simp [deepV] at hd
    | cptr cs =>
      simp only [deepV, Option.map_eq_some_iff] at hd
      obtain ⟨r, h2, rfl⟩ := hd
      simp only [relV] at hr ⊢
      obtain ⟨c1, o, k1, k2, k3⟩ := hr
      exact ⟨c1, o, k1, k2, mapO_relM ih _ _ _ _ h2 k3⟩
    | tsl sz es =>
      simp only [deepV, Option.map_eq_some_iff] at hd
      obtain ⟨r, h2, rfl⟩ := hd
      have hlen := mapO_length h2
      simp only [relV, hlen] at hr ⊢
      obtain ⟨base, cap, k1, k2, k3⟩ := hr
      refine ⟨base, cap, k1, k2, ?_⟩
      rcases k3 with k3 | ⟨c1, o, k3, k4, k5⟩
      · subst k3; simp [mapO] at h2; exact .inl h2
      · exact .inr ⟨c1, o, k3, k4, mapO_relR ih _ _ _ _ _ h2 k5⟩
    | fn f fs cs =>
      simp only [deepV, Option.bind_eq_some_iff, Option.map_eq_some_iff] at hd
      obtain ⟨a, h1, r, h2, rfl⟩ := hd
      simp only [relV] at hr ⊢
      obtain ⟨fs', cs', k1, k2, k3⟩ := hr
      exact ⟨fs', cs', k1, mapO_relL ih _ _ _ h1 k2, mapO_relL ih _ _ _ h2 k3⟩
    | iface t x =>
      simp only [deepV, Option.map_eq_some_iff] at hd
      obtain ⟨r, h2, rfl⟩ := hd
      simp only [relV] at hr ⊢
      obtain ⟨y, k1, k2⟩ := hr
      exact ⟨y, k1, ih _ _ _ h2 k2⟩
    | agg cs =>
      simp only [deepV, Option.map_eq_some_iff] at hd
      obtain ⟨r, h2, rfl⟩ := hd
      simp only [relV] at hr ⊢
      obtain ⟨vs, k1, k2⟩ := hr
      exact ⟨vs, k1, mapO_relL ih _ _ _ h2 k2⟩
    | tup cs =>
      simp only [deepV, Option.map_eq_some_iff] at hd
      obtain ⟨r, h2, rfl⟩ := hd
      simp only [relV] at hr ⊢
      obtain ⟨vs, k1, k2⟩ := hr
      exact ⟨vs, k1, mapO_relL ih _ _ _ h2 k2⟩
    | _ => simp only [deepV, Option.some.injEq] at hd; subst hd; exact hr

/-- A state whose blocks are written no more. -/
theorem RelS.deep {X : Ctx} {S : ST} {nt : Nat} {a : Act} (R : RelS X φ I S nt a h) {vs : Vars} (hv : ∀ x v, get vs x = some v → ∃ u n, get S.vars x = some u ∧ deepV S.heap n u = some v) : ∃ I', RelS X φ I' ⟨vs, [], S.next⟩ nt a h := by
  have hA : (ST.mk vs [] S.next).as.A = S.as.A := by funext x; simp [ST.as, AS.A]
  let I' : Nat → Prop := fun c => I c ∨ ∃ b blk o, get S.heap b = some blk ∧ φ b = some (c, o)
  have hI : ∀ c, I c → I' c := fun c hc => .inl hc
  have E : Ext h φ I S.as.A h φ I' S.as.A := ⟨fun _ _ _ _ h => h, fun _ _ h => h, fun _ _ => rfl, hI, fun _ h => h⟩
  have hb : ∀ b sz es, get S.heap b = some (.rows sz es) → (φ b = none ∧ es = []) ∨ ∃ c o, φ b = some (c, o) ∧ I' c ∧ relR h φ I' S.as.A sz es c o := fun b sz es hg => by
    have := (R.H.heap b _ hg).2
    simp only [relB] at this
    rcases this with k | ⟨c, o, cs, el, k1, _, k3⟩
    · exact .inl k
    · exact .inr ⟨c, o, k1, .inr ⟨b, _, o, hg, k1⟩, relR_mono E sz es c o (fun _ _ h => h) k3⟩
  refine ⟨I', ⟨⟨fun b blk h1 => by simp [ST.as, get] at h1, fun b blk c o h1 => by simp [ST.as, get] at h1, fun b b' c o c' o' h1 => by simp [ST.as, get] at h1, fun c hc => ?_, fun c hc => ?_, fun c hc => hI _ (R.H.isup c hc), R.H.frame, R.H.size, R.H.sizes, R.H.agree, R.H.n0⟩, ⟨fun x v hx => ?_, R.A.nt, R.A.defers⟩⟩⟩
  · rcases hc with hc | ⟨b, blk, o, h1, h2⟩
    · exact R.H.idom c hc
    · exact (R.H.live b blk c o h1 h2).1
  · rcases hc with hc | ⟨b, blk, o, h1, h2⟩
    · exact R.H.isub c hc
    · exact .inr (R.H.live b blk c o h1 h2).2.2
  · obtain ⟨u, n, h1, h2⟩ := hv x v hx
    rw [hA]
    exact deepV_rel hb n u v _ h2 (relV_mono E _ _ (R.A.vars x u h1))
end

/-- The check, row by row. -/
def deepL (H : Heap) (m : Vars) (n : Nat) : Vars → Prop
  | [] => True
  | (x, v) :: l => (∃ u, get m x = some u ∧ deepV H n u = some v) ∧ deepL H m n l
theorem deepL_spec {H : Heap} {m : Vars} {n : Nat} : ∀ {l : Vars}, deepL H m n l → ∀ x v, get l x = some v → ∃ u n, get m x = some u ∧ deepV H n u = some v
  | [], _, x, v, h => by simp [get] at h
  | (k, w) :: l, K, x, v, h => by
    simp only [get] at h
    split at h
    · rename_i e; subst e; cases h; obtain ⟨u, h1, h2⟩ := K.1; exact ⟨u, n, h1, h2⟩
    · exact deepL_spec K.2 x v h

theorem LWP_deep {P : Program} {nt n0 : Nat} {S : ST} {Q : Exit → ST → Prop} {lc : LCode} (vs : Vars) (n : Nat) (hv : deepL S.heap S.vars n vs) (h : LWP P nt n0 lc ⟨vs, [], S.next⟩ Q) : LWP P nt n0 lc S Q :=
  fun c hc X φ I a w hn R => by
    obtain ⟨I', R'⟩ := R.deep (deepL_spec hv)
    exact h c hc X φ I' a w hn R'
end Go.AM
