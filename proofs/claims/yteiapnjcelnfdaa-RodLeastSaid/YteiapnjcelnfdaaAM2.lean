/- How abstract values and blocks stand in memory; what stays when memory grows. -/
import Derived.Test.YteiapnjcelnfdaaAM1
import Derived.Laws.Sem
set_option linter.unusedSimpArgs false
set_option linter.unusedVariables false
namespace Go.AM

def hcell (h : Array Obj) (c o : Nat) : Option Value := match h[c]? with
  | some (.cells cs _ _) => cs[o]?
  | _ => none
def hsize (h : Array Obj) (c : Nat) : Option Nat := match h[c]? with
  | some (.cells cs _ _) => some cs.size
  | _ => none

section
variable (h : Array Obj) (φ : Nat → Option (Nat × Nat)) (I : Nat → Prop) (A : Nat → Prop)
mutual
def relV : AV → Value → Prop
  | .any, _ => True
  | .bool b, v => v = .bool b
  | .int k n, v => v = .int k n
  | .str s, v => v = .string s
  | .nilp, v => v = .pointer none
  | .nils, v => v = .slice none 0 0
  | .nilm, v => v = .map none
  | .nilf, v => v = .nilFunc
  | .nili, v => v = .nilIface
  | .ptr sz b i j, v => A b ∧ ∃ c o, φ b = some (c, o) ∧ v = .pointer (some ⟨c, o + i * sz + j, none⟩)
  | .cptr cs, v => ∃ c o, v = .pointer (some ⟨c, o, none⟩) ∧ I c ∧ relM cs c o
  | .sl sz b i n, v => A b ∧ ∃ base cap, v = .slice base n cap ∧ ((n = 0 ∧ cap = 0) ∨
      ∃ c o s, φ b = some (c, o) ∧ base = some ⟨c, o + i * sz, none⟩ ∧ n ≤ cap ∧ hsize h c = some s ∧ o + (i + cap) * sz ≤ s)
  | .tsl sz es, v => ∃ base cap, v = .slice base es.length cap ∧ es.length ≤ cap ∧ (es = [] ∨
      ∃ c o, base = some ⟨c, o, none⟩ ∧ I c ∧ relR sz es c o)
  | .map b, v => A b ∧ ∃ c, φ b = some (c, 0) ∧ v = .map (some c)
  | .fn f fs cs, v => ∃ fs' cs' : List Value, v = .func (.func f) fs'.toArray cs'.toArray ∧ relL fs fs' ∧ relL cs cs'
  | .iface t x, v => ∃ y, v = .iface t y ∧ relV x y
  | .agg cs, v => ∃ vs : List Value, v = .agg vs.toArray ∧ relL cs vs
  | .tup cs, v => ∃ vs : List Value, v = .tuple vs.toArray ∧ relL cs vs
def relM : List AV → Nat → Nat → Prop
  | [], _, _ => True
  | x :: cs, c, o => (∃ v, hcell h c o = some v ∧ Value.oneCell' v = true ∧ relV x v) ∧ relM cs c (o + 1)
def relR (sz : Nat) : List (List AV) → Nat → Nat → Prop
  | [], _, _ => True
  | e :: es, c, o => e.length = sz ∧ relM e c o ∧ relR sz es c (o + sz)
def relL : List AV → List Value → Prop
  | [], vs => vs = []
  | x :: l, vs => ∃ v r, vs = v :: r ∧ relV x v ∧ relL l r
end
end

structure Ext (h : Array Obj) (φ : Nat → Option (Nat × Nat)) (I A : Nat → Prop) (h' : Array Obj) (φ' : Nat → Option (Nat × Nat)) (I' A' : Nat → Prop) : Prop where
  cells : ∀ c o v, I c → hcell h c o = some v → hcell h' c o = some v
  sizes : ∀ c s, hsize h c = some s → hsize h' c = some s
  agree : ∀ b, A b → φ' b = φ b
  inI : ∀ c, I c → I' c
  inA : ∀ b, A b → A' b

section
variable {h h' : Array Obj} {φ φ' : Nat → Option (Nat × Nat)} {I A I' A' : Nat → Prop}
mutual
theorem relV_mono (E : Ext h φ I A h' φ' I' A') : ∀ (x : AV) (v : Value), relV h φ I A x v → relV h' φ' I' A' x v
  | .any, _, _ => by simp [relV]
  | .bool _, _, H => by simpa [relV] using H
  | .int _ _, _, H => by simpa [relV] using H
  | .str _, _, H => by simpa [relV] using H
  | .nilp, _, H => by simpa [relV] using H
  | .nils, _, H => by simpa [relV] using H
  | .nilm, _, H => by simpa [relV] using H
  | .nilf, _, H => by simpa [relV] using H
  | .nili, _, H => by simpa [relV] using H
  | .ptr sz b i j, v, H => by
    simp only [relV] at H ⊢
    obtain ⟨h1, c, o, h2, h3⟩ := H
    exact ⟨E.inA _ h1, c, o, by rw [E.agree _ h1, h2], h3⟩
  | .cptr cs, v, H => by
    simp only [relV] at H ⊢
    obtain ⟨c, o, h1, h2, h3⟩ := H
    exact ⟨c, o, h1, E.inI _ h2, relM_mono E cs c o (fun o' v' => E.cells c o' v' h2) h3⟩
  | .sl sz b i n, v, H => by
    simp only [relV] at H ⊢
    obtain ⟨h1, base, cap, h2, h3⟩ := H
    refine ⟨E.inA _ h1, base, cap, h2, ?_⟩
    rcases h3 with h3 | ⟨c, o, s, h3, h4, h5, h6, h7⟩
    · exact .inl h3
    · exact .inr ⟨c, o, s, by rw [E.agree _ h1, h3], h4, h5, E.sizes _ _ h6, h7⟩
  | .tsl sz es, v, H => by
    simp only [relV] at H ⊢
    obtain ⟨base, cap, h1, h2, h3⟩ := H
    refine ⟨base, cap, h1, h2, ?_⟩
    rcases h3 with h3 | ⟨c, o, h3, h4, h5⟩
    · exact .inl h3
    · exact .inr ⟨c, o, h3, E.inI _ h4, relR_mono E sz es c o (fun o' v' => E.cells c o' v' h4) h5⟩
  | .map b, v, H => by
    simp only [relV] at H ⊢
    obtain ⟨h1, c, h2, h3⟩ := H
    exact ⟨E.inA _ h1, c, by rw [E.agree _ h1, h2], h3⟩
  | .fn f fs cs, v, H => by
    simp only [relV] at H ⊢
    obtain ⟨fs', cs', h1, h2, h3⟩ := H
    exact ⟨fs', cs', h1, relL_mono E fs fs' h2, relL_mono E cs cs' h3⟩
  | .iface t x, v, H => by
    simp only [relV] at H ⊢
    obtain ⟨y, h1, h2⟩ := H
    exact ⟨y, h1, relV_mono E x y h2⟩
  | .agg cs, v, H => by
    simp only [relV] at H ⊢
    obtain ⟨vs, h1, h2⟩ := H
    exact ⟨vs, h1, relL_mono E cs vs h2⟩
  | .tup cs, v, H => by
    simp only [relV] at H ⊢
    obtain ⟨vs, h1, h2⟩ := H
    exact ⟨vs, h1, relL_mono E cs vs h2⟩
theorem relM_mono (E : Ext h φ I A h' φ' I' A') : ∀ (cs : List AV) (c o : Nat), (∀ o' v, hcell h c o' = some v → hcell h' c o' = some v) → relM h φ I A cs c o → relM h' φ' I' A' cs c o
  | [], _, _, _, _ => by simp [relM]
  | x :: cs, c, o, hc, H => by
    simp only [relM] at H ⊢
    obtain ⟨⟨v, h1, h0, h2⟩, h3⟩ := H
    exact ⟨⟨v, hc _ _ h1, h0, relV_mono E x v h2⟩, relM_mono E cs c (o + 1) hc h3⟩
theorem relR_mono (E : Ext h φ I A h' φ' I' A') (sz : Nat) : ∀ (es : List (List AV)) (c o : Nat), (∀ o' v, hcell h c o' = some v → hcell h' c o' = some v) → relR h φ I A sz es c o → relR h' φ' I' A' sz es c o
  | [], _, _, _, _ => by simp [relR]
  | e :: es, c, o, hc, H => by
    simp only [relR] at H ⊢
    obtain ⟨h1, h2, h3⟩ := H
    exact ⟨h1, relM_mono E e c o hc h2, relR_mono E sz es c (o + sz) hc h3⟩
theorem relL_mono (E : Ext h φ I A h' φ' I' A') : ∀ (l : List AV) (vs : List Value), relL h φ I A l vs → relL h' φ' I' A' l vs
  | [], _, H => by simpa [relL] using H
  | x :: l, vs, H => by
    simp only [relL] at H ⊢
    obtain ⟨v, r, h1, h2, h3⟩ := H
    exact ⟨v, r, h1, relV_mono E x v h2, relL_mono E l r h3⟩
end

/-- The same, where the cells of one place alone are told. -/
theorem relM_congr {cs : List AV} {c o : Nat} (E : Ext h φ I A h' φ' I' A') (hc : ∀ o' v, o ≤ o' → o' < o + cs.length → hcell h c o' = some v → hcell h' c o' = some v) (H : relM h φ I A cs c o) : relM h' φ' I' A' cs c o := by
  induction cs generalizing o with
  | nil => simp [relM]
  | cons x cs ih =>
    simp only [relM] at H ⊢
    obtain ⟨⟨v, h1, h0, h2⟩, h3⟩ := H
    exact ⟨⟨v, hc _ _ (Nat.le_refl _) (by simp) h1, h0, relV_mono E x v h2⟩, ih (fun o' v' h1 h2 => hc o' v' (by omega) (by simp at h2 ⊢; omega)) h3⟩
theorem relR_congr {sz : Nat} {es : List (List AV)} {c o : Nat} (E : Ext h φ I A h' φ' I' A') (hc : ∀ o' v, o ≤ o' → o' < o + es.length * sz → hcell h c o' = some v → hcell h' c o' = some v) (H : relR h φ I A sz es c o) : relR h' φ' I' A' sz es c o := by
  induction es generalizing o with
  | nil => simp [relR]
  | cons e es ih =>
    simp only [relR] at H ⊢
    obtain ⟨h1, h2, h3⟩ := H
    refine ⟨h1, relM_congr E (fun o' v' a b => hc o' v' a ?_) h2, ih (fun o' v' a b => hc o' v' (by omega) ?_) h3⟩
    · simp only [List.length_cons, Nat.add_mul, Nat.one_mul]; omega
    · simp only [List.length_cons, Nat.add_mul, Nat.one_mul]; omega
end

section
variable {h : Array Obj} {φ : Nat → Option (Nat × Nat)} {I A : Nat → Prop}
theorem relL_length : ∀ {l : List AV} {vs : List Value}, relL h φ I A l vs → vs.length = l.length
  | [], vs, H => by simp only [relL] at H; simp [H]
  | x :: l, vs, H => by
    simp only [relL] at H
    obtain ⟨v, r, rfl, _, h3⟩ := H
    simp [relL_length h3]
theorem relL_get : ∀ {l : List AV} {vs : List Value} {i : Nat} {x : AV}, relL h φ I A l vs → l[i]? = some x → ∃ v, vs[i]? = some v ∧ relV h φ I A x v
  | [], vs, i, x, _, hx => by simp at hx
  | y :: l, vs, i, x, H, hx => by
    simp only [relL] at H
    obtain ⟨v, r, rfl, h2, h3⟩ := H
    cases i with
    | zero => simp at hx; subst hx; exact ⟨v, by simp, h2⟩
    | succ i => simp at hx; obtain ⟨u, h4, h5⟩ := relL_get h3 hx; exact ⟨u, by simpa using h4, h5⟩
theorem relL_append : ∀ {l m : List AV} {vs us : List Value}, relL h φ I A l vs → relL h φ I A m us → relL h φ I A (l ++ m) (vs ++ us)
  | [], m, vs, us, H, K => by simp only [relL] at H; subst H; simpa using K
  | x :: l, m, vs, us, H, K => by
    simp only [relL] at H
    obtain ⟨v, r, rfl, h2, h3⟩ := H
    simp only [List.cons_append, relL]
    exact ⟨v, r ++ us, rfl, h2, relL_append h3 K⟩
theorem relL_drop : ∀ (n : Nat) {l : List AV} {vs : List Value}, relL h φ I A l vs → relL h φ I A (l.drop n) (vs.drop n)
  | 0, l, vs, H => by simpa using H
  | n + 1, [], vs, H => by simp only [relL] at H; subst H; simp [relL]
  | n + 1, x :: l, vs, H => by
    simp only [relL] at H
    obtain ⟨v, r, rfl, h2, h3⟩ := H
    simpa using relL_drop n h3
theorem relL_take : ∀ (n : Nat) {l : List AV} {vs : List Value}, relL h φ I A l vs → relL h φ I A (l.take n) (vs.take n)
  | 0, l, vs, H => by simp [relL]
  | n + 1, [], vs, H => by simp only [relL] at H; subst H; simp [relL]
  | n + 1, x :: l, vs, H => by
    simp only [relL] at H
    obtain ⟨v, r, rfl, h2, h3⟩ := H
    simp only [List.take_succ_cons, relL]
    exact ⟨v, r.take n, rfl, h2, relL_take n h3⟩
theorem relM_append : ∀ {l m : List AV} {c o : Nat}, relM h φ I A (l ++ m) c o ↔ relM h φ I A l c o ∧ relM h φ I A m c (o + l.length)
  | [], m, c, o => by simp [relM]
  | x :: l, m, c, o => by
    simp only [List.cons_append, relM, relM_append (l := l), List.length_cons]
    rw [show o + 1 + l.length = o + (l.length + 1) by omega, and_assoc]
theorem relM_drop {l : List AV} {c o : Nat} (n : Nat) (H : relM h φ I A l c o) : relM h φ I A (l.drop n) c (o + n) := by
  by_cases hn : n ≤ l.length
  case neg => rw [List.drop_eq_nil_of_le (by omega)]; simp [relM]
  have h0 := H
  rw [← List.take_append_drop n l, relM_append] at h0
  simpa [Nat.min_eq_left hn] using h0.2
theorem relM_take {l : List AV} {c o : Nat} (n : Nat) (H : relM h φ I A l c o) : relM h φ I A (l.take n) c o := by
  rw [← List.take_append_drop n l, relM_append] at H
  exact H.1
theorem relR_append {sz : Nat} : ∀ {l m : List (List AV)} {c o : Nat}, relR h φ I A sz (l ++ m) c o ↔ relR h φ I A sz l c o ∧ relR h φ I A sz m c (o + l.length * sz)
  | [], m, c, o => by simp [relR]
  | x :: l, m, c, o => by
    simp only [List.cons_append, relR, relR_append (l := l), List.length_cons]
    rw [show o + sz + l.length * sz = o + (l.length + 1) * sz by rw [Nat.add_mul]; omega]
    simp only [and_assoc]
theorem relR_drop {sz : Nat} {l : List (List AV)} {c o : Nat} (n : Nat) (H : relR h φ I A sz l c o) (hn : n ≤ l.length) : relR h φ I A sz (l.drop n) c (o + n * sz) := by
  have h0 := H
  rw [← List.take_append_drop n l, relR_append] at h0
  simpa [Nat.min_eq_left hn] using h0.2
theorem relR_take {sz : Nat} {l : List (List AV)} {c o : Nat} (n : Nat) (H : relR h φ I A sz l c o) : relR h φ I A sz (l.take n) c o := by
  rw [← List.take_append_drop n l, relR_append] at H
  exact H.1
theorem relR_get {sz : Nat} {es : List (List AV)} {c o i : Nat} (H : relR h φ I A sz es c o) (hi : i < es.length) : (es.getD i []).length = sz ∧ relM h φ I A (es.getD i []) c (o + i * sz) := by
  have h1 := relR_drop i H (by omega)
  rw [List.drop_eq_getElem_cons hi] at h1
  simp only [relR] at h1
  simp only [List.getD_eq_getElem?_getD, List.getElem?_eq_getElem hi, Option.getD_some]
  exact ⟨h1.1, h1.2.1⟩
theorem relR_flat {sz : Nat} : ∀ {es : List (List AV)} {c o : Nat}, relR h φ I A sz es c o → relM h φ I A es.flatten c o ∧ es.flatten.length = es.length * sz
  | [], c, o, _ => by simp [relM]
  | e :: es, c, o, H => by
    simp only [relR] at H
    obtain ⟨h1, h2, h3⟩ := H
    obtain ⟨h4, h5⟩ := relR_flat h3
    refine ⟨?_, by simp [h5, h1, Nat.add_mul]; omega⟩
    simp only [List.flatten_cons, relM_append, h1]
    exact ⟨h2, h4⟩
/-- What stands in memory, as a list of values. -/
theorem relM_vals : ∀ {l : List AV} {c o : Nat}, relM h φ I A l c o → ∃ vs : List Value, relL h φ I A l vs ∧ (∀ i, i < l.length → hcell h c (o + i) = vs[i]?) ∧ ∀ v ∈ vs, Value.oneCell' v = true
  | [], c, o, _ => ⟨[], by simp [relL], by simp, by simp⟩
  | x :: l, c, o, H => by
    simp only [relM] at H
    obtain ⟨⟨v, h1, h0, h2⟩, h3⟩ := H
    obtain ⟨vs, h4, h5, h6⟩ := relM_vals h3
    refine ⟨v :: vs, by simp only [relL]; exact ⟨v, vs, rfl, h2, h4⟩, fun i hi => ?_, fun u hu => (List.mem_cons.1 hu).elim (fun h => h ▸ h0) (h6 u)⟩
    cases i with
    | zero => simpa using h1
    | succ i => rw [show o + (i + 1) = o + 1 + i by omega, h5 i (by simpa using hi)]; simp
theorem relM_of_vals : ∀ {l : List AV} {vs : List Value} {c o : Nat}, relL h φ I A l vs → (∀ v ∈ vs, Value.oneCell' v = true) → (∀ i, i < l.length → hcell h c (o + i) = vs[i]?) → relM h φ I A l c o
  | [], vs, c, o, _, _, _ => by simp [relM]
  | x :: l, vs, c, o, H, K0, K => by
    simp only [relL] at H
    obtain ⟨v, r, rfl, h2, h3⟩ := H
    simp only [relM]
    refine ⟨⟨v, by simpa using K 0 (by simp), K0 v (by simp), h2⟩, relM_of_vals h3 (fun u hu => K0 u (List.mem_cons_of_mem _ hu)) fun i hi => ?_⟩
    have := K (i + 1) (by simp; omega)
    rw [show o + 1 + i = o + (i + 1) by omega, this]; simp
end

section
variable {α : Type}
theorem get_ins (l : List (Nat × α)) (x y : Nat) (v : α) : get (ins x v l) y = if x = y then some v else get l y := by
  induction l with
  | nil => simp [ins, get]
  | cons p l ih =>
    obtain ⟨k, u⟩ := p
    simp only [ins]
    split
    · simp only [get]
    · split
      · rename_i h1; subst h1; simp only [get]; split <;> rfl
      · rename_i h1 h2
        simp only [get, ih]
        split <;> split <;> simp_all
theorem get_del (l : List (Nat × α)) (x y : Nat) : get (del x l) y = if x = y then none else get l y := by
  induction l with
  | nil => simp [del, get]
  | cons p l ih =>
    obtain ⟨k, u⟩ := p
    simp only [del]
    split
    · rename_i h1; subst h1; rw [ih]; simp only [get]; split <;> rfl
    · rename_i h1; simp only [get, ih]; split <;> split <;> simp_all
theorem ins_comm (l : List (Nat × α)) {x y : Nat} (v u : α) (hxy : x ≠ y) : ins x v (ins y u l) = ins y u (ins x v l) := by
  induction l with
  | nil =>
    simp only [ins]
    rcases Nat.lt_trichotomy x y with h | h | h
    · simp [h, Nat.not_lt.2 (Nat.le_of_lt h), Ne.symm hxy]
    · exact absurd h hxy
    · simp [h, Nat.not_lt.2 (Nat.le_of_lt h), hxy]
  | cons p l ih =>
    obtain ⟨k, w⟩ := p
    simp only [ins]
    split <;> split <;> (try split) <;> (try split) <;> simp only [ins] <;> (repeat' split) <;> first | (exfalso; omega) | rfl | (rw [ih])
end
end Go.AM
