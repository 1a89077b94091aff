/- The operations that yield a value and change nothing: their runs. -/
import Derived.Test.YteiapnjcelnfdaaAM5
set_option linter.unusedSimpArgs false
set_option linter.unusedVariables false
namespace Go.AM

def szOf (P : Program) (t : TypeId) : Option Nat := (P.info? t).map (·.size)
def zeroOf (P : Program) (t : TypeId) : Option Value := (P.info? t).bind (·.zero)
def aggT (P : Program) (t : TypeId) : Bool := match P.underlying t with
  | some (.struct _) | some (.array _ _) => true
  | _ => false

def vS (s : Sem Value) : Sem Next := do pure (.value (← s))

section
variable {P : Program} {w : World}

theorem run_szOf {t : TypeId} {n : Nat} (H : szOf P t = some n) : (sizeOf t).run P w = .ok n w := by
  unfold szOf at H
  cases hi : P.info? t with
  | none => simp [hi] at H
  | some i => simp [hi] at H; simp [sizeOf, typeInfo, hi, H]

theorem run_zeroOf {t : TypeId} {v : Value} (H : zeroOf P t = some v) : (zeroValue t).run P w = .ok v w := by
  unfold zeroOf at H
  cases hi : P.info? t with
  | none => simp [hi] at H
  | some i => simp [hi] at H; simp [zeroValue, typeInfo, hi, H]

theorem run_isAgg' {t : TypeId} {d : TypeDesc} (H : P.underlying t = some d) : (isAgg t).run P w = .ok (aggT P t) w := by
  unfold isAgg aggT
  rw [Sem.run_bind, run_underlying H, H]
  cases d <;> rfl

variable {h : Array Obj} {φ : Nat → Option (Nat × Nat)} {I A : Nat → Prop}

theorem y_pure {x : AV} {v : Value} (H : relV h φ I A x v) : Yields P (pure v) h φ I A x w := ⟨v, w, rfl, rfl, H⟩

theorem y_not {x : Bool} {v : Value} (H : relV h φ I A (.bool x) v) : Yields P (Op.unary .not v) h φ I A (.bool (!x)) w := by
  have := rel_bool H; subst this
  exact yields_bool rfl
theorem y_neg {k : IntKind} {n : Int} {v : Value} (H : relV h φ I A (.int k n) v) : Yields P (Op.unary .neg v) h φ I A (.int k (k.wrap (0 - n))) w := by
  have := rel_int H; subst this
  exact yields_int rfl
theorem y_conv {k k' : IntKind} {src dst : TypeId} {u : TypeDesc} {n : Int} {v : Value} (hs : P.underlying src = some u) (hd : P.underlying dst = some (.int k)) (H : relV h φ I A (.int k' n) v) :
    Yields P (convert src dst v) h φ I A (.int k (k.wrap n)) w := by
  have := rel_int H; subst this
  refine yields_int ?_
  unfold convert
  rw [Sem.run_bind, run_underlying hs]
  simp only [Result.andThen_ok, Sem.run_bind]
  rw [run_underlying hd]
  simp only [Result.andThen_ok]
  cases u <;> rfl

theorem y_mkfn {f : FuncId} {fs cs : List AV} {vs us : List Value} (H : relL h φ I A fs vs) (H' : relL h φ I A cs us) : Yields P (Instr.makeFunc (.func f) vs.toArray us.toArray) h φ I A (.fn f fs cs) w :=
  ⟨_, w, rfl, rfl, by simp only [relV]; exact ⟨vs, us, rfl, H, H'⟩⟩

theorem relM_run {l : List AV} {c o : Nat} (H : relM w.heap φ I A l c o) (n : Nat) (hn : n ≤ l.length) : ∃ vs : List Value, relL w.heap φ I A (l.take n) vs ∧ (loadCells ⟨c, o, none⟩ n).run P w = .ok vs.toArray w := by
  obtain ⟨vs, h1, h2, _⟩ := relM_vals (relM_take n H)
  have h3 : vs.length = n := by rw [relL_length h1]; simp [Nat.min_eq_left hn]
  refine ⟨vs, h1, ?_⟩
  rw [← h3]
  exact run_loadCells P w c o vs (fun j hj => h2 j (by rw [← relL_length h1]; exact hj))

theorem y_load {t : TypeId} {u : TypeDesc} {ag : Bool} {n : Nat} {l : List AV} {v : AV} {c o : Nat} (hu : P.underlying t = some u) (hag : ag = aggT P t) (hn : ag = true → szOf P t = some n)
    (H : relM w.heap φ I A l c o) (hv : ldCells ag n l = some v) : Yields P (loadVar t ⟨c, o, none⟩) w.heap φ I A v w := by
  unfold ldCells at hv
  cases ag with
  | true =>
    simp only at hv
    obtain ⟨h1, h2⟩ := grd_some hv
    injection h2 with h2; subst h2
    obtain ⟨vs, h3, h4⟩ := relM_run (P := P) H n (by simpa using h1)
    refine ⟨.agg vs.toArray, w, ?_, rfl, by simp only [relV]; exact ⟨vs, rfl, h3⟩⟩
    unfold loadVar
    rw [Sem.run_bind, run_isAgg' hu, ← hag]
    simp only [Result.andThen_ok, if_true, Sem.run_bind]
    rw [run_szOf (hn rfl)]
    simp only [Result.andThen_ok, h4, Sem.run_pure]
  | false =>
    simp only at hv
    split at hv
    · rename_i x cs
      injection hv with hv; subst hv
      simp only [relM] at H
      obtain ⟨⟨v, h1, _, h2⟩, _⟩ := H
      refine ⟨v, w, ?_, rfl, h2⟩
      unfold loadVar
      rw [Sem.run_bind, run_isAgg' hu, ← hag]
      simp only [Result.andThen_ok, Bool.false_eq_true, if_false, run_load, cell_hcell, h1]
    · cases hv

/-- Part of an aggregate. -/
theorem run_partL {t : TypeId} {u : TypeDesc} {ag : Bool} {n off : Nat} {l : List AV} {vs : List Value} {v : AV} (hu : P.underlying t = some u) (hag : ag = aggT P t) (hn : ag = true → szOf P t = some n)
    (H : relL h φ I A l vs) (hv : ldCells ag n (l.drop off) = some v) : Yields P (part t vs.toArray off) h φ I A v w := by
  unfold ldCells at hv
  cases ag with
  | true =>
    simp only at hv
    obtain ⟨h1, h2⟩ := grd_some hv
    injection h2 with h2; subst h2
    refine ⟨.agg (vs.toArray.extract off (off + n)), w, ?_, rfl, ?_⟩
    · unfold part
      rw [Sem.run_bind, run_isAgg' hu, ← hag]
      simp only [Result.andThen_ok, if_true, Sem.run_bind]
      rw [run_szOf (hn rfl)]
      rfl
    · simp only [relV]
      refine ⟨(vs.drop off).take n, ?_, relL_take n (relL_drop off H)⟩
      simp
  | false =>
    simp only at hv
    split at hv
    · rename_i x cs hx
      injection hv with hv; subst hv
      have hg : l[off]? = some x := by rw [← List.head?_drop, hx]; rfl
      obtain ⟨v, h1, h2⟩ := relL_get H hg
      refine ⟨v, w, ?_, rfl, h2⟩
      unfold part
      rw [Sem.run_bind, run_isAgg' hu, ← hag]
      simp [h1]
    · cases hv

def fieldOK (P : Program) (t : TypeId) (i off : Nat) : Bool := match P.underlying t with
  | some (.struct fs) => match fs[i]? with
    | some f => decide (f.offset = off) && (match szOf P f.type with | some n => decide (n ≠ 0) | none => false)
    | none => false
  | _ => false

theorem run_fieldAt {t : TypeId} {i off : Nat} (H : fieldOK P t i off = true) (c o : Nat) : (Instr.fieldAt t (.pointer (some ⟨c, o, none⟩)) i).run P w = .ok (.pointer (some ⟨c, o + off, none⟩)) w := by
  unfold fieldOK at H
  split at H
  · rename_i fs hu
    split at H
    · rename_i f hf
      simp only [Bool.and_eq_true, decide_eq_true_eq] at H
      obtain ⟨h1, h2⟩ := H
      split at h2
      · rename_i n hn
        simp only [decide_eq_true_eq] at h2
        unfold Instr.fieldAt
        rw [Sem.run_bind, run_underlying hu]
        simp only [Result.andThen_ok, hf, Instr.sureAddr, Sem.run_bind, Sem.run_pure]
        simp only [fieldPlace, Sem.run_bind]
        rw [run_szOf hn]
        simp only [Result.andThen_ok, h2, if_false, Sem.run_pure, addr_add, h1]
      · cases h2
    · cases H
  · cases H

theorem y_fadr {t : TypeId} {i off : Nat} (H : fieldOK P t i off = true) {x : AV} {v : Value} (hx : relV h φ I A x v) {e : AV}
    (he : (match x with | .ptr sz b i j => some (AV.ptr sz b i (j + off)) | .cptr cs => some (.cptr (cs.drop off)) | _ => none) = some e) : Yields P (Instr.fieldAt t v i) h φ I A e w := by
  cases x <;> simp only [reduceCtorEq] at he
  case ptr sz b i j =>
    injection he with he; subst he
    simp only [relV] at hx
    obtain ⟨h1, c, o, h2, rfl⟩ := hx
    refine ⟨_, w, run_fieldAt H _ _, rfl, ?_⟩
    simp only [relV]
    exact ⟨h1, c, o, h2, by rw [Nat.add_assoc]⟩
  case cptr cs =>
    injection he with he; subst he
    simp only [relV] at hx
    obtain ⟨c, o, rfl, h2, h3⟩ := hx
    refine ⟨_, w, run_fieldAt H _ _, rfl, ?_⟩
    simp only [relV]
    exact ⟨c, o + off, rfl, h2, relM_drop off h3⟩

theorem y_idxa_sl {t el : TypeId} {sz b i n : Nat} {k : IntKind} {m : Int} {v u : Value} (hu : P.underlying t = some (.slice el)) (hs : szOf P el = some sz)
    (hx : relV h φ I A (.sl sz b i n) v) (hi : relV h φ I A (.int k m) u) (h0 : 0 ≤ m) (h1 : m < n) : Yields P (Instr.indexAt t v u) h φ I A (.ptr sz b (i + m.toNat) 0) w := by
  have := rel_int hi; subst this
  simp only [relV] at hx
  obtain ⟨hA, base, cap, rfl, hc⟩ := hx
  rcases hc with ⟨h2, _⟩ | ⟨c, o, s, h2, rfl, h3, h4, h5⟩
  · subst h2; simp at h1; omega
  · refine ⟨.pointer (some ⟨c, o + (i + m.toNat) * sz + 0, none⟩), w, ?_, rfl, by simp only [relV]; exact ⟨hA, c, o, h2, rfl⟩⟩
    unfold Instr.indexAt
    simp only [asIntOf, Sem.run_bind, Sem.run_pure, Result.andThen_ok]
    rw [run_underlying hu]
    simp only [Result.andThen_ok, Sem.run_pure, Sem.run_bind]
    rw [run_underlying hu]
    simp only [Result.andThen_ok, h0, h1, and_self, if_true, Sem.run_bind]
    rw [run_szOf hs]
    simp only [Result.andThen_ok, Sem.run_pure, addr_add, Nat.add_mul]
    simp only [Nat.add_assoc, Nat.add_zero]

theorem y_idxa_tsl {t el : TypeId} {sz : Nat} {es : List (List AV)} {k : IntKind} {m : Int} {v u : Value} (hu : P.underlying t = some (.slice el)) (hs : szOf P el = some sz)
    (hx : relV h φ I A (.tsl sz es) v) (hi : relV h φ I A (.int k m) u) (h0 : 0 ≤ m) (h1 : m < es.length) : Yields P (Instr.indexAt t v u) h φ I A (.cptr (es.getD m.toNat [])) w := by
  have := rel_int hi; subst this
  simp only [relV] at hx
  obtain ⟨base, cap, rfl, hc, hc'⟩ := hx
  rcases hc' with h2 | ⟨c, o, rfl, h3, h4⟩
  · subst h2; simp at h1; omega
  · refine ⟨.pointer (some ⟨c, o + m.toNat * sz, none⟩), w, ?_, rfl, ?_⟩
    · unfold Instr.indexAt
      simp only [asIntOf, Sem.run_bind, Sem.run_pure, Result.andThen_ok]
      rw [run_underlying hu]
      simp only [Result.andThen_ok, Sem.run_pure, Sem.run_bind]
      rw [run_underlying hu]
      simp only [Result.andThen_ok, h0, h1, and_self, if_true, Sem.run_bind]
      rw [run_szOf hs]
      simp only [Result.andThen_ok, Sem.run_pure, addr_add]
    · simp only [relV]
      exact ⟨c, o + m.toNat * sz, rfl, h3, (relR_get h4 (by omega)).2⟩

theorem y_idxp {t el : TypeId} {esz len : Nat} {k : IntKind} {m : Int} {x : AV} {v u : Value} {e : AV} (hu : P.underlying t = some (.array len el)) (hs : szOf P el = some esz)
    (hx : relV h φ I A x v) (hi : relV h φ I A (.int k m) u) (h0 : 0 ≤ m) (h1 : m < len)
    (he : (match x with | .ptr sz b o j => some (AV.ptr sz b o (j + m.toNat * esz)) | .cptr cs => some (.cptr (cs.drop (m.toNat * esz))) | _ => none) = some e) :
    Yields P (Instr.indexAt t v u) h φ I A e w := by
  have := rel_int hi; subst this
  have key : ∀ c o, (Instr.indexAt t (.pointer (some ⟨c, o, none⟩)) (.int k m)).run P w = .ok (.pointer (some ⟨c, o + m.toNat * esz, none⟩)) w := fun c o => by
    unfold Instr.indexAt
    simp only [asIntOf, Sem.run_bind, Sem.run_pure, Result.andThen_ok]
    rw [run_underlying hu]
    simp only [Result.andThen_ok, Sem.run_pure, Sem.run_bind, Instr.sureAddr]
    rw [run_underlying hu]
    simp only [Result.andThen_ok, h0, h1, and_self, if_true, Sem.run_bind]
    rw [run_szOf hs]
    simp only [Result.andThen_ok, Sem.run_pure, addr_add]
  cases x <;> simp only [reduceCtorEq] at he
  case ptr sz b i j =>
    injection he with he; subst he
    simp only [relV] at hx
    obtain ⟨h1, c, o, h2, rfl⟩ := hx
    refine ⟨_, w, key _ _, rfl, ?_⟩
    simp only [relV]
    exact ⟨h1, c, o, h2, by simp only [Nat.add_assoc]⟩
  case cptr cs =>
    injection he with he; subst he
    simp only [relV] at hx
    obtain ⟨c, o, rfl, h2, h3⟩ := hx
    refine ⟨_, w, key _ _, rfl, ?_⟩
    simp only [relV]
    exact ⟨c, _, rfl, h2, relM_drop _ h3⟩

theorem y_idxs {t : TypeId} {s : ByteArray} {k : IntKind} {m : Int} {v u : Value} (hu : P.underlying t = some .string)
    (hx : relV h φ I A (.str s) v) (hi : relV h φ I A (.int k m) u) (h0 : 0 ≤ m) (h1 : m < s.size) : Yields P (Instr.index t v u) h φ I A (.int .u8 (s.data.toList.getD m.toNat 0).toNat) w := by
  have := rel_int hi; subst this
  have := rel_str hx; subst this
  refine yields_int ?_
  unfold Instr.index
  simp only [asIntOf, Sem.run_bind, Sem.run_pure, Result.andThen_ok]
  rw [run_underlying hu]
  have hlt : m.toNat < s.size := by omega
  simp only [Result.andThen_ok, h0, if_true]
  rw [getElem?_pos s m.toNat hlt]
  simp only [Sem.run_pure]
  congr 2
  have hlt' : m.toNat < s.data.size := hlt
  have h3 : s.data.toList[m.toNat]? = some s[m.toNat] := by rw [Array.getElem?_toList, Array.getElem?_eq_getElem hlt']; rfl
  simp only [List.getD_eq_getElem?_getD, h3, Option.getD_some]

theorem y_idxc {t el : TypeId} {u' : TypeDesc} {ag : Bool} {esz len : Nat} {k : IntKind} {m : Int} {cs : List AV} {v u : Value} {e : AV} (hu : P.underlying t = some (.array len el)) (hs : szOf P el = some esz) (hu' : P.underlying el = some u') (hag : ag = aggT P el)
    (hx : relV h φ I A (.agg cs) v) (hi : relV h φ I A (.int k m) u) (h0 : 0 ≤ m) (h1 : m < len) (he : ldCells ag esz (cs.drop (m.toNat * esz)) = some e) : Yields P (Instr.index t v u) h φ I A e w := by
  have := rel_int hi; subst this
  simp only [relV] at hx
  obtain ⟨vs, rfl, hL⟩ := hx
  obtain ⟨r, w', h2, h3, h4⟩ := run_partL (P := P) (w := w) hu' hag (fun _ => hs) hL he
  refine ⟨r, w', ?_, h3, h4⟩
  unfold Instr.index
  simp only [asIntOf, Sem.run_bind, Sem.run_pure, Result.andThen_ok]
  rw [run_underlying hu]
  simp only [Result.andThen_ok, h0, h1, and_self, if_true, Sem.run_bind]
  rw [run_szOf hs]
  simp only [Result.andThen_ok, h2]

theorem y_field {t : TypeId} {i off n : Nat} {u' : TypeDesc} {ag : Bool} {fs : Array Field} {f : Field} {cs : List AV} {v : Value} {e : AV} (hu : P.underlying t = some (.struct fs)) (hf : fs[i]? = some f) (ho : f.offset = off) (hu' : P.underlying f.type = some u')
    (hag : ag = aggT P f.type) (hn : ag = true → szOf P f.type = some n) (hx : relV h φ I A (.agg cs) v) (he : ldCells ag n (cs.drop off) = some e) : Yields P (Instr.field t v i) h φ I A e w := by
  simp only [relV] at hx
  obtain ⟨vs, rfl, hL⟩ := hx
  obtain ⟨r, w', h2, h3, h4⟩ := run_partL (P := P) (w := w) hu' hag hn hL he
  refine ⟨r, w', ?_, h3, h4⟩
  unfold Instr.field
  simp only [Sem.run_bind]
  rw [run_underlying hu]
  simp only [Result.andThen_ok, hf, asAgg, Sem.run_bind, Sem.run_pure, ho, h2]

theorem y_extract {l : List AV} {i : Nat} {x : AV} {v : Value} (hx : relV h φ I A (.tup l) v) (hi : l[i]? = some x) : Yields P (Instr.extract v i) h φ I A x w := by
  simp only [relV] at hx
  obtain ⟨vs, rfl, hL⟩ := hx
  obtain ⟨r, h1, h2⟩ := relL_get hL hi
  exact ⟨r, w, by simp [Instr.extract, h1], rfl, h2⟩

theorem y_max : ∀ {l : List AV} {vs : List Value} {x : AV} {v : Value} {r : AV}, relV h φ I A x v → relL h φ I A l vs → mxI x l = some r → Yields P (vs.foldlM Builtin.max2 v) h φ I A r w
  | [], vs, x, v, r, hx, hl, H => by
    simp only [relL] at hl; subst hl
    unfold mxI at H
    injection H with H; subst H
    exact ⟨v, w, rfl, rfl, hx⟩
  | y :: l, vs, x, v, r, hx, hl, H => by
    simp only [relL] at hl
    obtain ⟨u, us, rfl, h1, h2⟩ := hl
    unfold mxI at H
    split at H
    · rename_i h3; cases h3
    · rename_i k a k' b r' h3
      injection h3 with h3 h4; subst h3 h4
      obtain ⟨h5, h6⟩ := grd_some H
      simp only [decide_eq_true_eq] at h5; subst h5
      have := rel_int hx; subst this
      have := rel_int h1; subst this
      obtain ⟨q, w', h7, h8, h9⟩ := y_max (x := .int k (if b > a then b else a)) (v := .int k (if b > a then b else a)) (by simp [relV]) h2 h6
      refine ⟨q, w', ?_, h8, h9⟩
      simp only [List.foldlM_cons, Builtin.max2, Sem.run_bind, Sem.run_pure, Result.andThen_ok]
      exact h7
    · cases H

theorem y_min2 {k : IntKind} {a b : Int} : (Builtin.min2 (.int k a) (.int k b)).run P w = .ok (.int k (if b < a then b else a)) w := by
  simp [Builtin.min2]

theorem y_min : ∀ {l : List AV} {vs : List Value} {x : AV} {v : Value} {r : AV}, relV h φ I A x v → relL h φ I A l vs → mnI x l = some r → Yields P (vs.foldlM Builtin.min2 v) h φ I A r w
  | [], vs, x, v, r, hx, hl, H => by
    simp only [relL] at hl; subst hl
    unfold mnI at H
    injection H with H; subst H
    exact ⟨v, w, rfl, rfl, hx⟩
  | y :: l, vs, x, v, r, hx, hl, H => by
    simp only [relL] at hl
    obtain ⟨u, us, rfl, h1, h2⟩ := hl
    unfold mnI at H
    split at H
    · rename_i h3; cases h3
    · rename_i k a k' b r' h3
      injection h3 with h3 h4; subst h3 h4
      obtain ⟨h5, h6⟩ := grd_some H
      simp only [decide_eq_true_eq] at h5; subst h5
      have := rel_int hx; subst this
      have := rel_int h1; subst this
      obtain ⟨q, w', h7, h8, h9⟩ := y_min (x := .int k (if b < a then b else a)) (v := .int k (if b < a then b else a)) (by simp [relV]) h2 h6
      refine ⟨q, w', ?_, h8, h9⟩
      simp only [List.foldlM_cons, Sem.run_bind, y_min2, Result.andThen_ok]
      exact h7
    · cases H
end
end Go.AM
