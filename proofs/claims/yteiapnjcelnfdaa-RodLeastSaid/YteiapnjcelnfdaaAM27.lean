/- Arguments, read by their types. -/
import Derived.Test.YteiapnjcelnfdaaAM23
set_option linter.unusedSimpArgs false
set_option linter.unusedVariables false
namespace Go.AM
section
variable {P : Program} {n : Nat} {t e : TypeId} {cs : List AV} {a : AV}

theorem wtV_slice {sz : Nat} (hu : P.underlying t = some (.slice e)) (hs : P.cellsOf e = sz) (h0 : sz ≠ 0) (h : wtV P n t cs) : ∃ m es, cs = [.tsl sz es] ∧ es.length ≤ maxLen ∧ ∀ x ∈ es, x.length = sz ∧ wtV P m e x := by
  cases n with
  | zero => exact h.elim
  | succ n =>
    subst hs
    simp only [wtV, hu] at h
    rw [if_neg h0] at h
    obtain ⟨es, h1, h2, h3⟩ := h
    exact ⟨n, es, h1, h2, h3⟩

theorem wtV_int {k : IntKind} (hu : P.underlying t = some (.int k)) (h : wtV P n t cs) : ∃ m, cs = [.int k m] ∧ k.min ≤ m ∧ m ≤ k.max := by
  cases n with
  | zero => exact h.elim
  | succ n => simpa only [wtV, hu] using h

theorem wtV_bool (hu : P.underlying t = some .bool) (h : wtV P n t cs) : ∃ b, cs = [.bool b] := by
  cases n with
  | zero => exact h.elim
  | succ n => simpa only [wtV, hu] using h

theorem wtV_str (hu : P.underlying t = some .string) (h : wtV P n t cs) : ∃ s, cs = [.str s] ∧ s.size ≤ maxLen := by
  cases n with
  | zero => exact h.elim
  | succ n => simpa only [wtV, hu] using h

theorem wtV_struct {fs : Array Field} (hu : P.underlying t = some (.struct fs)) (h : wtV P n t cs) : ∃ m, cs.length = P.cellsOf t ∧ ∀ f ∈ fs.toList, wtV P m f.type ((cs.drop f.offset).take (P.cellsOf f.type)) := by
  cases n with
  | zero => exact h.elim
  | succ n => exact ⟨n, by simpa only [wtV, hu] using h⟩

theorem wtA_slice (hu : P.underlying t = some (.slice e)) (h : wtA P n t a) : wtV P n t [a] := by
  simpa only [wtA, hu] using h
theorem wtA_int {k : IntKind} (hu : P.underlying t = some (.int k)) (h : wtA P n t a) : ∃ m, a = .int k m ∧ k.min ≤ m ∧ m ≤ k.max := by
  have h' : wtV P n t [a] := by simpa only [wtA, hu] using h
  obtain ⟨m, h1, h2⟩ := wtV_int hu h'
  cases h1
  exact ⟨m, rfl, h2⟩
theorem wtA_str (hu : P.underlying t = some .string) (h : wtA P n t a) : ∃ s, a = .str s ∧ s.size ≤ maxLen := by
  have h' : wtV P n t [a] := by simpa only [wtA, hu] using h
  obtain ⟨m, h1, h2⟩ := wtV_str hu h'
  cases h1
  exact ⟨m, rfl, h2⟩
theorem wtA_bool (hu : P.underlying t = some .bool) (h : wtA P n t a) : ∃ b, a = .bool b := by
  have h' : wtV P n t [a] := by simpa only [wtA, hu] using h
  obtain ⟨m, h1⟩ := wtV_bool hu h'
  cases h1
  exact ⟨m, rfl⟩
theorem wtA_struct {fs : Array Field} (hu : P.underlying t = some (.struct fs)) (h : wtA P n t a) : ∃ cs, a = .agg cs ∧ wtV P n t cs := by
  simpa only [wtA, hu] using h

theorem map_of {α β : Type} {f : α → β} {C : α → Prop} : ∀ {es : List β}, (∀ x ∈ es, ∃ y, x = f y ∧ C y) → ∃ ys : List α, es = ys.map f ∧ ∀ y ∈ ys, C y
  | [], _ => ⟨[], rfl, by simp⟩
  | x :: es, h => by
    obtain ⟨y, h1, h2⟩ := h x (by simp)
    obtain ⟨ys, h3, h4⟩ := map_of (f := f) (C := C) (es := es) fun z hz => h z (List.mem_cons_of_mem _ hz)
    exact ⟨y :: ys, by rw [h1, h3]; rfl, by simpa using ⟨h2, h4⟩⟩

theorem len3 {cs : List AV} (h : cs.length = 3) : ∃ a b c, cs = [a, b, c] := by
  match cs, h with
  | [a, b, c], _ => exact ⟨a, b, c, rfl⟩
end
end Go.AM
