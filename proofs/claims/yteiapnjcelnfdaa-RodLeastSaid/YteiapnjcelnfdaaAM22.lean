/- An argument as the statement reads it, as a tree. -/
import Derived.Test.YteiapnjcelnfdaaAM21
import GoSem.ClaimJoined
set_option linter.unusedSimpArgs false
set_option linter.unusedVariables false
namespace Go.AM

def wtV (P : Program) : Nat → TypeId → List AV → Prop
  | 0, _, _ => False
  | n + 1, t, cs => match P.underlying t with
    | some .bool => ∃ b, cs = [.bool b]
    | some (.int k) => ∃ m, cs = [.int k m] ∧ k.min ≤ m ∧ m ≤ k.max
    | some .string => ∃ s, cs = [.str s] ∧ s.size ≤ maxLen
    | some (.slice e) => if P.cellsOf e = 0 then cs = [.any] else ∃ es, cs = [.tsl (P.cellsOf e) es] ∧ es.length ≤ maxLen ∧ ∀ x ∈ es, x.length = P.cellsOf e ∧ wtV P n e x
    | some (.struct fs) => cs.length = P.cellsOf t ∧ ∀ f ∈ fs.toList, wtV P n f.type ((cs.drop f.offset).take (P.cellsOf f.type))
    | some (.array k e) => cs.length = P.cellsOf t ∧ ∀ i, i < k → wtV P n e ((cs.drop (i * P.cellsOf e)).take (P.cellsOf e))
    | _ => cs = [.any]

mutual
/-- How much a tree holds: as the bulk of a reading counts it. -/
def AV.bulk : AV → Nat
  | .str s => s.size + 1
  | .tsl _ es => bulkR es + 1
  | .agg cs => bulkL cs
  | _ => 1
def bulkL : List AV → Nat
  | [] => 0
  | x :: l => x.bulk + bulkL l
def bulkR : List (List AV) → Nat
  | [] => 0
  | e :: l => bulkL e + bulkR l
end

mutual
def bulkD {H : Type} : DataW H → Nat
  | .lit (.string bytes) => bytes.length + 1
  | .lit _ => 1
  | .nil => 1
  | .ptr d => bulkD d + 1
  | .slice elems spare => bulkDs elems + bulkDs spare + 1
  | .agg parts => bulkDs parts + 1
  | .iface _ d => bulkD d + 1
  | .map entries => bulkDe entries + 1
  | .held _ => 1
def bulkDs {H : Type} : List (DataW H) → Nat
  | [] => 0
  | d :: r => bulkD d + bulkDs r
def bulkDe {H : Type} : List (Lit × DataW H) → Nat
  | [] => 0
  | x :: r => bulkDx x + bulkDe r
def bulkDx {H : Type} : Lit × DataW H → Nat
  | (.string bytes, d) => bytes.length + bulkD d + 1
  | (_, d) => bulkD d + 1
end

theorem bulkL_append : ∀ (a b : List AV), bulkL (a ++ b) = bulkL a + bulkL b
  | [], b => by simp [bulkL]
  | x :: a, b => by simp only [List.cons_append, bulkL, bulkL_append a b]; omega

theorem bulkD_one {H : Type} (d : DataW H) : 1 ≤ bulkD d := by
  cases d with
  | lit l => cases l <;> simp [bulkD]
  | nil => simp [bulkD]
  | ptr d => simp [bulkD]
  | slice elems spare => simp [bulkD]
  | agg parts => simp [bulkD]
  | iface t d => simp [bulkD]
  | map entries => simp [bulkD]
  | held h => simp [bulkD]

/-- Fields lie one behind the other. -/
def contF (P : Program) : List Field → Nat → Nat → Bool
  | [], o, n => decide (o = n)
  | f :: fs, o, n => decide (f.offset = o) && contF P fs (o + P.cellsOf f.type) n

def layT (P : Program) (t : TypeId) : Bool := match P.underlying t with
  | some (.struct fs) => contF P fs.toList 0 (P.cellsOf t)
  | some (.array k e) => decide (k * P.cellsOf e = P.cellsOf t)
  | _ => true

/-- The types that a type is made of. -/
def kidsT (P : Program) (t : TypeId) : List TypeId := match P.underlying t with
  | some (.struct fs) => fs.toList.map (·.type)
  | some (.array _ e) => [e]
  | some (.slice e) => [e]
  | _ => []

def layB (P : Program) : Bool := (List.range P.types.size).all fun t => layT P t && (kidsT P t).all fun e => decide (e < P.types.size)

theorem layB_spec {P : Program} (h : layB P = true) {t : TypeId} (ht : t < P.types.size) : layT P t = true ∧ ∀ e ∈ kidsT P t, e < P.types.size := by
  simp only [layB, List.all_eq_true, List.mem_range, Bool.and_eq_true, decide_eq_true_eq] at h
  exact h t ht

theorem mapM_some {α β : Type} {f : α → Option β} : ∀ (l : List α) (r : List β), l.mapM f = some r → r.length = l.length ∧ ∀ (i : Nat) (x : α), l[i]? = some x → ∃ y, f x = some y ∧ r[i]? = some y
  | [], r, h => by simp at h; subst h; simp
  | a :: l, r, h => by
    simp only [List.mapM_cons, Option.bind_eq_bind, Option.bind_eq_some_iff, Option.pure_def, Option.some.injEq] at h
    obtain ⟨y, h1, ys, h2, rfl⟩ := h
    obtain ⟨h3, h4⟩ := mapM_some _ _ h2
    refine ⟨by simp [h3], fun i x hx => ?_⟩
    cases i with
    | zero => simp at hx; subst hx; exact ⟨y, h1, by simp⟩
    | succ i => simp at hx; obtain ⟨z, h5, h6⟩ := h4 i x hx; exact ⟨z, h5, by simpa using h6⟩

section
variable {H : Type} {enc : TypeId × Value → H} {P : Program} {w : World} {spare : Nat → Bool} {held : Bool} {φ : Nat → Option (Nat × Nat)} {A : Nat → Prop}

/-- What a reading is worth. -/
def ReadsAs (P : Program) (w : World) (φ : Nat → Option (Nat × Nat)) (A : Nat → Prop) (n : Nat) (t : TypeId) (B : Nat) (cs : List Value) : Prop :=
  ∃ avs, relL w.heap φ (· < w.heap.size) A avs cs ∧ wtV P n t avs ∧ (∀ v ∈ cs, Value.oneCell' v = true) ∧ bulkL avs ≤ B

theorem drop_of_get {α : Type} {l : List α} {i : Nat} {x : α} (h : l[i]? = some x) : l.drop i = x :: l.drop (i + 1) := by
  obtain ⟨hi, rfl⟩ := List.getElem?_eq_some_iff.1 h
  exact List.drop_eq_getElem_cons hi

theorem cells_read {a : Addr} {n : Nat} {cs : List Value} (hn : n ≠ 0) (h : w.cells? 0 a n = some cs) : cs.length = n ∧ a.spot = none ∧ a.block < w.heap.size ∧ ∀ j, j < n → hcell w.heap a.block (a.off + j) = cs[j]? := by
  unfold World.cells? at h
  rw [if_pos (Nat.zero_le _)] at h
  obtain ⟨h1, h2⟩ := mapM_some _ _ h
  have h1' : cs.length = n := by simpa using h1
  have key : ∀ j, j < n → w.cell? (a.add j) = cs[j]? := fun j hj => by
    obtain ⟨y, h3, h4⟩ := h2 j j (by simp [hj])
    rw [h3, h4]
  have h0 := key 0 (by omega)
  have hs : a.spot = none := by
    cases hsp : a.spot with
    | none => rfl
    | some s =>
      exfalso
      have : w.cell? (a.add 0) = none := by
        simp only [Addr.add, if_true, World.cell?]
        split
        · simp [hsp]
        · rfl
      rw [this] at h0
      rw [List.getElem?_eq_getElem (by omega)] at h0
      cases h0
  refine ⟨h1', hs, ?_, fun j hj => ?_⟩
  · rcases Nat.lt_or_ge a.block w.heap.size with h | h
    · exact h
    · exfalso
      have : w.cell? (a.add 0) = none := by
        simp [Addr.add, World.cell?, Array.getElem?_eq_none h]
      rw [this] at h0
      rw [List.getElem?_eq_getElem (by omega)] at h0
      cases h0
  · rw [← key j hj]
    obtain ⟨b, oo, sp⟩ := a
    simp only at hs
    subst hs
    rw [addr_add, cell_hcell]

theorem assemble {cs : List Value} {n : Nat} {tot : Nat} : ∀ (fs : List Field) (xs : List (DataW H)) (o : Nat), contF P fs o tot = true → cs.length = tot → o ≤ tot →
    (∀ (i : Nat) (f : Field), fs[i]? = some f → ∃ d, xs[i]? = some d ∧ ReadsAs P w φ A n f.type (bulkD d) ((cs.drop f.offset).take (P.cellsOf f.type))) →
    ∃ avs : List AV, relL w.heap φ (· < w.heap.size) A avs (cs.drop o) ∧ (∀ f ∈ fs, wtV P n f.type ((avs.drop (f.offset - o)).take (P.cellsOf f.type)) ∧ o ≤ f.offset) ∧ (∀ v ∈ cs.drop o, Value.oneCell' v = true) ∧ bulkL avs ≤ bulkDs xs
  | [], xs, o, hc, hl, ho, _ => by
    simp only [contF, decide_eq_true_eq] at hc
    subst hc
    refine ⟨[], ?_, by simp, ?_, by simp [bulkL]⟩
    · rw [List.drop_eq_nil_of_le (by omega)]; simp [relL]
    · rw [List.drop_eq_nil_of_le (by omega)]; simp
  | f :: fs, [], o, hc, hl, ho, hr => by
    obtain ⟨d, h, _⟩ := hr 0 f rfl
    cases h
  | f :: fs, x :: xs, o, hc, hl, ho, hr => by
    simp only [contF, Bool.and_eq_true, decide_eq_true_eq] at hc
    obtain ⟨h1, h2⟩ := hc
    have hle : o + P.cellsOf f.type ≤ tot := by
      have : ∀ (fs : List Field) (o : Nat), contF P fs o tot = true → o ≤ tot := by
        intro fs
        induction fs with
        | nil => intro o h; simp only [contF, decide_eq_true_eq] at h; omega
        | cons f fs ih => intro o h; simp only [contF, Bool.and_eq_true, decide_eq_true_eq] at h; have := ih _ h.2; omega
      exact this fs _ h2
    obtain ⟨avs, k1, k2, k3, kb⟩ := assemble fs xs (o + P.cellsOf f.type) h2 hl hle (fun i g hg => by simpa using hr (i + 1) g (by simpa using hg))
    obtain ⟨d, hd, bvs, k4, k5, k6, kc⟩ := hr 0 f rfl
    simp only [List.getElem?_cons_zero, Option.some.injEq] at hd
    subst hd
    rw [h1] at k4 k6
    have hsplit : cs.drop o = (cs.drop o).take (P.cellsOf f.type) ++ cs.drop (o + P.cellsOf f.type) := by
      rw [← List.drop_drop, List.take_append_drop]
    have hbl : bvs.length = P.cellsOf f.type := by
      have := relL_length k4; simp only [List.length_take, List.length_drop] at this; omega
    refine ⟨bvs ++ avs, ?_, fun g hg => ?_, ?_, by rw [bulkL_append]; simp only [bulkDs]; omega⟩
    · rw [hsplit]; exact relL_append k4 k1
    · rcases List.mem_cons.1 hg with rfl | hg
      · rw [h1, Nat.sub_self, List.drop_zero, List.take_append_of_le_length (by omega), List.take_of_length_le (by omega)]
        exact ⟨k5, Nat.le_refl _⟩
      · obtain ⟨k7, k8⟩ := k2 g hg
        refine ⟨?_, by omega⟩
        rw [List.drop_append, List.drop_eq_nil_of_le (by omega), List.nil_append, hbl, show g.offset - o - P.cellsOf f.type = g.offset - (o + P.cellsOf f.type) by omega]
        exact k7
    · rw [hsplit]
      intro v hv
      rcases List.mem_append.1 hv with h | h
      · exact k6 v h
      · exact k3 v h

theorem assembleA {cs : List Value} {n k sz : Nat} {t : TypeId} {xs : List (DataW H)} : ∀ (m i : Nat), m + i = k → cs.length = k * sz → P.cellsOf t = sz →
    (∀ j, j < k → ∃ d, xs[j]? = some d ∧ ReadsAs P w φ A n t (bulkD d) ((cs.drop (j * sz)).take sz)) →
    ∃ avs : List AV, relL w.heap φ (· < w.heap.size) A avs (cs.drop (i * sz)) ∧ (∀ j, i ≤ j → j < k → wtV P n t ((avs.drop ((j - i) * sz)).take sz)) ∧ (∀ v ∈ cs.drop (i * sz), Value.oneCell' v = true) ∧ bulkL avs ≤ bulkDs (xs.drop i)
  | 0, i, hi, hl, _, _ => by
    have : i = k := by omega
    subst this
    refine ⟨[], ?_, fun j h1 h2 => by omega, ?_, by simp [bulkL]⟩
    · rw [List.drop_eq_nil_of_le (by omega)]; simp [relL]
    · rw [List.drop_eq_nil_of_le (by omega)]; simp
  | m + 1, i, hi, hl, hsz, hr => by
    obtain ⟨avs, k1, k2, k3, kb⟩ := assembleA m (i + 1) (by omega) hl hsz hr
    obtain ⟨d, hd, bvs, k4, k5, k6, kc⟩ := hr i (by omega)
    have hdrop := drop_of_get hd
    have hle : i * sz + sz ≤ k * sz := by
      have := Nat.mul_le_mul_right sz (show i + 1 ≤ k by omega)
      rw [Nat.add_mul] at this; omega
    have hsplit : cs.drop (i * sz) = (cs.drop (i * sz)).take sz ++ cs.drop ((i + 1) * sz) := by
      rw [Nat.add_mul, Nat.one_mul, ← List.drop_drop, List.take_append_drop]
    have hbl : bvs.length = sz := by
      have := relL_length k4; simp only [List.length_take, List.length_drop] at this; omega
    refine ⟨bvs ++ avs, ?_, fun j h1 h2 => ?_, ?_, by rw [bulkL_append, hdrop]; simp only [bulkDs]; omega⟩
    · rw [hsplit]; exact relL_append k4 k1
    · by_cases hj : j = i
      · subst hj
        rw [Nat.sub_self, Nat.zero_mul, List.drop_zero, List.take_append_of_le_length (by omega), List.take_of_length_le (by omega)]
        exact k5
      · have h3 : sz ≤ (j - i) * sz := Nat.le_mul_of_pos_left sz (by omega)
        rw [List.drop_append, List.drop_eq_nil_of_le (by omega), List.nil_append, hbl, show (j - i) * sz - sz = (j - (i + 1)) * sz by
          rw [show j - i = (j - (i + 1)) + 1 by omega, Nat.add_mul]; omega]
        exact k2 j (by omega) h2
    · rw [hsplit]
      intro v hv
      rcases List.mem_append.1 hv with h | h
      · exact k6 v h
      · exact k3 v h

theorem any_reads {n : Nat} {t : TypeId} {cs : List Value} {v : Value} {d : DataW H} (hcs : cs = [v]) (hv : Value.oneCell' v = true) (ht : wtV P n t [.any]) : ReadsAs P w φ A n t (bulkD d) cs := by
  subst hcs
  exact ⟨[.any], by simp only [relL]; exact ⟨v, [], rfl, by simp [relV], rfl⟩, ht, by simpa using hv, by have := bulkD_one d; simp only [bulkL, AV.bulk]; omega⟩

/-- Rows that are read element by element. -/
theorem rows_read {c o sz n len : Nat} {e : TypeId} {xs : List (DataW H)} (hsz : sz ≠ 0) : ∀ (m i : Nat), m + i = len → (∀ j, j < len → ∃ (ccs : List Value) (d : DataW H), ccs.length = sz ∧ (∀ q, q < sz → hcell w.heap c (o + j * sz + q) = ccs[q]?) ∧ xs[j]? = some d ∧ ReadsAs P w φ A n e (bulkD d) ccs) →
    ∃ es : List (List AV), es.length = m ∧ relR w.heap φ (· < w.heap.size) A sz es c (o + i * sz) ∧ (∀ x ∈ es, x.length = sz ∧ wtV P n e x) ∧ bulkR es ≤ bulkDs (xs.drop i)
  | 0, i, _, _ => ⟨[], rfl, by simp [relR], by simp, by simp [bulkR]⟩
  | m + 1, i, hi, hr => by
    obtain ⟨es, h1, h2, h3, hb⟩ := rows_read hsz m (i + 1) (by omega) hr
    obtain ⟨ccs, d, h4, h5, hd, avs, h6, h7, h8, h9⟩ := hr i (by omega)
    have hdrop := drop_of_get hd
    have hl : avs.length = sz := by rw [← relL_length h6, h4]
    refine ⟨avs :: es, by simp [h1], ?_, ?_, by rw [hdrop]; simp only [bulkR, bulkDs]; omega⟩
    · simp only [relR]
      refine ⟨hl, relM_of_vals h6 h8 fun q hq => h5 q (by omega), ?_⟩
      rw [show o + i * sz + sz = o + (i + 1) * sz by rw [Nat.add_mul]; omega]
      exact h2
    · intro x hx
      rcases List.mem_cons.1 hx with rfl | hx
      · exact ⟨hl, h7⟩
      · exact h3 x hx

theorem trod_reads (hL : layB P = true) : ∀ (n : Nat) (t : TypeId) (cs : List Value) (x : DataW H × List MemPlace), t < P.types.size → DataW.trod enc P w 0 spare held n t cs = some x → ReadsAs P w φ A n t (bulkD x.1) cs
  | 0, t, cs, x, _, h => by simp [DataW.trod] at h
  | n + 1, t, cs, x, ht, h => by
    obtain ⟨hlay, hkid⟩ := layB_spec hL ht
    unfold DataW.trod at h
    split at h
    · rename_i b hu
      exact ⟨[.bool b], by simp [relL, relV], by simp only [wtV, hu]; exact ⟨b, rfl⟩, by simp [Value.oneCell'], by have := bulkD_one x.1; simp only [bulkL, AV.bulk]; omega⟩
    · rename_i k k' m hu
      split at h
      · rename_i hk
        obtain ⟨rfl, hwf⟩ := hk
        simp only [Lit.wf, Bool.and_eq_true, decide_eq_true_eq] at hwf
        exact ⟨[.int k' m], by simp [relL, relV], by simp only [wtV, hu]; exact ⟨m, rfl, hwf.1, hwf.2⟩, by simp [Value.oneCell'], by have := bulkD_one x.1; simp only [bulkL, AV.bulk]; omega⟩
      · cases h
    · rename_i k k' m hu
      exact any_reads rfl rfl (by simp only [wtV, hu])
    · rename_i s hu
      split at h
      · rename_i hs
        exact ⟨[.str s], by simp [relL, relV], by simp only [wtV, hu]; exact ⟨s, rfl, hs⟩, by simp [Value.oneCell'], by
          cases h
          have he : s.data.toList.length = s.size := by rw [Array.length_toList]; rfl
          simp only [bulkL, AV.bulk, bulkD]; omega⟩
      · cases h
    · rename_i e hu
      exact any_reads rfl rfl (by simp only [wtV, hu])
    · rename_i e a hu
      exact any_reads rfl rfl (by simp only [wtV, hu])
    · rename_i e hu
      by_cases h0 : P.cellsOf e = 0
      · exact any_reads rfl rfl (by simp only [wtV, hu, h0, if_true])
      · exact ⟨[.tsl (P.cellsOf e) []], by simp [relL, relV], by simp only [wtV, hu]; rw [if_neg h0]; exact ⟨[], rfl, by simp, by simp⟩, by simp [Value.oneCell'], by have := bulkD_one x.1; simp only [bulkL, AV.bulk, bulkR]; omega⟩
    · rename_i e a len cap hu
      by_cases h0 : P.cellsOf e = 0
      · exact any_reads rfl rfl (by simp only [wtV, hu, h0, if_true])
      · simp only at h
        split at h
        · rename_i hc
          simp only [Option.bind_eq_some_iff] at h
          obtain ⟨elems, h1, hrest⟩ := h
          obtain ⟨h2, h3⟩ := mapM_some _ _ h1
          have hbx : bulkDs (elems.map (·.1)) + 1 ≤ bulkD x.1 := by
            simp only [Option.map_eq_some_iff] at hrest
            obtain ⟨rest, _, rfl⟩ := hrest
            simp only [bulkD]; omega
          have hel : ∀ j, j < len → ∃ (ccs : List Value) (d : DataW H), w.cells? 0 (a.add (j * P.cellsOf e)) (P.cellsOf e) = some ccs ∧ (elems.map (·.1))[j]? = some d ∧ ReadsAs P w φ A n e (bulkD d) ccs := fun j hj => by
            obtain ⟨y, h4, h5⟩ := h3 j j (by simp [hj])
            simp only [Option.bind_eq_some_iff] at h4
            obtain ⟨ccs, h6, h7⟩ := h4
            exact ⟨ccs, y.1, h6, by rw [List.getElem?_map, h5]; rfl, trod_reads hL n e ccs y (hkid e (by simp [kidsT, hu])) h7⟩
          by_cases hlen : len = 0
          · subst hlen
            refine ⟨[.tsl (P.cellsOf e) []], ?_, ?_, by simp [Value.oneCell'], by have := bulkD_one x.1; simp only [bulkL, AV.bulk, bulkR]; omega⟩
            · simp only [relL, relV]
              exact ⟨_, [], rfl, ⟨some a, cap, rfl, by simp, .inl trivial⟩, rfl⟩
            · simp only [wtV, hu]; rw [if_neg h0]; exact ⟨[], rfl, by simp, by simp⟩
          · have hsp : a.spot = none ∧ a.block < w.heap.size := by
              obtain ⟨ccs, _, h4, _⟩ := hel 0 (by omega)
              have := cells_read h0 h4
              simp only [Nat.zero_mul, Addr.add, if_true] at this
              exact ⟨this.2.1, this.2.2.1⟩
            obtain ⟨c, oo, sp⟩ := a
            simp only at hsp
            obtain ⟨rfl, hcs⟩ := hsp
            obtain ⟨es, h4, h5, h6, hb⟩ := rows_read (xs := elems.map (·.1)) (P := P) (w := w) (φ := φ) (A := A) (c := c) (o := oo) (n := n) (len := len) (e := e) h0 len 0 (by omega) (fun j hj => by
              obtain ⟨ccs, d, k1, kd, k2⟩ := hel j hj
              have k3 := cells_read h0 k1
              rw [addr_add] at k3
              exact ⟨ccs, d, k3.1, k3.2.2.2, kd, k2⟩)
            rw [Nat.zero_mul, Nat.add_zero] at h5
            rw [List.drop_zero] at hb
            refine ⟨[.tsl (P.cellsOf e) es], ?_, ?_, by simp [Value.oneCell'], by simp only [bulkL, AV.bulk]; omega⟩
            · simp only [relL, relV]
              exact ⟨_, [], rfl, ⟨some ⟨c, oo, none⟩, cap, by rw [h4], by rw [h4]; exact hc.2.1, .inr ⟨c, oo, rfl, hcs, h5⟩⟩, rfl⟩
            · simp only [wtV, hu]; rw [if_neg h0]; exact ⟨es, rfl, by rw [h4]; omega, h6⟩
        · cases h
    · rename_i fs hu
      unfold layT at hlay
      rw [hu] at hlay
      split at h
      · rename_i hl
        simp only [Option.map_eq_some_iff] at h
        obtain ⟨xs, h1, hx⟩ := h
        obtain ⟨h2, h3⟩ := mapM_some _ _ h1
        have hbx : bulkDs (xs.map (·.1)) ≤ bulkD x.1 := by subst hx; simp only [bulkD]; omega
        obtain ⟨avs, k1, k2, k3, kb⟩ := assemble (P := P) (w := w) (φ := φ) (A := A) (n := n) fs.toList (xs.map (·.1)) 0 hlay hl (Nat.zero_le _) (fun i f hif => by
          have hf : f ∈ fs.toList := List.mem_of_getElem? hif
          obtain ⟨y, h4, h5⟩ := h3 i _ hif
          refine ⟨y.1, by rw [List.getElem?_map, h5]; rfl, ?_⟩
          exact trod_reads hL n _ _ y (hkid _ (by simp only [kidsT, hu]; exact List.mem_map.2 ⟨_, hf, rfl⟩)) h4)
        simp only [List.drop_zero] at k1 k3
        refine ⟨avs, k1, ?_, k3, by omega⟩
        simp only [wtV, hu]
        exact ⟨by rw [← relL_length k1, hl], fun f hf => by simpa using (k2 f hf).1⟩
      · cases h
    · rename_i k e hu
      unfold layT at hlay
      rw [hu] at hlay
      simp only [decide_eq_true_eq] at hlay
      split at h
      · rename_i hl
        simp only [Option.map_eq_some_iff] at h
        obtain ⟨xs, h1, hx⟩ := h
        obtain ⟨h2, h3⟩ := mapM_some _ _ h1
        have hbx : bulkDs (xs.map (·.1)) ≤ bulkD x.1 := by subst hx; simp only [bulkD]; omega
        obtain ⟨avs, k1, k2, k3, kb⟩ := assembleA (xs := xs.map (·.1)) (P := P) (w := w) (φ := φ) (A := A) (n := n) (t := e) (cs := _) (k := k) (sz := P.cellsOf e) k 0 (by omega) (by rw [hl, hlay]) rfl (fun j hj => by
          obtain ⟨y, h4, h5⟩ := h3 j j (by simp [hj])
          refine ⟨y.1, by rw [List.getElem?_map, h5]; rfl, ?_⟩
          exact trod_reads hL n _ _ y (hkid _ (by simp [kidsT, hu])) h4)
        simp only [Nat.zero_mul, List.drop_zero] at k1 k3
        rw [List.drop_zero] at kb
        refine ⟨avs, k1, ?_, k3, by omega⟩
        simp only [wtV, hu]
        exact ⟨by rw [← relL_length k1, hl], fun j hj => by simpa using k2 j (Nat.zero_le _) hj⟩
      · cases h
    all_goals first
      | (cases h; done)
      | (rename_i hu; exact any_reads rfl rfl (by simp only [wtV, hu]))
      | (rename_i hu _; exact any_reads rfl rfl (by simp only [wtV, hu]))
      | (rename_i hu _ _; exact any_reads rfl rfl (by simp only [wtV, hu]))
      | (rename_i hu _ _ _; exact any_reads rfl rfl (by simp only [wtV, hu]))
end
end Go.AM
