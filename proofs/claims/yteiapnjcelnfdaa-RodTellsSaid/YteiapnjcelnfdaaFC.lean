/- A part of a proof about the given program: what its name says. No premise beyond the statements'. -/
import Derived.Test.YteiapnjcelnfdaaFD
import GoSem.ClaimJoined
import Derived.WalkKit
import Derived.ProofKit
import Derived.OpenShut
import Derived.ChangeOld
import Derived.Below
import Derived.Carry
set_option linter.unusedSimpArgs false
set_option linter.unusedVariables false
/- An argument as the statement reads it, as a tree. -/
namespace Go.AM

def wtV (P : Program) : Nat → TypeId → List AV → Prop
  | 0, _, _ => False
  | n + 1, t, cs => match P.underlying t with
    | some .bool => ∃ b, cs = [.bool b]
    | some (.int k) => ∃ m, cs = [.int k m] ∧ k.min ≤ m ∧ m ≤ k.max
    | some .string => ∃ s, cs = [.str s] ∧ s.size ≤ maxLen
    | some (.slice e) => if P.cellsOf e = 0 then cs = [.any] else ∃ es, cs = [.tsl (P.cellsOf e) es] ∧ es.length ≤ maxLen ∧ ∀ x ∈ es, x.length = P.cellsOf e ∧ wtV P n e x
    | some (.struct fs) => cs.length = P.cellsOf t ∧ ∀ f ∈ fs.toList, wtV P n f.type ((cs.drop f.offset).take (P.cellsOf f.type))
    | some (.array k e) => cs.length = P.cellsOf t ∧ ∀ i, i < k → wtV P n e ((cs.drop (i * P.cellsOf e)).take (P.cellsOf e))
    | _ => cs = [.any]

mutual
/-- How much a tree holds: as the bulk of a reading counts it. -/
def AV.bulk : AV → Nat
  | .str s => s.size + 1
  | .tsl _ es => bulkR es + 1
  | .agg cs => bulkL cs
  | _ => 1
def bulkL : List AV → Nat
  | [] => 0
  | x :: l => x.bulk + bulkL l
def bulkR : List (List AV) → Nat
  | [] => 0
  | e :: l => bulkL e + bulkR l
end

mutual
def bulkD {H : Type} : DataW H → Nat
  | .lit (.string bytes) => bytes.length + 1
  | .lit _ => 1
  | .nil => 1
  | .ptr d => bulkD d + 1
  | .slice elems spare => bulkDs elems + bulkDs spare + 1
  | .agg parts => bulkDs parts + 1
  | .iface _ d => bulkD d + 1
  | .map entries => bulkDe entries + 1
  | .held _ => 1
def bulkDs {H : Type} : List (DataW H) → Nat
  | [] => 0
  | d :: r => bulkD d + bulkDs r
def bulkDe {H : Type} : List (Lit × DataW H) → Nat
  | [] => 0
  | x :: r => bulkDx x + bulkDe r
def bulkDx {H : Type} : Lit × DataW H → Nat
  | (.string bytes, d) => bytes.length + bulkD d + 1
  | (_, d) => bulkD d + 1
end

theorem bulkL_append : ∀ (a b : List AV), bulkL (a ++ b) = bulkL a + bulkL b
  | [], b => by simp [bulkL]
  | x :: a, b => by simp only [List.cons_append, bulkL, bulkL_append a b]; omega

theorem bulkD_one {H : Type} (d : DataW H) : 1 ≤ bulkD d := by
  cases d with
  | lit l => cases l <;> simp [bulkD]
  | nil => simp [bulkD]
  | ptr d => simp [bulkD]
  | slice elems spare => simp [bulkD]
  | agg parts => simp [bulkD]
  | iface t d => simp [bulkD]
  | map entries => simp [bulkD]
  | held h => simp [bulkD]

/-- Fields lie one behind the other. -/
def contF (P : Program) : List Field → Nat → Nat → Bool
  | [], o, n => decide (o = n)
  | f :: fs, o, n => decide (f.offset = o) && contF P fs (o + P.cellsOf f.type) n

def layT (P : Program) (t : TypeId) : Bool := match P.underlying t with
  | some (.struct fs) => contF P fs.toList 0 (P.cellsOf t)
  | some (.array k e) => decide (k * P.cellsOf e = P.cellsOf t)
  | _ => true

/-- The types that a type is made of. -/
def kidsT (P : Program) (t : TypeId) : List TypeId := match P.underlying t with
  | some (.struct fs) => fs.toList.map (·.type)
  | some (.array _ e) => [e]
  | some (.slice e) => [e]
  | _ => []

def layB (P : Program) : Bool := (List.range P.types.size).all fun t => layT P t && (kidsT P t).all fun e => decide (e < P.types.size)

theorem layB_spec {P : Program} (h : layB P = true) {t : TypeId} (ht : t < P.types.size) : layT P t = true ∧ ∀ e ∈ kidsT P t, e < P.types.size := by
  simp only [layB, List.all_eq_true, List.mem_range, Bool.and_eq_true, decide_eq_true_eq] at h
  exact h t ht

theorem mapM_some {α β : Type} {f : α → Option β} : ∀ (l : List α) (r : List β), l.mapM f = some r → r.length = l.length ∧ ∀ (i : Nat) (x : α), l[i]? = some x → ∃ y, f x = some y ∧ r[i]? = some y
  | [], r, h => by simp at h; subst h; simp
  | a :: l, r, h => by
    simp only [List.mapM_cons, Option.bind_eq_bind, Option.bind_eq_some_iff, Option.pure_def, Option.some.injEq] at h
    obtain ⟨y, h1, ys, h2, rfl⟩ := h
    obtain ⟨h3, h4⟩ := mapM_some _ _ h2
    refine ⟨by simp [h3], fun i x hx => ?_⟩
    cases i with
    | zero => simp at hx; subst hx; exact ⟨y, h1, by simp⟩
    | succ i => simp at hx; obtain ⟨z, h5, h6⟩ := h4 i x hx; exact ⟨z, h5, by simpa using h6⟩

section
variable {H : Type} {enc : TypeId × Value → H} {P : Program} {w : World} {spare : Nat → Bool} {held : Bool} {φ : Nat → Option (Nat × Nat)} {A : Nat → Prop}

/-- What a reading is worth. -/
def ReadsAs (P : Program) (w : World) (φ : Nat → Option (Nat × Nat)) (A : Nat → Prop) (n : Nat) (t : TypeId) (B : Nat) (cs : List Value) : Prop :=
  ∃ avs, relL w.heap φ (· < w.heap.size) A avs cs ∧ wtV P n t avs ∧ (∀ v ∈ cs, Value.oneCell' v = true) ∧ bulkL avs ≤ B

theorem drop_of_get {α : Type} {l : List α} {i : Nat} {x : α} (h : l[i]? = some x) : l.drop i = x :: l.drop (i + 1) := by
  obtain ⟨hi, rfl⟩ := List.getElem?_eq_some_iff.1 h
  exact List.drop_eq_getElem_cons hi

theorem cells_read {a : Addr} {n : Nat} {cs : List Value} (hn : n ≠ 0) (h : w.cells? 0 a n = some cs) : cs.length = n ∧ a.spot = none ∧ a.block < w.heap.size ∧ ∀ j, j < n → hcell w.heap a.block (a.off + j) = cs[j]? := by
  unfold World.cells? at h
  rw [if_pos (Nat.zero_le _)] at h
  obtain ⟨h1, h2⟩ := mapM_some _ _ h
  have h1' : cs.length = n := by simpa using h1
  have key : ∀ j, j < n → w.cell? (a.add j) = cs[j]? := fun j hj => by
    obtain ⟨y, h3, h4⟩ := h2 j j (by simp [hj])
    rw [h3, h4]
  have h0 := key 0 (by omega)
  have hs : a.spot = none := by
    cases hsp : a.spot with
    | none => rfl
    | some s =>
      exfalso
      have : w.cell? (a.add 0) = none := by
        simp only [Addr.add, if_true, World.cell?]
        split
        · simp [hsp]
        · rfl
      rw [this] at h0
      rw [List.getElem?_eq_getElem (by omega)] at h0
      cases h0
  refine ⟨h1', hs, ?_, fun j hj => ?_⟩
  · rcases Nat.lt_or_ge a.block w.heap.size with h | h
    · exact h
    · exfalso
      have : w.cell? (a.add 0) = none := by
        simp [Addr.add, World.cell?, Array.getElem?_eq_none h]
      rw [this] at h0
      rw [List.getElem?_eq_getElem (by omega)] at h0
      cases h0
  · rw [← key j hj]
    obtain ⟨b, oo, sp⟩ := a
    simp only at hs
    subst hs
    rw [addr_add, cell_hcell]

theorem assemble {cs : List Value} {n : Nat} {tot : Nat} : ∀ (fs : List Field) (xs : List (DataW H)) (o : Nat), contF P fs o tot = true → cs.length = tot → o ≤ tot →
    (∀ (i : Nat) (f : Field), fs[i]? = some f → ∃ d, xs[i]? = some d ∧ ReadsAs P w φ A n f.type (bulkD d) ((cs.drop f.offset).take (P.cellsOf f.type))) →
    ∃ avs : List AV, relL w.heap φ (· < w.heap.size) A avs (cs.drop o) ∧ (∀ f ∈ fs, wtV P n f.type ((avs.drop (f.offset - o)).take (P.cellsOf f.type)) ∧ o ≤ f.offset) ∧ (∀ v ∈ cs.drop o, Value.oneCell' v = true) ∧ bulkL avs ≤ bulkDs xs
  | [], xs, o, hc, hl, ho, _ => by
    simp only [contF, decide_eq_true_eq] at hc
    subst hc
    refine ⟨[], ?_, by simp, ?_, by simp [bulkL]⟩
    · rw [List.drop_eq_nil_of_le (by omega)]; simp [relL]
    · rw [List.drop_eq_nil_of_le (by omega)]; simp
  | f :: fs, [], o, hc, hl, ho, hr => by
    obtain ⟨d, h, _⟩ := hr 0 f rfl
    cases h
  | f :: fs, x :: xs, o, hc, hl, ho, hr => by
    simp only [contF, Bool.and_eq_true, decide_eq_true_eq] at hc
    obtain ⟨h1, h2⟩ := hc
    have hle : o + P.cellsOf f.type ≤ tot := by
      have : ∀ (fs : List Field) (o : Nat), contF P fs o tot = true → o ≤ tot := by
        intro fs
        induction fs with
        | nil => intro o h; simp only [contF, decide_eq_true_eq] at h; omega
        | cons f fs ih => intro o h; simp only [contF, Bool.and_eq_true, decide_eq_true_eq] at h; have := ih _ h.2; omega
      exact this fs _ h2
    obtain ⟨avs, k1, k2, k3, kb⟩ := assemble fs xs (o + P.cellsOf f.type) h2 hl hle (fun i g hg => by simpa using hr (i + 1) g (by simpa using hg))
    obtain ⟨d, hd, bvs, k4, k5, k6, kc⟩ := hr 0 f rfl
    simp only [List.getElem?_cons_zero, Option.some.injEq] at hd
    subst hd
    rw [h1] at k4 k6
    have hsplit : cs.drop o = (cs.drop o).take (P.cellsOf f.type) ++ cs.drop (o + P.cellsOf f.type) := by
      rw [← List.drop_drop, List.take_append_drop]
    have hbl : bvs.length = P.cellsOf f.type := by
      have := relL_length k4; simp only [List.length_take, List.length_drop] at this; omega
    refine ⟨bvs ++ avs, ?_, fun g hg => ?_, ?_, by rw [bulkL_append]; simp only [bulkDs]; omega⟩
    · rw [hsplit]; exact relL_append k4 k1
    · rcases List.mem_cons.1 hg with rfl | hg
      · rw [h1, Nat.sub_self, List.drop_zero, List.take_append_of_le_length (by omega), List.take_of_length_le (by omega)]
        exact ⟨k5, Nat.le_refl _⟩
      · obtain ⟨k7, k8⟩ := k2 g hg
        refine ⟨?_, by omega⟩
        rw [List.drop_append, List.drop_eq_nil_of_le (by omega), List.nil_append, hbl, show g.offset - o - P.cellsOf f.type = g.offset - (o + P.cellsOf f.type) by omega]
        exact k7
    · rw [hsplit]
      intro v hv
      rcases List.mem_append.1 hv with h | h
      · exact k6 v h
      · exact k3 v h

theorem assembleA {cs : List Value} {n k sz : Nat} {t : TypeId} {xs : List (DataW H)} : ∀ (m i : Nat), m + i = k → cs.length = k * sz → P.cellsOf t = sz →
    (∀ j, j < k → ∃ d, xs[j]? = some d ∧ ReadsAs P w φ A n t (bulkD d) ((cs.drop (j * sz)).take sz)) →
    ∃ avs : List AV, relL w.heap φ (· < w.heap.size) A avs (cs.drop (i * sz)) ∧ (∀ j, i ≤ j → j < k → wtV P n t ((avs.drop ((j - i) * sz)).take sz)) ∧ (∀ v ∈ cs.drop (i * sz), Value.oneCell' v = true) ∧ bulkL avs ≤ bulkDs (xs.drop i)
  | 0, i, hi, hl, _, _ => by
    have : i = k := by omega
    subst this
    refine ⟨[], ?_, fun j h1 h2 => by omega, ?_, by simp [bulkL]⟩
    · rw [List.drop_eq_nil_of_le (by omega)]; simp [relL]
    · rw [List.drop_eq_nil_of_le (by omega)]; simp
  | m + 1, i, hi, hl, hsz, hr => by
    obtain ⟨avs, k1, k2, k3, kb⟩ := assembleA m (i + 1) (by omega) hl hsz hr
    obtain ⟨d, hd, bvs, k4, k5, k6, kc⟩ := hr i (by omega)
    have hdrop := drop_of_get hd
    have hle : i * sz + sz ≤ k * sz := by
      have := Nat.mul_le_mul_right sz (show i + 1 ≤ k by omega)
      rw [Nat.add_mul] at this; omega
    have hsplit : cs.drop (i * sz) = (cs.drop (i * sz)).take sz ++ cs.drop ((i + 1) * sz) := by
      rw [Nat.add_mul, Nat.one_mul, ← List.drop_drop, List.take_append_drop]
    have hbl : bvs.length = sz := by
      have := relL_length k4; simp only [List.length_take, List.length_drop] at this; omega
    refine ⟨bvs ++ avs, ?_, fun j h1 h2 => ?_, ?_, by rw [bulkL_append, hdrop]; simp only [bulkDs]; omega⟩
    · rw [hsplit]; exact relL_append k4 k1
    · by_cases hj : j = i
      · subst hj
        rw [Nat.sub_self, Nat.zero_mul, List.drop_zero, List.take_append_of_le_length (by omega), List.take_of_length_le (by omega)]
        exact k5
      · have h3 : sz ≤ (j - i) * sz := Nat.le_mul_of_pos_left sz (by omega)
        rw [List.drop_append, List.drop_eq_nil_of_le (by omega), List.nil_append, hbl, show (j - i) * sz - sz = (j - (i + 1)) * sz by
          rw [show j - i = (j - (i + 1)) + 1 by omega, Nat.add_mul]; omega]
        exact k2 j (by omega) h2
    · rw [hsplit]
      intro v hv
      rcases List.mem_append.1 hv with h | h
      · exact k6 v h
      · exact k3 v h

theorem any_reads {n : Nat} {t : TypeId} {cs : List Value} {v : Value} {d : DataW H} (hcs : cs = [v]) (hv : Value.oneCell' v = true) (ht : wtV P n t [.any]) : ReadsAs P w φ A n t (bulkD d) cs := by
  subst hcs
  exact ⟨[.any], by simp only [relL]; exact ⟨v, [], rfl, by simp [relV], rfl⟩, ht, by simpa using hv, by have := bulkD_one d; simp only [bulkL, AV.bulk]; omega⟩

/-- Rows that are read element by element. -/
theorem rows_read {c o sz n len : Nat} {e : TypeId} {xs : List (DataW H)} (hsz : sz ≠ 0) : ∀ (m i : Nat), m + i = len → (∀ j, j < len → ∃ (ccs : List Value) (d : DataW H), ccs.length = sz ∧ (∀ q, q < sz → hcell w.heap c (o + j * sz + q) = ccs[q]?) ∧ xs[j]? = some d ∧ ReadsAs P w φ A n e (bulkD d) ccs) →
    ∃ es : List (List AV), es.length = m ∧ relR w.heap φ (· < w.heap.size) A sz es c (o + i * sz) ∧ (∀ x ∈ es, x.length = sz ∧ wtV P n e x) ∧ bulkR es ≤ bulkDs (xs.drop i)
  | 0, i, _, _ => ⟨[], rfl, by simp [relR], by simp, by simp [bulkR]⟩
  | m + 1, i, hi, hr => by
    obtain ⟨es, h1, h2, h3, hb⟩ := rows_read hsz m (i + 1) (by omega) hr
    obtain ⟨ccs, d, h4, h5, hd, avs, h6, h7, h8, h9⟩ := hr i (by omega)
    have hdrop := drop_of_get hd
    have hl : avs.length = sz := by rw [← relL_length h6, h4]
    refine ⟨avs :: es, by simp [h1], ?_, ?_, by rw [hdrop]; simp only [bulkR, bulkDs]; omega⟩
    · simp only [relR]
      refine ⟨hl, relM_of_vals h6 h8 fun q hq => h5 q (by omega), ?_⟩
      rw [show o + i * sz + sz = o + (i + 1) * sz by rw [Nat.add_mul]; omega]
      exact h2
    · intro x hx
      rcases List.mem_cons.1 hx with rfl | hx
      · exact ⟨hl, h7⟩
      · exact h3 x hx

theorem trod_reads (hL : layB P = true) : ∀ (n : Nat) (t : TypeId) (cs : List Value) (x : DataW H × List MemPlace), t < P.types.size → DataW.trod enc P w 0 spare held n t cs = some x → ReadsAs P w φ A n t (bulkD x.1) cs
  | 0, t, cs, x, _, h => by simp [DataW.trod] at h
  | n + 1, t, cs, x, ht, h => by
    obtain ⟨hlay, hkid⟩ := layB_spec hL ht
    unfold DataW.trod at h
    split at h
    · rename_i b hu
      exact ⟨[.bool b], by simp [relL, relV], by simp only [wtV, hu]; exact ⟨b, rfl⟩, by simp [Value.oneCell'], by have := bulkD_one x.1; simp only [bulkL, AV.bulk]; omega⟩
    · rename_i k k' m hu
      split at h
      · rename_i hk
        obtain ⟨rfl, hwf⟩ := hk
        simp only [Lit.wf, Bool.and_eq_true, decide_eq_true_eq] at hwf
        exact ⟨[.int k' m], by simp [relL, relV], by simp only [wtV, hu]; exact ⟨m, rfl, hwf.1, hwf.2⟩, by simp [Value.oneCell'], by have := bulkD_one x.1; simp only [bulkL, AV.bulk]; omega⟩
      · cases h
    · rename_i k k' m hu
      exact any_reads rfl rfl (by simp only [wtV, hu])
    · rename_i s hu
      split at h
      · rename_i hs
        exact ⟨[.str s], by simp [relL, relV], by simp only [wtV, hu]; exact ⟨s, rfl, hs⟩, by simp [Value.oneCell'], by
          cases h
          have he : s.data.toList.length = s.size := by rw [Array.length_toList]; rfl
          simp only [bulkL, AV.bulk, bulkD]; omega⟩
      · cases h
    · rename_i e hu
      exact any_reads rfl rfl (by simp only [wtV, hu])
    · rename_i e a hu
      exact any_reads rfl rfl (by simp only [wtV, hu])
    · rename_i e hu
      by_cases h0 : P.cellsOf e = 0
      · exact any_reads rfl rfl (by simp only [wtV, hu, h0, if_true])
      · exact ⟨[.tsl (P.cellsOf e) []], by simp [relL, relV], by simp only [wtV, hu]; rw [if_neg h0]; exact ⟨[], rfl, by simp, by simp⟩, by simp [Value.oneCell'], by have := bulkD_one x.1; simp only [bulkL, AV.bulk, bulkR]; omega⟩
    · rename_i e a len cap hu
      by_cases h0 : P.cellsOf e = 0
      · exact any_reads rfl rfl (by simp only [wtV, hu, h0, if_true])
      · simp only at h
        split at h
        · rename_i hc
          simp only [Option.bind_eq_some_iff] at h
          obtain ⟨elems, h1, hrest⟩ := h
          obtain ⟨h2, h3⟩ := mapM_some _ _ h1
          have hbx : bulkDs (elems.map (·.1)) + 1 ≤ bulkD x.1 := by
            simp only [Option.map_eq_some_iff] at hrest
            obtain ⟨rest, _, rfl⟩ := hrest
            simp only [bulkD]; omega
          have hel : ∀ j, j < len → ∃ (ccs : List Value) (d : DataW H), w.cells? 0 (a.add (j * P.cellsOf e)) (P.cellsOf e) = some ccs ∧ (elems.map (·.1))[j]? = some d ∧ ReadsAs P w φ A n e (bulkD d) ccs := fun j hj => by
            obtain ⟨y, h4, h5⟩ := h3 j j (by simp [hj])
            simp only [Option.bind_eq_some_iff] at h4
            obtain ⟨ccs, h6, h7⟩ := h4
            exact ⟨ccs, y.1, h6, by rw [List.getElem?_map, h5]; rfl, trod_reads hL n e ccs y (hkid e (by simp [kidsT, hu])) h7⟩
          by_cases hlen : len = 0
          · subst hlen
            refine ⟨[.tsl (P.cellsOf e) []], ?_, ?_, by simp [Value.oneCell'], by have := bulkD_one x.1; simp only [bulkL, AV.bulk, bulkR]; omega⟩
            · simp only [relL, relV]
              exact ⟨_, [], rfl, ⟨some a, cap, rfl, by simp, .inl trivial⟩, rfl⟩
            · simp only [wtV, hu]; rw [if_neg h0]; exact ⟨[], rfl, by simp, by simp⟩
          · have hsp : a.spot = none ∧ a.block < w.heap.size := by
              obtain ⟨ccs, _, h4, _⟩ := hel 0 (by omega)
              have := cells_read h0 h4
              simp only [Nat.zero_mul, Addr.add, if_true] at this
              exact ⟨this.2.1, this.2.2.1⟩
            obtain ⟨c, oo, sp⟩ := a
            simp only at hsp
            obtain ⟨rfl, hcs⟩ := hsp
            obtain ⟨es, h4, h5, h6, hb⟩ := rows_read (xs := elems.map (·.1)) (P := P) (w := w) (φ := φ) (A := A) (c := c) (o := oo) (n := n) (len := len) (e := e) h0 len 0 (by omega) (fun j hj => by
              obtain ⟨ccs, d, k1, kd, k2⟩ := hel j hj
              have k3 := cells_read h0 k1
              rw [addr_add] at k3
              exact ⟨ccs, d, k3.1, k3.2.2.2, kd, k2⟩)
            rw [Nat.zero_mul, Nat.add_zero] at h5
            rw [List.drop_zero] at hb
            refine ⟨[.tsl (P.cellsOf e) es], ?_, ?_, by simp [Value.oneCell'], by simp only [bulkL, AV.bulk]; omega⟩
            · simp only [relL, relV]
              exact ⟨_, [], rfl, ⟨some ⟨c, oo, none⟩, cap, by rw [h4], by rw [h4]; exact hc.2.1, .inr ⟨c, oo, rfl, hcs, h5⟩⟩, rfl⟩
            · simp only [wtV, hu]; rw [if_neg h0]; exact ⟨es, rfl, by rw [h4]; omega, h6⟩
        · cases h
    · rename_i fs hu
      unfold layT at hlay
      rw [hu] at hlay
      split at h
      · rename_i hl
        simp only [Option.map_eq_some_iff] at h
        obtain ⟨xs, h1, hx⟩ := h
        obtain ⟨h2, h3⟩ := mapM_some _ _ h1
        have hbx : bulkDs (xs.map (·.1)) ≤ bulkD x.1 := by subst hx; simp only [bulkD]; omega
        obtain ⟨avs, k1, k2, k3, kb⟩ := assemble (P := P) (w := w) (φ := φ) (A := A) (n := n) fs.toList (xs.map (·.1)) 0 hlay hl (Nat.zero_le _) (fun i f hif => by
          have hf : f ∈ fs.toList := List.mem_of_getElem? hif
          obtain ⟨y, h4, h5⟩ := h3 i _ hif
          refine ⟨y.1, by rw [List.getElem?_map, h5]; rfl, ?_⟩
          exact trod_reads hL n _ _ y (hkid _ (by simp only [kidsT, hu]; exact List.mem_map.2 ⟨_, hf, rfl⟩)) h4)
        simp only [List.drop_zero] at k1 k3
        refine ⟨avs, k1, ?_, k3, by omega⟩
        simp only [wtV, hu]
        exact ⟨by rw [← relL_length k1, hl], fun f hf => by simpa using (k2 f hf).1⟩
      · cases h
    · rename_i k e hu
      unfold layT at hlay
      rw [hu] at hlay
      simp only [decide_eq_true_eq] at hlay
      split at h
      · rename_i hl
        simp only [Option.map_eq_some_iff] at h
        obtain ⟨xs, h1, hx⟩ := h
        obtain ⟨h2, h3⟩ := mapM_some _ _ h1
        have hbx : bulkDs (xs.map (·.1)) ≤ bulkD x.1 := by subst hx; simp only [bulkD]; omega
        obtain ⟨avs, k1, k2, k3, kb⟩ := assembleA (xs := xs.map (·.1)) (P := P) (w := w) (φ := φ) (A := A) (n := n) (t := e) (cs := _) (k := k) (sz := P.cellsOf e) k 0 (by omega) (by rw [hl, hlay]) rfl (fun j hj => by
          obtain ⟨y, h4, h5⟩ := h3 j j (by simp [hj])
          refine ⟨y.1, by rw [List.getElem?_map, h5]; rfl, ?_⟩
          exact trod_reads hL n _ _ y (hkid _ (by simp [kidsT, hu])) h4)
        simp only [Nat.zero_mul, List.drop_zero] at k1 k3
        rw [List.drop_zero] at kb
        refine ⟨avs, k1, ?_, k3, by omega⟩
        simp only [wtV, hu]
        exact ⟨by rw [← relL_length k1, hl], fun j hj => by simpa using k2 j (Nat.zero_le _) hj⟩
      · cases h
    all_goals first
      | (cases h; done)
      | (rename_i hu; exact any_reads rfl rfl (by simp only [wtV, hu]))
      | (rename_i hu _; exact any_reads rfl rfl (by simp only [wtV, hu]))
      | (rename_i hu _ _; exact any_reads rfl rfl (by simp only [wtV, hu]))
      | (rename_i hu _ _ _; exact any_reads rfl rfl (by simp only [wtV, hu]))
end
end Go.AM

/- A law's row out of its contract: for every argument tree the call answers true. -/
namespace Go.AM
open Go.ChangeShapes Go.WideShapes Go.ChangeAt Go.RowKit

/-- An argument: a struct or an array comes as one value. -/
def wtA (P : Program) (n : Nat) (t : TypeId) (a : AV) : Prop := match P.underlying t with
  | some (.struct _) | some (.array _ _) => ∃ cs, a = .agg cs ∧ wtV P n t cs
  | _ => wtV P n t [a]

def wtAll (P : Program) : List TypeId → List AV → Prop
  | [], [] => True
  | t :: ts, a :: as => (∃ n, wtA P n t a) ∧ wtAll P ts as
  | _, _ => False

section
variable {H : Type} {enc : TypeId × Value → H} {P : Program} {W W' : World} {φ : Nat → Option (Nat × Nat)} {A : Nat → Prop}

theorem not_agg {t : TypeId} {base : Nat} {v : Value} {r : Reach} (h : Cell.okWide P W r base t v) : v.cells = #[v] := by
  cases v with
  | agg cs =>
    exfalso
    revert h
    unfold Cell.okWide Cell.ok
    cases P.underlying t with
    | none => simp
    | some d => cases d <;> simp
  | _ => rfl

theorem arg_reads (hL : layB P = true) {t : TypeId} (ht : t < P.types.size) {base : Nat} {v : Value} {d : DataW H} {p : List MemPlace} (hv : Value.okWide P W .any base t v) (h : DataW.Trod enc P W 0 (fun _ => true) true t v d p) :
    ∃ a, relV W.heap φ (· < W.heap.size) A a v ∧ (∃ n, wtA P n t a) ∧ a.bulk ≤ bulkD d := by
  obtain ⟨fuel, hf⟩ := h
  obtain ⟨avs, h1, h2, h3, h4⟩ := trod_reads (φ := φ) (A := A) hL _ _ _ _ ht hf
  have one : Cell.okWide P W .any base t v → ∃ a, avs = [a] ∧ relV W.heap φ (· < W.heap.size) A a v := fun hc => by
    rw [not_agg hc] at h1
    cases avs with
    | nil => simp [relL] at h1
    | cons a l =>
      cases l with
      | nil => simp only [relL] at h1; obtain ⟨v', r, e, k, e2⟩ := h1; cases e; exact ⟨a, rfl, k⟩
      | cons b l => simp only [relL] at h1; obtain ⟨v', r, e, k, v'', r', e2, _⟩ := h1; cases e; cases e2
  have agg : (∃ cs : Array Value, v = .agg cs ∧ cs.size = P.cellsOf t ∧ Row.okWide P W .any base t cs) → relV W.heap φ (· < W.heap.size) A (.agg avs) v := fun ⟨cs, hc, _⟩ => by
    subst hc
    simp only [relV]
    exact ⟨cs.toList, by simp, h1⟩
  unfold Value.okWide at hv
  unfold wtA
  split at hv
  · rename_i fs hu
    exact ⟨.agg avs, agg hv, ⟨fuel, by rw [hu]; exact ⟨avs, rfl, h2⟩⟩, by simpa [AV.bulk] using h4⟩
  · rename_i k e hu
    exact ⟨.agg avs, agg hv, ⟨fuel, by rw [hu]; exact ⟨avs, rfl, h2⟩⟩, by simpa [AV.bulk] using h4⟩
  · rename_i hn1 hn2
    obtain ⟨a, rfl, k⟩ := one hv
    refine ⟨a, k, ⟨fuel, ?_⟩, by simpa [bulkL] using h4⟩
    split
    · rename_i hu; exact absurd hu (hn1 _)
    · rename_i hu; exact absurd hu (hn2 _ _)
    · exact h2

theorem args_read (hL : layB P = true) {base : Nat} : ∀ (ts : List TypeId) (vs : List Value) (ds : List (DataW H)) (p : List MemPlace), (∀ t ∈ ts, t < P.types.size) → (∀ (j : Nat) t v, ts[j]? = some t → vs[j]? = some v → Value.okWide P W .any base t v) →
    DataW.TrodAll enc P W 0 (fun _ => true) true ts vs ds p → ∃ as, relL W.heap φ (· < W.heap.size) A as vs ∧ wtAll P ts as ∧ bulkL as ≤ bulkDs ds
  | [], vs, ds, p, _, _, h => by
    obtain ⟨rfl, rfl, rfl⟩ := trodAll_nil h
    exact ⟨[], by simp [relL], trivial, by simp [bulkL]⟩
  | t :: ts, vs, ds, p, ht, hv, h => by
    obtain ⟨v, vs', d, ds', p', q', rfl, rfl, rfl, h1, h2⟩ := trodAll_cons h
    obtain ⟨a, k1, k2, k3⟩ := arg_reads (φ := φ) (A := A) hL (ht t (by simp)) (hv 0 t v rfl rfl) h1
    obtain ⟨as, k4, k5, k6⟩ := args_read hL ts vs' ds' q' (fun x hx => ht x (List.mem_cons_of_mem _ hx)) (fun j x y hx hy => hv (j + 1) x y (by simpa using hx) (by simpa using hy)) h2
    exact ⟨a :: as, by simp only [relL]; exact ⟨v, vs', rfl, k1, k4⟩, ⟨k2, k5⟩, by simp only [bulkL, bulkDs]; omega⟩

theorem args_stay (hO : laidOutB P = true) (bel : Below W.heap.size W W') : ∀ (ts : List TypeId) (vs : List Value) (ds : List (DataW H)) (p : List MemPlace), (∀ t ∈ ts, t < P.types.size ∧ P.readableRec t = true) →
    DataW.TrodAll enc P W 0 (fun _ => true) true ts vs ds p → DataW.TrodAll enc P W' 0 (fun b => decide (b < W.heap.size)) true ts vs ds p
  | [], vs, ds, p, _, h => by
    obtain ⟨rfl, rfl, rfl⟩ := trodAll_nil h
    exact trodAll_mk0
  | t :: ts, vs, ds, p, ht, h => by
    obtain ⟨v, vs', d, ds', p', q', rfl, rfl, rfl, h1, h2⟩ := trodAll_cons h
    have lt : ∀ x ∈ p', x.block < W.heap.size := by obtain ⟨m, hm⟩ := h1; exact DataW.trod_lt m _ _ _ hm
    exact trodAll_cons_mk (Below.trod hO (ht t (by simp)).2 (ht t (by simp)).1 h1 bel lt) (args_stay hO bel ts vs' ds' q' (fun x hx => ht x (List.mem_cons_of_mem _ hx)) h2)

/-- THE ROW'S STEP. -/
theorem law_post {f : Func} {n : FuncId} {s : ChangeSpec} {tb : TypeId} (hL : layB P = true) (hO : laidOutB P = true)
    (hps : f.params.toList.all (fun t => decide (t < P.types.size) && P.readableRec t) = true) (hres : f.resultTypes = #[tb]) (htb : P.underlying tb = some .bool)
    (hvars : s.vars = []) (hfn : ∀ ds : List (DataW H), ds.length = f.params.size → s.fn H ds = { results := [.lit (.bool true)], args := ds })
    {base : Nat} {args : Array Value} {ds gs : List (DataW H)} {before : List MemPlace}
    (hc : ∀ as, wtAll P f.params.toList as → bulkL as ≤ bulkDs (ds ++ gs) → ACalls P n as [] 0 (fun r _ _ => r = .bool true))
    (hval : ∀ (j : Nat) t v, f.params[j]? = some t → args[j]? = some v → Value.okWide P W .any base t v)
    (hW : DataW.Whole enc P f.params.toList s.vars false W args.toList ds gs before) :
    Calls P n args W fun e W' => ∃ v, e = .returned v ∧ s.post enc P f false true false false W args v W' := by
  have hW' := hW
  obtain ⟨p, q, hA, hV, rfl, hfz, hnd⟩ := hW
  rw [hvars] at hV
  obtain ⟨rfl, rfl⟩ := trodVars_none hV
  simp only [List.all_eq_true, Bool.and_eq_true, decide_eq_true_eq] at hps
  have hA' : DataW.TrodAll enc P W 0 (fun _ => true) true f.params.toList args.toList ds p := hA
  obtain ⟨as, k1, k2, k3⟩ := args_read (φ := fun _ => none) (A := (· < 0)) hL _ _ _ _ (fun t ht => (hps t ht).1) (fun j t v h1 h2 => hval j t v (by simpa using h1) (by simpa using h2)) hA'
  have hlen : ds.length = f.params.size := by
    have : ∀ (ts : List TypeId) (vs : List Value) (ds : List (DataW H)) (p : List MemPlace), DataW.TrodAll enc P W 0 (fun _ => true) true ts vs ds p → ds.length = ts.length := by
      intro ts
      induction ts with
      | nil => intro vs ds p h; obtain ⟨rfl, rfl, rfl⟩ := trodAll_nil h; rfl
      | cons t ts ih => intro vs ds p h; obtain ⟨v, vs', d, ds', p', q', rfl, rfl, rfl, h1, h2⟩ := trodAll_cons h; simp [ih _ _ _ h2]
    simpa using this _ _ _ _ hA'
  obtain ⟨_, hcalls⟩ := hc as k2 (by simpa using k3)
  have R : RelH ⟨W.heap, fun _ => False, fun _ => none, 0, (· < W.heap.size)⟩ (fun _ => none) (· < W.heap.size) ⟨[], [], 0, [], []⟩ W.heap := by
    constructor
    · intro b blk h; simp [get] at h
    · intro b blk c o h; simp [get] at h
    · intro b b' c o c' o' h; simp [get] at h
    · intro c hc; exact hc
    · intro c hc; exact .inl hc
    · intro c hc; exact hc
    · intro c _ _; rfl
    · exact Nat.le_refl _
    · intro c s h; exact h
    · intro b hb; cases hb
    · exact Nat.le_refl _
  refine (hcalls W _ _ _ args.toList R k1).mono ?_
  rintro e W' ⟨cv, r, H', n', φ', I', rfl, R', hr, rfl, hk⟩
  simp only [relV] at hr
  subst hr
  have bel : Below W.heap.size W W' := ⟨hk.1, hk.2.1, hk.2.2, R'.size, fun c hc => R'.frame c hc (by simp)⟩
  refine ⟨_, rfl, ds, [], p ++ [], [], p, [], hW', ?_, ?_, ?_, bel.frame _, fun h => by cases h⟩
  · rw [List.append_nil, hfn ds hlen, hres]
    exact trodAll_mk1 (shut_bool htb _)
  · rw [List.append_nil, hfn ds hlen]
    exact args_stay hO bel _ _ _ _ hps hA'
  · rw [hvars, List.append_nil, hfn ds hlen]
    exact rfl
end
end Go.AM

/- States told with less; a block that is written no more becomes a tree; loops over told states. -/
namespace Go.AM

/-- What stands for 'u' stands for 'v', too. -/
def wkV (u v : AV) : Prop := ∀ (h : Array Obj) (φ : Nat → Option (Nat × Nat)) (I A : Nat → Prop) (c : Value), relV h φ I A u c → relV h φ I A v c

theorem wkV.refl (u : AV) : wkV u u := fun _ _ _ _ _ h => h
theorem wkV.trans {u v x : AV} (h : wkV u v) (k : wkV v x) : wkV u x := fun a b c d e f => k a b c d e (h a b c d e f)
theorem wkV.nils (sz : Nat) : wkV .nils (.tsl sz []) := fun _ _ _ _ _ h => by simp only [relV] at h ⊢; exact ⟨none, 0, by rw [h]; rfl, Nat.le_refl _, .inl trivial⟩
theorem wkV.tup2 {a b x y : AV} (h : wkV a x) (k : wkV b y) : wkV (.tup [a, b]) (.tup [x, y]) := fun _ _ _ _ _ H => by
  simp only [relV, relL] at H ⊢
  obtain ⟨vs, rfl, v, r, rfl, h1, v', r', rfl, h2, rfl⟩ := H
  exact ⟨_, rfl, v, _, rfl, h _ _ _ _ _ h1, v', _, rfl, k _ _ _ _ _ h2, rfl⟩

/-- 'T' tells no more than 'S'. -/
structure ST.le (T S : ST) : Prop where
  vars : ∀ x v, get T.vars x = some v → ∃ u, get S.vars x = some u ∧ wkV u v
  heap : ∀ b blk, get T.heap b = some blk → get S.heap b = some blk
  next : S.next = T.next

theorem ST.le.refl (S : ST) : S.le S := ⟨fun _ v h => ⟨v, h, .refl v⟩, fun _ _ h => h, rfl⟩

theorem get_le {α : Type} {l m : List (Nat × α)} (h : ∀ q ∈ l, get m q.1 = some q.2) : ∀ x v, get l x = some v → get m x = some v :=
  get_all (p := fun x v => get m x = some v) h

/-- The check of one state against another, row by row. -/
def leV : Vars → Vars → Prop
  | [], _ => True
  | (x, v) :: l, m => (∃ u, get m x = some u ∧ wkV u v) ∧ leV l m
theorem leV_spec : ∀ {l m : Vars}, leV l m → ∀ x v, get l x = some v → ∃ u, get m x = some u ∧ wkV u v
  | [], _, _, x, v, h => by simp [get] at h
  | (k, w) :: l, m, H, x, v, h => by
    simp only [get] at h
    split at h
    · rename_i e; subst e; cases h; exact H.1
    · exact leV_spec H.2 x v h
theorem ST.le.mk' {T S : ST} (hv : leV T.vars S.vars) (hh : ∀ b blk, get T.heap b = some blk → get S.heap b = some blk) (hn : S.next = T.next) : T.le S := ⟨leV_spec hv, hh, hn⟩

theorem RelS.sub {X : Ctx} {φ : Nat → Option (Nat × Nat)} {I : Nat → Prop} {S T : ST} {nt : Nat} {a : Act} {h : Array Obj} (R : RelS X φ I S nt a h) (L : T.le S) : RelS X φ I T nt a h := by
  have hA : S.as.A = T.as.A := by funext b; simp only [AS.A, ST.as, L.next]
  refine ⟨?_, ⟨fun x v hx => ?_, R.A.nt, R.A.defers⟩⟩
  · refine RelH.conv (S := { S.as with vars := S.vars, heap := T.heap, dead := [] }) (R.H.sub (H := T.heap) (D := []) (vs := S.vars) L.heap fun _ _ _ => rfl) ?_ rfl (fun _ => rfl) (Nat.le_of_eq L.next)
    rw [← hA]; rfl
  · rw [← hA]; obtain ⟨u, h1, h2⟩ := L.vars x v hx; exact h2 _ _ _ _ _ (R.A.vars x u h1)

section
variable {P : Program} {nt n0 : Nat} {S T : ST} {Q : Exit → ST → Prop}

theorem LWP_sub {lc : LCode} (L : T.le S) (h : LWP P nt n0 lc T Q) : LWP P nt n0 lc S Q :=
  fun c hc X φ I a w hn R => h c hc X φ I a w hn (R.sub L)

/-- A loop, its state told by a parameter. -/
theorem LWP_inv {α : Type} {x : LCode} (T : α → ST) (μ : α → Nat) (C : α → Prop) (a0 : α) (hL : (T a0).le S) (h0 : C a0)
    (h : ∀ a, C a → LWP P nt n0 x (T a) (seqQ (fun S' => ∃ a', C a' ∧ μ a' < μ a ∧ (T a').le S') Q)) : LWP P nt n0 (.loop x) S Q := by
  refine LWP_sub hL (LWP_loop (fun m S => ∃ a, C a ∧ μ a = m ∧ (T a).le S) (m := μ a0) ⟨a0, h0, rfl, ST.le.refl _⟩ ?_)
  rintro m S ⟨a, hc, rfl, hs⟩
  refine LWP_sub hs (LWP.mono (h a hc) fun e S' he => ?_)
  cases e with
  | normal => obtain ⟨a', k1, k2, k3⟩ := he; exact ⟨_, k2, a', k1, rfl, k3⟩
  | _ => exact he
end

/-! ### Freezing -/
mutual
/-- A value as it reads where the block 'b', of the rows 'es', is written no more. -/
def frzV (b sz : Nat) (es : List (List AV)) : AV → AV
  | .ptr sz' b' i j => if b' = b then (if sz' = sz ∧ i < es.length then .cptr ((es.getD i []).drop j) else .any) else .ptr sz' b' i j
  | .sl sz' b' i n => if b' = b then (if sz' = sz ∧ i + n ≤ es.length then .tsl sz ((es.drop i).take n) else .any) else .sl sz' b' i n
  | .cptr cs => .cptr (frzL b sz es cs)
  | .tsl s l => .tsl s (frzR b sz es l)
  | .fn f fs cs => .fn f (frzL b sz es fs) (frzL b sz es cs)
  | .iface t v => .iface t (frzV b sz es v)
  | .agg cs => .agg (frzL b sz es cs)
  | .tup cs => .tup (frzL b sz es cs)
  | v => v
def frzL (b sz : Nat) (es : List (List AV)) : List AV → List AV
  | [] => []
  | v :: l => frzV b sz es v :: frzL b sz es l
def frzR (b sz : Nat) (es : List (List AV)) : List (List AV) → List (List AV)
  | [] => []
  | v :: l => frzL b sz es v :: frzR b sz es l
end

def frzE (b sz : Nat) (es : List (List AV)) : List (AV × AV) → List (AV × AV)
  | [] => []
  | (k, v) :: l => (frzV b sz es k, frzV b sz es v) :: frzE b sz es l

def frzB (b sz : Nat) (es : List (List AV)) : Blk → Blk
  | .rows s l => .rows s (frzR b sz es l)
  | .mp l => .mp (frzE b sz es l)

def mapS {α β : Type} (f : α → β) : List (Nat × α) → List (Nat × β)
  | [] => []
  | (x, v) :: l => (x, f v) :: mapS f l

theorem get_mapS {α β : Type} (f : α → β) : ∀ (l : List (Nat × α)) (x : Nat), get (mapS f l) x = (get l x).map f
  | [], x => rfl
  | (k, v) :: l, x => by
    simp only [mapS, get]
    by_cases h : k = x
    · simp [h]
    · simp [h, get_mapS f l x]

section
variable {h : Array Obj} {φ : Nat → Option (Nat × Nat)} {I I' A : Nat → Prop} {b sz : Nat} {es : List (List AV)}

theorem frzR_length : ∀ l : List (List AV), (frzR b sz es l).length = l.length
  | [] => rfl
  | _ :: l => by simp [frzR, frzR_length l]
theorem frzL_length : ∀ l : List AV, (frzL b sz es l).length = l.length
  | [] => rfl
  | _ :: l => by simp [frzL, frzL_length l]

mutual
theorem frzV_rel (hI : ∀ c, I c → I' c) (hb : (φ b = none ∧ es = []) ∨ ∃ c o, φ b = some (c, o) ∧ I' c ∧ relR h φ I' A sz es c o) : ∀ (x : AV) (v : Value), relV h φ I A x v → relV h φ I' A (frzV b sz es x) v
  | .any, _, _ => by simp [frzV, relV]
  | .bool _, _, H => by simpa [frzV, relV] using H
  | .int _ _, _, H => by simpa [frzV, relV] using H
  | .str _, _, H => by simpa [frzV, relV] using H
  | .nilp, _, H => by simpa [frzV, relV] using H
  | .nils, _, H => by simpa [frzV, relV] using H
  | .nilm, _, H => by simpa [frzV, relV] using H
  | .nilf, _, H => by simpa [frzV, relV] using H
  | .nili, _, H => by simpa [frzV, relV] using H
  | .map _, _, H => by simpa [frzV, relV] using H
  | .ptr sz' b' i j, v, H => by
    simp only [relV] at H
    obtain ⟨h1, c, o, h2, h3⟩ := H
    simp only [frzV]
    split
    · rename_i e; subst e
      split
      · rename_i hc
        obtain ⟨rfl, hi⟩ := hc
        rcases hb with ⟨k1, _⟩ | ⟨c', o', k1, k2, k3⟩
        · rw [k1] at h2; cases h2
        · rw [k1] at h2; cases h2
          simp only [relV]
          exact ⟨c, _, h3, k2, relM_drop j (relR_get k3 hi).2⟩
      · simp [relV]
    · simp only [relV]; exact ⟨h1, c, o, h2, h3⟩
  | .sl sz' b' i n, v, H => by
    simp only [relV] at H
    obtain ⟨h1, base, cap, h2, h3⟩ := H
    simp only [frzV]
    split
    · rename_i e; subst e
      split
      · rename_i hc
        obtain ⟨rfl, hi⟩ := hc
        have hlen : ((es.drop i).take n).length = n := by simp; omega
        simp only [relV, hlen]
        rcases h3 with ⟨h3, h4⟩ | ⟨c, o, s, h3, h4, h5, _, _⟩
        · subst h3
          exact ⟨base, cap, h2, Nat.zero_le _, .inl (by simp)⟩
        · refine ⟨base, cap, h2, h5, ?_⟩
          rcases hb with ⟨k1, _⟩ | ⟨c', o', k1, k2, k3⟩
          · rw [k1] at h3; cases h3
          · rw [k1] at h3; cases h3
            exact .inr ⟨c, _, h4, k2, relR_take n (relR_drop i k3 (by omega))⟩
      · simp [relV]
    · simp only [relV]; exact ⟨h1, base, cap, h2, h3⟩
  | .cptr cs, v, H => by
    simp only [relV] at H
    simp only [frzV, relV]
    obtain ⟨c, o, h1, h2, h3⟩ := H
    exact ⟨c, o, h1, hI _ h2, frzM_rel hI hb cs c o h3⟩
  | .tsl s l, v, H => by
    simp only [relV] at H
    simp only [frzV, relV, frzR_length]
    obtain ⟨base, cap, h1, h2, h3⟩ := H
    refine ⟨base, cap, h1, h2, ?_⟩
    rcases h3 with h3 | ⟨c, o, h3, h4, h5⟩
    · subst h3; exact .inl rfl
    · exact .inr ⟨c, o, h3, hI _ h4, frzR_rel hI hb s l c o h5⟩
  | .fn f fs cs, v, H => by
    simp only [relV] at H
    simp only [frzV, relV]
    obtain ⟨fs', cs', h1, h2, h3⟩ := H
    exact ⟨fs', cs', h1, frzL_rel hI hb fs fs' h2, frzL_rel hI hb cs cs' h3⟩
  | .iface t x, v, H => by
    simp only [relV] at H
    simp only [frzV, relV]
    obtain ⟨y, h1, h2⟩ := H
    exact ⟨y, h1, frzV_rel hI hb x y h2⟩
  | .agg cs, v, H => by
    simp only [relV] at H
    simp only [frzV, relV]
    obtain ⟨vs, h1, h2⟩ := H
    exact ⟨vs, h1, frzL_rel hI hb cs vs h2⟩
  | .tup cs, v, H => by
    simp only [relV] at H
    simp only [frzV, relV]
    obtain ⟨vs, h1, h2⟩ := H
    exact ⟨vs, h1, frzL_rel hI hb cs vs h2⟩
theorem frzM_rel (hI : ∀ c, I c → I' c) (hb : (φ b = none ∧ es = []) ∨ ∃ c o, φ b = some (c, o) ∧ I' c ∧ relR h φ I' A sz es c o) : ∀ (cs : List AV) (c o : Nat), relM h φ I A cs c o → relM h φ I' A (frzL b sz es cs) c o
  | [], _, _, _ => by simp [frzL, relM]
  | x :: cs, c, o, H => by
    simp only [relM] at H
    simp only [frzL, relM]
    obtain ⟨⟨v, h1, h0, h2⟩, h3⟩ := H
    exact ⟨⟨v, h1, h0, frzV_rel hI hb x v h2⟩, frzM_rel hI hb cs c (o + 1) h3⟩
theorem frzR_rel (hI : ∀ c, I c → I' c) (hb : (φ b = none ∧ es = []) ∨ ∃ c o, φ b = some (c, o) ∧ I' c ∧ relR h φ I' A sz es c o) (s : Nat) : ∀ (l : List (List AV)) (c o : Nat), relR h φ I A s l c o → relR h φ I' A s (frzR b sz es l) c o
  | [], _, _, _ => by simp [frzR, relR]
  | e :: l, c, o, H => by
    simp only [relR] at H
    simp only [frzR, relR, frzL_length]
    exact ⟨H.1, frzM_rel hI hb e c o H.2.1, frzR_rel hI hb s l c (o + s) H.2.2⟩
theorem frzL_rel (hI : ∀ c, I c → I' c) (hb : (φ b = none ∧ es = []) ∨ ∃ c o, φ b = some (c, o) ∧ I' c ∧ relR h φ I' A sz es c o) : ∀ (l : List AV) (vs : List Value), relL h φ I A l vs → relL h φ I' A (frzL b sz es l) vs
  | [], vs, H => by simpa [frzL, relL] using H
  | x :: l, vs, H => by
    simp only [relL] at H
    simp only [frzL, relL]
    obtain ⟨v, r, h1, h2, h3⟩ := H
    exact ⟨v, r, h1, frzV_rel hI hb x v h2, frzL_rel hI hb l r h3⟩
end

theorem frzE_rel (hI : ∀ c, I c → I' c) (hb : (φ b = none ∧ es = []) ∨ ∃ c o, φ b = some (c, o) ∧ I' c ∧ relR h φ I' A sz es c o) : ∀ (l : List (AV × AV)) (vs : List MapEntry), relE h φ I A l vs → relE h φ I' A (frzE b sz es l) vs
  | [], vs, H => by simpa [frzE, relE] using H
  | (k, x) :: l, vs, H => by
    simp only [relE] at H
    simp only [frzE, relE]
    obtain ⟨e, r, h1, h2, h3, h4⟩ := H
    exact ⟨e, r, h1, frzV_rel hI hb k _ h2, frzV_rel hI hb x _ h3, frzE_rel hI hb l r h4⟩

/-- The state where the block 'b' is written no more. -/
def ST.frz (S : ST) (b sz : Nat) (es : List (List AV)) : ST := ⟨mapS (frzV b sz es) S.vars, mapS (frzB b sz es) (del b S.heap), S.next⟩

theorem RelS.frz {X : Ctx} {S : ST} {nt : Nat} {a : Act} (R : RelS X φ I S nt a h) (hb : get S.heap b = some (.rows sz es)) : ∃ I', RelS X φ I' (S.frz b sz es) nt a h := by
  have hA : (S.frz b sz es).as.A = S.as.A := by funext x; simp [ST.as, ST.frz, AS.A]
  have hR := (R.H.heap b _ hb).2
  simp only [relB] at hR
  have hget : ∀ b' blk, get (S.frz b sz es).as.heap b' = some blk → b' ≠ b ∧ ∃ blk0, get S.heap b' = some blk0 ∧ blk = frzB b sz es blk0 := fun b' blk h1 => by
    have h1' : get (mapS (frzB b sz es) (del b S.heap)) b' = some blk := h1
    rw [get_mapS, get_del] at h1'
    split at h1'
    · simp at h1'
    · rename_i hne
      simp only [Option.map_eq_some_iff] at h1'
      obtain ⟨x, k1, k2⟩ := h1'
      exact ⟨fun e => hne e.symm, x, k1, k2.symm⟩
  have hsome : ∀ b', get (S.frz b sz es).as.heap b' ≠ none → b' ≠ b ∧ get S.heap b' ≠ none := fun b' h1 => by
    cases h2 : get (S.frz b sz es).as.heap b' with
    | none => exact absurd h2 h1
    | some blk => obtain ⟨k1, x, k2, _⟩ := hget _ _ h2; exact ⟨k1, by rw [k2]; simp⟩
  let I' : Nat → Prop := fun c => I c ∨ ∃ o, φ b = some (c, o)
  have hI : ∀ c, I c → I' c := fun c hc => .inl hc
  have hrel0 : (φ b = none ∧ es = []) ∨ ∃ c o, φ b = some (c, o) ∧ I' c ∧ relR h φ I' S.as.A sz es c o := by
    rcases hR with hR | ⟨c, o, cs, el, h1, h2, h3⟩
    · exact .inl hR
    · refine .inr ⟨c, o, h1, .inr ⟨o, h1⟩, ?_⟩
      exact relR_mono (⟨fun _ _ _ _ h => h, fun _ _ h => h, fun _ _ => rfl, hI, fun _ h => h⟩ : Ext h φ I S.as.A h φ I' S.as.A) sz es c o (fun _ _ h => h) h3
  refine ⟨I', ⟨?_, ⟨fun x v hx => ?_, R.A.nt, R.A.defers⟩⟩⟩
  · refine ⟨fun b' blk h1 => ?_, fun b' blk c o h1 h2 => ?_, fun b1 b2 c o c' o' h1 h2 h3 _ h5 h6 => ?_, fun c hc => ?_, fun c hc => ?_, fun c hc => hI _ (R.H.isup c hc), R.H.frame, R.H.size, R.H.sizes, R.H.agree, R.H.n0⟩
    · obtain ⟨_, blk0, k1, rfl⟩ := hget _ _ h1
      obtain ⟨k2, k3⟩ := R.H.heap b' blk0 k1
      rw [hA]
      refine ⟨k2, ?_⟩
      cases blk0 with
      | rows s l =>
        simp only [relB] at k3
        simp only [frzB, relB]
        rcases k3 with ⟨k3, k4⟩ | ⟨c, o, cs, el, k3, k4, k5⟩
        · subst k4; exact .inl ⟨k3, rfl⟩
        · exact .inr ⟨c, o, cs, el, k3, k4, frzR_rel hI hrel0 s l c o k5⟩
      | mp l =>
        simp only [relB] at k3
        simp only [frzB, relB]
        obtain ⟨c, ees, clk, k4, k5, k6⟩ := k3
        exact ⟨c, ees, clk, k4, k5, frzE_rel hI hrel0 l _ k6⟩
    · obtain ⟨hne, blk0, k1, rfl⟩ := hget _ _ h1
      obtain ⟨k2, k3, k4⟩ := R.H.live b' blk0 c o k1 h2
      refine ⟨k2, fun hc => ?_, k4⟩
      rcases hc with hc | ⟨o', hc⟩
      · exact k3 hc
      · exact R.H.inj b' b c o c o' (by rw [show get S.as.heap b' = some blk0 from k1]; simp) (by rw [show get S.as.heap b = _ from hb]; simp) hne (.inl ⟨rfl, rfl⟩) h2 hc rfl
    · exact R.H.inj b1 b2 c o c' o' (hsome _ h1).2 (hsome _ h2).2 h3 (.inl ⟨rfl, rfl⟩) h5 h6
    · rcases hc with hc | ⟨o, hc⟩
      · exact R.H.idom c hc
      · exact (R.H.live b _ c o hb hc).1
    · rcases hc with hc | ⟨o, hc⟩
      · exact R.H.isub c hc
      · exact .inr (R.H.live b _ c o hb hc).2.2
  · have hx' : get (mapS (frzV b sz es) S.vars) x = some v := hx
    rw [get_mapS] at hx'
    simp only [Option.map_eq_some_iff] at hx'
    obtain ⟨v0, k1, rfl⟩ := hx'
    rw [hA]
    exact frzV_rel hI hrel0 v0 _ (R.A.vars x v0 k1)
end

theorem LWP_frz {P : Program} {nt n0 : Nat} {S : ST} {Q : Exit → ST → Prop} {lc : LCode} (b : Nat) {sz : Nat} {es : List (List AV)} (hb : get S.heap b = some (.rows sz es)) (h : LWP P nt n0 lc (S.frz b sz es) Q) : LWP P nt n0 lc S Q :=
  fun c hc X φ I a w hn R => by
    obtain ⟨I', R'⟩ := R.frz hb
    exact h c hc X φ I' a w hn R'

mutual
/-- What holds no block is not touched. -/
theorem frzV_pure (b sz : Nat) (es : List (List AV)) : ∀ x : AV, x.pure = true → frzV b sz es x = x
  | .any, _ => rfl
  | .bool _, _ => rfl
  | .int _ _, _ => rfl
  | .str _, _ => rfl
  | .nilp, _ => rfl
  | .nils, _ => rfl
  | .nilm, _ => rfl
  | .nilf, _ => rfl
  | .nili, _ => rfl
  | .map _, _ => rfl
  | .ptr _ _ _ _, h => by simp [AV.pure] at h
  | .sl _ _ _ _, h => by simp [AV.pure] at h
  | .cptr cs, h => by simp only [AV.pure] at h; simp only [frzV, frzL_pure b sz es cs h]
  | .tsl _ l, h => by simp only [AV.pure] at h; simp only [frzV, frzR_pure b sz es l h]
  | .fn _ fs cs, h => by simp only [AV.pure, Bool.and_eq_true] at h; simp only [frzV, frzL_pure b sz es fs h.1, frzL_pure b sz es cs h.2]
  | .iface _ v, h => by simp only [AV.pure] at h; simp only [frzV, frzV_pure b sz es v h]
  | .agg cs, h => by simp only [AV.pure] at h; simp only [frzV, frzL_pure b sz es cs h]
  | .tup cs, h => by simp only [AV.pure] at h; simp only [frzV, frzL_pure b sz es cs h]
theorem frzL_pure (b sz : Nat) (es : List (List AV)) : ∀ l : List AV, pureL l = true → frzL b sz es l = l
  | [], _ => rfl
  | x :: l, h => by simp only [pureL, Bool.and_eq_true] at h; simp only [frzL, frzV_pure b sz es x h.1, frzL_pure b sz es l h.2]
theorem frzR_pure (b sz : Nat) (es : List (List AV)) : ∀ l : List (List AV), pureR l = true → frzR b sz es l = l
  | [], _ => rfl
  | x :: l, h => by simp only [pureR, Bool.and_eq_true] at h; simp only [frzR, frzL_pure b sz es x h.1, frzR_pure b sz es l h.2]
end
end Go.AM

/- Steps of a walk over told states. -/
namespace Go.AM
section
variable {P : Program} {nt n0 : Nat} {S T : ST} {Q : Exit → ST → Prop}

/-- One operation that is no call. -/
def stepS (o : LOper) (S : ST) : Option ST := (gd S.vars o.guard).bind fun b => match b with
  | false => some { S with vars := putV o.dst (.tup []) S.vars }
  | true => (opEff S.heap S.vars S.next o.op).map (S.app o.dst)
def stepsS : List LOper → ST → Option ST
  | [], S => some S
  | o :: os, S => (stepS o S).bind (stepsS os)

theorem rgnS_step {o : LOper} {os : List LOper} {S' : ST} {K : ST → Prop} (h : stepS o S = some S') (k : rgnS P os S' K) : rgnS P (o :: os) S K := by
  unfold stepS at h
  simp only [Option.bind_eq_some_iff] at h
  obtain ⟨b, h1, h2⟩ := h
  simp only [rgnS, h1, Option.sat]
  cases b with
  | false => cases h2; exact k
  | true =>
    simp only [Option.map_eq_some_iff] at h2
    obtain ⟨e, h2, rfl⟩ := h2
    obtain ⟨d, op, g⟩ := o
    cases op <;> first | (simp only [h2]; exact k) | (simp [opEff] at h2)

theorem rgnS_steps : ∀ {l os : List LOper} {S S' : ST} {K : ST → Prop}, stepsS l S = some S' → rgnS P os S' K → rgnS P (l ++ os) S K
  | [], _, S, S', K, h, k => by cases h; exact k
  | o :: l, os, S, S', K, h, k => by
    simp only [stepsS, Option.bind_eq_some_iff] at h
    obtain ⟨S1, h1, h2⟩ := h
    exact rgnS_step h1 (rgnS_steps h2 k)

theorem LWP_run {ls : List LOper} (h : stepsS ls S = some T) (k : Q .normal T) : LWP P nt n0 (.region ls false) S Q :=
  LWP_region (by have := rgnS_steps (P := P) (os := []) (K := fun S' => Q .normal S') h k; rwa [List.append_nil] at this)

/-- The operations in front of a call. -/
theorem rgnS_pre (n : Nat) {ls : List LOper} {K : ST → Prop} (h : stepsS (ls.take n) S = some T) (k : rgnS P (ls.drop n) T K) : rgnS P ls S K := by
  have := rgnS_steps h k
  rwa [List.take_append_drop] at this

/-- A call with trees, its answer a tree. -/
theorem rgnS_call {d : Option Nat} {q : Bool} {f : LArg} {xs : List LArg} {os : List LOper} {K : ST → Prop} {g : Nat} {first caps args : List AV} {v : AV} (hc : ACalls P g args [] 0 (fun r _ _ => r = v)) (hf : f.ev S.vars = .fn g first caps) (ha : first ++ xs.map (·.ev S.vars) ++ caps = args)
    (hp : pureL args = true) (hv : v.pure = true) {gg : Option (Nat × Bool)} (hg : gd S.vars gg = some true) (k : rgnS P os ⟨putV d v S.vars, S.heap, S.next⟩ K) : rgnS P (⟨d, .call q f xs, gg⟩ :: os) S K := by
  simp only [rgnS, hg, Option.sat, hf]
  rw [ha]
  refine CallS.of_pure hc hp fun r H' n' hr => ?_
  subst hr
  exact ⟨hv, k⟩

theorem LWP_reg {ls : List LOper} (h : ∀ K : ST → Prop, (∀ S', Q .normal S' → K S') → rgnS P ls S K) : LWP P nt n0 (.region ls false) S Q :=
  LWP_region (h _ fun _ h => h)

theorem LWP_regD {ls : List LOper} (h : ∀ K : AS → Prop, (∀ S' : AS, Q .normal (S'.fin ls.length) → K S') → rgnD P ls 0 S.as K) : LWP P nt n0 (.region ls true) S Q :=
  LWP_drawn (h _ fun _ h => h)

theorem app_val (d : Option Nat) (v : AV) : S.app d { val := v } = ⟨putV d v S.vars, S.heap, S.next⟩ := rfl
theorem app_new (d : Option Nat) (v : AV) (b : Blk) : S.app d { val := v, new := some b } = ⟨putV d v S.vars, ins S.next b S.heap, S.next + 1⟩ := rfl
theorem app_upd (d : Option Nat) (v : AV) (b : Nat × Blk) : S.app d { val := v, upd := some b } = ⟨putV d v S.vars, ins b.1 b.2 S.heap, S.next⟩ := rfl
theorem app_kill (d : Option Nat) (v : AV) (b : Blk) (x : Nat) : S.app d { val := v, new := some b, kill := some x } = ⟨putV d v S.vars, ins S.next b (del x S.heap), S.next + 1⟩ := rfl

/-- What a body's end says. -/
def retQ (res : List LRes) (v : AV) : Exit → ST → Prop
  | .normal, S => ∃ vs, resV S res = some vs ∧ wkV (retV vs) v
  | .ret, S => ∃ vs, resV S res = some vs ∧ wkV (retV vs) v
  | _, _ => False

/-- A call of a body, its answer a tree. -/
theorem pure_body {f : Nat} {lf : LFunc} {args : List AV} {v : AV} (hf : okFunc P f lf = true) (hn : args.length = lf.np) (h : LWP P lf.nt 0 lf.body ⟨parV 0 args, [], 0⟩ (retQ lf.res v)) : ACalls P f args [] 0 (fun r _ _ => r = v) := by
  have H : ACalls P f args [] 0 (fun r _ _ => wkV r v) := by
    refine ACalls_of_body hf hn (LWP.mono h fun e S' he => ?_)
    cases e with
    | normal => obtain ⟨vs, h1, h2⟩ := he; simp only [bodyQ, h1]; exact h2
    | ret => obtain ⟨vs, h1, h2⟩ := he; simp only [bodyQ, h1]; exact h2
    | _ => exact he.elim
  refine ⟨H.1, fun w F φ I cargs R ha => (H.2 w F φ I cargs R ha).mono ?_⟩
  rintro e w' ⟨cv, r, H', n', φ', I', k1, k2, k3, k4, k5⟩
  exact ⟨cv, v, H', n', φ', I', k1, k2, k4 _ _ _ _ _ k3, rfl, k5⟩

theorem retQ_ret {res : List LRes} {v : AV} (vs : List AV) (h : resV S res = some vs) (hv : wkV (retV vs) v) : LWP P nt n0 .ret S (retQ res v) := LWP_ret ⟨vs, h, hv⟩

end

def leH : Heap → Heap → Prop
  | [], _ => True
  | (x, v) :: l, m => get m x = some v ∧ leH l m
theorem leH_spec : ∀ {l m : Heap}, leH l m → ∀ x v, get l x = some v → get m x = some v
  | [], _, _, x, v, h => by simp [get] at h
  | (k, w) :: l, m, H, x, v, h => by
    simp only [get] at h
    split at h
    · rename_i e; subst e; cases h; exact H.1
    · exact leH_spec H.2 x v h
theorem ST.le.mk2 {T S : ST} (hv : leV T.vars S.vars) (hh : leH T.heap S.heap) (hn : S.next = T.next) : T.le S := ⟨leV_spec hv, leH_spec hh, hn⟩

theorem nlt_self (n k : Nat) : (n + k < n) = False := by simp
theorem nne_self (n k : Nat) : (n + (k + 1) = n) = False := by simp
theorem nne_self' (n k : Nat) : (n = n + (k + 1)) = False := by simp
theorem wrap_i64 {n : Int} (h1 : -9223372036854775808 ≤ n) (h2 : n ≤ 9223372036854775807) : IntKind.i64.wrap n = n := by
  unfold IntKind.wrap
  simp [IntKind.signed, IntKind.bits]
  omega

theorem wrap_nat {n : Nat} (h : n ≤ 9223372036854775807) : IntKind.i64.wrap (n : Int) = n := wrap_i64 (by omega) (by omega)
theorem wrap_succ {n : Nat} (h : n < 9223372036854775807) : IntKind.i64.wrap ((n : Int) + 1) = ((n + 1 : Nat) : Int) := by rw [wrap_i64 (by omega) (by omega)]; omega
end Go.AM

/- Steps of a drawn region. -/
namespace Go.AM

/-- One operation of a drawn region that is no call. -/
def stepD (l : LOper) (i : Nat) (S : AS) : Option AS := (gd S.vars l.guard).bind fun b => match b with
  | false => some (S.appD l i { val := .tup [] })
  | true => (grd (get S.used (S.next + i)).isNone (dEffF S i l.op)).map (S.appD l i)
def stepsD : List LOper → Nat → AS → Option AS
  | [], _, S => some S
  | l :: ls, i, S => (stepD l i S).bind (stepsD ls (i + 1))

section
variable {P : Program} {nt n0 : Nat} {S T : AS}

theorem rgnD_step {l : LOper} {ls : List LOper} {i : Nat} {K : AS → Prop} (h : stepD l i S = some T) (k : rgnD P ls (i + 1) T K) : rgnD P (l :: ls) i S K := by
  unfold stepD at h
  simp only [Option.bind_eq_some_iff] at h
  obtain ⟨b, h1, h2⟩ := h
  simp only [rgnD, h1, Option.sat]
  cases b with
  | false => cases h2; exact k
  | true =>
    simp only [Option.map_eq_some_iff] at h2
    obtain ⟨e, h2, rfl⟩ := h2
    obtain ⟨h3, h4⟩ := grd_some h2
    refine ⟨by simpa using h3, ?_⟩
    obtain ⟨d, op, g⟩ := l
    cases op <;> first | (simp only [h4]; exact k) | (simp [dEffF, LOp.cls] at h4)

theorem rgnD_steps : ∀ {l ls : List LOper} {i : Nat} {S T : AS} {K : AS → Prop}, stepsD l i S = some T → rgnD P ls (i + l.length) T K → rgnD P (l ++ ls) i S K
  | [], _, i, S, T, K, h, k => by cases h; exact k
  | o :: l, ls, i, S, T, K, h, k => by
    simp only [stepsD, Option.bind_eq_some_iff] at h
    obtain ⟨S1, h1, h2⟩ := h
    exact rgnD_step h1 (rgnD_steps h2 (by rw [show i + 1 + l.length = i + (o :: l).length by simp; omega]; exact k))

theorem LWP_runD {S : ST} {T : AS} {U : ST} {Q : Exit → ST → Prop} {ls : List LOper} (h : stepsD ls 0 S.as = some T) (hU : T.fin ls.length = U) (k : Q .normal U) : LWP P nt n0 (.region ls true) S Q :=
  LWP_drawn (by subst hU; have := rgnD_steps (P := P) (ls := []) (K := fun S' => Q .normal (S'.fin ls.length)) h k; rwa [List.append_nil] at this)

theorem rgnD_pre (n : Nat) {ls : List LOper} {i : Nat} {K : AS → Prop} (h : stepsD (ls.take n) i S = some T) (k : rgnD P (ls.drop n) (i + (ls.take n).length) T K) : rgnD P ls i S K := by
  have := rgnD_steps h k
  rwa [List.take_append_drop] at this

theorem appD_val (l : LOper) (i : Nat) (v : AV) : S.appD l i { val := v } = bif l.op.cls == 2 then ⟨putV l.dst v S.vars, delAll S.dead S.heap, S.next, S.used, []⟩ else ⟨putV l.dst v S.vars, S.heap, S.next, S.used, S.dead⟩ := by
  simp only [AS.appD]; by_cases h : l.op.cls = 2
  · simp [h, AS.app, AS.flush]
  · rw [beq_false_of_ne h]; simp [h, AS.app]
theorem appD_new (l : LOper) (i : Nat) (v : AV) (b : Blk) : S.appD l i { val := v, new := some b } = bif l.op.cls == 2 then ⟨putV l.dst v S.vars, ins (S.next + i) b (delAll S.dead S.heap), S.next, ins (S.next + i) () S.used, []⟩ else ⟨putV l.dst v S.vars, ins (S.next + i) b S.heap, S.next, ins (S.next + i) () S.used, S.dead⟩ := by
  simp only [AS.appD]; by_cases h : l.op.cls = 2
  · simp [h, AS.app, AS.flush]
  · rw [beq_false_of_ne h]; simp [h, AS.app]
theorem appD_kill (l : LOper) (i : Nat) (v : AV) (b : Blk) (x : Nat) : S.appD l i { val := v, new := some b, kill := some x } = bif l.op.cls == 2 then ⟨putV l.dst v S.vars, ins (S.next + i) b (delAll S.dead S.heap), S.next, ins (S.next + i) () S.used, ins x () []⟩ else ⟨putV l.dst v S.vars, ins (S.next + i) b S.heap, S.next, ins (S.next + i) () S.used, ins x () S.dead⟩ := by
  simp only [AS.appD]; by_cases h : l.op.cls = 2
  · simp [h, AS.app, AS.flush, khp, kdd]
  · rw [beq_false_of_ne h]; simp [h, AS.app, khp, kdd]
theorem appD_upd (l : LOper) (i : Nat) (v : AV) (b : Nat × Blk) : S.appD l i { val := v, upd := some b } = bif l.op.cls == 2 then ⟨putV l.dst v S.vars, ins b.1 b.2 (delAll S.dead S.heap), S.next, S.used, []⟩ else ⟨putV l.dst v S.vars, ins b.1 b.2 S.heap, S.next, S.used, S.dead⟩ := by
  simp only [AS.appD]; by_cases h : l.op.cls = 2
  · simp [h, AS.app, AS.flush]
  · rw [beq_false_of_ne h]; simp [h, AS.app]

theorem rgnD_call {i : Nat} {d : Option Nat} {q : Bool} {f : LArg} {xs : List LArg} {os : List LOper} {K : AS → Prop} {g : Nat} {first caps args : List AV} {v : AV} (hc : ACalls P g args [] 0 (fun r _ _ => r = v)) (hf : f.ev S.vars = .fn g first caps) (ha : first ++ xs.map (·.ev S.vars) ++ caps = args)
    (hp : pureL args = true) (hv : v.pure = true) {gg : Option (Nat × Bool)} (hg : gd S.vars gg = some true) (hu : get S.used (S.next + i) = none) (k : rgnD P os (i + 1) ⟨putV d v S.vars, S.heap, S.next, S.used, S.dead⟩ K) : rgnD P (⟨d, .call q f xs, gg⟩ :: os) i S K := by
  simp only [rgnD, hg, Option.sat, hf]
  rw [ha]
  exact ⟨hu, v, [], QC.of_pure hc hp hv, fun b blk h => by simp [get] at h, by rw [appD_val]; exact k⟩

end
end Go.AM

/- Arguments, read by their types. -/
namespace Go.AM
section
variable {P : Program} {n : Nat} {t e : TypeId} {cs : List AV} {a : AV}

theorem wtV_slice {sz : Nat} (hu : P.underlying t = some (.slice e)) (hs : P.cellsOf e = sz) (h0 : sz ≠ 0) (h : wtV P n t cs) : ∃ m es, cs = [.tsl sz es] ∧ es.length ≤ maxLen ∧ ∀ x ∈ es, x.length = sz ∧ wtV P m e x := by
  cases n with
  | zero => exact h.elim
  | succ n =>
    subst hs
    simp only [wtV, hu] at h
    rw [if_neg h0] at h
    obtain ⟨es, h1, h2, h3⟩ := h
    exact ⟨n, es, h1, h2, h3⟩

theorem wtV_int {k : IntKind} (hu : P.underlying t = some (.int k)) (h : wtV P n t cs) : ∃ m, cs = [.int k m] ∧ k.min ≤ m ∧ m ≤ k.max := by
  cases n with
  | zero => exact h.elim
  | succ n => simpa only [wtV, hu] using h

theorem wtV_bool (hu : P.underlying t = some .bool) (h : wtV P n t cs) : ∃ b, cs = [.bool b] := by
  cases n with
  | zero => exact h.elim
  | succ n => simpa only [wtV, hu] using h

theorem wtV_str (hu : P.underlying t = some .string) (h : wtV P n t cs) : ∃ s, cs = [.str s] ∧ s.size ≤ maxLen := by
  cases n with
  | zero => exact h.elim
  | succ n => simpa only [wtV, hu] using h

theorem wtV_struct {fs : Array Field} (hu : P.underlying t = some (.struct fs)) (h : wtV P n t cs) : ∃ m, cs.length = P.cellsOf t ∧ ∀ f ∈ fs.toList, wtV P m f.type ((cs.drop f.offset).take (P.cellsOf f.type)) := by
  cases n with
  | zero => exact h.elim
  | succ n => exact ⟨n, by simpa only [wtV, hu] using h⟩

theorem wtA_slice (hu : P.underlying t = some (.slice e)) (h : wtA P n t a) : wtV P n t [a] := by
  simpa only [wtA, hu] using h
theorem wtA_int {k : IntKind} (hu : P.underlying t = some (.int k)) (h : wtA P n t a) : ∃ m, a = .int k m ∧ k.min ≤ m ∧ m ≤ k.max := by
  have h' : wtV P n t [a] := by simpa only [wtA, hu] using h
  obtain ⟨m, h1, h2⟩ := wtV_int hu h'
  cases h1
  exact ⟨m, rfl, h2⟩
theorem wtA_str (hu : P.underlying t = some .string) (h : wtA P n t a) : ∃ s, a = .str s ∧ s.size ≤ maxLen := by
  have h' : wtV P n t [a] := by simpa only [wtA, hu] using h
  obtain ⟨m, h1, h2⟩ := wtV_str hu h'
  cases h1
  exact ⟨m, rfl, h2⟩
theorem wtA_bool (hu : P.underlying t = some .bool) (h : wtA P n t a) : ∃ b, a = .bool b := by
  have h' : wtV P n t [a] := by simpa only [wtA, hu] using h
  obtain ⟨m, h1⟩ := wtV_bool hu h'
  cases h1
  exact ⟨m, rfl⟩
theorem wtA_struct {fs : Array Field} (hu : P.underlying t = some (.struct fs)) (h : wtA P n t a) : ∃ cs, a = .agg cs ∧ wtV P n t cs := by
  simpa only [wtA, hu] using h

theorem map_of {α β : Type} {f : α → β} {C : α → Prop} : ∀ {es : List β}, (∀ x ∈ es, ∃ y, x = f y ∧ C y) → ∃ ys : List α, es = ys.map f ∧ ∀ y ∈ ys, C y
  | [], _ => ⟨[], rfl, by simp⟩
  | x :: es, h => by
    obtain ⟨y, h1, h2⟩ := h x (by simp)
    obtain ⟨ys, h3, h4⟩ := map_of (f := f) (C := C) (es := es) fun z hz => h z (List.mem_cons_of_mem _ hz)
    exact ⟨y :: ys, by rw [h1, h3]; rfl, by simpa using ⟨h2, h4⟩⟩

theorem len3 {cs : List AV} (h : cs.length = 3) : ∃ a b c, cs = [a, b, c] := by
  match cs, h with
  | [a, b, c], _ => exact ⟨a, b, c, rfl⟩
end
end Go.AM

/- All that a state holds becomes trees at once. -/
namespace Go.AM

def mapO {α β : Type} (f : α → Option β) : List α → Option (List β)
  | [] => some []
  | x :: l => match f x with
    | some y => match mapO f l with
      | some m => some (y :: m)
      | none => none
    | none => none

theorem mapO_cons {α β : Type} {f : α → Option β} {x : α} {l : List α} {r : List β} (h : mapO f (x :: l) = some r) : ∃ y m, f x = some y ∧ mapO f l = some m ∧ r = y :: m := by
  simp only [mapO] at h
  cases h1 : f x with
  | none => simp [h1] at h
  | some y =>
    cases h2 : mapO f l with
    | none => simp [h1, h2] at h
    | some m => simp [h1, h2] at h; exact ⟨y, m, rfl, rfl, h.symm⟩

theorem mapO_length {α β : Type} {f : α → Option β} : ∀ {l : List α} {r : List β}, mapO f l = some r → r.length = l.length
  | [], r, h => by simp [mapO] at h; subst h; rfl
  | x :: l, r, h => by
    obtain ⟨y, m, _, h2, rfl⟩ := mapO_cons h
    simp [mapO_length h2]

/-- A value read to its ground. -/
def deepV (H : Heap) : Nat → AV → Option AV
  | 0, _ => none
  | n + 1, v => match v with
    | .ptr sz b i j => match get H b with
      | some (.rows sz' es) => grd (decide (sz' = sz) && decide (i < es.length)) ((mapO (deepV H n) ((es.getD i []).drop j)).map .cptr)
      | _ => none
    | .sl sz b i k => match get H b with
      | some (.rows sz' es) => grd (decide (sz' = sz) && decide (i + k ≤ es.length)) ((mapO (mapO (deepV H n)) ((es.drop i).take k)).map (.tsl sz))
      | _ => none
    | .map _ => none
    | .cptr cs => (mapO (deepV H n) cs).map .cptr
    | .tsl sz es => (mapO (mapO (deepV H n)) es).map (.tsl sz)
    | .fn f fs cs => (mapO (deepV H n) fs).bind fun a => (mapO (deepV H n) cs).map (.fn f a)
    | .iface t x => (deepV H n x).map (.iface t)
    | .agg cs => (mapO (deepV H n) cs).map .agg
    | .tup cs => (mapO (deepV H n) cs).map .tup
    | v => some v

theorem deepV_sl {H : Heap} {n sz b i k : Nat} {es r : List (List AV)} (hg : get H b = some (.rows sz es)) (hi : i + k ≤ es.length) (h : mapO (mapO (deepV H n)) ((es.drop i).take k) = some r) : deepV H (n + 1) (.sl sz b i k) = some (.tsl sz r) := by
  simp only [deepV, hg, h]
  simp [grd, hi]

section
variable {h : Array Obj} {φ : Nat → Option (Nat × Nat)} {I A : Nat → Prop} {H : Heap}

theorem mapO_relM {f : AV → Option AV} (hf : ∀ v u c, f v = some u → relV h φ I A v c → relV h φ I A u c) : ∀ (l r : List AV) (c o : Nat), mapO f l = some r → relM h φ I A l c o → relM h φ I A r c o
  | [], r, c, o, hr, _ => by simp [mapO] at hr; subst hr; simp [relM]
  | x :: l, r, c, o, hr, H => by
    obtain ⟨y, m, h1, h2, rfl⟩ := mapO_cons hr
    simp only [relM] at H ⊢
    obtain ⟨⟨v, k1, k2, k3⟩, k4⟩ := H
    exact ⟨⟨v, k1, k2, hf _ _ _ h1 k3⟩, mapO_relM hf l m c (o + 1) h2 k4⟩

theorem mapO_relL {f : AV → Option AV} (hf : ∀ v u c, f v = some u → relV h φ I A v c → relV h φ I A u c) : ∀ (l r : List AV) (vs : List Value), mapO f l = some r → relL h φ I A l vs → relL h φ I A r vs
  | [], r, vs, hr, H => by simp [mapO] at hr; subst hr; exact H
  | x :: l, r, vs, hr, H => by
    obtain ⟨y, m, h1, h2, rfl⟩ := mapO_cons hr
    simp only [relL] at H ⊢
    obtain ⟨v, s, e, k3, k4⟩ := H
    exact ⟨v, s, e, hf _ _ _ h1 k3, mapO_relL hf l m s h2 k4⟩

theorem mapO_relR {f : AV → Option AV} (hf : ∀ v u c, f v = some u → relV h φ I A v c → relV h φ I A u c) (sz : Nat) : ∀ (l r : List (List AV)) (c o : Nat), mapO (mapO f) l = some r → relR h φ I A sz l c o → relR h φ I A sz r c o
  | [], r, c, o, hr, _ => by simp [mapO] at hr; subst hr; simp [relR]
  | x :: l, r, c, o, hr, H => by
    obtain ⟨y, m, h1, h2, rfl⟩ := mapO_cons hr
    simp only [relR] at H ⊢
    exact ⟨by rw [mapO_length h1]; exact H.1, mapO_relM hf x y c o h1 H.2.1, mapO_relR hf sz l m c (o + sz) h2 H.2.2⟩

theorem deepV_rel (hb : ∀ b sz es, get H b = some (.rows sz es) → (φ b = none ∧ es = []) ∨ ∃ c o, φ b = some (c, o) ∧ I c ∧ relR h φ I A sz es c o) : ∀ (n : Nat) (v u : AV) (c : Value), deepV H n v = some u → relV h φ I A v c → relV h φ I A u c
  | 0, v, u, c, hd, _ => by simp [deepV] at hd
  | n + 1, v, u, c, hd, hr => by
    have ih := deepV_rel hb n
    cases v with
    | ptr sz b i j =>
      simp only [deepV] at hd
      split at hd
      · rename_i sz' es hg
        obtain ⟨h1, h2⟩ := grd_some hd
        simp only [Bool.and_eq_true, decide_eq_true_eq] at h1
        obtain ⟨rfl, hi⟩ := h1
        simp only [Option.map_eq_some_iff] at h2
        obtain ⟨r, h2, rfl⟩ := h2
        simp only [relV] at hr ⊢
        obtain ⟨_, c1, o, k1, k2⟩ := hr
        rcases hb b _ es hg with ⟨q1, _⟩ | ⟨c2, o2, q1, q2, q3⟩
        · rw [q1] at k1; cases k1
        · rw [q1] at k1; cases k1
          exact ⟨c1, _, k2, q2, mapO_relM ih _ _ _ _ h2 (relM_drop j (relR_get q3 hi).2)⟩
      · cases hd
    | sl sz b i k =>
      simp only [deepV] at hd
      split at hd
      · rename_i sz' es hg
        obtain ⟨h1, h2⟩ := grd_some hd
        simp only [Bool.and_eq_true, decide_eq_true_eq] at h1
        obtain ⟨rfl, hi⟩ := h1
        simp only [Option.map_eq_some_iff] at h2
        obtain ⟨r, h2, rfl⟩ := h2
        have hlen : r.length = k := by rw [mapO_length h2]; simp; omega
        simp only [relV, hlen] at hr ⊢
        obtain ⟨_, base, cap, k1, k2⟩ := hr
        rcases k2 with ⟨k2, k3⟩ | ⟨c1, o, s, k2, k3, k4, _, _⟩
        · subst k2
          have : r = [] := List.length_eq_zero_iff.1 hlen
          exact ⟨base, cap, k1, Nat.zero_le _, .inl this⟩
        · refine ⟨base, cap, k1, k4, ?_⟩
          rcases hb b _ es hg with ⟨q1, _⟩ | ⟨c2, o2, q1, q2, q3⟩
          · rw [q1] at k2; cases k2
          · rw [q1] at k2; cases k2
            exact .inr ⟨c1, _, k3, q2, mapO_relR ih _ _ _ _ _ h2 (relR_take k (relR_drop i q3 (by omega)))⟩
      · cases hd
    | map b => simp [deepV] at hd
    | cptr cs =>
      simp only [deepV, Option.map_eq_some_iff] at hd
      obtain ⟨r, h2, rfl⟩ := hd
      simp only [relV] at hr ⊢
      obtain ⟨c1, o, k1, k2, k3⟩ := hr
      exact ⟨c1, o, k1, k2, mapO_relM ih _ _ _ _ h2 k3⟩
    | tsl sz es =>
      simp only [deepV, Option.map_eq_some_iff] at hd
      obtain ⟨r, h2, rfl⟩ := hd
      have hlen := mapO_length h2
      simp only [relV, hlen] at hr ⊢
      obtain ⟨base, cap, k1, k2, k3⟩ := hr
      refine ⟨base, cap, k1, k2, ?_⟩
      rcases k3 with k3 | ⟨c1, o, k3, k4, k5⟩
      · subst k3; simp [mapO] at h2; exact .inl h2
      · exact .inr ⟨c1, o, k3, k4, mapO_relR ih _ _ _ _ _ h2 k5⟩
    | fn f fs cs =>
      simp only [deepV, Option.bind_eq_some_iff, Option.map_eq_some_iff] at hd
      obtain ⟨a, h1, r, h2, rfl⟩ := hd
      simp only [relV] at hr ⊢
      obtain ⟨fs', cs', k1, k2, k3⟩ := hr
      exact ⟨fs', cs', k1, mapO_relL ih _ _ _ h1 k2, mapO_relL ih _ _ _ h2 k3⟩
    | iface t x =>
      simp only [deepV, Option.map_eq_some_iff] at hd
      obtain ⟨r, h2, rfl⟩ := hd
      simp only [relV] at hr ⊢
      obtain ⟨y, k1, k2⟩ := hr
      exact ⟨y, k1, ih _ _ _ h2 k2⟩
    | agg cs =>
      simp only [deepV, Option.map_eq_some_iff] at hd
      obtain ⟨r, h2, rfl⟩ := hd
      simp only [relV] at hr ⊢
      obtain ⟨vs, k1, k2⟩ := hr
      exact ⟨vs, k1, mapO_relL ih _ _ _ h2 k2⟩
    | tup cs =>
      simp only [deepV, Option.map_eq_some_iff] at hd
      obtain ⟨r, h2, rfl⟩ := hd
      simp only [relV] at hr ⊢
      obtain ⟨vs, k1, k2⟩ := hr
      exact ⟨vs, k1, mapO_relL ih _ _ _ h2 k2⟩
    | _ => simp only [deepV, Option.some.injEq] at hd; subst hd; exact hr

/-- A state whose blocks are written no more. -/
theorem RelS.deep {X : Ctx} {S : ST} {nt : Nat} {a : Act} (R : RelS X φ I S nt a h) {vs : Vars} (hv : ∀ x v, get vs x = some v → ∃ u n, get S.vars x = some u ∧ deepV S.heap n u = some v) : ∃ I', RelS X φ I' ⟨vs, [], S.next⟩ nt a h := by
  have hA : (ST.mk vs [] S.next).as.A = S.as.A := by funext x; simp [ST.as, AS.A]
  let I' : Nat → Prop := fun c => I c ∨ ∃ b blk o, get S.heap b = some blk ∧ φ b = some (c, o)
  have hI : ∀ c, I c → I' c := fun c hc => .inl hc
  have E : Ext h φ I S.as.A h φ I' S.as.A := ⟨fun _ _ _ _ h => h, fun _ _ h => h, fun _ _ => rfl, hI, fun _ h => h⟩
  have hb : ∀ b sz es, get S.heap b = some (.rows sz es) → (φ b = none ∧ es = []) ∨ ∃ c o, φ b = some (c, o) ∧ I' c ∧ relR h φ I' S.as.A sz es c o := fun b sz es hg => by
    have := (R.H.heap b _ hg).2
    simp only [relB] at this
    rcases this with k | ⟨c, o, cs, el, k1, _, k3⟩
    · exact .inl k
    · exact .inr ⟨c, o, k1, .inr ⟨b, _, o, hg, k1⟩, relR_mono E sz es c o (fun _ _ h => h) k3⟩
  refine ⟨I', ⟨⟨fun b blk h1 => by simp [ST.as, get] at h1, fun b blk c o h1 => by simp [ST.as, get] at h1, fun b b' c o c' o' h1 => by simp [ST.as, get] at h1, fun c hc => ?_, fun c hc => ?_, fun c hc => hI _ (R.H.isup c hc), R.H.frame, R.H.size, R.H.sizes, R.H.agree, R.H.n0⟩, ⟨fun x v hx => ?_, R.A.nt, R.A.defers⟩⟩⟩
  · rcases hc with hc | ⟨b, blk, o, h1, h2⟩
    · exact R.H.idom c hc
    · exact (R.H.live b blk c o h1 h2).1
  · rcases hc with hc | ⟨b, blk, o, h1, h2⟩
    · exact R.H.isub c hc
    · exact .inr (R.H.live b blk c o h1 h2).2.2
  · obtain ⟨u, n, h1, h2⟩ := hv x v hx
    rw [hA]
    exact deepV_rel hb n u v _ h2 (relV_mono E _ _ (R.A.vars x u h1))
end

/-- The check, row by row. -/
def deepL (H : Heap) (m : Vars) (n : Nat) : Vars → Prop
  | [] => True
  | (x, v) :: l => (∃ u, get m x = some u ∧ deepV H n u = some v) ∧ deepL H m n l
theorem deepL_spec {H : Heap} {m : Vars} {n : Nat} : ∀ {l : Vars}, deepL H m n l → ∀ x v, get l x = some v → ∃ u n, get m x = some u ∧ deepV H n u = some v
  | [], _, x, v, h => by simp [get] at h
  | (k, w) :: l, K, x, v, h => by
    simp only [get] at h
    split at h
    · rename_i e; subst e; cases h; obtain ⟨u, h1, h2⟩ := K.1; exact ⟨u, n, h1, h2⟩
    · exact deepL_spec K.2 x v h

theorem LWP_deep {P : Program} {nt n0 : Nat} {S : ST} {Q : Exit → ST → Prop} {lc : LCode} (vs : Vars) (n : Nat) (hv : deepL S.heap S.vars n vs) (h : LWP P nt n0 lc ⟨vs, [], S.next⟩ Q) : LWP P nt n0 lc S Q :=
  fun c hc X φ I a w hn R => by
    obtain ⟨I', R'⟩ := R.deep (deepL_spec hv)
    exact h c hc X φ I' a w hn R'
end Go.AM

/- Calls that are handed owned blocks. -/
namespace Go.AM
section
variable {P : Program} {nt n0 : Nat} {S T : ST} {Q : Exit → ST → Prop}

theorem CallS.of_owned {f : Nat} {args : List AV} {Q : AV → Heap → Nat → Prop} {K : AV → ST → Prop} (H : ACalls P f args S.heap S.next Q) (hK : ∀ r H' n', Q r H' n' → K r ⟨S.vars, H', n'⟩) : CallS P f args S K :=
  ⟨H.1, fun X φ I w cargs R ha => by
    have hA : S.as.A = (· < S.next) := by funext b; exact propext (ST.as_A _ b)
    have hA0 : (ST.as ⟨[], S.heap, S.next⟩).A = (· < S.next) := by funext b; exact propext (ST.as_A _ b)
    have R0 : RelH ⟨w.heap, fun c => (X.F c ∨ X.h0.size ≤ c) ∧ ¬ I c, φ, S.next, I⟩ φ I ⟨[], S.heap, S.next, [], []⟩ w.heap := by
      refine ⟨fun b blk h1 => ?_, fun b blk c o h1 h2 => ?_, R.inj, R.idom, fun c hc => .inl hc, fun c hc => hc, fun _ _ _ => rfl, Nat.le_refl _, fun _ _ h => h, fun _ _ => rfl, Nat.le_refl _⟩
      · have := R.heap b blk h1
        rw [hA] at this
        show (ST.as ⟨[], S.heap, S.next⟩).A b ∧ relB _ _ _ (ST.as ⟨[], S.heap, S.next⟩).A _ _
        rw [hA0]; exact this
      · obtain ⟨k1, k2, k3⟩ := R.live b blk c o h1 h2
        exact ⟨k1, k2, .inl ⟨k3, k2⟩⟩
    refine (H.2 w _ φ I cargs R0 (by rw [← hA]; exact ha)).mono fun e w' ⟨cv, r, H', n', φ', I', h1, h2, h3, h4, h5⟩ => ?_
    have hA' : (ST.as ⟨S.vars, H', n'⟩).A = (· < n') := by funext b; exact propext (ST.as_A _ b)
    refine ⟨cv, r, φ', I', ⟨S.vars, H', n'⟩, h1, ?_, ?_, by rw [hA']; exact h3, rfl, hK _ _ _ h4, h5⟩
    · refine ⟨fun b blk k1 => ?_, fun b blk c o k1 k2 => ?_, h2.inj, h2.idom, fun c hc => ?_, fun c hc => h2.isup c (R.isup c hc), fun c k1 k2 => ?_, Nat.le_trans R.size h2.size, fun c s k1 => h2.sizes c s (R.sizes c s k1), fun b hb => ?_, Nat.le_trans R.n0 h2.n0⟩
      · exact h2.heap b blk k1
      · obtain ⟨q1, q2, q3⟩ := h2.live b blk c o k1 k2
        refine ⟨q1, q2, ?_⟩
        rcases q3 with q3 | q3
        · exact q3.1
        · exact .inr (Nat.le_trans R.size q3)
      · rcases h2.isub c hc with q | q | q
        · exact R.isub c q
        · exact .inr q.1
        · exact .inr (.inr (Nat.le_trans R.size q))
      · rw [h2.frame c (Nat.lt_of_lt_of_le k1 R.size) (fun hc => ?_)]
        · exact R.frame c k1 k2
        · rcases hc.1 with q | q
          · exact k2 q
          · omega
      · rw [h2.agree b (Nat.lt_of_lt_of_le hb R.n0)]; exact R.agree b hb
    · refine ⟨fun c o v k1 k2 => ?_, fun c s k1 => h2.sizes c s k1, fun b hb => h2.agree b (by rw [hA] at hb; exact hb), h2.isup, fun b hb => ?_⟩
      · have := h2.frame c (R.idom c k1) (fun hc => hc.2 k1)
        simpa [hcell, this] using k2
      · rw [hA] at hb; rw [hA']; exact Nat.lt_of_lt_of_le hb h2.n0⟩

/-- A call told with less behind it. -/
theorem ACalls.sub {f : Nat} {args : List AV} {H : Heap} {n : Nat} {Q Q' : AV → Heap → Nat → Prop} (h : ACalls P f args H n Q) (hq : ∀ r H' n', Q r H' n' → ∃ r2 H2, wkV r r2 ∧ (∀ b blk, get H2 b = some blk → get H' b = some blk) ∧ Q' r2 H2 n') : ACalls P f args H n Q' :=
  ⟨h.1, fun w F φ I cargs R ha => (h.2 w F φ I cargs R ha).mono fun e w' ⟨cv, r, H', n', φ', I', k1, k2, k3, k4, k5⟩ => by
    obtain ⟨r2, H2, q1, q2, q3⟩ := hq _ _ _ k4
    exact ⟨cv, r2, H2, n', φ', I', k1, RelH.sub (S := ⟨[], H', n', [], []⟩) k2 (vs := []) q2 fun _ _ _ => rfl, q1 _ _ _ _ _ k3, q3, k5⟩⟩

/-- What an owned body's end says: the answer, the blocks behind it. -/
def retO (res : List LRes) (n : Nat) (v : AV) (H2 : Heap) : Exit → ST → Prop
  | .normal, S => n ≤ S.next ∧ (∃ vs, resV S res = some vs ∧ wkV (retV vs) v) ∧ ∀ b blk, get H2 b = some blk → get S.heap b = some blk
  | .ret, S => n ≤ S.next ∧ (∃ vs, resV S res = some vs ∧ wkV (retV vs) v) ∧ ∀ b blk, get H2 b = some blk → get S.heap b = some blk
  | _, _ => False

def postO (n : Nat) (v : AV) (H2 : Heap) (r : AV) (H' : Heap) (n' : Nat) : Prop := r = v ∧ H' = H2 ∧ n ≤ n'

theorem own_body {f : Nat} {lf : LFunc} {args : List AV} {v : AV} {H H2 : Heap} {n : Nat} (hf : okFunc P f lf = true) (hn : args.length = lf.np) (h : LWP P lf.nt n lf.body ⟨parV 0 args, H, n⟩ (retO lf.res n v H2)) : ACalls P f args H n (postO n v H2) := by
  have h0 : ACalls P f args H n (fun r H' n' => n ≤ n' ∧ wkV r v ∧ ∀ b blk, get H2 b = some blk → get H' b = some blk) := by
    refine ACalls_of_body hf hn (LWP.mono h fun e S' he => ?_)
    cases e with
    | normal => obtain ⟨h0, ⟨vs, h1, h2⟩, h3⟩ := he; simp only [bodyQ, h1]; exact ⟨h0, h2, h3⟩
    | ret => obtain ⟨h0, ⟨vs, h1, h2⟩, h3⟩ := he; simp only [bodyQ, h1]; exact ⟨h0, h2, h3⟩
    | _ => exact he.elim
  exact h0.sub fun r H' n' ⟨k1, k2, k3⟩ => ⟨v, H2, k2, k3, rfl, rfl, k1⟩

/-- A call in a region that is handed owned blocks. -/
theorem rgnS_callO {d : Option Nat} {q : Bool} {f : LArg} {xs : List LArg} {os : List LOper} {K : ST → Prop} {g : Nat} {first caps args : List AV} {v : AV} {H2 : Heap} (hc : ACalls P g args S.heap S.next (postO S.next v H2)) (hf : f.ev S.vars = .fn g first caps) (ha : first ++ xs.map (·.ev S.vars) ++ caps = args)
    {gg : Option (Nat × Bool)} (hg : gd S.vars gg = some true) (k : ∀ n', S.next ≤ n' → rgnS P os ⟨putV d v S.vars, H2, n'⟩ K) : rgnS P (⟨d, .call q f xs, gg⟩ :: os) S K := by
  simp only [rgnS, hg, Option.sat, hf]
  rw [ha]
  refine CallS.of_owned hc fun r H' n' hr => ?_
  obtain ⟨rfl, rfl, hn⟩ := hr
  exact k n' hn

theorem LWP_regD' {ls : List LOper} (h : ∀ K : AS → Prop, (∀ (S' : AS) (U : ST), S'.fin ls.length = U → Q .normal U → K S') → rgnD P ls 0 S.as K) : LWP P nt n0 (.region ls true) S Q :=
  LWP_regD fun K hK => h K fun S' U h1 h2 => hK S' (by rw [h1]; exact h2)

/-- The told blocks have numbers that are in use. -/
theorem LWP_keys {lc : LCode} (h : (∀ b blk, get S.heap b = some blk → b < S.next) → LWP P nt n0 lc S Q) : LWP P nt n0 lc S Q :=
  fun c hc X φ I a w hn R => h (fun b blk hb => (ST.as_A S b).1 (R.H.heap b blk hb).1) c hc X φ I a w hn R

theorem LWP_cut {β : Type} {x y : LCode} (T : β → ST) (C : β → Prop) (h : LWP P nt n0 x S (seqQ (fun S' => ∃ a, C a ∧ (T a).le S') Q)) (k : ∀ a, C a → LWP P nt n0 y (T a) Q) : LWP P nt n0 (.seq x y) S Q :=
  LWP_seq (LWP.mono h fun e S' he => by
    cases e with
    | normal => obtain ⟨a, h1, h2⟩ := he; exact LWP_sub h2 (k a h1)
    | _ => exact he)

theorem get_ins_ins {α : Type} {b : Nat} {x y : α} {H : List (Nat × α)} : ∀ c v, get (ins b x H) c = some v → get (ins b x (ins b y H)) c = some v := fun c v h => by
  rw [get_ins] at h ⊢
  split
  · rename_i e; rw [if_pos e] at h; exact h
  · rename_i e; rw [if_neg e] at h; rw [get_ins, if_neg e]; exact h
end
end Go.AM
