/- Reading and writing rows of cells; the relation of a state to a frame and a world. -/
import Derived.Test.YteiapnjcelnfdaaAM2
import Derived.Laws.Sem
set_option linter.unusedSimpArgs false
set_option linter.unusedVariables false
namespace Go.AM

theorem cell_hcell (w : World) (c o : Nat) : w.cell? ⟨c, o, none⟩ = hcell w.heap c o := by
  cases hh : w.heap[c]? with
  | none => simp [World.cell?, hcell, hh]
  | some ob => cases ob <;> simp [World.cell?, hcell, hh]

theorem addr_add (c o n : Nat) : (⟨c, o, none⟩ : Addr).add n = ⟨c, o + n, none⟩ := by
  unfold Addr.add; split
  · rename_i h; simp [h]
  · rfl

theorem run_loadCellsFrom (P : Program) (w : World) (c o : Nat) : ∀ (vs : List Value) (i : Nat) (acc : Array Value), (∀ j, j < vs.length → hcell w.heap c (o + i + j) = vs[j]?) →
    (loadCellsFrom ⟨c, o, none⟩ i vs.length acc).run P w = .ok (acc ++ vs.toArray) w
  | [], i, acc, _ => by simp [loadCellsFrom]
  | v :: vs, i, acc, H => by
    have h0 : w.cell? ⟨c, o + i, none⟩ = some v := by rw [cell_hcell]; simpa using H 0 (by simp)
    simp only [List.length_cons, loadCellsFrom, Sem.run_bind, run_load, addr_add, h0, Result.andThen_ok]
    rw [run_loadCellsFrom P w c o vs (i + 1) (acc.push v) fun j hj => by
      have := H (j + 1) (by simp; omega)
      rw [show o + (i + 1) + j = o + i + (j + 1) by omega, this]; simp]
    simp

theorem run_loadCells (P : Program) (w : World) (c o : Nat) (vs : List Value) (H : ∀ j, j < vs.length → hcell w.heap c (o + j) = vs[j]?) :
    (loadCells ⟨c, o, none⟩ vs.length).run P w = .ok vs.toArray w := by
  unfold loadCells
  rw [run_loadCellsFrom P w c o vs 0 #[] (by simpa using H)]
  simp

/-- What of a world is no memory stays. -/
def Keep (w w' : World) : Prop := w'.os = w.os ∧ w'.tape = w.tape ∧ w'.output = w.output
theorem Keep.refl (w : World) : Keep w w := ⟨rfl, rfl, rfl⟩
theorem Keep.trans {a b c : World} (h : Keep a b) (k : Keep b c) : Keep a c := ⟨k.1.trans h.1, k.2.1.trans h.2.1, k.2.2.trans h.2.2⟩

/-- One value is no aggregate. -/
def oneC (v : Value) : Bool := Value.oneCell' v

theorem relV_scalar {h : Array Obj} {φ : Nat → Option (Nat × Nat)} {I A : Nat → Prop} {x : AV} {v : Value} (hx : x.scalar = true) (H : relV h φ I A x v) : Value.oneCell' v = true := by
  cases x <;> simp only [relV, AV.scalar, Bool.false_eq_true] at H hx
  case bool => subst H; rfl
  case int => subst H; rfl
  case str => subst H; rfl
  case nilp => subst H; rfl
  case nils => subst H; rfl
  case nilm => subst H; rfl
  case nilf => subst H; rfl
  case nili => subst H; rfl
  case ptr => obtain ⟨_, c, o, _, rfl⟩ := H; rfl
  case cptr => obtain ⟨c, o, rfl, _⟩ := H; rfl
  case sl => obtain ⟨_, b, c, rfl, _⟩ := H; rfl
  case tsl => obtain ⟨b, c, rfl, _⟩ := H; rfl
  case map => obtain ⟨_, c, _, rfl⟩ := H; rfl
  case fn => obtain ⟨_, _, rfl, _⟩ := H; rfl
  case iface => obtain ⟨_, rfl, _⟩ := H; rfl

theorem relL_scalars {h : Array Obj} {φ : Nat → Option (Nat × Nat)} {I A : Nat → Prop} : ∀ {l : List AV} {vs : List Value}, l.all AV.scalar = true → relL h φ I A l vs → ∀ v ∈ vs, Value.oneCell' v = true
  | [], vs, _, H => by simp only [relL] at H; subst H; simp
  | x :: l, vs, hx, H => by
    simp only [relL] at H
    obtain ⟨v, r, rfl, h2, h3⟩ := H
    simp only [List.all_cons, Bool.and_eq_true] at hx
    intro u hu
    rcases List.mem_cons.1 hu with rfl | hu
    · exact relV_scalar hx.1 h2
    · exact relL_scalars hx.2 h3 u hu

/-- The cells of a value. -/
theorem relV_cells {h : Array Obj} {φ : Nat → Option (Nat × Nat)} {I A : Nat → Prop} {x : AV} {v : Value} (hk : x.known = true) (H : relV h φ I A x v) : relL h φ I A x.cells v.cells.toList := by
  cases x
  case agg cs =>
    simp only [relV] at H
    obtain ⟨vs, rfl, h2⟩ := H
    simpa [AV.cells, Value.cells] using h2
  case any => simp [AV.known] at hk
  case tup =>
    have H0 := H
    simp only [relV] at H
    obtain ⟨vs, rfl, h2⟩ := H
    simp only [AV.cells, Value.cells, relL]
    exact ⟨_, [], rfl, H0, rfl⟩
  all_goals
    have h1 := relV_scalar (by rfl) H
    simp only [AV.cells, relL]
    refine ⟨v, [], ?_, H, rfl⟩
    cases v <;> first | rfl | (simp [Value.oneCell'] at h1)

/-- A heap in which a row of cells has been written. -/
structure Wrote (h : Array Obj) (c o : Nat) (vs : List Value) (h' : Array Obj) : Prop where
  size : h'.size = h.size
  other : ∀ c', c' ≠ c → h'[c']? = h[c']?
  here : ∀ cs el, h[c]? = some (.cells cs el (0, 0)) → ∃ cs', h'[c]? = some (.cells cs' el (0, 0)) ∧ cs'.size = cs.size
  cell : ∀ o', hcell h' c o' = if o ≤ o' ∧ o' < o + vs.length then (if (hcell h c o').isSome then vs[o' - o]? else none) else hcell h c o'

theorem Wrote.hsize {h h' : Array Obj} {c o : Nat} {vs : List Value} {cs : Array Value} {el : TypeId} (W : Wrote h c o vs h') (hc : h[c]? = some (.cells cs el (0, 0))) (c' : Nat) : hsize h' c' = hsize h c' := by
  by_cases h1 : c' = c
  · subst h1
    obtain ⟨cs', h2, h3⟩ := W.here _ _ hc
    simp [AM.hsize, h2, hc, h3]
  · simp [AM.hsize, W.other _ h1]

theorem run_storeCells (P : Program) (c o : Nat) : ∀ (vs : List Value) (i : Nat) (w : World) (cs : Array Value) (el : TypeId), w.heap[c]? = some (.cells cs el (0, 0)) → o + i + vs.length ≤ cs.size → (∀ v ∈ vs, Value.oneCell' v = true) →
    ∃ h', (storeCells ⟨c, o, none⟩ vs i).run P w = .ok () { w with heap := h' } ∧ Wrote w.heap c (o + i) vs h'
  | [], i, w, cs, el, hc, _, _ => by
    refine ⟨w.heap, by simp [storeCells], rfl, fun _ _ => rfl, fun cs' el' h => ⟨cs', h, rfl⟩, fun o' => ?_⟩
    rw [if_neg (by simp only [List.length_nil]; omega)]
  | v :: vs, i, w, cs, el, hc, hle, h1 => by
    simp only [List.length_cons] at hle
    have hlt : o + i < cs.size := by omega
    have hcell0 : w.cell? ⟨c, o + i, none⟩ = some (cs[o + i]'hlt) := by simp [World.cell?, hc, hlt]
    have hfz : w.frozen? ⟨c, o + i, none⟩ = false := by simp [World.frozen?, hc]
    have hcs : c < w.heap.size := by
      rcases Nat.lt_or_ge c w.heap.size with h | h
      · exact h
      · simp [Array.getElem?_eq_none h] at hc
    have hget : w.heap[c] = .cells cs el (0, 0) := by simpa [Array.getElem?_eq_getElem hcs] using hc
    let w1 : World := w.setCell ⟨c, o + i, none⟩ v
    have hw1 : w1.heap = w.heap.set c (.cells (cs.setIfInBounds (o + i) v) el (0, 0)) hcs := by
      simp only [w1, World.setCell]
      apply Array.ext_getElem?
      intro j
      rw [Array.getElem?_modify, Array.getElem?_set]
      by_cases hj : c = j
      · subst hj; simp [hget, hcs]
      · simp [hj]
    have hc1 : w1.heap[c]? = some (.cells (cs.setIfInBounds (o + i) v) el (0, 0)) := by rw [hw1]; simp [hcs]
    obtain ⟨h', hr, W⟩ := run_storeCells P c o vs (i + 1) w1 _ el hc1 (by simp; omega) (fun u hu => h1 u (List.mem_cons_of_mem _ hu))
    refine ⟨h', ?_, ?_⟩
    · simp only [storeCells, Sem.run_bind, addr_add]
      rw [run_store P w _ v .plain (h1 v (by simp)), hcell0]
      simp only [hfz, Bool.false_eq_true, if_false, Result.andThen_ok]
      rw [hr]
      rfl
    · refine ⟨by rw [W.size, hw1]; simp, fun c' h2 => by rw [W.other _ h2, hw1, Array.getElem?_set]; simp [Ne.symm h2], fun cs0 el0 h2 => ?_, fun o' => ?_⟩
      · rw [hc] at h2
        injection h2 with h2
        injection h2 with h3 h4 h5
        subst h3 h4
        obtain ⟨cs', h6, h7⟩ := W.here _ _ hc1
        exact ⟨cs', h6, by simpa using h7⟩
      · rw [W.cell o']
        have h3 : hcell w1.heap c o' = if o' = o + i then some v else hcell w.heap c o' := by
          simp only [hcell, hc1, hc]
          rw [Array.getElem?_setIfInBounds]
          by_cases h4 : o + i = o'
          · subst h4; simp [hlt]
          · simp [h4, Ne.symm h4]
        rw [h3]
        by_cases h4 : o' = o + i
        · subst h4
          rw [if_neg (by omega), if_pos rfl, if_pos ⟨by omega, by simp⟩]
          have h5 : (hcell w.heap c (o + i)).isSome = true := by simp [hcell, hc, hlt]
          rw [if_pos h5]; simp
        · by_cases h5 : o + i ≤ o' ∧ o' < o + i + (v :: vs).length
          · rw [if_pos h5, if_pos ⟨by omega, by have := h5.2; simp at this; omega⟩, if_neg h4]
            have h6 : o' - (o + i) = o' - (o + (i + 1)) + 1 := by omega
            rw [h6]; simp
          · rw [if_neg h5, if_neg (by simp at h5 ⊢; omega), if_neg h4]

structure AS where
  vars : Vars
  heap : Heap
  next : Nat
  used : List (Nat × Unit)
  dead : List (Nat × Unit)

def AS.A (S : AS) (b : Nat) : Prop := b < S.next ∨ get S.used b = some ()

def relE (h : Array Obj) (φ : Nat → Option (Nat × Nat)) (I A : Nat → Prop) : List (AV × AV) → List MapEntry → Prop
  | [], es => es = []
  | (k, v) :: l, es => ∃ e r, es = e :: r ∧ relV h φ I A k e.key ∧ relV h φ I A v e.val ∧ relE h φ I A l r

def relB (h : Array Obj) (φ : Nat → Option (Nat × Nat)) (I A : Nat → Prop) (b : Nat) : Blk → Prop
  | .rows sz es => (φ b = none ∧ es = []) ∨ ∃ c o cs el, φ b = some (c, o) ∧ h[c]? = some (.cells cs el (0, 0)) ∧ relR h φ I A sz es c o
  | .mp l => ∃ c es clk, φ b = some (c, 0) ∧ h[c]? = some (.map es clk) ∧ relE h φ I A l es.toList

structure Ctx where
  h0 : Array Obj
  F : Nat → Prop
  φ0 : Nat → Option (Nat × Nat)
  n0 : Nat
  I0 : Nat → Prop

structure RelH (X : Ctx) (φ : Nat → Option (Nat × Nat)) (I : Nat → Prop) (S : AS) (h : Array Obj) : Prop where
  heap : ∀ b blk, get S.heap b = some blk → S.A b ∧ relB h φ I S.A b blk
  live : ∀ b blk c o, get S.heap b = some blk → φ b = some (c, o) → c < h.size ∧ ¬ I c ∧ (X.F c ∨ X.h0.size ≤ c)
  inj : ∀ b b' c o c' o', get S.heap b ≠ none → get S.heap b' ≠ none → b ≠ b' → ((get S.dead b = none ∧ get S.dead b' = none) ∨ (b < S.next ∧ b' < S.next)) →
    φ b = some (c, o) → φ b' = some (c', o') → c ≠ c'
  idom : ∀ c, I c → c < h.size
  isub : ∀ c, I c → X.I0 c ∨ X.F c ∨ X.h0.size ≤ c
  isup : ∀ c, X.I0 c → I c
  frame : ∀ c, c < X.h0.size → ¬ X.F c → h[c]? = X.h0[c]?
  size : X.h0.size ≤ h.size
  sizes : ∀ c s, hsize X.h0 c = some s → hsize h c = some s
  agree : ∀ b, b < X.n0 → φ b = X.φ0 b
  n0 : X.n0 ≤ S.next

structure RelA (φ : Nat → Option (Nat × Nat)) (I : Nat → Prop) (S : AS) (nt : Nat) (a : Act) (h : Array Obj) : Prop where
  vars : ∀ x v, get S.vars x = some v → relV h φ I S.A v (a.tmps.getD x undef)
  nt : a.tmps.size = nt
  defers : a.defers = []

theorem relE_mono {h h' : Array Obj} {φ φ' : Nat → Option (Nat × Nat)} {I A I' A' : Nat → Prop} (E : Ext h φ I A h' φ' I' A') : ∀ (l : List (AV × AV)) (es : List MapEntry), relE h φ I A l es → relE h' φ' I' A' l es
  | [], _, H => by simpa [relE] using H
  | (k, v) :: l, es, H => by
    simp only [relE] at H ⊢
    obtain ⟨e, r, h1, h2, h3, h4⟩ := H
    exact ⟨e, r, h1, relV_mono E _ _ h2, relV_mono E _ _ h3, relE_mono E l r h4⟩

/-- A block whose cells stay. -/
theorem relB_mono {h h' : Array Obj} {φ φ' : Nat → Option (Nat × Nat)} {I A I' A' : Nat → Prop} (E : Ext h φ I A h' φ' I' A') {b : Nat} {blk : Blk} (hb : A b)
    (hc : ∀ c o, φ b = some (c, o) → (∀ cs el, h[c]? = some (.cells cs el (0, 0)) → ∃ cs' el', h'[c]? = some (.cells cs' el' (0, 0))) ∧ (∀ o' v, hcell h c o' = some v → hcell h' c o' = some v) ∧ (∀ es clk, h[c]? = some (.map es clk) → h'[c]? = some (.map es clk)))
    (H : relB h φ I A b blk) : relB h' φ' I' A' b blk := by
  cases blk with
  | rows sz es =>
    simp only [relB] at H ⊢
    rcases H with ⟨h1, h2⟩ | ⟨c, o, cs, el, h1, h2, h3⟩
    · exact .inl ⟨by rw [E.agree _ hb, h1], h2⟩
    · obtain ⟨k1, k2, k3⟩ := hc c o h1
      obtain ⟨cs', el', h4⟩ := k1 _ _ h2
      exact .inr ⟨c, o, cs', el', by rw [E.agree _ hb, h1], h4, relR_mono E sz es c o k2 h3⟩
  | mp l =>
    simp only [relB] at H ⊢
    obtain ⟨c, es, clk, h1, h2, h3⟩ := H
    exact ⟨c, es, clk, by rw [E.agree _ hb, h1], (hc c 0 h1).2.2 _ _ h2, relE_mono E _ _ h3⟩

/-- A block whose object is the very same. -/
theorem relB_same {h h' : Array Obj} {φ φ' : Nat → Option (Nat × Nat)} {I A I' A' : Nat → Prop} (E : Ext h φ I A h' φ' I' A') {b : Nat} {blk : Blk} (hb : A b)
    (hc : ∀ c o, φ b = some (c, o) → h'[c]? = h[c]?) (H : relB h φ I A b blk) : relB h' φ' I' A' b blk :=
  relB_mono E hb (fun c o hφ => by
    have h1 := hc c o hφ
    exact ⟨fun cs el h2 => ⟨cs, el, by rw [h1, h2]⟩, fun o' v h2 => by simpa [hcell, h1] using h2, fun es clk h2 => by rw [h1, h2]⟩) H

end Go.AM
