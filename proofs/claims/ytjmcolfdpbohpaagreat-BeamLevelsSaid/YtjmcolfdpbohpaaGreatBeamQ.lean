/- A part of a proof about the given program: what its name says. No premise beyond the statements'. -/
import Derived.Test.YtjmcolfdpbohpaaGreatFC
set_option linter.unusedSimpArgs false
set_option linter.unusedVariables false
/- Beams of levels: pieces of a row; each place is in as many as its level tells. -/
namespace Go.AM.BeamQ
open Go.AM
structure Sg where
  v : Int
  f : Nat
  e : Nat
def Sg.w (s : Sg) : List AV := [.int .i64 s.v, .int .i64 (s.f : Nat), .int .i64 (s.e : Nat)]
def inE (x : Int) : List AV := [.int .i64 x]
def on (j : Nat) (x : Sg) : Bool := decide (x.f ≤ j) && decide (j ≤ x.e)
def rowG (v : Int) : List Int → Nat → Option Nat → List Sg
  | [], _, none => []
  | [], i, some f => [⟨v, f, i - 1⟩]
  | x :: r, i, none => if x < v then rowG v r (i + 1) none else rowG v r (i + 1) (some i)
  | x :: r, i, some f => if x < v then ⟨v, f, i - 1⟩ :: rowG v r (i + 1) none else rowG v r (i + 1) (some f)
theorem rowG_cov (v : Int) : ∀ (l : List Int) (i : Nat),
    (∀ j, j < i → (rowG v l i none).countP (on j) = 0) ∧
    (∀ k (h : k < l.length), (rowG v l i none).countP (on (i + k)) = if v ≤ l[k] then 1 else 0) ∧
    (∀ f, f < i → (∀ j, j < f → (rowG v l i (some f)).countP (on j) = 0) ∧ (∀ j, f ≤ j → j < i → (rowG v l i (some f)).countP (on j) = 1) ∧
      ∀ k (h : k < l.length), (rowG v l i (some f)).countP (on (i + k)) = if v ≤ l[k] then 1 else 0)
  | [], i => by
    refine ⟨fun j _ => rfl, fun k h => absurd h (Nat.not_lt_zero _), fun f hf => ⟨fun j hj => ?_, fun j h1 h2 => ?_, fun k h => absurd h (Nat.not_lt_zero _)⟩⟩
    · simp [rowG, on, List.countP_cons]; omega
    · simp [rowG, on, List.countP_cons]; omega
  | x :: r, i => by
    obtain ⟨a1, a2, a3⟩ := rowG_cov v r (i + 1)
    by_cases hx : x < v
    · have hx' : ¬ v ≤ x := by omega
      refine ⟨fun j hj => ?_, fun k h => ?_, fun f hf => ⟨fun j hj => ?_, fun j h1 h2 => ?_, fun k h => ?_⟩⟩
      · simp only [rowG, if_pos hx]; exact a1 j (by omega)
      · simp only [rowG, if_pos hx]
        cases k with
        | zero => simp only [List.getElem_cons_zero, if_neg hx']; exact a1 i (by omega)
        | succ k =>
          simp only [List.getElem_cons_succ]
          have := a2 k (by simpa using h)
          rwa [Nat.add_right_comm, Nat.add_assoc] at this
      · simp only [rowG, if_pos hx, List.countP_cons, a1 j (by omega)]
        simp [on]; omega
      · simp only [rowG, if_pos hx, List.countP_cons, a1 j (by omega)]
        simp [on]; omega
      · simp only [rowG, if_pos hx, List.countP_cons]
        cases k with
        | zero =>
          simp only [List.getElem_cons_zero, if_neg hx', Nat.add_zero, a1 i (by omega)]
          simp [on]; omega
        | succ k =>
          simp only [List.getElem_cons_succ]
          have := a2 k (by simpa using h)
          rw [Nat.add_right_comm, Nat.add_assoc] at this
          rw [this]
          have : on (i + (k + 1)) ⟨v, f, i - 1⟩ = false := by simp [on]; omega
          simp [this]
    · have hx' : v ≤ x := by omega
      refine ⟨fun j hj => ?_, fun k h => ?_, fun f hf => ⟨fun j hj => ?_, fun j h1 h2 => ?_, fun k h => ?_⟩⟩
      · simp only [rowG, if_neg hx]; exact (a3 i (by omega)).1 j hj
      · simp only [rowG, if_neg hx]
        cases k with
        | zero => simp only [List.getElem_cons_zero, if_pos hx']; exact (a3 i (by omega)).2.1 i (by omega) (by omega)
        | succ k =>
          simp only [List.getElem_cons_succ]
          have := (a3 i (by omega)).2.2 k (by simpa using h)
          rwa [Nat.add_right_comm, Nat.add_assoc] at this
      · simp only [rowG, if_neg hx]; exact (a3 f (by omega)).1 j hj
      · simp only [rowG, if_neg hx]; exact (a3 f (by omega)).2.1 j h1 (by omega)
      · simp only [rowG, if_neg hx]
        cases k with
        | zero => simp only [List.getElem_cons_zero, if_pos hx']; exact (a3 f (by omega)).2.1 i (by omega) (by omega)
        | succ k =>
          simp only [List.getElem_cons_succ]
          have := (a3 f (by omega)).2.2 k (by simpa using h)
          rwa [Nat.add_right_comm, Nat.add_assoc] at this
theorem rowG_all (v : Int) : ∀ (l : List Int) (i f : Nat), f < i → (∀ x ∈ l, v ≤ x) → rowG v l i (some f) = [⟨v, f, i + l.length - 1⟩]
  | [], i, f, _, _ => rfl
  | x :: r, i, f, hf, h => by
    have hx : ¬ x < v := by have := h x (by simp); omega
    simp only [rowG, if_neg hx]
    rw [rowG_all v r (i + 1) f (by omega) fun y hy => h y (by simp [hy])]
    simp [Nat.add_comm, Nat.add_left_comm, Nat.add_assoc]
theorem rowG_first (v : Int) {l : List Int} (h0 : l ≠ []) (h : ∀ x ∈ l, v ≤ x) : rowG v l 0 none = [⟨v, 0, l.length - 1⟩] := by
  match l, h0 with
  | x :: r, _ =>
    have hx : ¬ x < v := by have := h x (by simp); omega
    simp only [rowG, if_neg hx]
    rw [rowG_all v r 1 0 (by omega) fun y hy => h y (by simp [hy])]
    simp [Nat.add_comm]
theorem rowG_len (v : Int) : ∀ (l : List Int) (i : Nat), (rowG v l i none).length ≤ l.length ∧ ∀ f, (rowG v l i (some f)).length ≤ l.length + 1
  | [], i => ⟨by simp [rowG], fun f => by simp [rowG]⟩
  | x :: r, i => by
    obtain ⟨a1, a2⟩ := rowG_len v r (i + 1)
    refine ⟨?_, fun f => ?_⟩
    · simp only [rowG]
      split
      · simp only [List.length_cons]; omega
      · have := a2 i; simp only [List.length_cons]; omega
    · simp only [rowG]
      split
      · simp only [List.length_cons]; omega
      · have := a2 f; simp only [List.length_cons]; omega
theorem rowG_skip {v : Int} {l : List Int} {i : Nat} (h : i < l.length) (hx : l[i] < v) : rowG v (l.drop i) i none = rowG v (l.drop (i + 1)) (i + 1) none := by
  rw [List.drop_eq_getElem_cons h]; simp only [rowG, if_pos hx]
theorem rowG_open {v : Int} {l : List Int} {i : Nat} (h : i < l.length) (hx : v ≤ l[i]) : rowG v (l.drop i) i none = rowG v (l.drop (i + 1)) (i + 1) (some i) := by
  rw [List.drop_eq_getElem_cons h]; simp only [rowG, if_neg (show ¬ l[i] < v by omega)]
theorem rowG_go {v : Int} {l : List Int} {i k : Nat} (h : k + 1 < l.length) (hx : v ≤ l[k + 1]) : rowG v (l.drop (k + 1)) (k + 1) (some i) = rowG v (l.drop (k + 1 + 1)) (k + 1 + 1) (some i) := by
  rw [List.drop_eq_getElem_cons h]; simp only [rowG, if_neg (show ¬ l[k + 1] < v by omega)]
theorem rowG_stop {v : Int} {l : List Int} {i k : Nat} (hx : ∀ h : k + 1 < l.length, l[k + 1] < v) : rowG v (l.drop (k + 1)) (k + 1) (some i) = ⟨v, i, k⟩ :: rowG v (l.drop (k + 1)) (k + 1) none := by
  by_cases h : k + 1 < l.length
  · rw [List.drop_eq_getElem_cons h]; simp only [rowG, if_pos (hx h), Nat.add_sub_cancel]
  · rw [List.drop_eq_nil_of_le (by omega)]; simp only [rowG, Nat.add_sub_cancel]
theorem rowG_end {v : Int} {l : List Int} {i : Nat} (h : l.length ≤ i) : rowG v (l.drop i) i none = [] := by
  rw [List.drop_eq_nil_of_le h]; rfl
/-- The pieces of the levels below one. -/
def sgT (l : List Int) (j : Nat) : List Sg := ((List.range j).drop 1).flatMap fun (k : Nat) => rowG (k : Int) l 0 none
theorem sgT_1 (l : List Int) : sgT l 1 = [] := rfl
theorem sgT_s (l : List Int) {j : Nat} (h : 1 ≤ j) : sgT l (j + 1) = sgT l j ++ rowG (j : Int) l 0 none := by
  have e : (List.range (j + 1)).drop 1 = (List.range j).drop 1 ++ [j] := by
    rw [List.range_succ, List.drop_append_of_le_length (by simpa using h)]
  rw [sgT, sgT, e, List.flatMap_append]; simp
/-- All pieces. -/
def segs (l : List Int) : List Sg := rowG 1 l 0 none ++ rowG 2 l 0 none ++ rowG 3 l 0 none ++ rowG 4 l 0 none
theorem sgT_5 (l : List Int) : sgT l 5 = segs l := by
  rw [sgT_s l (j := 4) (by omega), sgT_s l (j := 3) (by omega), sgT_s l (j := 2) (by omega), sgT_s l (j := 1) (by omega), sgT_1]; simp [segs]
theorem sgT_len (l : List Int) : ∀ j, (sgT l j).length ≤ j * l.length
  | 0 => by simp [sgT]
  | 1 => by simp [sgT_1]
  | j + 2 => by
    have h1 := sgT_len l (j + 1)
    have h2 := (rowG_len ((j + 1 : Nat) : Int) l 0).1
    rw [sgT_s l (by omega), List.length_append, Nat.add_mul (j + 1) 1]; omega
theorem cnt_take {S : List Sg} {i k : Nat} (h : k < S.length) : (S.take (k + 1)).countP (on i) = (S.take k).countP (on i) + if S[k].f ≤ i ∧ i ≤ S[k].e then 1 else 0 := by
  rw [List.take_succ_eq_append_getElem h, List.countP_append, List.countP_singleton]
  simp only [on, Bool.and_eq_true, decide_eq_true_eq]
theorem cnt_yes {S : List Sg} {i k : Nat} (h : k < S.length) (h1 : S[k].f ≤ i) (h2 : i ≤ S[k].e) : (S.take (k + 1)).countP (on i) = (S.take k).countP (on i) + 1 := by
  rw [cnt_take h, if_pos ⟨h1, h2⟩]
theorem cnt_no {S : List Sg} {i k : Nat} (h : k < S.length) (h1 : ¬ (S[k].f ≤ i ∧ i ≤ S[k].e)) : (S.take (k + 1)).countP (on i) = (S.take k).countP (on i) := by
  rw [cnt_take h, if_neg h1]; rfl
theorem segs_cov {l : List Int} (h : ∀ x ∈ l, 1 ≤ x ∧ x ≤ 4) {k : Nat} (hk : k < l.length) : ((segs l).countP (on k) : Int) = l[k] := by
  have h1 := h _ (List.getElem_mem hk)
  have c := fun v => (rowG_cov v l 0).2.1 k hk
  simp only [Nat.zero_add] at c
  simp only [segs, List.countP_append, c]
  split <;> split <;> split <;> split <;> omega
theorem segs_0 {l : List Int} (h0 : l ≠ []) (h : ∀ x ∈ l, 1 ≤ x ∧ x ≤ 4) : ∃ r, segs l = ⟨1, 0, l.length - 1⟩ :: r := by
  refine ⟨rowG 2 l 0 none ++ rowG 3 l 0 none ++ rowG 4 l 0 none, ?_⟩
  rw [segs, rowG_first 1 h0 fun x hx => (h x hx).1]
  simp
theorem segs_len (l : List Int) : (segs l).length ≤ 4 * l.length := by
  have := fun v => (rowG_len v l 0).1
  have a := this 1
  have b := this 2
  have c := this 3
  have d := this 4
  simp only [segs, List.length_append]; omega
end Go.AM.BeamQ
