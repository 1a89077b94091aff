/- A part of a proof about the given program: what its name says. No premise beyond the statements'. -/
set_option linter.unusedSimpArgs false
set_option linter.unusedVariables false
/- The plain law on places in bars, over core's rational numbers. -/
namespace Go.AM.BarsP
theorem add_place (x t : Rat) : x + (t - x) = t := by
  rw [Rat.add_comm, Rat.sub_add_cancel]
theorem place_nonneg {x t : Rat} (h : x ≤ t) : 0 ≤ t - x := by
  have := (Rat.add_le_add_right (c := -x)).2 h
  rwa [← Rat.sub_eq_add_neg, ← Rat.sub_eq_add_neg, Rat.sub_self] at this
theorem place_lt {x t m : Rat} (h : t < x + m) : t - x < m := by
  rw [Rat.lt_iff_le_and_ne] at h ⊢
  obtain ⟨h1, h2⟩ := h
  refine ⟨?_, ?_⟩
  · have := (Rat.add_le_add_right (c := -x)).2 h1
    rwa [← Rat.sub_eq_add_neg, ← Rat.sub_eq_add_neg, Rat.add_comm x m, Rat.add_sub_cancel] at this
  · intro e
    apply h2
    rw [← e, add_place]
theorem num_nonneg {x : Rat} (h : 0 ≤ x) : 0 ≤ x.num := Rat.num_nonneg.2 h
/-- A time that is some 32nds. -/
def thirty (k : Nat) : Rat := mkRat k 32
theorem thirty_add (k l : Nat) : thirty k + thirty l = thirty (k + l) := by
  unfold thirty
  rw [Rat.mkRat_add_mkRat _ _ (by decide) (by decide)]
  have e : (k : Int) * ((32 : Nat) : Int) + (l : Int) * ((32 : Nat) : Int) = ((32 : Nat) : Int) * ((k + l : Nat) : Int) := by omega
  rw [e, Rat.mkRat_mul_left (by decide)]
theorem thirty_of {n : Int} {d : Nat} (h1 : 1 ≤ n) (h2 : n ≤ 32) (h : d = 1 ∨ d = 2 ∨ d = 4 ∨ d = 8 ∨ d = 16 ∨ d = 32) : ∃ k, 1 ≤ k ∧ k ≤ 1024 ∧ mkRat n d = thirty k := by
  obtain ⟨m, rfl⟩ := Int.eq_ofNat_of_zero_le (a := n) (by omega)
  refine ⟨m * (32 / d), ?_, ?_, ?_⟩
  · rcases h with rfl | rfl | rfl | rfl | rfl | rfl <;> omega
  · rcases h with rfl | rfl | rfl | rfl | rfl | rfl <;> omega
  · unfold thirty
    rcases h with rfl | rfl | rfl | rfl | rfl | rfl
    · rw [← Rat.mkRat_mul_right (a := 32) (by decide)]; rfl
    · rw [← Rat.mkRat_mul_right (a := 16) (by decide)]; rfl
    · rw [← Rat.mkRat_mul_right (a := 8) (by decide)]; rfl
    · rw [← Rat.mkRat_mul_right (a := 4) (by decide)]; rfl
    · rw [← Rat.mkRat_mul_right (a := 2) (by decide)]; rfl
    · rw [← Rat.mkRat_mul_right (a := 1) (by decide)]; rfl
theorem thirty_num (k : Nat) : (thirty k).num.natAbs ≤ k := by
  unfold thirty
  rw [Rat.num_mkRat, if_neg (by decide)]
  have : ((k : Int) / ((Nat.gcd 32 (k : Int).natAbs : Nat) : Int)) = ((k / Nat.gcd 32 k : Nat) : Int) := rfl
  rw [this]
  exact Nat.div_le_self _ _
theorem thirty_den (k : Nat) : (thirty k).den ≤ 32 := by
  unfold thirty
  rw [Rat.den_mkRat, if_neg (by decide)]
  exact Nat.div_le_self _ _
end Go.AM.BarsP
