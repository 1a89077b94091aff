/- A part of a proof about the given program: what its name says. No premise beyond the statements'. -/
import Derived.Test.YtjfmkhihhdhnnaaGreatEzBarsK
import Derived.Test.YtjfmkhihhdhnnaaGreatEzBarsP
set_option linter.unusedSimpArgs false
set_option linter.unusedVariables false
/- Bars that follow one another: where a time is among them. -/
namespace Go.AM.Ez
open Go.AM
open Go.AM.BarsP
/-- A bar's cells, as they are handed in. -/
structure Rb where
  a : Int
  c : Int
  n : Int
  d : Int
def Rb.e (w : Rb) : List AV := [.int .i64 w.a, .int .i64 w.c, .int .i64 w.n, .int .i64 w.d]
def Rb.wt (w : Rb) : Prop := -9223372036854775808 ≤ w.d ∧ w.d ≤ 9223372036854775807
theorem pureR_rb (ws : List Rb) : pureR (ws.map Rb.e) = true := by
  induction ws with
  | nil => simp [pureR]
  | cons b r ih => simp [pureR, Rb.e, pureL, AV.pure, ih]
theorem mOk_cases {n d : Int} (h : mOk n d = true) : 1 ≤ n ∧ n ≤ 32 ∧ (d = 1 ∨ d = 2 ∨ d = 4 ∨ d = 8 ∨ d = 16 ∨ d = 32) := by
  rw [mOk_R] at h
  simpa only [mR, decide_eq_true_eq] using h
/-- How many 32nds a bar of this meter has. -/
def m32 (n d : Int) : Nat := n.toNat * (32 / d.toNat)
theorem m32_ok {n d : Int} (h : mOk n d = true) : 1 ≤ m32 n d ∧ m32 n d ≤ 1024 ∧ mkRat n d.toNat = thirty (m32 n d) := by
  obtain ⟨h1, h2, h3⟩ := mOk_cases h
  obtain ⟨m, rfl⟩ := Int.eq_ofNat_of_zero_le (a := n) (by omega)
  unfold m32
  rw [Int.toNat_natCast]
  refine ⟨?_, ?_, ?_⟩
  · rcases h3 with rfl | rfl | rfl | rfl | rfl | rfl <;> simp <;> omega
  · rcases h3 with rfl | rfl | rfl | rfl | rfl | rfl <;> simp <;> omega
  · unfold thirty
    rcases h3 with rfl | rfl | rfl | rfl | rfl | rfl
    · rw [← Rat.mkRat_mul_right (a := 32) (by decide)]; rfl
    · rw [← Rat.mkRat_mul_right (a := 16) (by decide)]; rfl
    · rw [← Rat.mkRat_mul_right (a := 8) (by decide)]; rfl
    · rw [← Rat.mkRat_mul_right (a := 4) (by decide)]; rfl
    · rw [← Rat.mkRat_mul_right (a := 2) (by decide)]; rfl
    · rw [← Rat.mkRat_mul_right (a := 1) (by decide)]; rfl
theorem thirty_okR {k : Nat} (h : k ≤ 1000000) : okR (thirty k) :=
  ⟨Nat.le_trans (thirty_num k) (Nat.le_trans h (by decide)), Nat.le_trans (thirty_den k) (by decide)⟩
theorem thirty_zero : thirty 0 = 0 := by
  unfold thirty
  exact Rat.zero_mkRat 32
theorem thirty_pos {k : Nat} (h : 1 ≤ k) : 0 < (thirty k).num := by
  unfold thirty
  rw [Rat.num_mkRat, if_neg (by decide)]
  have e : ((k : Int) / ((Nat.gcd 32 (k : Int).natAbs : Nat) : Int)) = ((k / Nat.gcd 32 k : Nat) : Int) := rfl
  rw [e]
  have : 0 < k / Nat.gcd 32 k := Nat.div_pos (Nat.le_of_dvd h (Nat.gcd_dvd_right _ _)) (Nat.gcd_pos_of_pos_left _ (by decide))
  omega
theorem m_pos {n d : Int} (h : mOk n d = true) : 0 ≤ mkRat n d.toNat := by
  obtain ⟨h1, _, h3⟩ := m32_ok h
  rw [h3]
  exact Rat.num_nonneg.1 (Int.le_of_lt (thirty_pos h1))
theorem m_ne {n d : Int} (h : mOk n d = true) : mkRat n d.toNat ≠ 0 := by
  obtain ⟨h1, _, h3⟩ := m32_ok h
  rw [h3]
  intro e
  have := thirty_pos h1
  rw [e] at this
  exact absurd this (by decide)
theorem lt_next {x : Rat} {n d : Int} (h : mOk n d = true) : x < x + mkRat n d.toNat := by
  rw [Rat.lt_iff_le_and_ne]
  constructor
  · have := (Rat.add_le_add_left (c := x)).2 (m_pos h)
    rwa [Rat.add_zero] at this
  · intro e
    apply m_ne h
    have e2 := congrArg (fun y => -x + y) e
    simp only [← Rat.add_assoc, Rat.neg_add_cancel, Rat.zero_add] at e2
    exact e2.symm
/-- Is each bar where the last one ended? -/
def chk : Rat → List Rb → Bool
  | _, [] => true
  | x, w :: r => (w.a == x.num && w.c == (x.den : Int) && mOk w.n w.d) && chk (x + mkRat w.n w.d.toNat) r
theorem chk_br : ∀ (ws : List Rb) (k : Nat), chk (thirty k) ws = true → k + 1024 * ws.length ≤ 1000000 →
    ∃ bs : List Br, ws.map Rb.e = bs.map Br.e ∧ chain (thirty k) bs ∧ (∀ b ∈ bs, Br.good b) ∧ (∀ b ∈ bs, ∃ k, b.x = thirty k ∧ k ≤ 1000000)
  | [], k, _, _ => ⟨[], rfl, trivial, by simp, by simp⟩
  | w :: r, k, h, hk => by
    simp only [chk, Bool.and_eq_true, beq_iff_eq] at h
    obtain ⟨⟨⟨h1, h2⟩, h3⟩, h4⟩ := h
    obtain ⟨m1, m2, m3⟩ := m32_ok h3
    rw [m3, thirty_add] at h4
    simp only [List.length_cons] at hk
    obtain ⟨bs, e1, e2, e3, e4⟩ := chk_br r _ h4 (by omega)
    have hd : ((w.d.toNat : Nat) : Int) = w.d := by
      have := mOk_cases h3
      omega
    have ok3 : mOk w.n ((w.d.toNat : Nat) : Int) = true := by rw [hd]; exact h3
    refine ⟨⟨thirty k, w.n, w.d.toNat⟩ :: bs, ?_, ⟨rfl, ok3, ?_⟩, ?_, ?_⟩
    · simp only [List.map_cons, e1]
      congr 1
      simp only [Rb.e, Br.e, barE, h1, h2, hd]
    · rw [m3, thirty_add]; exact e2
    · intro b hb
      rcases List.mem_cons.1 hb with rfl | hb
      · refine ⟨thirty_okR (by omega), ok3, ?_⟩
        simp only
        rw [m3, thirty_add]
        exact thirty_okR (by omega)
      · exact e3 b hb
    · intro b hb
      rcases List.mem_cons.1 hb with rfl | hb
      · exact ⟨k, rfl, by omega⟩
      · exact e4 b hb
theorem nat_toNat (d : Nat) : ((d : Nat) : Int).toNat = d := rfl
theorem chain_ge : ∀ (bs : List Br) (t : Rat), chain t bs → ∀ b ∈ bs, t ≤ b.x
  | [], _, _, b, hb => absurd hb (by simp)
  | c :: r, t, ⟨h1, h2, h3⟩, b, hb => by
    rcases List.mem_cons.1 hb with rfl | hb
    · rw [h1]; exact Rat.le_refl
    · have := lt_next (x := t) h2
      rw [nat_toNat, Rat.lt_iff_le_and_ne] at this
      exact Rat.le_trans this.1 (chain_ge r _ h3 b hb)
/-- How many bars begin ahead of a time. -/
noncomputable def posB : List Br → Rat → Nat
  | [], _ => 0
  | b :: r, t => if b.x < t then posB r t + 1 else 0
theorem posB_le : ∀ (bs : List Br) (t : Rat), posB bs t ≤ bs.length
  | [], _ => Nat.le_refl _
  | b :: r, t => by
    have := posB_le r t
    simp only [posB, List.length_cons]
    split <;> omega
theorem posB_lt : ∀ (bs : List Br) (s t : Rat), chain s bs → ∀ (k : Nat) (h : k < bs.length), k < posB bs t ↔ bs[k].x < t
  | [], _, _, _, k, h => absurd h (by simp)
  | b :: r, s, t, hc, k, h => by
    by_cases hb : b.x < t
    · simp only [posB, if_pos hb]
      cases k with
      | zero => simp [hb]
      | succ k =>
        have := posB_lt r _ t hc.2.2 k (by simpa using h)
        simp only [List.getElem_cons_succ]
        rw [← this]
        omega
    · simp only [posB, if_neg hb]
      constructor
      · omega
      · intro q
        exfalso
        have e := chain_ge (b :: r) s hc _ (List.getElem_mem h)
        rw [← hc.1] at e
        exact absurd (Rat.le_trans (Rat.not_lt.1 hb) e) (Rat.not_le.2 q)
theorem chain_next : ∀ (bs : List Br) (s : Rat), chain s bs → ∀ (k : Nat) (h : k + 1 < bs.length), bs[k + 1].x = (bs[k]'(by omega)).x + mkRat (bs[k]'(by omega)).n (bs[k]'(by omega)).d
  | [], _, _, k, h => absurd h (by simp)
  | b :: r, s, hc, k, h => by
    cases k with
    | zero =>
      cases r with
      | nil => exact absurd h (by simp)
      | cons c r =>
        have := hc.2.2.1
        simp only [List.getElem_cons_succ, List.getElem_cons_zero]
        rw [this, hc.1]
    | succ k => exact chain_next r _ hc.2.2 k (by simpa using h)
theorem idx_spec {bs : List Br} {t : Rat} {iv : Int} (hc : chain 0 bs) (h0 : 0 < bs.length) (ht : 0 ≤ t) (hiv : iv = idxB bs t (posB bs t) (bs[bs.length - 1]'(by omega))) :
    iv = (bs.length : Nat) ∨ ∃ (k : Nat) (hk : k < bs.length), iv = (k : Nat) ∧ bs[k].x ≤ t ∧ t < bs[k].x + mkRat bs[k].n bs[k].d := by
  have hp := posB_le bs t
  have hl := posB_lt bs 0 t hc
  obtain ⟨p, hpe⟩ : ∃ p, posB bs t = p := ⟨_, rfl⟩
  rw [hpe] at hp hl hiv
  have hm : ∀ b ∈ bs, mOk b.n b.d = true := by
    have : ∀ (l : List Br) (s : Rat), chain s l → ∀ b ∈ l, mOk b.n b.d = true := by
      intro l
      induction l with
      | nil => intro s _ b hb; exact absurd hb (by simp)
      | cons c r ih =>
        intro s q b hb
        rcases List.mem_cons.1 hb with rfl | hb
        · exact q.2.1
        · exact ih _ q.2.2 b hb
    exact this bs 0 hc
  have h00 : (bs[0]'h0).x = 0 := by
    cases bs with
    | nil => exact absurd h0 (by simp)
    | cons b r => exact hc.1
  unfold idxB at hiv
  by_cases c1 : ∃ b, bs[p]? = some b ∧ b.x = t
  · rw [if_pos c1] at hiv
    obtain ⟨b, b1, b2⟩ := c1
    have hk : p < bs.length := by
      rcases Nat.lt_or_ge p bs.length with q | q
      · exact q
      · rw [List.getElem?_eq_none q] at b1; cases b1
    rw [List.getElem?_eq_getElem hk] at b1
    cases b1
    refine Or.inr ⟨p, hk, hiv, by rw [b2]; exact Rat.le_refl, ?_⟩
    have := lt_next (x := bs[p].x) (hm _ (List.getElem_mem hk))
    rw [nat_toNat] at this
    rwa [b2] at this ⊢
  · rw [if_neg c1] at hiv
    by_cases c2 : p = bs.length ∧ (bs[bs.length - 1]'(by omega)).x + mkRat (bs[bs.length - 1]'(by omega)).n (bs[bs.length - 1]'(by omega)).d ≤ t
    · rw [if_pos c2] at hiv
      exact Or.inl (by rw [hiv, c2.1])
    · rw [if_neg c2] at hiv
      have hp0 : 0 < p := by
        rcases Nat.eq_zero_or_pos p with q | q
        · exfalso
          subst q
          have := hl 0 h0
          apply c1
          refine ⟨bs[0], List.getElem?_eq_getElem h0, ?_⟩
          have h2 : ¬ (bs[0]'h0).x < t := fun h => by have := this.2 h; omega
          rw [h00] at h2 ⊢
          exact Rat.le_antisymm ht (Rat.not_lt.1 h2)
        · exact q
      refine Or.inr ⟨p - 1, by omega, by omega, ?_, ?_⟩
      · have := (hl (p - 1) (by omega)).1 (by omega)
        exact (Rat.lt_iff_le_and_ne.1 this).1
      · rcases Nat.lt_or_ge p bs.length with q | q
        · have e := chain_next bs 0 hc (p - 1) (by omega)
          simp only [show p - 1 + 1 = p by omega] at e
          rw [← e]
          have h2 : ¬ bs[p].x < t := fun h => by have := (hl p q).2 h; omega
          rw [Rat.lt_iff_le_and_ne]
          exact ⟨Rat.not_lt.1 h2, fun h => c1 ⟨bs[p], List.getElem?_eq_getElem q, h.symm⟩⟩
        · have e : p = bs.length := by omega
          have h2 := fun h => c2 ⟨e, h⟩
          subst e
          exact Rat.not_le.1 h2
end Go.AM.Ez
