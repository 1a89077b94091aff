/- A part of a proof about the given program: what its name says. No premise beyond the statements'. -/
import Derived.Test.YtjfmkhihhdhnnaaGreatEzBarsN
import Derived.Test.YtjfmkhihhdhnnaaGreatFC
set_option linter.unusedSimpArgs false
set_option linter.unusedVariables false
/- The law on places in bars: for every bars and every time it answers true. -/
namespace Go.AM.Ez
open Go.AM
open Go.AM.BarsP
open Go.Proofs.Tryz
theorem at_cases (ws : List Rb) (q : Q) (hl : ws.length ≤ 200) (hw : ∀ w ∈ ws, w.wt) (b1 : -9223372036854775808 ≤ q.n) (b2 : q.n ≤ 9223372036854775807) :
    ACalls Go.Proofs.Tryz.prog 7 [.tsl 4 (ws.map Rb.e), .agg q.e] [] 0 (fun r _ _ => r = .tup [.int .i64 0, .bool false]) ∨
    ∃ (bs : List Br) (t : Rat) (k : Nat) (hk : k < bs.length), ws.map Rb.e = bs.map Br.e ∧ q = qR t ∧ okR t ∧ Br.good bs[k] ∧ bs[k].x ≤ t ∧ t < bs[k].x + mkRat bs[k].n bs[k].d ∧
      ACalls Go.Proofs.Tryz.prog 7 [.tsl 4 (ws.map Rb.e), .agg q.e] [] 0 (fun r _ _ => r = .tup [.int .i64 (k : Nat), .bool true]) := by
  have hR := right_ok ws hl hw
  by_cases hg : (decide (1 ≤ ws.length) && chk 0 ws) = true ∧ okQ q = true ∧ 0 ≤ q.n
  · obtain ⟨g1, g2, g3⟩ := hg
    have g1' := g1
    simp only [Bool.and_eq_true, decide_eq_true_eq] at g1'
    obtain ⟨g4, g5⟩ := g1'
    rw [← thirty_zero] at g5
    obtain ⟨bs, e1, e2, e3, e4⟩ := chk_br ws 0 g5 (by omega)
    rw [thirty_zero] at e2
    obtain ⟨t, rfl, ht⟩ := qR_of g2
    have el : ws.length = bs.length := by
      have := congrArg List.length e1
      simpa using this
    have t0 : 0 ≤ t := Rat.num_nonneg.1 g3
    obtain ⟨iv, hiv⟩ : ∃ iv, iv = idxB bs t (posB bs t) (bs[bs.length - 1]'(by omega)) := ⟨_, rfl⟩
    have hI := indexB_ok bs t (posB bs t) (by omega) (by omega) ht e3 (posB_le bs t) (posB_lt bs 0 t e2)
    rw [← hiv, ← e1] at hI
    have hA := at_ok ws (qR t) _ iv hl b1 b2 hR (fun _ _ _ => hI)
    rcases idx_spec e2 (by omega) t0 hiv with h | ⟨k, hk, h1, h2, h3⟩
    · left
      rw [atV, if_neg (fun h4 => h4.2.2.2 (by rw [h, el]))] at hA
      exact hA
    · right
      rw [atV, if_pos ⟨g1, g2, g3, by omega⟩, h1] at hA
      exact ⟨bs, t, k, hk, e1, rfl, ht, e3 _ (List.getElem_mem hk), h2, h3, hA⟩
  · left
    have hA := at_ok ws q _ 0 hl b1 b2 hR (fun a b c => absurd ⟨a, b, c⟩ hg)
    rwa [atV, if_neg (fun h => hg ⟨h.1, h.2.1, h.2.2.1⟩)] at hA
theorem barsPlace_ok (ws : List Rb) (q : Q) (hw : ∀ w ∈ ws, w.wt) (b1 : -9223372036854775808 ≤ q.n) (b2 : q.n ≤ 9223372036854775807) :
    ACalls Go.Proofs.Tryz.prog 3 [.tsl 4 (ws.map Rb.e), .agg q.e] [] 0 (fun r _ _ => r = .bool true) := by
  by_cases hl : ws.length ≤ 200
  · rcases at_cases ws q hl hw b1 b2 with hA | ⟨bs, t, k, hk, e1, rfl, ht, ⟨g1, g2, g3⟩, h1, h2, hA⟩
    · exact law_no ws q hl hA (place_no ws q hA (fun h => h.elim))
    · have el : ws.length = bs.length := by
        have := congrArg List.length e1
        simpa using this
      have hk' : k < ws.length := by omega
      have ec : (ws[k]'hk').e = (bs[k]'hk).e := by
        have : (ws.map Rb.e)[k]? = (bs.map Br.e)[k]? := by rw [e1]
        simpa [List.getElem?_eq_getElem hk', List.getElem?_eq_getElem hk] using this
      simp only [Rb.e, Br.e, barE, List.cons.injEq, AV.int.injEq, true_and, and_true] at ec
      obtain ⟨c1, c2, c3, c4⟩ := ec
      have hS := sub_R t (bs[k]'hk).x ht g1
      simp only [Q.e, qR, tR, sT] at hS
      have hP := place_yes ws (qR t) k (t - (bs[k]'hk).x).num ((t - (bs[k]'hk).x).den : Nat) hk' hA (by rw [c1, c2]; exact hS)
      by_cases ho : sOK (t - (bs[k]'hk).x).num ((t - (bs[k]'hk).x).den : Nat) = true
      · have hd : okR (t - (bs[k]'hk).x) := by
          simp only [sOK, Bool.and_eq_true, decide_eq_true_eq] at ho
          exact ⟨ho.1, by omega⟩
        simp only [sN, sD, ho, if_true] at hP
        obtain ⟨m1, m2, m3⟩ := mOk_cases g2
        have hm : okR (mkRat (bs[k]'hk).n (bs[k]'hk).d) := okR_mk m1 m2 (by omega) (by omega)
        have hB := rbar_R (bs[k]'hk).n (bs[k]'hk).d g2
        have hS2 := radd_R (bs[k]'hk).x (t - (bs[k]'hk).x) g1 hd
        rw [add_place, tR_ok ht] at hS2
        have hC := rcmp_R (t - (bs[k]'hk).x) (mkRat (bs[k]'hk).n (bs[k]'hk).d) hd hm
        refine law_yes ws (qR t) k _ _ (mkRat (bs[k]'hk).n (bs[k]'hk).d).num ((mkRat (bs[k]'hk).n (bs[k]'hk).d).den : Nat) (cmpR (t - (bs[k]'hk).x) (mkRat (bs[k]'hk).n (bs[k]'hk).d)) hl hk' hA hP (num_nonneg (place_nonneg h1)) (cmpR_lt.2 (place_lt h2)) ?_ ?_ ?_
        · rw [c3, c4]; exact hB
        · rw [c1, c2]; exact hS2
        · exact hC
      · simp only [sN, sD, ho, if_false, Bool.false_eq_true] at hP
        exact law_half ws (qR t) k hl hA hP
  · exact law_big ws q (by omega)
theorem len2 {cs : List AV} (h : cs.length = 2) : ∃ a b, cs = [a, b] := by
  match cs, h with
  | [a, b], _ => exact ⟨a, b, rfl⟩
theorem len4 {cs : List AV} (h : cs.length = 4) : ∃ a b c d, cs = [a, b, c, d] := by
  match cs, h with
  | [a, b, c, d], _ => exact ⟨a, b, c, d, rfl⟩
theorem c24 : prog.cellsOf 24 = 2 := by kernel_rfl
theorem c32 : prog.cellsOf 32 = 2 := by kernel_rfl
theorem c34 : prog.cellsOf 34 = 4 := by kernel_rfl
theorem c3 : prog.cellsOf 3 = 1 := by kernel_rfl
set_option maxRecDepth 100000 in
theorem rd_rat {n : Nat} {cs : List AV} (h : wtV prog n 24 cs) : ∃ q : Q, cs = q.e ∧ -9223372036854775808 ≤ q.n ∧ q.n ≤ 9223372036854775807 := by
  obtain ⟨m, h1, h2⟩ := wtV_struct underlying24 h
  rw [c24] at h1
  obtain ⟨a, b, rfl⟩ := len2 h1
  simp only [List.forall_mem_cons, List.not_mem_nil, c3] at h2
  simp at h2
  obtain ⟨k1, k2⟩ := h2
  obtain ⟨x, e1, x1, x2⟩ := wtV_int underlying3 k1
  obtain ⟨y, e2, _⟩ := wtV_int underlying3 k2
  cases e1; cases e2
  exact ⟨⟨x, y⟩, rfl, x1, x2⟩
set_option maxRecDepth 100000 in
theorem rd_met {n : Nat} {cs : List AV} (h : wtV prog n 32 cs) : ∃ a b : Int, cs = [.int .i64 a, .int .i64 b] ∧ -9223372036854775808 ≤ b ∧ b ≤ 9223372036854775807 := by
  obtain ⟨m, h1, h2⟩ := wtV_struct underlying32 h
  rw [c32] at h1
  obtain ⟨a, b, rfl⟩ := len2 h1
  simp only [List.forall_mem_cons, List.not_mem_nil, c3] at h2
  simp at h2
  obtain ⟨k1, k2⟩ := h2
  obtain ⟨x, e1, _⟩ := wtV_int underlying3 k1
  obtain ⟨y, e2, y1, y2⟩ := wtV_int underlying3 k2
  cases e1; cases e2
  exact ⟨x, y, rfl, y1, y2⟩
set_option maxRecDepth 100000 in
theorem rd_bar {n : Nat} {cs : List AV} (h : wtV prog n 34 cs) : ∃ w : Rb, cs = w.e ∧ w.wt := by
  obtain ⟨m, h1, h2⟩ := wtV_struct underlying34 h
  rw [c34] at h1
  obtain ⟨a, b, c, d, rfl⟩ := len4 h1
  simp only [List.forall_mem_cons, List.not_mem_nil, c24, c32] at h2
  simp at h2
  obtain ⟨k1, k2⟩ := h2
  obtain ⟨q, e1, _⟩ := rd_rat k1
  obtain ⟨x, y, e2, y1, y2⟩ := rd_met k2
  simp only [Q.e, List.cons.injEq, and_true] at e1 e2
  obtain ⟨rfl, rfl⟩ := e1
  obtain ⟨rfl, rfl⟩ := e2
  exact ⟨⟨q.n, q.d, x, y⟩, rfl, y1, y2⟩
set_option maxRecDepth 100000 in
theorem rd_bars {n : Nat} {a : AV} (h : wtA prog n 22 a) : ∃ ws : List Rb, a = .tsl 4 (ws.map Rb.e) ∧ ∀ w ∈ ws, w.wt := by
  obtain ⟨m, es, h1, h2, h3⟩ := wtV_slice underlying22 c34 (by decide) (wtA_slice underlying22 h)
  cases h1
  obtain ⟨rs, rfl, h4⟩ := map_of (f := Rb.e) (C := Rb.wt) (es := es) fun x hx => by
    obtain ⟨z, hz, hz2⟩ := rd_bar (h3 x hx).2
    exact ⟨z, hz, hz2⟩
  exact ⟨rs, rfl, h4⟩
set_option maxRecDepth 100000 in
theorem barsPlace_all (l : List AV) (h : wtAll prog [22, 24] l) : ACalls prog 3 l [] 0 (fun r _ _ => r = .bool true) := by
  match l, h with
  | [a, b], ⟨⟨n, ha⟩, ⟨m, hb⟩, _⟩ =>
    obtain ⟨ws, rfl, hw⟩ := rd_bars ha
    obtain ⟨cs, rfl, hc⟩ := wtA_struct underlying24 hb
    obtain ⟨q, rfl, q1, q2⟩ := rd_rat hc
    exact barsPlace_ok ws q hw q1 q2
end Go.AM.Ez
