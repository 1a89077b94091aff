/- A part of a proof about the given program: what its name says. No premise beyond the statements'. -/
import Derived.Test.YtjfmkhihhdhnnaaGreatEzBarsL
set_option linter.unusedSimpArgs false
set_option linter.unusedVariables false
/- Are these bars right; in which one is a time; where in it. -/
namespace Go.AM.Ez
open Go.AM
open Go.AM.BarsP
def sameB (a b c d a' b' c' d' : Int) : Bool := decide (a = a' ∧ b = b' ∧ c = c' ∧ d = d')
theorem eq4 (a b c d a' b' c' d' : Int) : eqV (.ag [.i, .i, .i, .i]) (.agg [.int .i64 a, .int .i64 b, .int .i64 c, .int .i64 d]) (.agg [.int .i64 a', .int .i64 b', .int .i64 c', .int .i64 d']) = some (sameB a b c d a' b' c' d') := by
  simp only [eqV, eqL, eqS, grd, sameB, decide_true]
  by_cases h1 : a = a' <;> by_cases h2 : b = b' <;> by_cases h3 : c = c' <;> by_cases h4 : d = d' <;> simp [h1, h2, h3, h4, beqF]
theorem chk_cons {ws : List Rb} {i : Nat} (h : i < ws.length) (x : Rat) : chk x (ws.drop i) = ((ws[i].a == x.num && ws[i].c == (x.den : Int) && mOk ws[i].n ws[i].d) && chk (x + mkRat ws[i].n ws[i].d.toNat) (ws.drop (i + 1))) := by
  rw [List.drop_eq_getElem_cons h]; rfl
theorem chk_ne {ws : List Rb} {i : Nat} {x : Rat} (h : i < ws.length) (q : sameB ws[i].a ws[i].c ws[i].n ws[i].d x.num (x.den : Nat) ws[i].n ws[i].d = false) : chk x (ws.drop i) = false := by
  rw [chk_cons h]
  simp only [sameB, decide_eq_false_iff_not] at q
  simp only [Bool.and_eq_false_iff, beq_eq_false_iff_ne]
  by_cases h1 : ws[i].a = x.num
  · by_cases h2 : ws[i].c = (x.den : Int)
    · simp [h1, h2] at q
    · exact .inl (.inl (.inr h2))
  · exact .inl (.inl (.inl h1))
theorem chk_me {ws : List Rb} {i : Nat} {x : Rat} (h : i < ws.length) (q : mOk ws[i].n ws[i].d = false) : chk x (ws.drop i) = false := by
  rw [chk_cons h, q]
  simp
theorem chk_go {ws : List Rb} {i k : Nat} (h : i < ws.length) (q : sameB ws[i].a ws[i].c ws[i].n ws[i].d (thirty k).num ((thirty k).den : Nat) ws[i].n ws[i].d = true) (m : mOk ws[i].n ws[i].d = true) : chk (thirty k) (ws.drop i) = chk (thirty (k + m32 ws[i].n ws[i].d)) (ws.drop (i + 1)) := by
  rw [chk_cons h, m, (m32_ok m).2.2, thirty_add]
  simp only [sameB, decide_eq_true_eq] at q
  rw [q.1, q.2.1]
  simp
theorem end_w (w : Rb) (k : Nat) (h : sameB w.a w.c w.n w.d (thirty k).num ((thirty k).den : Nat) w.n w.d = true) (m : mOk w.n w.d = true) (hk : k + 1024 ≤ 1000000) :
    ACalls Go.Proofs.Tryz.prog 62 [.agg [.int .i64 w.a, .int .i64 w.c, .int .i64 w.n, .int .i64 w.d]] [] 0 (fun r _ _ => r = .agg [.int .i64 (thirty (k + m32 w.n w.d)).num, .int .i64 ((thirty (k + m32 w.n w.d)).den : Nat)]) := by
  have hd : ((w.d.toNat : Nat) : Int) = w.d := by
    have := mOk_cases m
    omega
  have m' : mOk w.n ((w.d.toNat : Nat) : Int) = true := by rw [hd]; exact m
  have m3 := m32_ok m
  have C := end_R (thirty k) w.n w.d.toNat (thirty_okR (by omega)) m'
  rw [m3.2.2, thirty_add, fR_ok (thirty_okR (by omega))] at C
  simp only [sameB, decide_eq_true_eq] at h
  simp only [barE, hd, Q.e, qR] at C
  rw [h.1, h.2.1]
  exact C

section
attribute [local simp ↓] List.map_nil List.map_cons
attribute [local simp] m_ o_ g_ stepsS stepS gd opEff appEff LArg.ev app_val app_new app_upd app_kill putV ins_e0 ins_e1 get_e0 get_e1 binV binI grd bnd ldCells AV.cells AV.scalar AV.known setAt fillL chunks elems mxI mnI del Nat.add_assoc nlt_self nne_self nne_self' List.take_of_length_le decT decF wrap_i64 stepsD stepD ST.as dEffF LOp.cls softOK LOp.args LOp.rds AV.ids appD_val appD_new appD_upd appD_kill AS.flush delAll
set_option maxHeartbeats 2000000 in
theorem right_ok (ws : List Rb) (hl : ws.length ≤ 200) (hw : ∀ w ∈ ws, w.wt) : ACalls Go.Proofs.Tryz.prog 21 [.tsl 4 (ws.map Rb.e)] [] 0 (fun r _ _ => r = .bool (decide (1 ≤ ws.length) && chk 0 ws)) := by
  refine pure_body ok21 rfl ?_
  simp only [parV]
  have CZ := bzero_ok
  simp only [Q.e, qR] at CZ
  refine LWP_seq ?_
  apply LWP_run
  · repeat (simp -implicitDefEqProofs (maxSteps := 1000000) (disch := first | assumption | omega) [Rb.e, eq4, thirty_zero]; try simp only [List.getElem?_cons_zero, Option.getD_some, app_val])
    rfl
  refine LWP_seq ?_
  refine LWP_seq ?_
  refine LWP_reg fun K hK => ?_
  apply rgnS_pre 4
  · repeat (simp -implicitDefEqProofs (maxSteps := 1000000) (disch := first | assumption | omega) [Rb.e, eq4, thirty_zero]; try simp only [List.getElem?_cons_zero, Option.getD_some, app_val])
    rfl
  refine rgnS_guard (x := 9) (b := false) rfl (fun h1 => ?_) (fun h1 => ?_)
  · try simp only [decide_eq_true_eq, decide_eq_false_iff_not, Bool.not_eq_true', Bool.not_eq_false', Bool.not_true, Bool.not_false, beq_iff_eq, bne_iff_ne, beq_eq_false_iff_ne, bne_eq_false_iff_eq, Bool.and_eq_true, Bool.or_eq_false_iff, Int.not_lt, Int.not_le, Nat.not_lt, Nat.not_le, ne_eq, Bool.true_eq_false, Bool.false_eq_true, reduceCtorEq] at h1
    all_goals try (exfalso; omega)
    all_goals
      apply rgnS_pre 4
      · repeat (simp -implicitDefEqProofs (maxSteps := 1000000) (disch := first | assumption | omega) [Rb.e, eq4, thirty_zero, h1]; try simp only [List.getElem?_cons_zero, Option.getD_some, app_val])
        rfl
      refine hK _ ?_; clear hK
      refine LWP_cond rfl (fun h2 => ?_) (fun h2 => ?_)
      · try simp only [decide_eq_true_eq, decide_eq_false_iff_not, Bool.not_eq_true', Bool.not_eq_false', Bool.not_true, Bool.not_false, beq_iff_eq, bne_iff_ne, beq_eq_false_iff_ne, bne_eq_false_iff_eq, Bool.and_eq_true, Bool.or_eq_false_iff, Int.not_lt, Int.not_le, Nat.not_lt, Nat.not_le, ne_eq, Bool.true_eq_false, Bool.false_eq_true, reduceCtorEq] at h2
        all_goals try (exfalso; omega)
        all_goals
          refine LWP_seq ?_
          apply LWP_run
          · repeat (simp -implicitDefEqProofs (maxSteps := 1000000) (disch := first | assumption | omega) [Rb.e, eq4, thirty_zero, h1, h2]; try simp only [List.getElem?_cons_zero, Option.getD_some, app_val])
            rfl
          -- leaf 0
          refine LWP_ret ⟨_, rfl, ?_⟩
          refine wkV_of_eq ?_
          simp only [retV]
          all_goals
            first
              | (have e : ws.length = 0 := by omega
                 simp [e]; done)
              | (exfalso; omega)
              | (rw [c3, chk_ne (by omega) (by assumption)]; simp; done)
              | (rw [c3, chk_me (by omega) (by assumption)]; simp; done)
              | (have e : i = ws.length := by omega
                 have e2 : 1 ≤ ws.length := by omega
                 rw [c3, e, List.drop_length]
                 simp [chk, e2]; done)
      · try simp only [decide_eq_true_eq, decide_eq_false_iff_not, Bool.not_eq_true', Bool.not_eq_false', Bool.not_true, Bool.not_false, beq_iff_eq, bne_iff_ne, beq_eq_false_iff_ne, bne_eq_false_iff_eq, Bool.and_eq_true, Bool.or_eq_false_iff, Int.not_lt, Int.not_le, Nat.not_lt, Nat.not_le, ne_eq, Bool.true_eq_false, Bool.false_eq_true, reduceCtorEq] at h2
        all_goals try (exfalso; omega)
        all_goals
          refine LWP_skip ?_
          refine LWP_seq ?_
          refine LWP_reg fun K hK => ?_
          refine rgnS_call (CZ) rfl rfl (by simp [pureL, pureR, AV.pure, Rb.e, eq4, thirty_zero]) (by simp [pureL, pureR, AV.pure, Rb.e, eq4, thirty_zero]) (by simp [gd, get_e0, get_e1, LArg.ev, h1, h2]) ?_
          apply rgnS_pre 3
          · repeat (simp -implicitDefEqProofs (maxSteps := 1000000) (disch := first | assumption | omega) [Rb.e, eq4, thirty_zero, h1, h2]; try simp only [List.getElem?_cons_zero, Option.getD_some, app_val])
            rfl
          refine hK _ ?_; clear hK
          refine LWP_seq ?_
          refine LWP_seq ?_
          apply LWP_run
          · repeat (simp -implicitDefEqProofs (maxSteps := 1000000) (disch := first | assumption | omega) [Rb.e, eq4, thirty_zero, h1, h2]; try simp only [List.getElem?_cons_zero, Option.getD_some, app_val])
            rfl
          refine LWP_block ?_
          refine LWP_for (fun (p : Nat × Nat × Int × Int) => [(3, .ptr 4 0 0 0), (16, .tsl 4 (ws.map Rb.e)), (17, .int .i64 (ws.length : Nat)), (18, .int .i64 (p.1 : Nat))]) (fun (p : Nat × Nat × Int × Int) => [(0, Blk.rows 4 [[.int .i64 (thirty p.2.1).num, .int .i64 ((thirty p.2.1).den : Nat), .int .i64 p.2.2.1, .int .i64 p.2.2.2]])]) (fun (p : Nat × Nat × Int × Int) n => 1 ≤ n ∧ p.1 ≤ ws.length ∧ p.2.1 ≤ 1024 * p.1 ∧ chk 0 ws = chk (thirty p.2.1) (ws.drop p.1)) (fun (p : Nat × Nat × Int × Int) => ws.length - p.1) (0, 0, 0, 0) ?_ ?_ ?_ ?_
          · simp (maxSteps := 1000000) (disch := first | assumption | omega) [leV, get_e0, get_e1, wkV.refl, wkV_int, decT, decF, Rb.e, eq4, thirty_zero, h1, h2]
          · simp [leH, get_e0, get_e1, h1, h2]
            rw [thirty_zero]
            exact ⟨rfl, rfl⟩
          · exact ⟨Nat.le_refl 1, by omega, by simp, by rw [thirty_zero]; rfl⟩
          rintro ⟨i, k, n0, d0⟩ n ⟨c0, c1, c2, c3⟩
          simp only at c0 c1 c2 c3
          have k0 : 0 < n := by omega
          have k1 : ¬ n = 0 := by omega
          have k2 : ¬ 0 = n := by omega
          refine LWP_seq ?_
          apply LWP_run
          · repeat (simp -implicitDefEqProofs (maxSteps := 1000000) (disch := first | assumption | omega) [Rb.e, eq4, thirty_zero, h1, h2, k0, k1, k2]; try simp only [List.getElem?_cons_zero, Option.getD_some, app_val])
            rfl
          refine LWP_seq ?_
          refine LWP_cond rfl (fun h4 => ?_) (fun h4 => ?_)
          · try simp only [decide_eq_true_eq, decide_eq_false_iff_not, Bool.not_eq_true', Bool.not_eq_false', Bool.not_true, Bool.not_false, beq_iff_eq, bne_iff_ne, beq_eq_false_iff_ne, bne_eq_false_iff_eq, Bool.and_eq_true, Bool.or_eq_false_iff, Int.not_lt, Int.not_le, Nat.not_lt, Nat.not_le, ne_eq, Bool.true_eq_false, Bool.false_eq_true, reduceCtorEq] at h4
            all_goals try (exfalso; omega)
            all_goals
              refine LWP_skip ?_
              refine LWP_seq ?_
              refine LWP_block ?_
              refine LWP_seq ?_
              apply LWP_run
              · repeat (simp -implicitDefEqProofs (maxSteps := 1000000) (disch := first | assumption | omega) [Rb.e, eq4, thirty_zero, h1, h2, k0, k1, k2, h4]; try simp only [List.getElem?_cons_zero, Option.getD_some, app_val])
                rfl
              refine LWP_seq ?_
              apply LWP_run
              · repeat (simp -implicitDefEqProofs (maxSteps := 1000000) (disch := first | assumption | omega) [Rb.e, eq4, thirty_zero, h1, h2, k0, k1, k2, h4]; try simp only [List.getElem?_cons_zero, Option.getD_some, app_val])
                rfl
              refine LWP_seq ?_
              refine LWP_seq ?_
              refine LWP_reg fun K hK => ?_
              apply rgnS_pre 4
              · repeat (simp -implicitDefEqProofs (maxSteps := 1000000) (disch := first | assumption | omega) [Rb.e, eq4, thirty_zero, h1, h2, k0, k1, k2, h4]; try simp only [List.getElem?_cons_zero, Option.getD_some, app_val])
                rfl
              refine rgnS_guard (x := 28) (b := false) rfl (fun h5 => ?_) (fun h5 => ?_)
              · try simp only [decide_eq_true_eq, decide_eq_false_iff_not, Bool.not_eq_true', Bool.not_eq_false', Bool.not_true, Bool.not_false, beq_iff_eq, bne_iff_ne, beq_eq_false_iff_ne, bne_eq_false_iff_eq, Bool.and_eq_true, Bool.or_eq_false_iff, Int.not_lt, Int.not_le, Nat.not_lt, Nat.not_le, ne_eq, Bool.true_eq_false, Bool.false_eq_true, reduceCtorEq] at h5
                all_goals try (exfalso; omega)
                all_goals
                  apply rgnS_pre 2
                  · repeat (simp -implicitDefEqProofs (maxSteps := 1000000) (disch := first | assumption | omega) [Rb.e, eq4, thirty_zero, h1, h2, k0, k1, k2, h4, h5]; try simp only [List.getElem?_cons_zero, Option.getD_some, app_val])
                    rfl
                  refine rgnS_call (meter_ok (ws[i]'(by omega)).n (ws[i]'(by omega)).d (hw _ (List.getElem_mem _)).1 (hw _ (List.getElem_mem _)).2) rfl rfl (by simp [pureL, pureR, AV.pure, Rb.e, eq4, thirty_zero]) (by simp [pureL, pureR, AV.pure, Rb.e, eq4, thirty_zero]) (by simp [gd, get_e0, get_e1, LArg.ev, h1, h2, k0, k1, k2, h4, h5]) ?_
                  apply rgnS_pre 2
                  · repeat (simp -implicitDefEqProofs (maxSteps := 1000000) (disch := first | assumption | omega) [Rb.e, eq4, thirty_zero, h1, h2, k0, k1, k2, h4, h5]; try simp only [List.getElem?_cons_zero, Option.getD_some, app_val])
                    rfl
                  refine hK _ ?_; clear hK
                  refine LWP_cond rfl (fun h6 => ?_) (fun h6 => ?_)
                  · try simp only [decide_eq_true_eq, decide_eq_false_iff_not, Bool.not_eq_true', Bool.not_eq_false', Bool.not_true, Bool.not_false, beq_iff_eq, bne_iff_ne, beq_eq_false_iff_ne, bne_eq_false_iff_eq, Bool.and_eq_true, Bool.or_eq_false_iff, Int.not_lt, Int.not_le, Nat.not_lt, Nat.not_le, ne_eq, Bool.true_eq_false, Bool.false_eq_true, reduceCtorEq] at h6
                    all_goals try (exfalso; omega)
                    all_goals
                      refine LWP_seq ?_
                      apply LWP_run
                      · repeat (simp -implicitDefEqProofs (maxSteps := 1000000) (disch := first | assumption | omega) [Rb.e, eq4, thirty_zero, h1, h2, k0, k1, k2, h4, h5, h6]; try simp only [List.getElem?_cons_zero, Option.getD_some, app_val])
                        rfl
                      -- leaf 1
                      refine LWP_ret ⟨_, rfl, ?_⟩
                      refine wkV_of_eq ?_
                      simp only [retV]
                      all_goals
                        first
                          | (have e : ws.length = 0 := by omega
                             simp [e]; done)
                          | (exfalso; omega)
                          | (rw [c3, chk_ne (by omega) (by assumption)]; simp; done)
                          | (rw [c3, chk_me (by omega) (by assumption)]; simp; done)
                          | (have e : i = ws.length := by omega
                             have e2 : 1 ≤ ws.length := by omega
                             rw [c3, e, List.drop_length]
                             simp [chk, e2]; done)
                  · try simp only [decide_eq_true_eq, decide_eq_false_iff_not, Bool.not_eq_true', Bool.not_eq_false', Bool.not_true, Bool.not_false, beq_iff_eq, bne_iff_ne, beq_eq_false_iff_ne, bne_eq_false_iff_eq, Bool.and_eq_true, Bool.or_eq_false_iff, Int.not_lt, Int.not_le, Nat.not_lt, Nat.not_le, ne_eq, Bool.true_eq_false, Bool.false_eq_true, reduceCtorEq] at h6
                    all_goals try (exfalso; omega)
                    all_goals
                      refine LWP_skip ?_
                      refine LWP_reg fun K hK => ?_
                      apply rgnS_pre 1
                      · repeat (simp -implicitDefEqProofs (maxSteps := 1000000) (disch := first | assumption | omega) [Rb.e, eq4, thirty_zero, h1, h2, k0, k1, k2, h4, h5, h6]; try simp only [List.getElem?_cons_zero, Option.getD_some, app_val])
                        rfl
                      refine rgnS_call (end_w (ws[i]'(by omega)) k (by assumption) (by assumption) (by omega)) rfl rfl (by simp [pureL, pureR, AV.pure, Rb.e, eq4, thirty_zero]) (by simp [pureL, pureR, AV.pure, Rb.e, eq4, thirty_zero]) (by simp [gd, get_e0, get_e1, LArg.ev, h1, h2, k0, k1, k2, h4, h5, h6]) ?_
                      apply rgnS_pre 2
                      · repeat (simp -implicitDefEqProofs (maxSteps := 1000000) (disch := first | assumption | omega) [Rb.e, eq4, thirty_zero, h1, h2, k0, k1, k2, h4, h5, h6]; try simp only [List.getElem?_cons_zero, Option.getD_some, app_val])
                        rfl
                      refine hK _ ?_; clear hK
                      apply LWP_run
                      · repeat (simp -implicitDefEqProofs (maxSteps := 1000000) (disch := first | assumption | omega) [Rb.e, eq4, thirty_zero, h1, h2, k0, k1, k2, h4, h5, h6]; try simp only [List.getElem?_cons_zero, Option.getD_some, app_val])
                        rfl
                      -- loop 0, round 0
                      refine ⟨(i + 1, k + m32 (ws[i]'(by omega)).n (ws[i]'(by omega)).d, (ws[i]'(by omega)).n, (ws[i]'(by omega)).d), ?_, ?_, ?_, ?_⟩
                      · have hmm := m32_ok (n := (ws[i]'(by omega)).n) (d := (ws[i]'(by omega)).d) (by assumption)
                        exact ⟨by simp only; omega, by simp only; omega, by simp only; omega, by simp only; rw [c3]; exact chk_go (by omega) (by assumption) (by assumption)⟩
                      · omega
                      · simp (maxSteps := 1000000) (disch := first | assumption | omega) [leV, get_e0, get_e1, wkV.refl, wkV_int, wrap_i64, decT, decF, Rb.e, eq4, thirty_zero, h1, h2, k0, k1, k2, h4, h5, h6]
                      · simp [leH, get_e0, get_e1, h1, h2, k0, k1, k2, h4, h5, h6]
                        try rfl
              · try simp only [decide_eq_true_eq, decide_eq_false_iff_not, Bool.not_eq_true', Bool.not_eq_false', Bool.not_true, Bool.not_false, beq_iff_eq, bne_iff_ne, beq_eq_false_iff_ne, bne_eq_false_iff_eq, Bool.and_eq_true, Bool.or_eq_false_iff, Int.not_lt, Int.not_le, Nat.not_lt, Nat.not_le, ne_eq, Bool.true_eq_false, Bool.false_eq_true, reduceCtorEq] at h5
                all_goals try (exfalso; omega)
                all_goals
                  apply rgnS_pre 4
                  · repeat (simp -implicitDefEqProofs (maxSteps := 1000000) (disch := first | assumption | omega) [Rb.e, eq4, thirty_zero, h1, h2, k0, k1, k2, h4, h5]; try simp only [List.getElem?_cons_zero, Option.getD_some, app_val])
                    rfl
                  refine hK _ ?_; clear hK
                  refine LWP_cond (t := true) (by simp [LArg.ev, get_e0, get_e1, h1, h2, k0, k1, k2, h4, h5]) (fun _ => ?_) (fun h => by cases h)
                  refine LWP_seq ?_
                  apply LWP_run
                  · repeat (simp -implicitDefEqProofs (maxSteps := 1000000) (disch := first | assumption | omega) [Rb.e, eq4, thirty_zero, h1, h2, k0, k1, k2, h4, h5]; try simp only [List.getElem?_cons_zero, Option.getD_some, app_val])
                    rfl
                  -- leaf 2
                  refine LWP_ret ⟨_, rfl, ?_⟩
                  refine wkV_of_eq ?_
                  simp only [retV]
                  all_goals
                    first
                      | (have e : ws.length = 0 := by omega
                         simp [e]; done)
                      | (exfalso; omega)
                      | (rw [c3, chk_ne (by omega) (by assumption)]; simp; done)
                      | (rw [c3, chk_me (by omega) (by assumption)]; simp; done)
                      | (have e : i = ws.length := by omega
                         have e2 : 1 ≤ ws.length := by omega
                         rw [c3, e, List.drop_length]
                         simp [chk, e2]; done)
          · try simp only [decide_eq_true_eq, decide_eq_false_iff_not, Bool.not_eq_true', Bool.not_eq_false', Bool.not_true, Bool.not_false, beq_iff_eq, bne_iff_ne, beq_eq_false_iff_ne, bne_eq_false_iff_eq, Bool.and_eq_true, Bool.or_eq_false_iff, Int.not_lt, Int.not_le, Nat.not_lt, Nat.not_le, ne_eq, Bool.true_eq_false, Bool.false_eq_true, reduceCtorEq] at h4
            all_goals try (exfalso; omega)
            all_goals
              refine LWP_exit ?_
              refine LWP_seq ?_
              apply LWP_run
              · repeat (simp -implicitDefEqProofs (maxSteps := 1000000) (disch := first | assumption | omega) [Rb.e, eq4, thirty_zero, h1, h2, k0, k1, k2, h4]; try simp only [List.getElem?_cons_zero, Option.getD_some, app_val])
                rfl
              -- leaf 3
              refine LWP_ret ⟨_, rfl, ?_⟩
              refine wkV_of_eq ?_
              simp only [retV]
              all_goals
                first
                  | (have e : ws.length = 0 := by omega
                     simp [e]; done)
                  | (exfalso; omega)
                  | (rw [c3, chk_ne (by omega) (by assumption)]; simp; done)
                  | (rw [c3, chk_me (by omega) (by assumption)]; simp; done)
                  | (have e : i = ws.length := by omega
                     have e2 : 1 ≤ ws.length := by omega
                     rw [c3, e, List.drop_length]
                     simp [chk, e2]; done)
  · try simp only [decide_eq_true_eq, decide_eq_false_iff_not, Bool.not_eq_true', Bool.not_eq_false', Bool.not_true, Bool.not_false, beq_iff_eq, bne_iff_ne, beq_eq_false_iff_ne, bne_eq_false_iff_eq, Bool.and_eq_true, Bool.or_eq_false_iff, Int.not_lt, Int.not_le, Nat.not_lt, Nat.not_le, ne_eq, Bool.true_eq_false, Bool.false_eq_true, reduceCtorEq] at h1
    all_goals try (exfalso; omega)
    all_goals
      apply rgnS_pre 3
      · repeat (simp -implicitDefEqProofs (maxSteps := 1000000) (disch := first | assumption | omega) [Rb.e, eq4, thirty_zero, h1]; try simp only [List.getElem?_cons_zero, Option.getD_some, app_val])
        rfl
      refine hK _ ?_; clear hK
      refine LWP_cond (t := true) (by simp [LArg.ev, get_e0, get_e1, h1]) (fun _ => ?_) (fun h => by cases h)
      refine LWP_seq ?_
      apply LWP_run
      · repeat (simp -implicitDefEqProofs (maxSteps := 1000000) (disch := first | assumption | omega) [Rb.e, eq4, thirty_zero, h1]; try simp only [List.getElem?_cons_zero, Option.getD_some, app_val])
        rfl
      -- leaf 4
      refine LWP_ret ⟨_, rfl, ?_⟩
      refine wkV_of_eq ?_
      simp only [retV]
      all_goals
        first
          | (have e : ws.length = 0 := by omega
             simp [e]; done)
          | (exfalso; omega)
          | (rw [c3, chk_ne (by omega) (by assumption)]; simp; done)
          | (rw [c3, chk_me (by omega) (by assumption)]; simp; done)
          | (have e : i = ws.length := by omega
             have e2 : 1 ≤ ws.length := by omega
             rw [c3, e, List.drop_length]
             simp [chk, e2]; done)
end

/-- In which bar a time is: what comes of three answers. -/
def atV (rb : Bool) (q : Q) (iv : Int) (n : Nat) : AV := if rb = true ∧ okQ q = true ∧ 0 ≤ q.n ∧ iv ≠ (n : Int) then .tup [.int .i64 iv, .bool true] else .tup [.int .i64 0, .bool false]

section
attribute [local simp ↓] List.map_nil List.map_cons
attribute [local simp] m_ o_ g_ stepsS stepS gd opEff appEff LArg.ev app_val app_new app_upd app_kill putV ins_e0 ins_e1 get_e0 get_e1 binV binI grd bnd ldCells AV.cells AV.scalar AV.known setAt fillL chunks elems mxI mnI del Nat.add_assoc nlt_self nne_self nne_self' List.take_of_length_le decT decF wrap_i64 stepsD stepD ST.as dEffF LOp.cls softOK LOp.args LOp.rds AV.ids appD_val appD_new appD_upd appD_kill AS.flush delAll
set_option maxHeartbeats 2000000 in
theorem at_ok (ws : List Rb) (q : Q) (rb : Bool) (iv : Int) (hl : ws.length ≤ 200) (b1 : -9223372036854775808 ≤ q.n) (b2 : q.n ≤ 9223372036854775807) (hR : ACalls Go.Proofs.Tryz.prog 21 [.tsl 4 (ws.map Rb.e)] [] 0 (fun r _ _ => r = .bool rb)) (hI : rb = true → okQ q = true → 0 ≤ q.n → ACalls Go.Proofs.Tryz.prog 23 [.tsl 4 (ws.map Rb.e), .agg [.int .i64 q.n, .int .i64 q.d]] [] 0 (fun r _ _ => r = .int .i64 iv)) : ACalls Go.Proofs.Tryz.prog 7 [.tsl 4 (ws.map Rb.e), .agg q.e] [] 0 (fun r _ _ => r = atV rb q iv ws.length) := by
  refine pure_body ok7 rfl ?_
  simp only [parV]
  refine LWP_seq ?_
  apply LWP_run
  · repeat (simp -implicitDefEqProofs (maxSteps := 1000000) (disch := first | assumption | omega) [Q.e, beqF, beqT]; try simp only [List.getElem?_cons_zero, Option.getD_some, app_val])
    rfl
  refine LWP_seq ?_
  refine LWP_seq ?_
  refine LWP_reg fun K hK => ?_
  apply rgnS_pre 1
  · repeat (simp -implicitDefEqProofs (maxSteps := 1000000) (disch := first | assumption | omega) [Q.e, beqF, beqT]; try simp only [List.getElem?_cons_zero, Option.getD_some, app_val])
    rfl
  refine rgnS_call (hR) rfl rfl (by simp [pureL, pureR, AV.pure, Q.e, pureR_rb]) (by simp [pureL, pureR, AV.pure, Q.e, pureR_rb]) (by simp [gd, get_e0, get_e1, LArg.ev]) ?_
  apply rgnS_pre 2
  · repeat (simp -implicitDefEqProofs (maxSteps := 1000000) (disch := first | assumption | omega) [Q.e, beqF, beqT]; try simp only [List.getElem?_cons_zero, Option.getD_some, app_val])
    rfl
  refine rgnS_guard (x := 10) (b := false) rfl (fun h1 => ?_) (fun h1 => ?_)
  · try simp only [decide_eq_true_eq, decide_eq_false_iff_not, Bool.not_eq_true', Bool.not_eq_false', Bool.not_true, Bool.not_false, beq_iff_eq, bne_iff_ne, beq_eq_false_iff_ne, bne_eq_false_iff_eq, Bool.and_eq_true, Bool.or_eq_false_iff, Int.not_lt, Int.not_le, Nat.not_lt, Nat.not_le, ne_eq, Bool.true_eq_false, Bool.false_eq_true, reduceCtorEq] at h1
    all_goals try (exfalso; omega)
    all_goals
      apply rgnS_pre 1
      · repeat (simp -implicitDefEqProofs (maxSteps := 1000000) (disch := first | assumption | omega) [Q.e, beqF, beqT, h1]; try simp only [List.getElem?_cons_zero, Option.getD_some, app_val])
        rfl
      refine rgnS_call (check_ok q b1 b2) rfl rfl (by simp [pureL, pureR, AV.pure, Q.e, Q.e]) (by simp [pureL, pureR, AV.pure, Q.e, Q.e]) (by simp [gd, get_e0, get_e1, LArg.ev, h1]) ?_
      apply rgnS_pre 3
      · repeat (simp -implicitDefEqProofs (maxSteps := 1000000) (disch := first | assumption | omega) [Q.e, beqF, beqT, h1]; try simp only [List.getElem?_cons_zero, Option.getD_some, app_val])
        rfl
      refine rgnS_guard (x := 15) (b := false) rfl (fun h2 => ?_) (fun h2 => ?_)
      · try simp only [decide_eq_true_eq, decide_eq_false_iff_not, Bool.not_eq_true', Bool.not_eq_false', Bool.not_true, Bool.not_false, beq_iff_eq, bne_iff_ne, beq_eq_false_iff_ne, bne_eq_false_iff_eq, Bool.and_eq_true, Bool.or_eq_false_iff, Int.not_lt, Int.not_le, Nat.not_lt, Nat.not_le, ne_eq, Bool.true_eq_false, Bool.false_eq_true, reduceCtorEq] at h2
        all_goals try (exfalso; omega)
        all_goals
          apply rgnS_pre 4
          · repeat (simp -implicitDefEqProofs (maxSteps := 1000000) (disch := first | assumption | omega) [Q.e, beqF, beqT, h1, h2]; try simp only [List.getElem?_cons_zero, Option.getD_some, app_val])
            rfl
          refine hK _ ?_; clear hK
          refine LWP_cond rfl (fun h3 => ?_) (fun h3 => ?_)
          · try simp only [decide_eq_true_eq, decide_eq_false_iff_not, Bool.not_eq_true', Bool.not_eq_false', Bool.not_true, Bool.not_false, beq_iff_eq, bne_iff_ne, beq_eq_false_iff_ne, bne_eq_false_iff_eq, Bool.and_eq_true, Bool.or_eq_false_iff, Int.not_lt, Int.not_le, Nat.not_lt, Nat.not_le, ne_eq, Bool.true_eq_false, Bool.false_eq_true, reduceCtorEq] at h3
            all_goals try (exfalso; omega)
            all_goals
              refine LWP_seq ?_
              apply LWP_run
              · repeat (simp -implicitDefEqProofs (maxSteps := 1000000) (disch := first | assumption | omega) [Q.e, beqF, beqT, h1, h2, h3]; try simp only [List.getElem?_cons_zero, Option.getD_some, app_val])
                rfl
              -- leaf 0
              refine LWP_ret ⟨_, rfl, ?_⟩
              refine wkV_of_eq ?_
              simp only [retV]
              all_goals
                simp only [atV]
                first
                  | (rw [if_pos ⟨by assumption, by assumption, by omega, by omega⟩]; done)
                  | (rw [if_neg (by rintro ⟨a, b, c, d⟩; first | omega | simp_all)]; done)
          · try simp only [decide_eq_true_eq, decide_eq_false_iff_not, Bool.not_eq_true', Bool.not_eq_false', Bool.not_true, Bool.not_false, beq_iff_eq, bne_iff_ne, beq_eq_false_iff_ne, bne_eq_false_iff_eq, Bool.and_eq_true, Bool.or_eq_false_iff, Int.not_lt, Int.not_le, Nat.not_lt, Nat.not_le, ne_eq, Bool.true_eq_false, Bool.false_eq_true, reduceCtorEq] at h3
            all_goals try (exfalso; omega)
            all_goals
              refine LWP_skip ?_
              refine LWP_seq ?_
              refine LWP_reg fun K hK => ?_
              apply rgnS_pre 2
              · repeat (simp -implicitDefEqProofs (maxSteps := 1000000) (disch := first | assumption | omega) [Q.e, beqF, beqT, h1, h2, h3]; try simp only [List.getElem?_cons_zero, Option.getD_some, app_val])
                rfl
              refine rgnS_call (hI (by assumption) (by assumption) (by omega)) rfl rfl (by simp [pureL, pureR, AV.pure, Q.e, pureR_rb]) (by simp [pureL, pureR, AV.pure, Q.e, pureR_rb]) (by simp [gd, get_e0, get_e1, LArg.ev, h1, h2, h3]) ?_
              apply rgnS_pre 1
              · repeat (simp -implicitDefEqProofs (maxSteps := 1000000) (disch := first | assumption | omega) [Q.e, beqF, beqT, h1, h2, h3]; try simp only [List.getElem?_cons_zero, Option.getD_some, app_val])
                rfl
              refine hK _ ?_; clear hK
              refine LWP_seq ?_
              refine LWP_seq ?_
              apply LWP_run
              · repeat (simp -implicitDefEqProofs (maxSteps := 1000000) (disch := first | assumption | omega) [Q.e, beqF, beqT, h1, h2, h3]; try simp only [List.getElem?_cons_zero, Option.getD_some, app_val])
                rfl
              refine LWP_cond rfl (fun h4 => ?_) (fun h4 => ?_)
              · try simp only [decide_eq_true_eq, decide_eq_false_iff_not, Bool.not_eq_true', Bool.not_eq_false', Bool.not_true, Bool.not_false, beq_iff_eq, bne_iff_ne, beq_eq_false_iff_ne, bne_eq_false_iff_eq, Bool.and_eq_true, Bool.or_eq_false_iff, Int.not_lt, Int.not_le, Nat.not_lt, Nat.not_le, ne_eq, Bool.true_eq_false, Bool.false_eq_true, reduceCtorEq] at h4
                all_goals try (exfalso; omega)
                all_goals
                  refine LWP_seq ?_
                  apply LWP_run
                  · repeat (simp -implicitDefEqProofs (maxSteps := 1000000) (disch := first | assumption | omega) [Q.e, beqF, beqT, h1, h2, h3, h4]; try simp only [List.getElem?_cons_zero, Option.getD_some, app_val])
                    rfl
                  -- leaf 1
                  refine LWP_ret ⟨_, rfl, ?_⟩
                  refine wkV_of_eq ?_
                  simp only [retV]
                  all_goals
                    simp only [atV]
                    first
                      | (rw [if_pos ⟨by assumption, by assumption, by omega, by omega⟩]; done)
                      | (rw [if_neg (by rintro ⟨a, b, c, d⟩; first | omega | simp_all)]; done)
              · try simp only [decide_eq_true_eq, decide_eq_false_iff_not, Bool.not_eq_true', Bool.not_eq_false', Bool.not_true, Bool.not_false, beq_iff_eq, bne_iff_ne, beq_eq_false_iff_ne, bne_eq_false_iff_eq, Bool.and_eq_true, Bool.or_eq_false_iff, Int.not_lt, Int.not_le, Nat.not_lt, Nat.not_le, ne_eq, Bool.true_eq_false, Bool.false_eq_true, reduceCtorEq] at h4
                all_goals try (exfalso; omega)
                all_goals
                  refine LWP_skip ?_
                  refine LWP_seq ?_
                  apply LWP_run
                  · repeat (simp -implicitDefEqProofs (maxSteps := 1000000) (disch := first | assumption | omega) [Q.e, beqF, beqT, h1, h2, h3, h4]; try simp only [List.getElem?_cons_zero, Option.getD_some, app_val])
                    rfl
                  -- leaf 2
                  refine LWP_ret ⟨_, rfl, ?_⟩
                  refine wkV_of_eq ?_
                  simp only [retV]
                  all_goals
                    simp only [atV]
                    first
                      | (rw [if_pos ⟨by assumption, by assumption, by omega, by omega⟩]; done)
                      | (rw [if_neg (by rintro ⟨a, b, c, d⟩; first | omega | simp_all)]; done)
      · try simp only [decide_eq_true_eq, decide_eq_false_iff_not, Bool.not_eq_true', Bool.not_eq_false', Bool.not_true, Bool.not_false, beq_iff_eq, bne_iff_ne, beq_eq_false_iff_ne, bne_eq_false_iff_eq, Bool.and_eq_true, Bool.or_eq_false_iff, Int.not_lt, Int.not_le, Nat.not_lt, Nat.not_le, ne_eq, Bool.true_eq_false, Bool.false_eq_true, reduceCtorEq] at h2
        all_goals try (exfalso; omega)
        all_goals
          apply rgnS_pre 3
          · repeat (simp -implicitDefEqProofs (maxSteps := 1000000) (disch := first | assumption | omega) [Q.e, beqF, beqT, h1, h2]; try simp only [List.getElem?_cons_zero, Option.getD_some, app_val])
            rfl
          refine hK _ ?_; clear hK
          refine LWP_cond (t := true) (by simp [LArg.ev, get_e0, get_e1, h1, h2]) (fun _ => ?_) (fun h => by cases h)
          refine LWP_seq ?_
          apply LWP_run
          · repeat (simp -implicitDefEqProofs (maxSteps := 1000000) (disch := first | assumption | omega) [Q.e, beqF, beqT, h1, h2]; try simp only [List.getElem?_cons_zero, Option.getD_some, app_val])
            rfl
          -- leaf 3
          refine LWP_ret ⟨_, rfl, ?_⟩
          refine wkV_of_eq ?_
          simp only [retV]
          all_goals
            simp only [atV]
            first
              | (rw [if_pos ⟨by assumption, by assumption, by omega, by omega⟩]; done)
              | (rw [if_neg (by rintro ⟨a, b, c, d⟩; first | omega | simp_all)]; done)
  · try simp only [decide_eq_true_eq, decide_eq_false_iff_not, Bool.not_eq_true', Bool.not_eq_false', Bool.not_true, Bool.not_false, beq_iff_eq, bne_iff_ne, beq_eq_false_iff_ne, bne_eq_false_iff_eq, Bool.and_eq_true, Bool.or_eq_false_iff, Int.not_lt, Int.not_le, Nat.not_lt, Nat.not_le, ne_eq, Bool.true_eq_false, Bool.false_eq_true, reduceCtorEq] at h1
    all_goals try (exfalso; omega)
    all_goals
      apply rgnS_pre 8
      · repeat (simp -implicitDefEqProofs (maxSteps := 1000000) (disch := first | assumption | omega) [Q.e, beqF, beqT, h1]; try simp only [List.getElem?_cons_zero, Option.getD_some, app_val])
        rfl
      refine hK _ ?_; clear hK
      refine LWP_cond (t := true) (by simp [LArg.ev, get_e0, get_e1, h1]) (fun _ => ?_) (fun h => by cases h)
      refine LWP_seq ?_
      apply LWP_run
      · repeat (simp -implicitDefEqProofs (maxSteps := 1000000) (disch := first | assumption | omega) [Q.e, beqF, beqT, h1]; try simp only [List.getElem?_cons_zero, Option.getD_some, app_val])
        rfl
      -- leaf 4
      refine LWP_ret ⟨_, rfl, ?_⟩
      refine wkV_of_eq ?_
      simp only [retV]
      all_goals
        simp only [atV]
        first
          | (rw [if_pos ⟨by assumption, by assumption, by omega, by omega⟩]; done)
          | (rw [if_neg (by rintro ⟨a, b, c, d⟩; first | omega | simp_all)]; done)
end

section
attribute [local simp ↓] List.map_nil List.map_cons
attribute [local simp] m_ o_ g_ stepsS stepS gd opEff appEff LArg.ev app_val app_new app_upd app_kill putV ins_e0 ins_e1 get_e0 get_e1 binV binI grd bnd ldCells AV.cells AV.scalar AV.known setAt fillL chunks elems mxI mnI del Nat.add_assoc nlt_self nne_self nne_self' List.take_of_length_le decT decF wrap_i64 stepsD stepD ST.as dEffF LOp.cls softOK LOp.args LOp.rds AV.ids appD_val appD_new appD_upd appD_kill AS.flush delAll
set_option maxHeartbeats 2000000 in
theorem place_no (ws : List Rb) (q : Q) (hA : ACalls Go.Proofs.Tryz.prog 7 [.tsl 4 (ws.map Rb.e), .agg [.int .i64 q.n, .int .i64 q.d]] [] 0 (fun r _ _ => r = .tup [.int .i64 0, .bool false])) (hS : False → ACalls Go.Proofs.Tryz.prog 24 [.agg [.int .i64 q.n, .int .i64 q.d], .agg [.int .i64 0, .int .i64 0]] [] 0 (fun r _ _ => r = sT 0 0)) : ACalls Go.Proofs.Tryz.prog 8 [.tsl 4 (ws.map Rb.e), .agg q.e] [] 0 (fun r _ _ => r = .tup [.agg [.int .i64 0, .int .i64 0], .bool false]) := by
  refine pure_body ok8 rfl ?_
  simp only [parV]
  refine LWP_seq ?_
  apply LWP_run
  · repeat (simp -implicitDefEqProofs (maxSteps := 1000000) (disch := first | assumption | omega) [Q.e]; try simp only [List.getElem?_cons_zero, Option.getD_some, app_val])
    rfl
  refine LWP_seq ?_
  refine LWP_reg fun K hK => ?_
  apply rgnS_pre 2
  · repeat (simp -implicitDefEqProofs (maxSteps := 1000000) (disch := first | assumption | omega) [Q.e]; try simp only [List.getElem?_cons_zero, Option.getD_some, app_val])
    rfl
  refine rgnS_call (hA) rfl rfl (by simp [pureL, pureR, AV.pure, Q.e, pureR_rb]) (by simp [pureL, pureR, AV.pure, Q.e, pureR_rb]) (by simp [gd, get_e0, get_e1, LArg.ev]) ?_
  apply rgnS_pre 5
  · repeat (simp -implicitDefEqProofs (maxSteps := 1000000) (disch := first | assumption | omega) [Q.e]; try simp only [List.getElem?_cons_zero, Option.getD_some, app_val])
    rfl
  refine hK _ ?_; clear hK
  refine LWP_seq ?_
  refine LWP_seq ?_
  apply LWP_run
  · repeat (simp -implicitDefEqProofs (maxSteps := 1000000) (disch := first | assumption | omega) [Q.e]; try simp only [List.getElem?_cons_zero, Option.getD_some, app_val])
    rfl
  refine LWP_cond rfl (fun h1 => ?_) (fun h1 => ?_)
  · try simp only [decide_eq_true_eq, decide_eq_false_iff_not, Bool.not_eq_true', Bool.not_eq_false', Bool.not_true, Bool.not_false, beq_iff_eq, bne_iff_ne, beq_eq_false_iff_ne, bne_eq_false_iff_eq, Bool.and_eq_true, Bool.or_eq_false_iff, Int.not_lt, Int.not_le, Nat.not_lt, Nat.not_le, ne_eq, Bool.true_eq_false, Bool.false_eq_true, reduceCtorEq] at h1
    all_goals try (exfalso; omega)
    all_goals
      refine LWP_seq ?_
      apply LWP_run
      · repeat (simp -implicitDefEqProofs (maxSteps := 1000000) (disch := first | assumption | omega) [Q.e, h1]; try simp only [List.getElem?_cons_zero, Option.getD_some, app_val])
        rfl
      -- leaf 0
      refine LWP_ret ⟨_, rfl, ?_⟩
      refine wkV_of_eq ?_
      simp only [retV]
      all_goals
        simp [Nat.add_zero]
  · try simp only [decide_eq_true_eq, decide_eq_false_iff_not, Bool.not_eq_true', Bool.not_eq_false', Bool.not_true, Bool.not_false, beq_iff_eq, bne_iff_ne, beq_eq_false_iff_ne, bne_eq_false_iff_eq, Bool.and_eq_true, Bool.or_eq_false_iff, Int.not_lt, Int.not_le, Nat.not_lt, Nat.not_le, ne_eq, Bool.true_eq_false, Bool.false_eq_true, reduceCtorEq] at h1
    all_goals try (exfalso; omega)
    all_goals
      refine LWP_skip ?_
      refine LWP_seq ?_
      refine LWP_regD' fun K hK => ?_
      apply rgnD_pre 6
      · repeat (simp -implicitDefEqProofs (maxSteps := 1000000) (disch := first | assumption | omega) [Q.e, h1]; try simp only [List.getElem?_cons_zero, Option.getD_some, app_val])
        rfl
      refine rgnD_call (hS (by assumption)) rfl rfl (by simp [pureL, pureR, AV.pure, Q.e]) (by simp [pureL, pureR, AV.pure, Q.e]) (by simp [gd, get_e0, get_e1, LArg.ev, h1]) (by simp (maxSteps := 1000000) (disch := first | assumption | omega) [Q.e]) ?_
      apply rgnD_pre 6
      · repeat (simp -implicitDefEqProofs (maxSteps := 1000000) (disch := first | assumption | omega) [Q.e, h1]; try simp only [List.getElem?_cons_zero, Option.getD_some, app_val])
        rfl
      refine hK _ _ (by simp [AS.fin, delAll, del, Nat.add_assoc]; rfl) ?_; clear hK
      refine LWP_seq ?_
      refine LWP_seq ?_
      apply LWP_run
      · repeat (simp -implicitDefEqProofs (maxSteps := 1000000) (disch := first | assumption | omega) [Q.e, h1]; try simp only [List.getElem?_cons_zero, Option.getD_some, app_val])
        rfl
      refine LWP_cond rfl (fun h2 => ?_) (fun h2 => ?_)
      · try simp only [decide_eq_true_eq, decide_eq_false_iff_not, Bool.not_eq_true', Bool.not_eq_false', Bool.not_true, Bool.not_false, beq_iff_eq, bne_iff_ne, beq_eq_false_iff_ne, bne_eq_false_iff_eq, Bool.and_eq_true, Bool.or_eq_false_iff, Int.not_lt, Int.not_le, Nat.not_lt, Nat.not_le, ne_eq, Bool.true_eq_false, Bool.false_eq_true, reduceCtorEq] at h2
        all_goals try (exfalso; omega)
        all_goals
          refine LWP_seq ?_
          apply LWP_run
          · repeat (simp -implicitDefEqProofs (maxSteps := 1000000) (disch := first | assumption | omega) [Q.e, h1, h2]; try simp only [List.getElem?_cons_zero, Option.getD_some, app_val])
            rfl
          -- leaf 1
          refine LWP_ret ⟨_, rfl, ?_⟩
          refine wkV_of_eq ?_
          simp only [retV]
          all_goals
            simp [Nat.add_zero]
      · try simp only [decide_eq_true_eq, decide_eq_false_iff_not, Bool.not_eq_true', Bool.not_eq_false', Bool.not_true, Bool.not_false, beq_iff_eq, bne_iff_ne, beq_eq_false_iff_ne, bne_eq_false_iff_eq, Bool.and_eq_true, Bool.or_eq_false_iff, Int.not_lt, Int.not_le, Nat.not_lt, Nat.not_le, ne_eq, Bool.true_eq_false, Bool.false_eq_true, reduceCtorEq] at h2
        all_goals try (exfalso; omega)
        all_goals
          refine LWP_skip ?_
          refine LWP_seq ?_
          apply LWP_run
          · repeat (simp -implicitDefEqProofs (maxSteps := 1000000) (disch := first | assumption | omega) [Q.e, h1, h2]; try simp only [List.getElem?_cons_zero, Option.getD_some, app_val])
            rfl
          -- leaf 2
          refine LWP_ret ⟨_, rfl, ?_⟩
          refine wkV_of_eq ?_
          simp only [retV]
          all_goals
            simp [Nat.add_zero]
end

section
attribute [local simp ↓] List.map_nil List.map_cons
attribute [local simp] m_ o_ g_ stepsS stepS gd opEff appEff LArg.ev app_val app_new app_upd app_kill putV ins_e0 ins_e1 get_e0 get_e1 binV binI grd bnd ldCells AV.cells AV.scalar AV.known setAt fillL chunks elems mxI mnI del Nat.add_assoc nlt_self nne_self nne_self' List.take_of_length_le decT decF wrap_i64 stepsD stepD ST.as dEffF LOp.cls softOK LOp.args LOp.rds AV.ids appD_val appD_new appD_upd appD_kill AS.flush delAll
set_option maxHeartbeats 2000000 in
theorem place_yes (ws : List Rb) (q : Q) (i : Nat) (n d : Int) (hi : i < ws.length) (hA : ACalls Go.Proofs.Tryz.prog 7 [.tsl 4 (ws.map Rb.e), .agg [.int .i64 q.n, .int .i64 q.d]] [] 0 (fun r _ _ => r = .tup [.int .i64 (i : Nat), .bool true])) (hS : ACalls Go.Proofs.Tryz.prog 24 [.agg [.int .i64 q.n, .int .i64 q.d], .agg [.int .i64 ws[i].a, .int .i64 ws[i].c]] [] 0 (fun r _ _ => r = .tup [.agg [.int .i64 (sN n d), .int .i64 (sD n d)], .int .i64 (sE n d)])) : ACalls Go.Proofs.Tryz.prog 8 [.tsl 4 (ws.map Rb.e), .agg q.e] [] 0 (fun r _ _ => r = .tup [.agg [.int .i64 (sN n d), .int .i64 (sD n d)], .bool (sOK n d)]) := by
  refine pure_body ok8 rfl ?_
  simp only [parV]
  refine LWP_seq ?_
  apply LWP_run
  · repeat (simp -implicitDefEqProofs (maxSteps := 1000000) (disch := first | assumption | omega) [Q.e, Rb.e, beqF, beqT]; try simp only [List.getElem?_cons_zero, Option.getD_some, app_val])
    rfl
  refine LWP_seq ?_
  refine LWP_reg fun K hK => ?_
  apply rgnS_pre 2
  · repeat (simp -implicitDefEqProofs (maxSteps := 1000000) (disch := first | assumption | omega) [Q.e, Rb.e, beqF, beqT]; try simp only [List.getElem?_cons_zero, Option.getD_some, app_val])
    rfl
  refine rgnS_call (hA) rfl rfl (by simp [pureL, pureR, AV.pure, Q.e, Rb.e, pureR_rb]) (by simp [pureL, pureR, AV.pure, Q.e, Rb.e, pureR_rb]) (by simp [gd, get_e0, get_e1, LArg.ev]) ?_
  apply rgnS_pre 5
  · repeat (simp -implicitDefEqProofs (maxSteps := 1000000) (disch := first | assumption | omega) [Q.e, Rb.e, beqF, beqT]; try simp only [List.getElem?_cons_zero, Option.getD_some, app_val])
    rfl
  refine hK _ ?_; clear hK
  refine LWP_seq ?_
  refine LWP_seq ?_
  apply LWP_run
  · repeat (simp -implicitDefEqProofs (maxSteps := 1000000) (disch := first | assumption | omega) [Q.e, Rb.e, beqF, beqT]; try simp only [List.getElem?_cons_zero, Option.getD_some, app_val])
    rfl
  refine LWP_cond rfl (fun h1 => ?_) (fun h1 => ?_)
  · try simp only [decide_eq_true_eq, decide_eq_false_iff_not, Bool.not_eq_true', Bool.not_eq_false', Bool.not_true, Bool.not_false, beq_iff_eq, bne_iff_ne, beq_eq_false_iff_ne, bne_eq_false_iff_eq, Bool.and_eq_true, Bool.or_eq_false_iff, Int.not_lt, Int.not_le, Nat.not_lt, Nat.not_le, ne_eq, Bool.true_eq_false, Bool.false_eq_true, reduceCtorEq] at h1
    all_goals try (exfalso; omega)
    all_goals
      refine LWP_seq ?_
      apply LWP_run
      · repeat (simp -implicitDefEqProofs (maxSteps := 1000000) (disch := first | assumption | omega) [Q.e, Rb.e, beqF, beqT, h1]; try simp only [List.getElem?_cons_zero, Option.getD_some, app_val])
        rfl
      -- leaf 0
      refine LWP_ret ⟨_, rfl, ?_⟩
      refine wkV_of_eq ?_
      simp only [retV]
      all_goals
        unfold sE at *
        by_cases hk : sOK n d = true
        · simp_all [sN, sD]
        · simp_all [sN, sD]
  · try simp only [decide_eq_true_eq, decide_eq_false_iff_not, Bool.not_eq_true', Bool.not_eq_false', Bool.not_true, Bool.not_false, beq_iff_eq, bne_iff_ne, beq_eq_false_iff_ne, bne_eq_false_iff_eq, Bool.and_eq_true, Bool.or_eq_false_iff, Int.not_lt, Int.not_le, Nat.not_lt, Nat.not_le, ne_eq, Bool.true_eq_false, Bool.false_eq_true, reduceCtorEq] at h1
    all_goals try (exfalso; omega)
    all_goals
      refine LWP_skip ?_
      refine LWP_seq ?_
      refine LWP_regD' fun K hK => ?_
      apply rgnD_pre 6
      · repeat (simp -implicitDefEqProofs (maxSteps := 1000000) (disch := first | assumption | omega) [Q.e, Rb.e, beqF, beqT, h1]; try simp only [List.getElem?_cons_zero, Option.getD_some, app_val])
        rfl
      refine rgnD_call (hS) rfl rfl (by simp [pureL, pureR, AV.pure, Q.e, Rb.e]) (by simp [pureL, pureR, AV.pure, Q.e, Rb.e]) (by simp [gd, get_e0, get_e1, LArg.ev, h1]) (by simp (maxSteps := 1000000) (disch := first | assumption | omega) [Q.e, Rb.e, beqF, beqT]) ?_
      apply rgnD_pre 6
      · repeat (simp -implicitDefEqProofs (maxSteps := 1000000) (disch := first | assumption | omega) [Q.e, Rb.e, beqF, beqT, h1]; try simp only [List.getElem?_cons_zero, Option.getD_some, app_val])
        rfl
      refine hK _ _ (by simp [AS.fin, delAll, del, Nat.add_assoc]; rfl) ?_; clear hK
      refine LWP_seq ?_
      refine LWP_seq ?_
      apply LWP_run
      · repeat (simp -implicitDefEqProofs (maxSteps := 1000000) (disch := first | assumption | omega) [Q.e, Rb.e, beqF, beqT, h1]; try simp only [List.getElem?_cons_zero, Option.getD_some, app_val])
        rfl
      refine LWP_cond rfl (fun h2 => ?_) (fun h2 => ?_)
      · try simp only [decide_eq_true_eq, decide_eq_false_iff_not, Bool.not_eq_true', Bool.not_eq_false', Bool.not_true, Bool.not_false, beq_iff_eq, bne_iff_ne, beq_eq_false_iff_ne, bne_eq_false_iff_eq, Bool.and_eq_true, Bool.or_eq_false_iff, Int.not_lt, Int.not_le, Nat.not_lt, Nat.not_le, ne_eq, Bool.true_eq_false, Bool.false_eq_true, reduceCtorEq] at h2
        all_goals try (exfalso; omega)
        all_goals
          refine LWP_seq ?_
          apply LWP_run
          · repeat (simp -implicitDefEqProofs (maxSteps := 1000000) (disch := first | assumption | omega) [Q.e, Rb.e, beqF, beqT, h1, h2]; try simp only [List.getElem?_cons_zero, Option.getD_some, app_val])
            rfl
          -- leaf 1
          refine LWP_ret ⟨_, rfl, ?_⟩
          refine wkV_of_eq ?_
          simp only [retV]
          all_goals
            unfold sE at *
            by_cases hk : sOK n d = true
            · simp_all [sN, sD]
            · simp_all [sN, sD]
      · try simp only [decide_eq_true_eq, decide_eq_false_iff_not, Bool.not_eq_true', Bool.not_eq_false', Bool.not_true, Bool.not_false, beq_iff_eq, bne_iff_ne, beq_eq_false_iff_ne, bne_eq_false_iff_eq, Bool.and_eq_true, Bool.or_eq_false_iff, Int.not_lt, Int.not_le, Nat.not_lt, Nat.not_le, ne_eq, Bool.true_eq_false, Bool.false_eq_true, reduceCtorEq] at h2
        all_goals try (exfalso; omega)
        all_goals
          refine LWP_skip ?_
          refine LWP_seq ?_
          apply LWP_run
          · repeat (simp -implicitDefEqProofs (maxSteps := 1000000) (disch := first | assumption | omega) [Q.e, Rb.e, beqF, beqT, h1, h2]; try simp only [List.getElem?_cons_zero, Option.getD_some, app_val])
            rfl
          -- leaf 2
          refine LWP_ret ⟨_, rfl, ?_⟩
          refine wkV_of_eq ?_
          simp only [retV]
          all_goals
            unfold sE at *
            by_cases hk : sOK n d = true
            · simp_all [sN, sD]
            · simp_all [sN, sD]
end

end Go.AM.Ez
