/- A part of a proof about the given program: what its name says. No premise beyond the statements'. -/
import Derived.Test.YtkhioehebaghjaaSkSkyS2
import Derived.Test.YtkhioehebaghjaaSkSkyT
import Derived.Test.YtkhioehebaghjaaFC
set_option linter.unusedSimpArgs false
set_option linter.unusedVariables false
/- No box stands above its skyline, and at each place some box is just as high: the walk. -/
namespace Go.AM.Sk
open Go.AM
open Go.AM.SkyP
theorem pureR_bx (l : List Bx) : pureR (l.map Bx.e) = true := by
  induction l with
  | nil => simp [pureR]
  | cons b r ih => simp [pureR, Bx.e, pureL, AV.pure, ih]
theorem bxB_nums {b : Bx} (h : bxB b = true) : okF b.x0 = true ∧ okF b.x1 = true ∧ okF b.y1 = true ∧ okF (-b.y0) = true := by
  simp only [bxB, okF, Bool.and_eq_true, decide_eq_true_eq] at *
  omega
theorem stp_mem {hf : Bx → Int} {l : List Bx} {s : St} : s ∈ stp hf l ↔ ∃ b ∈ l, b.x0 < b.x1 ∧ s = ⟨b.x0, b.x1, hf b⟩ := by
  simp only [stp, List.mem_map, List.mem_filter, decide_eq_true_eq]
  constructor
  · rintro ⟨b, ⟨h1, h2⟩, rfl⟩; exact ⟨b, h1, h2, rfl⟩
  · rintro ⟨b, h1, h2, rfl⟩; exact ⟨b, ⟨h1, h2⟩, rfl⟩
theorem stp_chk {hf : Bx → Int} {l : List Bx} (hl : l.length ≤ 60) (hh : ∀ b ∈ l, okF b.x0 = true ∧ okF b.x1 = true ∧ okF (hf b) = true) : chkB (lineS (stp hf l)) = true := by
  refine lineS_chk (fun s hs => ?_) (by have := stp_len hf l; omega)
  obtain ⟨b, h1, h2, rfl⟩ := stp_mem.1 hs
  exact ⟨h2, hh b h1⟩

section
attribute [local simp ↓] List.map_nil List.map_cons
attribute [local simp] m_ o_ g_ stepsS stepS gd opEff appEff LArg.ev app_val app_new app_upd app_kill putV ins_e0 ins_e1 get_e0 get_e1 binV binI grd bnd ldCells AV.cells AV.scalar AV.known setAt fillL chunks elems mxI mnI del Nat.add_assoc nlt_self nne_self nne_self' List.take_of_length_le decT decF wrap_i64 stepsD stepD ST.as dEffF LOp.cls softOK LOp.args LOp.rds AV.ids appD_val appD_new appD_upd appD_kill AS.flush delAll
set_option maxHeartbeats 2000000 in
set_option maxRecDepth 20000 in
theorem of_yes (l : List Bx) (hl : l.length ≤ 60) (ha : l.all bxB = true) : ACalls Go.Proofs.Try.prog 9 [.tsl 4 (l.map Bx.e)] [] 0 (fun r _ _ => r = .tup [.tsl 3 ((lineS (stp (fun b => b.y1) l)).map St.e), .int .i64 0]) := by
  refine pure_body ok9 rfl ?_
  simp only [parV]
  have hE := edge_ok (hf := fun b => b.y1) (fun b _ => of1_ok b) l hl
  rw [edgeV, if_pos ha] at hE
  refine LWP_seq ?_
  apply LWP_run
  · repeat (simp -implicitDefEqProofs (maxSteps := 1000000) (disch := first | assumption | omega) []; try simp only [gz])
    rfl
  refine LWP_seq ?_
  refine LWP_reg fun K hK => ?_
  apply rgnS_pre 1
  · repeat (simp -implicitDefEqProofs (maxSteps := 1000000) (disch := first | assumption | omega) []; try simp only [gz])
    rfl
  refine rgnS_call (hE) rfl rfl (by simp [pureL, pureR, AV.pure, pureR_st, pureR_bx, pureR]) (by simp [pureL, pureR, AV.pure, pureR_st, pureR_bx, pureR]) (by simp [gd, get_e0, get_e1, LArg.ev]) ?_
  apply rgnS_pre 4
  · repeat (simp -implicitDefEqProofs (maxSteps := 1000000) (disch := first | assumption | omega) []; try simp only [gz])
    rfl
  refine hK _ ?_; clear hK
  -- leaf 0
  refine LWP_ret ⟨_, rfl, ?_⟩
  refine wkV_of_eq ?_
  simp only [retV]
  all_goals
    rfl
set_option maxHeartbeats 2000000 in
set_option maxRecDepth 20000 in
theorem of_no (l : List Bx) (hl : l.length ≤ 60) (ha : l.all bxB = false) : ACalls Go.Proofs.Try.prog 9 [.tsl 4 (l.map Bx.e)] [] 0 (fun r _ _ => r = .tup [.tsl 3 [], .int .i64 2]) := by
  refine pure_body ok9 rfl ?_
  simp only [parV]
  have hE := edge_ok (hf := fun b => b.y1) (fun b _ => of1_ok b) l hl
  rw [edgeV, if_neg (by rw [ha]; simp)] at hE
  refine LWP_seq ?_
  apply LWP_run
  · repeat (simp -implicitDefEqProofs (maxSteps := 1000000) (disch := first | assumption | omega) []; try simp only [gz])
    rfl
  refine LWP_seq ?_
  refine LWP_reg fun K hK => ?_
  apply rgnS_pre 1
  · repeat (simp -implicitDefEqProofs (maxSteps := 1000000) (disch := first | assumption | omega) []; try simp only [gz])
    rfl
  refine rgnS_call (hE) rfl rfl (by simp [pureL, pureR, AV.pure, pureR_st, pureR_bx, pureR]) (by simp [pureL, pureR, AV.pure, pureR_st, pureR_bx, pureR]) (by simp [gd, get_e0, get_e1, LArg.ev]) ?_
  apply rgnS_pre 4
  · repeat (simp -implicitDefEqProofs (maxSteps := 1000000) (disch := first | assumption | omega) []; try simp only [gz])
    rfl
  refine hK _ ?_; clear hK
  -- leaf 0
  refine LWP_ret ⟨_, rfl, ?_⟩
  refine wkV_of_eq ?_
  simp only [retV]
  all_goals
    rfl
set_option maxHeartbeats 2000000 in
set_option maxRecDepth 20000 in
theorem under_yes (l : List Bx) (hl : l.length ≤ 60) (ha : l.all bxB = true) : ACalls Go.Proofs.Try.prog 11 [.tsl 4 (l.map Bx.e)] [] 0 (fun r _ _ => r = .tup [.tsl 3 ((lineS (stp (fun b => -b.y0) l)).map St.e), .int .i64 0]) := by
  refine pure_body ok11 rfl ?_
  simp only [parV]
  have hE := edge_ok (hf := fun b => -b.y0) (fun b h => under1_ok b h) l hl
  rw [edgeV, if_pos ha] at hE
  refine LWP_seq ?_
  apply LWP_run
  · repeat (simp -implicitDefEqProofs (maxSteps := 1000000) (disch := first | assumption | omega) []; try simp only [gz])
    rfl
  refine LWP_seq ?_
  refine LWP_reg fun K hK => ?_
  apply rgnS_pre 1
  · repeat (simp -implicitDefEqProofs (maxSteps := 1000000) (disch := first | assumption | omega) []; try simp only [gz])
    rfl
  refine rgnS_call (hE) rfl rfl (by simp [pureL, pureR, AV.pure, pureR_st, pureR_bx, pureR]) (by simp [pureL, pureR, AV.pure, pureR_st, pureR_bx, pureR]) (by simp [gd, get_e0, get_e1, LArg.ev]) ?_
  apply rgnS_pre 4
  · repeat (simp -implicitDefEqProofs (maxSteps := 1000000) (disch := first | assumption | omega) []; try simp only [gz])
    rfl
  refine hK _ ?_; clear hK
  -- leaf 0
  refine LWP_ret ⟨_, rfl, ?_⟩
  refine wkV_of_eq ?_
  simp only [retV]
  all_goals
    rfl
set_option maxHeartbeats 2000000 in
set_option maxRecDepth 20000 in
theorem under_no (l : List Bx) (hl : l.length ≤ 60) (ha : l.all bxB = false) : ACalls Go.Proofs.Try.prog 11 [.tsl 4 (l.map Bx.e)] [] 0 (fun r _ _ => r = .tup [.tsl 3 [], .int .i64 2]) := by
  refine pure_body ok11 rfl ?_
  simp only [parV]
  have hE := edge_ok (hf := fun b => -b.y0) (fun b h => under1_ok b h) l hl
  rw [edgeV, if_neg (by rw [ha]; simp)] at hE
  refine LWP_seq ?_
  apply LWP_run
  · repeat (simp -implicitDefEqProofs (maxSteps := 1000000) (disch := first | assumption | omega) []; try simp only [gz])
    rfl
  refine LWP_seq ?_
  refine LWP_reg fun K hK => ?_
  apply rgnS_pre 1
  · repeat (simp -implicitDefEqProofs (maxSteps := 1000000) (disch := first | assumption | omega) []; try simp only [gz])
    rfl
  refine rgnS_call (hE) rfl rfl (by simp [pureL, pureR, AV.pure, pureR_st, pureR_bx, pureR]) (by simp [pureL, pureR, AV.pure, pureR_st, pureR_bx, pureR]) (by simp [gd, get_e0, get_e1, LArg.ev]) ?_
  apply rgnS_pre 4
  · repeat (simp -implicitDefEqProofs (maxSteps := 1000000) (disch := first | assumption | omega) []; try simp only [gz])
    rfl
  refine hK _ ?_; clear hK
  -- leaf 0
  refine LWP_ret ⟨_, rfl, ?_⟩
  refine wkV_of_eq ?_
  simp only [retV]
  all_goals
    rfl
end

theorem max_ex : ∀ {l : List Int}, (∃ m, m ∈ l) → ∃ m ∈ l, ∀ n ∈ l, n ≤ m
  | [], ⟨m, h⟩ => absurd h (by simp)
  | [a], _ => ⟨a, by simp, by simp⟩
  | a :: b :: r, _ => by
    obtain ⟨m, h1, h2⟩ := max_ex (l := b :: r) ⟨b, by simp⟩
    by_cases h : a ≤ m
    · refine ⟨m, List.mem_cons_of_mem _ h1, fun n hn => ?_⟩
      rcases List.mem_cons.1 hn with rfl | hn
      · exact h
      · exact h2 n hn
    · refine ⟨a, by simp, fun n hn => ?_⟩
      rcases List.mem_cons.1 hn with rfl | hn
      · omega
      · have := h2 n hn; omega

def inB (b : Bx) (x : Int) : Prop := b.x0 ≤ x ∧ x < b.x1
def hitB (l : List Bx) (x h : Int) (i : Nat) : Prop := ∃ (k : Nat) (hk : k < l.length), k < i ∧ inB l[k] x ∧ l[k].y1 = h
theorem hitB_0 {l : List Bx} {x h : Int} : hitB l x h 0 ↔ False := ⟨fun ⟨k, _, h, _⟩ => absurd h (Nat.not_lt_zero _), False.elim⟩
theorem hitB_no {l : List Bx} {x h : Int} {i : Nat} (hi : i < l.length) (hn : ¬ (inB l[i] x ∧ l[i].y1 = h)) : hitB l x h (i + 1) ↔ hitB l x h i := by
  constructor
  · rintro ⟨k, hk, h1, h2⟩
    by_cases e : k = i
    · subst e; exact absurd h2 hn
    · exact ⟨k, hk, by omega, h2⟩
  · rintro ⟨k, hk, h1, h2⟩; exact ⟨k, hk, by omega, h2⟩
theorem hitB_yes {l : List Bx} {x h : Int} {i : Nat} (hi : i < l.length) (h1 : inB l[i] x) (h2 : l[i].y1 = h) : hitB l x h (i + 1) := ⟨i, hi, by omega, h1, h2⟩
theorem hitB_mono {l : List Bx} {x h : Int} {i : Nat} : hitB l x h i → hitB l x h (i + 1) := fun ⟨k, hk, h1, h2⟩ => ⟨k, hk, by omega, h2⟩

section
attribute [local simp ↓] List.map_nil List.map_cons
attribute [local simp] m_ o_ g_ stepsS stepS gd opEff appEff LArg.ev app_val app_new app_upd app_kill putV ins_e0 ins_e1 get_e0 get_e1 binV binI grd bnd ldCells AV.cells AV.scalar AV.known setAt fillL chunks elems mxI mnI del Nat.add_assoc nlt_self nne_self nne_self' List.take_of_length_le decT decF wrap_i64 stepsD stepD ST.as dEffF LOp.cls softOK LOp.args LOp.rds AV.ids appD_val appD_new appD_upd appD_kill AS.flush delAll
set_option maxHeartbeats 2000000 in
set_option maxRecDepth 20000 in
theorem covers_in (l : List Bx) (x h : Int) (ok : Bool) (a : List St) (hO : ACalls Go.Proofs.Try.prog 9 [.tsl 4 (l.map Bx.e)] [] 0 (fun r _ _ => r = .tup [.tsl 3 (a.map St.e), .int .i64 0]))
  (hA : ACalls Go.Proofs.Try.prog 18 [.tsl 3 (a.map St.e), .int .i64 x] [] 0 (fun r _ _ => r = .tup [.int .i64 h, .bool ok])) (hC : ACalls Go.Proofs.Try.prog 20 [.tsl 3 (a.map St.e)] [] 0 (fun r _ _ => r = .bool true))
  (hl : l.length ≤ 60) (hF1 : ∀ (i : Nat) (hi : i < l.length), inB l[i] x → ok = true ∧ l[i].y1 ≤ h) (hF2 : ok = true → hitB l x h l.length) : ACalls Go.Proofs.Try.prog 5 [.tsl 4 (l.map Bx.e), .int .i64 x] [] 0 (fun r _ _ => r = .bool true) := by
  refine pure_body ok5 rfl ?_
  simp only [parV]
  refine LWP_seq ?_
  apply LWP_run
  · repeat (simp -implicitDefEqProofs (maxSteps := 1000000) (disch := first | assumption | omega) [Bx.e, eqV, eqS]; try simp only [gz])
    rfl
  refine LWP_seq ?_
  refine LWP_seq ?_
  apply LWP_run
  · repeat (simp -implicitDefEqProofs (maxSteps := 1000000) (disch := first | assumption | omega) [Bx.e, eqV, eqS]; try simp only [gz])
    rfl
  refine LWP_cond rfl (fun h1 => ?_) (fun h1 => ?_)
  · try simp only [bn, reduceCtorEq] at h1
    all_goals try (exfalso; omega)
    all_goals
      refine LWP_seq ?_
      refine LWP_reg fun K hK => ?_
      refine rgnS_call (hsheads) rfl rfl (by simp [pureL, pureR, AV.pure, Bx.e, eqV, eqS]) (by simp [pureL, pureR, AV.pure, Bx.e, eqV, eqS]) (by simp [gd, get_e0, get_e1, LArg.ev, h1]) ?_
      apply rgnS_pre 1
      · repeat (simp -implicitDefEqProofs (maxSteps := 1000000) (disch := first | assumption | omega) [Bx.e, eqV, eqS, h1]; try simp only [gz])
        rfl
      refine hK _ ?_; clear hK
      -- leaf 0
      refine LWP_ret ⟨_, rfl, ?_⟩
      refine wkV_of_eq ?_
      simp only [retV]
      all_goals
        first
          | (exfalso
             have q := hF1 i (by omega) ⟨by omega, by omega⟩
             simp_all; done)
          | (exfalso
             have q := hF1 i (by omega) ⟨by omega, by omega⟩
             omega)
          | (have ei : i = l.length := by omega
             subst ei
             have q1 : j = ok := by
               cases ok with
               | true => exact c2.2 (hF2 rfl)
               | false =>
                 cases j with
                 | false => rfl
                 | true =>
                   obtain ⟨k, hk, _, q, _⟩ := c2.1 rfl
                   exact absurd (hF1 k hk q).1 (by simp)
             simp_all; done)
          | trace_state
  · try simp only [bn, reduceCtorEq] at h1
    all_goals try (exfalso; omega)
    all_goals
      refine LWP_skip ?_
      refine LWP_seq ?_
      refine LWP_reg fun K hK => ?_
      apply rgnS_pre 1
      · repeat (simp -implicitDefEqProofs (maxSteps := 1000000) (disch := first | assumption | omega) [Bx.e, eqV, eqS, h1]; try simp only [gz])
        rfl
      refine rgnS_call (hO) rfl rfl (by simp [pureL, pureR, AV.pure, Bx.e, eqV, eqS, pureR_st, pureR_bx, pureR]) (by simp [pureL, pureR, AV.pure, Bx.e, eqV, eqS, pureR_st, pureR_bx, pureR]) (by simp [gd, get_e0, get_e1, LArg.ev, h1]) ?_
      apply rgnS_pre 5
      · repeat (simp -implicitDefEqProofs (maxSteps := 1000000) (disch := first | assumption | omega) [Bx.e, eqV, eqS, h1]; try simp only [gz])
        rfl
      refine hK _ ?_; clear hK
      refine LWP_seq ?_
      refine LWP_seq ?_
      apply LWP_run
      · repeat (simp -implicitDefEqProofs (maxSteps := 1000000) (disch := first | assumption | omega) [Bx.e, eqV, eqS, h1]; try simp only [gz])
        rfl
      refine LWP_cond rfl (fun h2 => ?_) (fun h2 => ?_)
      · try simp only [bn, reduceCtorEq] at h2
        all_goals try (exfalso; omega)
        all_goals
          refine LWP_seq ?_
          refine LWP_reg fun K hK => ?_
          apply rgnS_pre 4
          · repeat (simp -implicitDefEqProofs (maxSteps := 1000000) (disch := first | assumption | omega) [Bx.e, eqV, eqS, h1, h2]; try simp only [gz])
            rfl
          refine rgnS_guard (x := 25) (b := true) rfl (fun h3 => ?_) (fun h3 => ?_)
          · try simp only [bn, reduceCtorEq] at h3
            all_goals try (exfalso; omega)
            all_goals
              refine rgnS_call (hsheads) rfl rfl (by simp [pureL, pureR, AV.pure, Bx.e, eqV, eqS]) (by simp [pureL, pureR, AV.pure, Bx.e, eqV, eqS]) (by simp [gd, get_e0, get_e1, LArg.ev, h1, h2, h3]) ?_
              apply rgnS_pre 2
              · repeat (simp -implicitDefEqProofs (maxSteps := 1000000) (disch := first | assumption | omega) [Bx.e, eqV, eqS, h1, h2, h3]; try simp only [gz])
                rfl
              refine hK _ ?_; clear hK
              -- leaf 1
              refine LWP_ret ⟨_, rfl, ?_⟩
              refine wkV_of_eq ?_
              simp only [retV]
              all_goals
                first
                  | (exfalso
                     have q := hF1 i (by omega) ⟨by omega, by omega⟩
                     simp_all; done)
                  | (exfalso
                     have q := hF1 i (by omega) ⟨by omega, by omega⟩
                     omega)
                  | (have ei : i = l.length := by omega
                     subst ei
                     have q1 : j = ok := by
                       cases ok with
                       | true => exact c2.2 (hF2 rfl)
                       | false =>
                         cases j with
                         | false => rfl
                         | true =>
                           obtain ⟨k, hk, _, q, _⟩ := c2.1 rfl
                           exact absurd (hF1 k hk q).1 (by simp)
                     simp_all; done)
                  | trace_state
          · try simp only [bn, reduceCtorEq] at h3
            all_goals try (exfalso; omega)
            all_goals
              apply rgnS_pre 2
              · repeat (simp -implicitDefEqProofs (maxSteps := 1000000) (disch := first | assumption | omega) [Bx.e, eqV, eqS, h1, h2, h3]; try simp only [gz])
                rfl
              refine hK _ ?_; clear hK
              -- leaf 2
              refine LWP_ret ⟨_, rfl, ?_⟩
              refine wkV_of_eq ?_
              simp only [retV]
              all_goals
                first
                  | (exfalso
                     have q := hF1 i (by omega) ⟨by omega, by omega⟩
                     simp_all; done)
                  | (exfalso
                     have q := hF1 i (by omega) ⟨by omega, by omega⟩
                     omega)
                  | (have ei : i = l.length := by omega
                     subst ei
                     have q1 : j = ok := by
                       cases ok with
                       | true => exact c2.2 (hF2 rfl)
                       | false =>
                         cases j with
                         | false => rfl
                         | true =>
                           obtain ⟨k, hk, _, q, _⟩ := c2.1 rfl
                           exact absurd (hF1 k hk q).1 (by simp)
                     simp_all; done)
                  | trace_state
      · try simp only [bn, reduceCtorEq] at h2
        all_goals try (exfalso; omega)
        all_goals
          refine LWP_skip ?_
          refine LWP_seq ?_
          refine LWP_reg fun K hK => ?_
          apply rgnS_pre 2
          · repeat (simp -implicitDefEqProofs (maxSteps := 1000000) (disch := first | assumption | omega) [Bx.e, eqV, eqS, h1, h2]; try simp only [gz])
            rfl
          refine rgnS_call (hA) rfl rfl (by simp [pureL, pureR, AV.pure, Bx.e, eqV, eqS, pureR_st]) (by simp [pureL, pureR, AV.pure, Bx.e, eqV, eqS, pureR_st]) (by simp [gd, get_e0, get_e1, LArg.ev, h1, h2]) ?_
          apply rgnS_pre 5
          · repeat (simp -implicitDefEqProofs (maxSteps := 1000000) (disch := first | assumption | omega) [Bx.e, eqV, eqS, h1, h2]; try simp only [gz])
            rfl
          refine hK _ ?_; clear hK
          refine LWP_seq ?_
          apply LWP_run
          · repeat (simp -implicitDefEqProofs (maxSteps := 1000000) (disch := first | assumption | omega) [Bx.e, eqV, eqS, h1, h2]; try simp only [gz])
            rfl
          refine LWP_seq ?_
          refine LWP_seq ?_
          apply LWP_run
          · repeat (simp -implicitDefEqProofs (maxSteps := 1000000) (disch := first | assumption | omega) [Bx.e, eqV, eqS, h1, h2]; try simp only [gz])
            rfl
          refine LWP_block ?_
          refine LWP_for (fun (p : Nat × Bool) => [(0, .tsl 4 (l.map Bx.e)), (1, .int .i64 x), (5, .tsl 3 (a.map St.e)), (7, .int .i64 h), (8, .bool ok), (9, .bool p.2), (10, .int .i64 (p.1 : Nat))]) (fun (p : Nat × Bool) => []) (fun (p : Nat × Bool) n => p.1 ≤ l.length ∧ (p.2 = true ↔ hitB l x h p.1)) (fun (p : Nat × Bool) => l.length - p.1) (0, false) ?_ ?_ ?_ ?_
          · simp (maxSteps := 1000000) (disch := first | assumption | omega) [leV, get_e0, get_e1, wkV.refl, wkV_int, decT, decF, Bx.e, eqV, eqS, h1, h2]
          · simp [leH, get_e0, get_e1, h1, h2]
          · exact ⟨Nat.zero_le _, by rw [hitB_0]; simp⟩
          rintro ⟨i, j⟩ n ⟨c1, c2⟩
          simp only at c1 c2
          refine LWP_seq ?_
          refine LWP_seq ?_
          apply LWP_run
          · repeat (simp -implicitDefEqProofs (maxSteps := 1000000) (disch := first | assumption | omega) [Bx.e, eqV, eqS, h1, h2]; try simp only [gz])
            rfl
          refine LWP_cond rfl (fun h5 => ?_) (fun h5 => ?_)
          · try simp only [bn, reduceCtorEq] at h5
            all_goals try (exfalso; omega)
            all_goals
              refine LWP_skip ?_
              refine LWP_seq ?_
              refine LWP_block ?_
              refine LWP_seq ?_
              refine LWP_reg fun K hK => ?_
              apply rgnS_pre 8
              · repeat (simp -implicitDefEqProofs (maxSteps := 1000000) (disch := first | assumption | omega) [Bx.e, eqV, eqS, h1, h2, h5]; try simp only [gz])
                rfl
              refine rgnS_guard (x := 47) (b := true) rfl (fun h6 => ?_) (fun h6 => ?_)
              · try simp only [bn, reduceCtorEq] at h6
                all_goals try (exfalso; omega)
                all_goals
                  apply rgnS_pre 8
                  · repeat (simp -implicitDefEqProofs (maxSteps := 1000000) (disch := first | assumption | omega) [Bx.e, eqV, eqS, h1, h2, h5, h6]; try simp only [gz])
                    rfl
                  refine hK _ ?_; clear hK
                  refine LWP_cond rfl (fun h7 => ?_) (fun h7 => ?_)
                  · try simp only [bn, reduceCtorEq] at h7
                    all_goals try (exfalso; omega)
                    all_goals
                      refine LWP_seq ?_
                      refine LWP_seq ?_
                      refine LWP_reg fun K hK => ?_
                      apply rgnS_pre 3
                      · repeat (simp -implicitDefEqProofs (maxSteps := 1000000) (disch := first | assumption | omega) [Bx.e, eqV, eqS, h1, h2, h5, h6, h7]; try simp only [gz])
                        rfl
                      refine rgnS_guard (x := 58) (b := false) rfl (fun h8 => ?_) (fun h8 => ?_)
                      · try simp only [bn, reduceCtorEq] at h8
                        all_goals try (exfalso; omega)
                        all_goals
                          apply rgnS_pre 8
                          · repeat (simp -implicitDefEqProofs (maxSteps := 1000000) (disch := first | assumption | omega) [Bx.e, eqV, eqS, h1, h2, h5, h6, h7, h8]; try simp only [gz])
                            rfl
                          refine hK _ ?_; clear hK
                          refine LWP_cond rfl (fun h9 => ?_) (fun h9 => ?_)
                          · try simp only [bn, reduceCtorEq] at h9
                            all_goals try (exfalso; omega)
                            all_goals
                              refine LWP_seq ?_
                              apply LWP_run
                              · repeat (simp -implicitDefEqProofs (maxSteps := 1000000) (disch := first | assumption | omega) [Bx.e, eqV, eqS, h1, h2, h5, h6, h7, h8, h9]; try simp only [gz])
                                rfl
                              -- leaf 3
                              refine LWP_ret ⟨_, rfl, ?_⟩
                              refine wkV_of_eq ?_
                              simp only [retV]
                              all_goals
                                first
                                  | (exfalso
                                     have q := hF1 i (by omega) ⟨by omega, by omega⟩
                                     simp_all; done)
                                  | (exfalso
                                     have q := hF1 i (by omega) ⟨by omega, by omega⟩
                                     omega)
                                  | (have ei : i = l.length := by omega
                                     subst ei
                                     have q1 : j = ok := by
                                       cases ok with
                                       | true => exact c2.2 (hF2 rfl)
                                       | false =>
                                         cases j with
                                         | false => rfl
                                         | true =>
                                           obtain ⟨k, hk, _, q, _⟩ := c2.1 rfl
                                           exact absurd (hF1 k hk q).1 (by simp)
                                     simp_all; done)
                                  | trace_state
                          · try simp only [bn, reduceCtorEq] at h9
                            all_goals try (exfalso; omega)
                            all_goals
                              refine LWP_skip ?_
                              refine LWP_reg fun K hK => ?_
                              apply rgnS_pre 2
                              · repeat (simp -implicitDefEqProofs (maxSteps := 1000000) (disch := first | assumption | omega) [Bx.e, eqV, eqS, h1, h2, h5, h6, h7, h8, h9]; try simp only [gz])
                                rfl
                              refine rgnS_guard (x := 68) (b := false) rfl (fun h10 => ?_) (fun h10 => ?_)
                              · try simp only [bn, reduceCtorEq] at h10
                                all_goals try (exfalso; omega)
                                all_goals
                                  apply rgnS_pre 8
                                  · repeat (simp -implicitDefEqProofs (maxSteps := 1000000) (disch := first | assumption | omega) [Bx.e, eqV, eqS, h1, h2, h5, h6, h7, h8, h9, h10]; try simp only [gz])
                                    rfl
                                  apply rgnS_pre 1
                                  · repeat (simp -implicitDefEqProofs (maxSteps := 1000000) (disch := first | assumption | omega) [Bx.e, eqV, eqS, h1, h2, h5, h6, h7, h8, h9, h10]; try simp only [gz])
                                    rfl
                                  refine hK _ ?_; clear hK
                                  apply LWP_run
                                  · repeat (simp -implicitDefEqProofs (maxSteps := 1000000) (disch := first | assumption | omega) [Bx.e, eqV, eqS, h1, h2, h5, h6, h7, h8, h9, h10]; try simp only [gz])
                                    rfl
                                  -- loop 0, round 0
                                  refine ⟨(i + 1, (l[i]'(by omega)).y1 == h), ?_, ?_, ?_, ?_⟩
                                  · refine ⟨by simp only; omega, ?_⟩
                                    simp only
                                    have hi : i < l.length := by omega
                                    by_cases hy : l[i].y1 = h
                                    · exact ⟨fun _ => hitB_yes hi ⟨by omega, by omega⟩ hy, fun _ => by simp [hy]⟩
                                    · rw [hitB_no hi (fun q => hy q.2), ← c2]
                                      simp_all
                                  · simp only; omega
                                  · simp (maxSteps := 1000000) (disch := first | assumption | omega) [leV, get_e0, get_e1, wkV.refl, wkV_int, wrap_i64, decT, decF, Bx.e, eqV, eqS, h1, h2, h5, h6, h7, h8, h9, h10]
                                  · simp [leH, get_e0, get_e1, h1, h2, h5, h6, h7, h8, h9, h10]
                              · try simp only [bn, reduceCtorEq] at h10
                                all_goals try (exfalso; omega)
                                all_goals
                                  apply rgnS_pre 8
                                  · repeat (simp -implicitDefEqProofs (maxSteps := 1000000) (disch := first | assumption | omega) [Bx.e, eqV, eqS, h1, h2, h5, h6, h7, h8, h9, h10]; try simp only [gz])
                                    rfl
                                  refine hK _ ?_; clear hK
                                  apply LWP_run
                                  · repeat (simp -implicitDefEqProofs (maxSteps := 1000000) (disch := first | assumption | omega) [Bx.e, eqV, eqS, h1, h2, h5, h6, h7, h8, h9, h10]; try simp only [gz])
                                    rfl
                                  -- loop 0, round 1
                                  refine ⟨(i + 1, true), ?_, ?_, ?_, ?_⟩
                                  · refine ⟨by simp only; omega, ?_⟩
                                    simp only
                                    exact ⟨fun _ => hitB_mono (c2.1 (by assumption)), fun _ => by simp⟩
                                  · simp only; omega
                                  · simp (maxSteps := 1000000) (disch := first | assumption | omega) [leV, get_e0, get_e1, wkV.refl, wkV_int, wrap_i64, decT, decF, Bx.e, eqV, eqS, h1, h2, h5, h6, h7, h8, h9, h10]
                                  · simp [leH, get_e0, get_e1, h1, h2, h5, h6, h7, h8, h9, h10]
                      · try simp only [bn, reduceCtorEq] at h8
                        all_goals try (exfalso; omega)
                        all_goals
                          apply rgnS_pre 7
                          · repeat (simp -implicitDefEqProofs (maxSteps := 1000000) (disch := first | assumption | omega) [Bx.e, eqV, eqS, h1, h2, h5, h6, h7, h8]; try simp only [gz])
                            rfl
                          refine hK _ ?_; clear hK
                          refine LWP_cond (t := true) (by simp [LArg.ev, get_e0, get_e1, h1, h2, h5, h6, h7, h8]) (fun _ => ?_) (fun h => by cases h)
                          refine LWP_seq ?_
                          apply LWP_run
                          · repeat (simp -implicitDefEqProofs (maxSteps := 1000000) (disch := first | assumption | omega) [Bx.e, eqV, eqS, h1, h2, h5, h6, h7, h8]; try simp only [gz])
                            rfl
                          -- leaf 4
                          refine LWP_ret ⟨_, rfl, ?_⟩
                          refine wkV_of_eq ?_
                          simp only [retV]
                          all_goals
                            first
                              | (exfalso
                                 have q := hF1 i (by omega) ⟨by omega, by omega⟩
                                 simp_all; done)
                              | (exfalso
                                 have q := hF1 i (by omega) ⟨by omega, by omega⟩
                                 omega)
                              | (have ei : i = l.length := by omega
                                 subst ei
                                 have q1 : j = ok := by
                                   cases ok with
                                   | true => exact c2.2 (hF2 rfl)
                                   | false =>
                                     cases j with
                                     | false => rfl
                                     | true =>
                                       obtain ⟨k, hk, _, q, _⟩ := c2.1 rfl
                                       exact absurd (hF1 k hk q).1 (by simp)
                                 simp_all; done)
                              | trace_state
                  · try simp only [bn, reduceCtorEq] at h7
                    all_goals try (exfalso; omega)
                    all_goals
                      refine LWP_skip ?_
                      apply LWP_run
                      · repeat (simp -implicitDefEqProofs (maxSteps := 1000000) (disch := first | assumption | omega) [Bx.e, eqV, eqS, h1, h2, h5, h6, h7]; try simp only [gz])
                        rfl
                      -- loop 0, round 2
                      refine ⟨(i + 1, j), ?_, ?_, ?_, ?_⟩
                      · refine ⟨by simp only; omega, ?_⟩
                        simp only
                        rw [hitB_no (by omega) (fun q => absurd q.1 (by unfold inB; omega))]
                        exact c2
                      · simp only; omega
                      · simp (maxSteps := 1000000) (disch := first | assumption | omega) [leV, get_e0, get_e1, wkV.refl, wkV_int, wrap_i64, decT, decF, Bx.e, eqV, eqS, h1, h2, h5, h6, h7]
                      · simp [leH, get_e0, get_e1, h1, h2, h5, h6, h7]
              · try simp only [bn, reduceCtorEq] at h6
                all_goals try (exfalso; omega)
                all_goals
                  apply rgnS_pre 7
                  · repeat (simp -implicitDefEqProofs (maxSteps := 1000000) (disch := first | assumption | omega) [Bx.e, eqV, eqS, h1, h2, h5, h6]; try simp only [gz])
                    rfl
                  refine hK _ ?_; clear hK
                  refine LWP_cond (t := false) (by simp [LArg.ev, get_e0, get_e1, h1, h2, h5, h6]) (fun h => by cases h) (fun _ => ?_)
                  refine LWP_skip ?_
                  apply LWP_run
                  · repeat (simp -implicitDefEqProofs (maxSteps := 1000000) (disch := first | assumption | omega) [Bx.e, eqV, eqS, h1, h2, h5, h6]; try simp only [gz])
                    rfl
                  -- loop 0, round 3
                  refine ⟨(i + 1, j), ?_, ?_, ?_, ?_⟩
                  · refine ⟨by simp only; omega, ?_⟩
                    simp only
                    rw [hitB_no (by omega) (fun q => absurd q.1 (by unfold inB; omega))]
                    exact c2
                  · simp only; omega
                  · simp (maxSteps := 1000000) (disch := first | assumption | omega) [leV, get_e0, get_e1, wkV.refl, wkV_int, wrap_i64, decT, decF, Bx.e, eqV, eqS, h1, h2, h5, h6]
                  · simp [leH, get_e0, get_e1, h1, h2, h5, h6]
          · try simp only [bn, reduceCtorEq] at h5
            all_goals try (exfalso; omega)
            all_goals
              refine LWP_exit ?_
              refine LWP_seq ?_
              have ei : i = l.length := by omega
              subst ei
              have q1 : j = ok := by
                cases ok with
                | true => exact c2.2 (hF2 rfl)
                | false =>
                  cases j with
                  | false => rfl
                  | true =>
                    obtain ⟨k, hk, _, q, _⟩ := c2.1 rfl
                    exact absurd (hF1 k hk q).1 (by simp)
              subst q1
              refine LWP_reg fun K hK => ?_
              apply rgnS_pre 4
              · repeat (simp -implicitDefEqProofs (maxSteps := 1000000) (disch := first | assumption | omega) [Bx.e, eqV, eqS, h1, h2, h5]; try simp only [gz])
                rfl
              refine rgnS_guard (x := 80) (b := true) rfl (fun h11 => ?_) (fun h11 => ?_)
              · try simp only [bn, reduceCtorEq] at h11
                all_goals try (exfalso; omega)
                all_goals
                  apply rgnS_pre 1
                  · repeat (simp -implicitDefEqProofs (maxSteps := 1000000) (disch := first | assumption | omega) [Bx.e, eqV, eqS, h1, h2, h5, h11]; try simp only [gz])
                    rfl
                  refine rgnS_call (hC) rfl rfl (by simp [pureL, pureR, AV.pure, Bx.e, eqV, eqS, pureR_st]) (by simp [pureL, pureR, AV.pure, Bx.e, eqV, eqS, pureR_st]) (by simp [gd, get_e0, get_e1, LArg.ev, h1, h2, h5, h11]) ?_
                  apply rgnS_pre 2
                  · repeat (simp -implicitDefEqProofs (maxSteps := 1000000) (disch := first | assumption | omega) [Bx.e, eqV, eqS, h1, h2, h5, h11]; try simp only [gz])
                    rfl
                  refine rgnS_guard (x := 84) (b := true) rfl (fun h12 => ?_) (fun h12 => ?_)
                  · try simp only [bn, reduceCtorEq] at h12
                    all_goals try (exfalso; omega)
                    all_goals
                      refine rgnS_call (hsheads) rfl rfl (by simp [pureL, pureR, AV.pure, Bx.e, eqV, eqS]) (by simp [pureL, pureR, AV.pure, Bx.e, eqV, eqS]) (by simp [gd, get_e0, get_e1, LArg.ev, h1, h2, h5, h11, h12]) ?_
                      apply rgnS_pre 2
                      · repeat (simp -implicitDefEqProofs (maxSteps := 1000000) (disch := first | assumption | omega) [Bx.e, eqV, eqS, h1, h2, h5, h11, h12]; try simp only [gz])
                        rfl
                      refine hK _ ?_; clear hK
                      -- leaf 5
                      refine LWP_ret ⟨_, rfl, ?_⟩
                      refine wkV_of_eq ?_
                      simp only [retV]
                      all_goals
                        first
                          | (exfalso
                             have q := hF1 i (by omega) ⟨by omega, by omega⟩
                             simp_all; done)
                          | (exfalso
                             have q := hF1 i (by omega) ⟨by omega, by omega⟩
                             omega)
                          | (have ei : i = l.length := by omega
                             subst ei
                             have q1 : j = ok := by
                               cases ok with
                               | true => exact c2.2 (hF2 rfl)
                               | false =>
                                 cases j with
                                 | false => rfl
                                 | true =>
                                   obtain ⟨k, hk, _, q, _⟩ := c2.1 rfl
                                   exact absurd (hF1 k hk q).1 (by simp)
                             simp_all; done)
                          | trace_state
                  · try simp only [bn, reduceCtorEq] at h12
                    all_goals try (exfalso; omega)
                    all_goals
                      apply rgnS_pre 2
                      · repeat (simp -implicitDefEqProofs (maxSteps := 1000000) (disch := first | assumption | omega) [Bx.e, eqV, eqS, h1, h2, h5, h11, h12]; try simp only [gz])
                        rfl
                      refine hK _ ?_; clear hK
                      -- leaf 6
                      refine LWP_ret ⟨_, rfl, ?_⟩
                      refine wkV_of_eq ?_
                      simp only [retV]
                      all_goals
                        first
                          | (exfalso
                             have q := hF1 i (by omega) ⟨by omega, by omega⟩
                             simp_all; done)
                          | (exfalso
                             have q := hF1 i (by omega) ⟨by omega, by omega⟩
                             omega)
                          | (have ei : i = l.length := by omega
                             subst ei
                             have q1 : j = ok := by
                               cases ok with
                               | true => exact c2.2 (hF2 rfl)
                               | false =>
                                 cases j with
                                 | false => rfl
                                 | true =>
                                   obtain ⟨k, hk, _, q, _⟩ := c2.1 rfl
                                   exact absurd (hF1 k hk q).1 (by simp)
                             simp_all; done)
                          | trace_state
              · try simp only [bn, reduceCtorEq] at h11
                all_goals try (exfalso; omega)
                all_goals
                  apply rgnS_pre 6
                  · repeat (simp -implicitDefEqProofs (maxSteps := 1000000) (disch := first | assumption | omega) [Bx.e, eqV, eqS, h1, h2, h5, h11]; try simp only [gz])
                    rfl
                  refine hK _ ?_; clear hK
                  -- leaf 7
                  refine LWP_ret ⟨_, rfl, ?_⟩
                  refine wkV_of_eq ?_
                  simp only [retV]
                  all_goals
                    first
                      | (exfalso
                         have q := hF1 i (by omega) ⟨by omega, by omega⟩
                         simp_all; done)
                      | (exfalso
                         have q := hF1 i (by omega) ⟨by omega, by omega⟩
                         omega)
                      | (have ei : i = l.length := by omega
                         subst ei
                         have q1 : j = ok := by
                           cases ok with
                           | true => exact c2.2 (hF2 rfl)
                           | false =>
                             cases j with
                             | false => rfl
                             | true =>
                               obtain ⟨k, hk, _, q, _⟩ := c2.1 rfl
                               exact absurd (hF1 k hk q).1 (by simp)
                         simp_all; done)
                      | trace_state
set_option maxHeartbeats 2000000 in
set_option maxRecDepth 20000 in
theorem covers_big (l : List Bx) (x : Int) (h : 60 < l.length) : ACalls Go.Proofs.Try.prog 5 [.tsl 4 (l.map Bx.e), .int .i64 x] [] 0 (fun r _ _ => r = .bool true) := by
  refine pure_body ok5 rfl ?_
  simp only [parV]
  refine LWP_seq ?_
  apply LWP_run
  · repeat (simp -implicitDefEqProofs (maxSteps := 1000000) (disch := first | assumption | omega) [Bx.e, eqV, eqS, h]; try simp only [gz])
    rfl
  refine LWP_seq ?_
  refine LWP_seq ?_
  apply LWP_run
  · repeat (simp -implicitDefEqProofs (maxSteps := 1000000) (disch := first | assumption | omega) [Bx.e, eqV, eqS, h]; try simp only [gz])
    rfl
  refine LWP_cond (t := true) (by simp [LArg.ev, get_e0, get_e1]) (fun _ => ?_) (fun h => by cases h)
  refine LWP_seq ?_
  refine LWP_reg fun K hK => ?_
  refine rgnS_call (hsheads) rfl rfl (by simp [pureL, pureR, AV.pure, Bx.e, eqV, eqS]) (by simp [pureL, pureR, AV.pure, Bx.e, eqV, eqS]) (by simp [gd, get_e0, get_e1, LArg.ev]) ?_
  apply rgnS_pre 1
  · repeat (simp -implicitDefEqProofs (maxSteps := 1000000) (disch := first | assumption | omega) [Bx.e, eqV, eqS, h]; try simp only [gz])
    rfl
  refine hK _ ?_; clear hK
  -- leaf 0
  refine LWP_ret ⟨_, rfl, ?_⟩
  refine wkV_of_eq ?_
  simp only [retV]
  all_goals
    rfl
set_option maxHeartbeats 2000000 in
set_option maxRecDepth 20000 in
theorem covers_no (l : List Bx) (x : Int) (hl : l.length ≤ 60) (hO : ACalls Go.Proofs.Try.prog 9 [.tsl 4 (l.map Bx.e)] [] 0 (fun r _ _ => r = .tup [.tsl 3 [], .int .i64 2])) : ACalls Go.Proofs.Try.prog 5 [.tsl 4 (l.map Bx.e), .int .i64 x] [] 0 (fun r _ _ => r = .bool true) := by
  refine pure_body ok5 rfl ?_
  simp only [parV]
  refine LWP_seq ?_
  apply LWP_run
  · repeat (simp -implicitDefEqProofs (maxSteps := 1000000) (disch := first | assumption | omega) [Bx.e, eqV, eqS, hl]; try simp only [gz])
    rfl
  refine LWP_seq ?_
  refine LWP_seq ?_
  apply LWP_run
  · repeat (simp -implicitDefEqProofs (maxSteps := 1000000) (disch := first | assumption | omega) [Bx.e, eqV, eqS, hl]; try simp only [gz])
    rfl
  refine LWP_cond (t := false) (by simp [LArg.ev, get_e0, get_e1]) (fun h => by cases h) (fun _ => ?_)
  refine LWP_skip ?_
  refine LWP_seq ?_
  refine LWP_reg fun K hK => ?_
  apply rgnS_pre 1
  · repeat (simp -implicitDefEqProofs (maxSteps := 1000000) (disch := first | assumption | omega) [Bx.e, eqV, eqS, hl]; try simp only [gz])
    rfl
  refine rgnS_call (hO) rfl rfl (by simp [pureL, pureR, AV.pure, Bx.e, eqV, eqS, pureR_st, pureR_bx, pureR]) (by simp [pureL, pureR, AV.pure, Bx.e, eqV, eqS, pureR_st, pureR_bx, pureR]) (by simp [gd, get_e0, get_e1, LArg.ev]) ?_
  apply rgnS_pre 5
  · repeat (simp -implicitDefEqProofs (maxSteps := 1000000) (disch := first | assumption | omega) [Bx.e, eqV, eqS, hl]; try simp only [gz])
    rfl
  refine hK _ ?_; clear hK
  refine LWP_seq ?_
  refine LWP_seq ?_
  apply LWP_run
  · repeat (simp -implicitDefEqProofs (maxSteps := 1000000) (disch := first | assumption | omega) [Bx.e, eqV, eqS, hl]; try simp only [gz])
    rfl
  refine LWP_cond (t := true) (by simp [LArg.ev, get_e0, get_e1]) (fun _ => ?_) (fun h => by cases h)
  refine LWP_seq ?_
  refine LWP_reg fun K hK => ?_
  apply rgnS_pre 4
  · repeat (simp -implicitDefEqProofs (maxSteps := 1000000) (disch := first | assumption | omega) [Bx.e, eqV, eqS, hl]; try simp only [gz])
    rfl
  refine rgnS_call (hsheads) rfl rfl (by simp [pureL, pureR, AV.pure, Bx.e, eqV, eqS]) (by simp [pureL, pureR, AV.pure, Bx.e, eqV, eqS]) (by simp [gd, get_e0, get_e1, LArg.ev]) ?_
  apply rgnS_pre 2
  · repeat (simp -implicitDefEqProofs (maxSteps := 1000000) (disch := first | assumption | omega) [Bx.e, eqV, eqS, hl]; try simp only [gz])
    rfl
  refine hK _ ?_; clear hK
  -- leaf 0
  refine LWP_ret ⟨_, rfl, ?_⟩
  refine wkV_of_eq ?_
  simp only [retV]
  all_goals
    rfl
end

theorem stp_max {l : List Bx} {x k : Int} : maxat (stp (fun b => b.y1) l) x k ↔ (∃ b ∈ l, inB b x ∧ b.y1 = k) ∧ ∀ b ∈ l, inB b x → b.y1 ≤ k := by
  constructor
  · rintro ⟨⟨s, h1, h2, h3⟩, h4⟩
    obtain ⟨b, b1, b2, rfl⟩ := stp_mem.1 h1
    refine ⟨⟨b, b1, h2, h3⟩, fun c hc hin => ?_⟩
    exact h4 ⟨c.x0, c.x1, c.y1⟩ (stp_mem.2 ⟨c, hc, by have := hin.1; have := hin.2; omega, rfl⟩) hin
  · rintro ⟨⟨b, b1, b2, b3⟩, h4⟩
    refine ⟨⟨⟨b.x0, b.x1, b.y1⟩, stp_mem.2 ⟨b, b1, by have := b2.1; have := b2.2; omega, rfl⟩, b2, b3⟩, fun s hs hat => ?_⟩
    obtain ⟨c, c1, c2, rfl⟩ := stp_mem.1 hs
    exact h4 c c1 hat
theorem skyCovers_ok (l : List Bx) (x : Int) : ACalls Go.Proofs.Try.prog 5 [.tsl 4 (l.map Bx.e), .int .i64 x] [] 0 (fun r _ _ => r = .bool true) := by
  by_cases hb : 60 < l.length
  · exact covers_big l x hb
  have hl : l.length ≤ 60 := by omega
  cases ha : l.all bxB with
  | false => exact covers_no l x hl (of_no l hl ha)
  | true =>
    have hall : ∀ b ∈ l, bxB b = true := List.all_eq_true.1 ha
    have hlen := stp_len (fun b => b.y1) l
    have hll := lineS_len (stp (fun b => b.y1) l)
    have hc : chkB (lineS (stp (fun b => b.y1) l)) = true := stp_chk hl fun b hb => ⟨(bxB_nums (hall b hb)).1, (bxB_nums (hall b hb)).2.1, (bxB_nums (hall b hb)).2.2.1⟩
    have hC := check_ok (lineS (stp (fun b => b.y1) l)) (by omega)
    rw [hc] at hC
    have hA := at_ok (lineS (stp (fun b => b.y1) l)) x (by omega)
    rw [atV, if_pos hc] at hA
    obtain ⟨g, hs⟩ := lineS_spec (l := stp (fun b => b.y1) l) stp_pos
    rcases at_or (chk_good hc) x with ⟨p, h1, hp⟩ | ⟨h1, hp⟩ <;> rw [hp] at hA
    · have hm := stp_max.1 ((hs x p).1 h1)
      refine covers_in l x p true _ (of_yes l hl ha) hA hC hl (fun i hi hin => ⟨rfl, hm.2 _ (List.getElem_mem hi) hin⟩) fun _ => ?_
      obtain ⟨b, b1, b2, b3⟩ := hm.1
      obtain ⟨k, hk, rfl⟩ := List.getElem_of_mem b1
      exact ⟨k, hk, hk, b2, b3⟩
    · refine covers_in l x 0 false _ (of_yes l hl ha) hA hC hl (fun i hi hin => ?_) (fun q => absurd q (by simp))
      exfalso
      have hne : ∃ m, m ∈ (l.filter fun b => decide (b.x0 ≤ x ∧ x < b.x1)).map (fun b => b.y1) := ⟨l[i].y1, List.mem_map.2 ⟨l[i], List.mem_filter.2 ⟨List.getElem_mem hi, by simpa [inB] using hin⟩, rfl⟩⟩
      obtain ⟨m, hm1, hm2⟩ := max_ex hne
      obtain ⟨b, hb1, rfl⟩ := List.mem_map.1 hm1
      have hb2 := List.mem_filter.1 hb1
      refine h1 b.y1 ((hs x b.y1).2 (stp_max.2 ⟨⟨b, hb2.1, by simpa [inB] using hb2.2, rfl⟩, fun c hc hin => hm2 c.y1 (List.mem_map.2 ⟨c, List.mem_filter.2 ⟨hc, by simpa [inB] using hin⟩, rfl⟩)⟩))
open Go.Proofs.Try in
theorem c42 : prog.cellsOf 42 = 4 := by kernel_rfl
open Go.Proofs.Try in
theorem c3v : prog.cellsOf 3 = 1 := by kernel_rfl
theorem len4 {cs : List AV} (h : cs.length = 4) : ∃ a b c d, cs = [a, b, c, d] := by
  match cs, h with
  | [a, b, c, d], _ => exact ⟨a, b, c, d, rfl⟩
open Go.Proofs.Try in
set_option maxRecDepth 100000 in
theorem rd_bx {n : Nat} {cs : List AV} (h : wtV prog n 42 cs) : ∃ b : Bx, cs = b.e := by
  obtain ⟨m, h1, h2⟩ := wtV_struct underlying42 h
  rw [c42] at h1
  obtain ⟨a, b, c, d, rfl⟩ := len4 h1
  simp only [List.forall_mem_cons, List.not_mem_nil, c3v] at h2
  simp at h2
  obtain ⟨k1, k2, k3, k4⟩ := h2
  obtain ⟨x, e1, _⟩ := wtV_int underlying3 k1
  obtain ⟨y, e2, _⟩ := wtV_int underlying3 k2
  obtain ⟨z, e3, _⟩ := wtV_int underlying3 k3
  obtain ⟨w, e4, _⟩ := wtV_int underlying3 k4
  cases e1; cases e2; cases e3; cases e4
  exact ⟨⟨x, y, z, w⟩, rfl⟩
open Go.Proofs.Try in
set_option maxRecDepth 100000 in
theorem rd_bxs {n : Nat} {a : AV} (h : wtA prog n 22 a) : ∃ l : List Bx, a = .tsl 4 (l.map Bx.e) := by
  obtain ⟨m, es, h1, h2, h3⟩ := wtV_slice underlying22 c42 (by decide) (wtA_slice underlying22 h)
  cases h1
  obtain ⟨rs, rfl, _⟩ := map_of (f := Bx.e) (C := fun _ => True) (es := es) fun x hx => by
    obtain ⟨z, hz⟩ := rd_bx (h3 x hx).2
    exact ⟨z, hz, trivial⟩
  exact ⟨rs, rfl⟩
open Go.Proofs.Try in
set_option maxRecDepth 100000 in
theorem skyCovers_all (l : List AV) (h : wtAll prog [22, 3] l) : ACalls prog 5 l [] 0 (fun r _ _ => r = .bool true) := by
  match l, h with
  | [a, c], ⟨⟨n, ha⟩, ⟨k, hc⟩, _⟩ =>
    obtain ⟨x, rfl⟩ := rd_bxs ha
    obtain ⟨z, rfl, _⟩ := wtA_int underlying3 hc
    exact skyCovers_ok x z

end Go.AM.Sk
