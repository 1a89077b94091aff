/- A part of a proof about the given program: what its name says. No premise beyond the statements'. -/
import Derived.Test.YtkhioehebaghjaaSkSkyS
import Derived.Test.YtkhioehebaghjaaSkSkyLn
set_option linter.unusedSimpArgs false
set_option linter.unusedVariables false
/- The skyline of boxes: the walk. -/
namespace Go.AM.Sk
open Go.AM
open Go.AM.SkyP
noncomputable section
def stp (hf : Bx → Int) (l : List Bx) : List St := (l.filter fun b => decide (b.x0 < b.x1)).map fun b => ⟨b.x0, b.x1, hf b⟩
theorem stp_yes {hf : Bx → Int} {l : List Bx} {i : Nat} (h : i < l.length) (hx : l[i].x0 < l[i].x1) : stp hf (l.take (i + 1)) = stp hf (l.take i) ++ [⟨l[i].x0, l[i].x1, hf l[i]⟩] := by
  rw [stp, stp, List.take_succ_eq_append_getElem h, List.filter_append, List.map_append]
  simp [hx]
theorem stp_no {hf : Bx → Int} {l : List Bx} {i : Nat} (h : i < l.length) (hx : ¬ l[i].x0 < l[i].x1) : stp hf (l.take (i + 1)) = stp hf (l.take i) := by
  rw [stp, stp, List.take_succ_eq_append_getElem h, List.filter_append, List.map_append]
  simp [hx]
theorem stp_len (hf : Bx → Int) (l : List Bx) : (stp hf l).length ≤ l.length := by
  rw [stp, List.length_map]; exact List.length_filter_le _ _
theorem stp_pos {hf : Bx → Int} {l : List Bx} : ∀ s ∈ stp hf l, s.x0 < s.x1 := by
  intro s hs
  rw [stp, List.mem_map] at hs
  obtain ⟨b, hb, rfl⟩ := hs
  simpa using (List.mem_filter.1 hb).2
theorem edge_bad {l : List Bx} {i : Nat} (h : i < l.length) (h2 : bxB l[i] = false) : l.all bxB = false := by
  rw [List.all_eq_false]
  exact ⟨l[i], List.getElem_mem h, by simp [h2]⟩
def edgeV (hf : Bx → Int) (l : List Bx) : AV := if l.all bxB = true then .tup [.tsl 3 ((lineS (stp hf l)).map St.e), .int .i64 0] else .tup [.tsl 3 [], .int .i64 2]
def stT (g : Nat) (l : List Bx) (i b nx : Nat) : List St → ST
  | [] => ⟨[(1, .fn g [] []), (6, .nils), (12, .tsl 4 (l.map Bx.e)), (13, .int .i64 (l.length : Nat)), (14, .int .i64 (i : Nat))], [], nx⟩
  | s :: r => ⟨[(1, .fn g [] []), (6, .sl 3 b 0 (s :: r).length), (12, .tsl 4 (l.map Bx.e)), (13, .int .i64 (l.length : Nat)), (14, .int .i64 (i : Nat))], [(b, .rows 3 ((s :: r).map St.e))], nx⟩
section
attribute [local simp ↓] List.map_nil List.map_cons
attribute [local simp] m_ o_ g_ stepsS stepS gd opEff appEff LArg.ev app_val app_new app_upd app_kill putV ins_e0 ins_e1 get_e0 get_e1 binV binI grd bnd ldCells AV.cells AV.scalar AV.known setAt fillL chunks elems mxI mnI del Nat.add_assoc nlt_self nne_self nne_self' List.take_of_length_le decT decF wrap_i64 stepsD stepD ST.as dEffF LOp.cls softOK LOp.args LOp.rds AV.ids appD_val appD_new appD_upd appD_kill AS.flush delAll
set_option maxHeartbeats 4000000 in
theorem edge_ok {g : Nat} {hf : Bx → Int} (hg : ∀ b, bxB b = true → ACalls Go.Proofs.Try.prog g [.agg b.e] [] 0 (fun r _ _ => r = .int .i64 (hf b))) (l : List Bx) (hl : l.length ≤ 60) : ACalls Go.Proofs.Try.prog 24 [.tsl 4 (l.map Bx.e), .fn g [] []] [] 0 (fun r _ _ => r = edgeV hf l) := by
  refine pure_body ok24 rfl ?_
  simp only [parV]
  refine LWP_seq ?_
  apply LWP_run
  · repeat (simp -implicitDefEqProofs (maxSteps := 1000000) (disch := first | assumption | omega) []; try simp only [gz])
    rfl
  refine LWP_seq (LWP_seq ?_)
  apply LWP_run
  · repeat (simp -implicitDefEqProofs (maxSteps := 1000000) (disch := first | assumption | omega) []; try simp only [gz])
    rfl
  refine LWP_cond (t := false) (by simp [LArg.ev, get_e0, get_e1]; try omega) (fun h => by cases h) (fun _ => LWP_skip ?_)
  refine LWP_seq ?_
  apply LWP_run
  · repeat (simp -implicitDefEqProofs (maxSteps := 1000000) (disch := first | assumption | omega) []; try simp only [gz])
    rfl
  refine LWP_seq (LWP_seq ?_)
  apply LWP_run
  · repeat (simp -implicitDefEqProofs (maxSteps := 1000000) (disch := first | assumption | omega) []; try simp only [gz])
    rfl
  refine LWP_block (LWP_inv (fun q : Nat × Nat × Nat => stT g l q.1 q.2.1 q.2.2 (stp hf (l.take q.1))) (fun q => l.length - q.1) (fun q => q.1 ≤ l.length ∧ (l.take q.1).all bxB = true ∧ (stp hf (l.take q.1) ≠ [] → q.2.1 < q.2.2)) (0, 0, 0) ?_ ⟨Nat.zero_le _, by simp, by simp [stp]⟩ ?_)
  · refine .mk' (by simp [stT, stp, leV, get_e0, get_e1, wkV.refl]) (fun c v h => by simp [stT, stp, get_e0] at h) rfl
  rintro ⟨i, b, nx⟩ ⟨c1, c2, c3⟩
  simp only at c1 c2 c3 ⊢
  have wi := wrap_succ (n := i) (by omega)
  cases hL : stp hf (l.take i) with
  | nil =>
    simp only [stT]
    refine LWP_seq ?_
    apply LWP_run
    · repeat (simp -implicitDefEqProofs (maxSteps := 1000000) (disch := first | assumption | omega) []; try simp only [gz])
      rfl
    refine LWP_seq ?_
    refine LWP_cond (t := decide (i < l.length)) (by simp [LArg.ev, get_e0, get_e1]) (fun hc => LWP_skip ?_) (fun hc => LWP_exit ?_)
    · have hc' : i < l.length := by simpa using hc
      have hbt := fun h2 => edge_bad (l := l) (i := i) hc' h2
      refine LWP_seq (LWP_block (LWP_seq ?_))
      apply LWP_run
      · repeat (simp -implicitDefEqProofs (maxSteps := 1000000) (disch := first | assumption | omega) [hc', Bx.e]; try simp only [gz])
        rfl
      refine LWP_seq (LWP_seq ?_)
      refine LWP_reg fun K hK => ?_
      apply rgnS_pre 1
      · repeat (simp -implicitDefEqProofs (maxSteps := 1000000) (disch := first | assumption | omega) [Bx.e]; try simp only [gz])
        rfl
      refine rgnS_call (boxcheck_ok l[i]) rfl rfl (by simp [pureL, pureR, AV.pure, Bx.e]) (by simp [pureL, pureR, AV.pure, Bx.e]) (by simp [gd, get_e0, get_e1, LArg.ev, Bx.e]) ?_
      apply rgnS_pre 1
      · repeat (simp -implicitDefEqProofs (maxSteps := 1000000) (disch := first | assumption | omega) []; try simp only [gz])
        rfl
      refine hK _ ?_; clear hK
      by_cases hb : bxB l[i] = true
      · refine LWP_cond (t := false) (by simp [LArg.ev, get_e0, get_e1, hb]) (fun h => by cases h) (fun _ => LWP_skip ?_)
        refine LWP_seq ?_
        apply LWP_run
        · repeat (simp -implicitDefEqProofs (maxSteps := 1000000) (disch := first | assumption | omega) []; try simp only [gz])
          rfl
        have hall : (l.take (i + 1)).all bxB = true := by rw [List.take_succ_eq_append_getElem hc', List.all_append, c2]; simp [hb]
        by_cases hx : l[i].x0 < l[i].x1
        · refine LWP_cond (t := true) (by simp [LArg.ev, get_e0, get_e1, hx]) (fun _ => ?_) (fun h => by cases h)
          refine LWP_regD' fun K hK => ?_
          apply rgnD_pre 7
          · repeat (simp -implicitDefEqProofs (maxSteps := 1000000) (disch := first | assumption | omega) []; try simp only [gz])
            rfl
          refine rgnD_call (hg l[i] hb) rfl rfl (by simp [pureL, pureR, AV.pure, Bx.e]) (by simp [pureL, pureR, AV.pure, Bx.e]) (by simp [gd, get_e0, get_e1, LArg.ev, Bx.e]) (by simp (maxSteps := 1000000) (disch := first | assumption | omega) []) ?_
          apply rgnD_pre 4
          · repeat (simp -implicitDefEqProofs (maxSteps := 1000000) (disch := first | assumption | omega) []; try simp only [gz])
            rfl
          refine hK _ _ (by simp [AS.fin, delAll, del, Nat.add_assoc]; rfl) ?_; clear hK
          apply LWP_run
          · repeat (simp -implicitDefEqProofs (maxSteps := 1000000) (disch := first | assumption | omega) [wi]; try simp only [gz])
            rfl
          refine ⟨(i + 1, nx + 11, nx + 13), ⟨by simp only; omega, hall, fun _ => by simp only; omega⟩, by simp only; omega, ?_⟩
          simp only [stp_yes hc' hx, hL, stT]
          refine .mk' (by simp [leV, get_e0, get_e1, wkV.refl]) (fun c v h => ?_) rfl
          simp [get_e0, get_e1, St.e] at h
          obtain ⟨rfl, rfl⟩ := h
          simp [get_e0, get_e1, St.e]
        · refine LWP_cond (t := false) (by simp [LArg.ev, get_e0, get_e1, hx]) (fun h => by cases h) (fun _ => LWP_skip ?_)
          apply LWP_run
          · repeat (simp -implicitDefEqProofs (maxSteps := 1000000) (disch := first | assumption | omega) [wi]; try simp only [gz])
            rfl
          refine ⟨(i + 1, 0, nx + 1), ⟨by simp only; omega, hall, fun _ => by simp only; omega⟩, by simp only; omega, ?_⟩
          simp only [stp_no hc' hx, hL, stT]
          refine .mk' (by simp [leV, get_e0, get_e1, wkV.refl]) (fun c v h => ?_) rfl
          first | (simp [get_e0, get_e1] at h; done) | (simp [get_e0, get_e1] at h ⊢; obtain ⟨rfl, rfl⟩ := h; simp; omega)
      · have hb' : bxB l[i] = false := by simpa using hb
        refine LWP_cond (t := true) (by simp [LArg.ev, get_e0, get_e1, hb]) (fun _ => ?_) (fun h => by cases h)
        refine LWP_seq ?_
        apply LWP_run
        · repeat (simp -implicitDefEqProofs (maxSteps := 1000000) (disch := first | assumption | omega) []; try simp only [gz])
          rfl
        refine LWP_ret ⟨_, rfl, ?_⟩
        rw [edgeV, if_neg (by rw [hbt hb']; simp)]
        exact wkV.tup2 (wkV.nils 3) (wkV.refl _)
    · have hc' : ¬ i < l.length := by simpa using hc
      have ei : i = l.length := by omega
      subst ei
      rw [List.take_length] at hL c2
      refine LWP_seq ?_
      refine LWP_reg fun K hK => ?_
      apply rgnS_pre 1
      · repeat (simp -implicitDefEqProofs (maxSteps := 1000000) (disch := first | assumption | omega) []; try simp only [gz])
        rfl
      refine rgnS_call (line_nil) rfl rfl (by simp [pureL, pureR, AV.pure]) (by simp [pureL, pureR, AV.pure]) (by simp [gd, get_e0, get_e1, LArg.ev]) ?_
      apply rgnS_pre 2
      · repeat (simp -implicitDefEqProofs (maxSteps := 1000000) (disch := first | assumption | omega) []; try simp only [gz])
        rfl
      refine hK _ ?_; clear hK
      refine LWP_ret ⟨_, rfl, ?_⟩
      refine wkV_of_eq ?_
      simp only [retV]
      rw [edgeV, if_pos c2, hL, lineS, if_pos rfl]
      rfl
  | cons s0 r0 =>
    have g1 : b < nx := c3 (by rw [hL]; simp)
    have g4 : ¬ nx + 11 = b := by omega
    have g2 : ¬ b = nx := by omega
    have g3 : ¬ nx = b := by omega
    have hlen : r0.length + 1 ≤ 60 := by
      have := stp_len hf (l.take i)
      rw [hL, List.length_take] at this
      simp only [List.length_cons] at this
      omega
    have hb24 : (r0.length + 1 + 1) * 24 ≤ 17592186044416 := by omega
    have ht0 : List.take r0.length (List.map St.e r0) = List.map St.e r0 := List.take_of_length_le (by simp)
    simp only [stT]
    refine LWP_seq ?_
    apply LWP_run
    · repeat (simp -implicitDefEqProofs (maxSteps := 1000000) (disch := first | assumption | omega) []; try simp only [gz])
      rfl
    refine LWP_seq ?_
    refine LWP_cond (t := decide (i < l.length)) (by simp [LArg.ev, get_e0, get_e1]) (fun hc => LWP_skip ?_) (fun hc => LWP_exit ?_)
    · have hc' : i < l.length := by simpa using hc
      have hbt := fun h2 => edge_bad (l := l) (i := i) hc' h2
      refine LWP_seq (LWP_block (LWP_seq ?_))
      apply LWP_run
      · repeat (simp -implicitDefEqProofs (maxSteps := 1000000) (disch := first | assumption | omega) [hc', Bx.e, g1, g2, g3]; try simp only [gz])
        rfl
      refine LWP_seq (LWP_seq ?_)
      refine LWP_reg fun K hK => ?_
      apply rgnS_pre 1
      · repeat (simp -implicitDefEqProofs (maxSteps := 1000000) (disch := first | assumption | omega) [Bx.e, g1, g2, g3]; try simp only [gz])
        rfl
      refine rgnS_call (boxcheck_ok l[i]) rfl rfl (by simp [pureL, pureR, AV.pure, Bx.e]) (by simp [pureL, pureR, AV.pure, Bx.e]) (by simp [gd, get_e0, get_e1, LArg.ev, Bx.e]) ?_
      apply rgnS_pre 1
      · repeat (simp -implicitDefEqProofs (maxSteps := 1000000) (disch := first | assumption | omega) []; try simp only [gz])
        rfl
      refine hK _ ?_; clear hK
      by_cases hb : bxB l[i] = true
      · refine LWP_cond (t := false) (by simp [LArg.ev, get_e0, get_e1, hb]) (fun h => by cases h) (fun _ => LWP_skip ?_)
        refine LWP_seq ?_
        apply LWP_run
        · repeat (simp -implicitDefEqProofs (maxSteps := 1000000) (disch := first | assumption | omega) []; try simp only [gz])
          rfl
        have hall : (l.take (i + 1)).all bxB = true := by rw [List.take_succ_eq_append_getElem hc', List.all_append, c2]; simp [hb]
        by_cases hx : l[i].x0 < l[i].x1
        · refine LWP_cond (t := true) (by simp [LArg.ev, get_e0, get_e1, hx]) (fun _ => ?_) (fun h => by cases h)
          refine LWP_regD' fun K hK => ?_
          apply rgnD_pre 7
          · repeat (simp -implicitDefEqProofs (maxSteps := 1000000) (disch := first | assumption | omega) []; try simp only [gz])
            rfl
          refine rgnD_call (hg l[i] hb) rfl rfl (by simp [pureL, pureR, AV.pure, Bx.e]) (by simp [pureL, pureR, AV.pure, Bx.e]) (by simp [gd, get_e0, get_e1, LArg.ev, Bx.e]) (by simp (maxSteps := 1000000) (disch := first | assumption | omega) []) ?_
          apply rgnD_pre 4
          · repeat (simp -implicitDefEqProofs (maxSteps := 1000000) (disch := first | assumption | omega) [hb24, ht0, g1, g2, g3]; try simp only [gz])
            rfl
          refine hK _ _ (by simp [AS.fin, delAll, del, Nat.add_assoc]; rfl) ?_; clear hK
          apply LWP_run
          · repeat (simp -implicitDefEqProofs (maxSteps := 1000000) (disch := first | assumption | omega) [wi]; try simp only [gz])
            rfl
          refine ⟨(i + 1, nx + 11, nx + 13), ⟨by simp only; omega, hall, fun _ => by simp only; omega⟩, by simp only; omega, ?_⟩
          simp only [stp_yes hc' hx, hL, stT]
          refine .mk' (by simp [leV, get_e0, get_e1, wkV.refl]) (fun c v h => ?_) rfl
          simp [get_e0, get_e1, St.e] at h
          obtain ⟨rfl, rfl⟩ := h
          simp [get_e0, get_e1, St.e, g4]
        · refine LWP_cond (t := false) (by simp [LArg.ev, get_e0, get_e1, hx]) (fun h => by cases h) (fun _ => LWP_skip ?_)
          apply LWP_run
          · repeat (simp -implicitDefEqProofs (maxSteps := 1000000) (disch := first | assumption | omega) [wi]; try simp only [gz])
            rfl
          refine ⟨(i + 1, b, nx + 1), ⟨by simp only; omega, hall, fun _ => by simp only; omega⟩, by simp only; omega, ?_⟩
          simp only [stp_no hc' hx, hL, stT]
          refine .mk' (by simp [leV, get_e0, get_e1, wkV.refl]) (fun c v h => ?_) rfl
          first | (simp [get_e0, get_e1] at h; done) | (simp [get_e0, get_e1] at h ⊢; obtain ⟨rfl, rfl⟩ := h; simp; omega)
      · have hb' : bxB l[i] = false := by simpa using hb
        refine LWP_cond (t := true) (by simp [LArg.ev, get_e0, get_e1, hb]) (fun _ => ?_) (fun h => by cases h)
        refine LWP_seq ?_
        apply LWP_run
        · repeat (simp -implicitDefEqProofs (maxSteps := 1000000) (disch := first | assumption | omega) []; try simp only [gz])
          rfl
        refine LWP_ret ⟨_, rfl, ?_⟩
        rw [edgeV, if_neg (by rw [hbt hb']; simp)]
        exact wkV.tup2 (wkV.nils 3) (wkV.refl _)
    · have hc' : ¬ i < l.length := by simpa using hc
      have ei : i = l.length := by omega
      subst ei
      rw [List.take_length] at hL c2
      refine LWP_deep [(6, .tsl 3 ((s0 :: r0).map St.e))] 5 ?_ ?_
      · simp only [deepL]
        exact ⟨⟨_, rfl, deep_rowz (k := 3) (m := (s0 :: r0).length) (l := s0 :: r0) (Q := s0 :: r0) (by simp [get_e1]) (by simp) (Nat.le_refl _)⟩, trivial⟩
      have hlf := line_ok (s0 :: r0) (by simp) (by simp only [List.length_cons]; omega)
      refine LWP_seq ?_
      refine LWP_reg fun K hK => ?_
      apply rgnS_pre 1
      · repeat (simp -implicitDefEqProofs (maxSteps := 1000000) (disch := first | assumption | omega) []; try simp only [gz])
        rfl
      refine rgnS_call (hlf) rfl rfl (by simp [pureL, pureR, AV.pure, pureR_st, pureR, St.e]) (by simp [pureL, pureR, AV.pure, pureR_st, pureR, St.e]) (by simp [gd, get_e0, get_e1, LArg.ev, pureR_st, pureR, St.e]) ?_
      apply rgnS_pre 2
      · repeat (simp -implicitDefEqProofs (maxSteps := 1000000) (disch := first | assumption | omega) []; try simp only [gz])
        rfl
      refine hK _ ?_; clear hK
      refine LWP_ret ⟨_, rfl, ?_⟩
      refine wkV_of_eq ?_
      simp only [retV]
      rw [edgeV, if_pos c2, hL, lineS, if_neg (by simp)]
      rfl
end
end
end Go.AM.Sk
