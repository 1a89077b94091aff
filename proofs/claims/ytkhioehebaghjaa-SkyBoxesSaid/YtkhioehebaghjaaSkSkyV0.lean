/- A part of a proof about the given program: what its name says. No premise beyond the statements'. -/
import Derived.Test.YtkhioehebaghjaaSkSkyS2
import Derived.Test.YtkhioehebaghjaaFC
set_option linter.unusedSimpArgs false
set_option linter.unusedVariables false
/- The skylines of boxes, upper and lower; boxes as the statement reads them. -/
namespace Go.AM.Sk
open Go.AM
open Go.AM.SkyP
theorem pureR_bx (l : List Bx) : pureR (l.map Bx.e) = true := by
  induction l with
  | nil => simp [pureR]
  | cons b r ih => simp [pureR, Bx.e, pureL, AV.pure, ih]
theorem stp_mem {hf : Bx → Int} {l : List Bx} {s : St} : s ∈ stp hf l ↔ ∃ b ∈ l, b.x0 < b.x1 ∧ s = ⟨b.x0, b.x1, hf b⟩ := by
  simp only [stp, List.mem_map, List.mem_filter, decide_eq_true_eq]
  constructor
  · rintro ⟨b, ⟨h1, h2⟩, rfl⟩; exact ⟨b, h1, h2, rfl⟩
  · rintro ⟨b, h1, h2, rfl⟩; exact ⟨b, ⟨h1, h2⟩, rfl⟩

section
attribute [local simp ↓] List.map_nil List.map_cons
attribute [local simp] m_ o_ g_ stepsS stepS gd opEff appEff LArg.ev app_val app_new app_upd app_kill putV ins_e0 ins_e1 get_e0 get_e1 binV binI grd bnd ldCells AV.cells AV.scalar AV.known setAt fillL chunks elems mxI mnI del Nat.add_assoc nlt_self nne_self nne_self' List.take_of_length_le decT decF wrap_i64 stepsD stepD ST.as dEffF LOp.cls softOK LOp.args LOp.rds AV.ids appD_val appD_new appD_upd appD_kill AS.flush delAll
set_option maxHeartbeats 2000000 in
set_option maxRecDepth 20000 in
theorem of_yes (l : List Bx) (hl : l.length ≤ 60) (ha : l.all bxB = true) : ACalls Go.Proofs.Try.prog 9 [.tsl 4 (l.map Bx.e)] [] 0 (fun r _ _ => r = .tup [.tsl 3 ((lineS (stp (fun b => b.y1) l)).map St.e), .int .i64 0]) := by
  refine pure_body ok9 rfl ?_
  simp only [parV]
  have hE := edge_ok (hf := fun b => b.y1) (fun b _ => of1_ok b) l hl
  rw [edgeV, if_pos ha] at hE
  refine LWP_seq ?_
  apply LWP_run
  · repeat (simp -implicitDefEqProofs (maxSteps := 1000000) (disch := first | assumption | omega) []; try simp only [gz])
    rfl
  refine LWP_seq ?_
  refine LWP_reg fun K hK => ?_
  apply rgnS_pre 1
  · repeat (simp -implicitDefEqProofs (maxSteps := 1000000) (disch := first | assumption | omega) []; try simp only [gz])
    rfl
  refine rgnS_call (hE) rfl rfl (by simp [pureL, pureR, AV.pure, pureR_st, pureR_bx, pureR]) (by simp [pureL, pureR, AV.pure, pureR_st, pureR_bx, pureR]) (by simp [gd, get_e0, get_e1, LArg.ev]) ?_
  apply rgnS_pre 4
  · repeat (simp -implicitDefEqProofs (maxSteps := 1000000) (disch := first | assumption | omega) []; try simp only [gz])
    rfl
  refine hK _ ?_; clear hK
  -- leaf 0
  refine LWP_ret ⟨_, rfl, ?_⟩
  refine wkV_of_eq ?_
  simp only [retV]
  all_goals
    rfl
set_option maxHeartbeats 2000000 in
set_option maxRecDepth 20000 in
theorem of_no (l : List Bx) (hl : l.length ≤ 60) (ha : l.all bxB = false) : ACalls Go.Proofs.Try.prog 9 [.tsl 4 (l.map Bx.e)] [] 0 (fun r _ _ => r = .tup [.tsl 3 [], .int .i64 2]) := by
  refine pure_body ok9 rfl ?_
  simp only [parV]
  have hE := edge_ok (hf := fun b => b.y1) (fun b _ => of1_ok b) l hl
  rw [edgeV, if_neg (by rw [ha]; simp)] at hE
  refine LWP_seq ?_
  apply LWP_run
  · repeat (simp -implicitDefEqProofs (maxSteps := 1000000) (disch := first | assumption | omega) []; try simp only [gz])
    rfl
  refine LWP_seq ?_
  refine LWP_reg fun K hK => ?_
  apply rgnS_pre 1
  · repeat (simp -implicitDefEqProofs (maxSteps := 1000000) (disch := first | assumption | omega) []; try simp only [gz])
    rfl
  refine rgnS_call (hE) rfl rfl (by simp [pureL, pureR, AV.pure, pureR_st, pureR_bx, pureR]) (by simp [pureL, pureR, AV.pure, pureR_st, pureR_bx, pureR]) (by simp [gd, get_e0, get_e1, LArg.ev]) ?_
  apply rgnS_pre 4
  · repeat (simp -implicitDefEqProofs (maxSteps := 1000000) (disch := first | assumption | omega) []; try simp only [gz])
    rfl
  refine hK _ ?_; clear hK
  -- leaf 0
  refine LWP_ret ⟨_, rfl, ?_⟩
  refine wkV_of_eq ?_
  simp only [retV]
  all_goals
    rfl
set_option maxHeartbeats 2000000 in
set_option maxRecDepth 20000 in
theorem under_yes (l : List Bx) (hl : l.length ≤ 60) (ha : l.all bxB = true) : ACalls Go.Proofs.Try.prog 11 [.tsl 4 (l.map Bx.e)] [] 0 (fun r _ _ => r = .tup [.tsl 3 ((lineS (stp (fun b => -b.y0) l)).map St.e), .int .i64 0]) := by
  refine pure_body ok11 rfl ?_
  simp only [parV]
  have hE := edge_ok (hf := fun b => -b.y0) (fun b h => under1_ok b h) l hl
  rw [edgeV, if_pos ha] at hE
  refine LWP_seq ?_
  apply LWP_run
  · repeat (simp -implicitDefEqProofs (maxSteps := 1000000) (disch := first | assumption | omega) []; try simp only [gz])
    rfl
  refine LWP_seq ?_
  refine LWP_reg fun K hK => ?_
  apply rgnS_pre 1
  · repeat (simp -implicitDefEqProofs (maxSteps := 1000000) (disch := first | assumption | omega) []; try simp only [gz])
    rfl
  refine rgnS_call (hE) rfl rfl (by simp [pureL, pureR, AV.pure, pureR_st, pureR_bx, pureR]) (by simp [pureL, pureR, AV.pure, pureR_st, pureR_bx, pureR]) (by simp [gd, get_e0, get_e1, LArg.ev]) ?_
  apply rgnS_pre 4
  · repeat (simp -implicitDefEqProofs (maxSteps := 1000000) (disch := first | assumption | omega) []; try simp only [gz])
    rfl
  refine hK _ ?_; clear hK
  -- leaf 0
  refine LWP_ret ⟨_, rfl, ?_⟩
  refine wkV_of_eq ?_
  simp only [retV]
  all_goals
    rfl
set_option maxHeartbeats 2000000 in
set_option maxRecDepth 20000 in
theorem under_no (l : List Bx) (hl : l.length ≤ 60) (ha : l.all bxB = false) : ACalls Go.Proofs.Try.prog 11 [.tsl 4 (l.map Bx.e)] [] 0 (fun r _ _ => r = .tup [.tsl 3 [], .int .i64 2]) := by
  refine pure_body ok11 rfl ?_
  simp only [parV]
  have hE := edge_ok (hf := fun b => -b.y0) (fun b h => under1_ok b h) l hl
  rw [edgeV, if_neg (by rw [ha]; simp)] at hE
  refine LWP_seq ?_
  apply LWP_run
  · repeat (simp -implicitDefEqProofs (maxSteps := 1000000) (disch := first | assumption | omega) []; try simp only [gz])
    rfl
  refine LWP_seq ?_
  refine LWP_reg fun K hK => ?_
  apply rgnS_pre 1
  · repeat (simp -implicitDefEqProofs (maxSteps := 1000000) (disch := first | assumption | omega) []; try simp only [gz])
    rfl
  refine rgnS_call (hE) rfl rfl (by simp [pureL, pureR, AV.pure, pureR_st, pureR_bx, pureR]) (by simp [pureL, pureR, AV.pure, pureR_st, pureR_bx, pureR]) (by simp [gd, get_e0, get_e1, LArg.ev]) ?_
  apply rgnS_pre 4
  · repeat (simp -implicitDefEqProofs (maxSteps := 1000000) (disch := first | assumption | omega) []; try simp only [gz])
    rfl
  refine hK _ ?_; clear hK
  -- leaf 0
  refine LWP_ret ⟨_, rfl, ?_⟩
  refine wkV_of_eq ?_
  simp only [retV]
  all_goals
    rfl
end

open Go.Proofs.Try in
theorem c42 : prog.cellsOf 42 = 4 := by kernel_rfl
open Go.Proofs.Try in
theorem c3v : prog.cellsOf 3 = 1 := by kernel_rfl
theorem len4 {cs : List AV} (h : cs.length = 4) : ∃ a b c d, cs = [a, b, c, d] := by
  match cs, h with
  | [a, b, c, d], _ => exact ⟨a, b, c, d, rfl⟩
open Go.Proofs.Try in
set_option maxRecDepth 100000 in
theorem rd_bx {n : Nat} {cs : List AV} (h : wtV prog n 42 cs) : ∃ b : Bx, cs = b.e := by
  obtain ⟨m, h1, h2⟩ := wtV_struct underlying42 h
  rw [c42] at h1
  obtain ⟨a, b, c, d, rfl⟩ := len4 h1
  simp only [List.forall_mem_cons, List.not_mem_nil, c3v] at h2
  simp at h2
  obtain ⟨k1, k2, k3, k4⟩ := h2
  obtain ⟨x, e1, _⟩ := wtV_int underlying3 k1
  obtain ⟨y, e2, _⟩ := wtV_int underlying3 k2
  obtain ⟨z, e3, _⟩ := wtV_int underlying3 k3
  obtain ⟨w, e4, _⟩ := wtV_int underlying3 k4
  cases e1; cases e2; cases e3; cases e4
  exact ⟨⟨x, y, z, w⟩, rfl⟩
open Go.Proofs.Try in
set_option maxRecDepth 100000 in
theorem rd_bxs {n : Nat} {a : AV} (h : wtA prog n 22 a) : ∃ l : List Bx, a = .tsl 4 (l.map Bx.e) := by
  obtain ⟨m, es, h1, h2, h3⟩ := wtV_slice underlying22 c42 (by decide) (wtA_slice underlying22 h)
  cases h1
  obtain ⟨rs, rfl, _⟩ := map_of (f := Bx.e) (C := fun _ => True) (es := es) fun x hx => by
    obtain ⟨z, hz⟩ := rd_bx (h3 x hx).2
    exact ⟨z, hz, trivial⟩
  exact ⟨rs, rfl⟩
end Go.AM.Sk
