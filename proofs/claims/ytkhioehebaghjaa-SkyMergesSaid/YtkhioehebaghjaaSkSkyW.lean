/- A part of a proof about the given program: what its name says. No premise beyond the statements'. -/
import Derived.Test.YtkhioehebaghjaaSkSkyU2
import Derived.Test.YtkhioehebaghjaaFC
set_option linter.unusedSimpArgs false
set_option linter.unusedVariables false
/- Merging goes any way round, is as high as the higher one everywhere, and changes nothing by itself. -/
namespace Go.AM.Sk
open Go.AM
open Go.AM.SkyP
open Classical in
theorem same_refl (a : List St) : sameS a a = true := decide_eq_true rfl
theorem says_max {a : List St} (h : good a) {x k : Int} : says a x k ↔ maxat a x k := by
  constructor
  · rintro ⟨s, h1, h2, h3⟩
    refine ⟨⟨s, h1, h2, h3⟩, fun t ht hat => ?_⟩
    have := says_one h (x := x) (k := t.h) (j := k) ⟨t, ht, hat, rfl⟩ ⟨s, h1, h2, h3⟩
    omega
  · exact fun h => h.1
theorem maxat_congr {a b : List St} (h : ∀ s, s ∈ a ↔ s ∈ b) {x k : Int} : maxat a x k ↔ maxat b x k := by
  simp only [maxat, h]
theorem chk_nums {l : List St} (h : chkB l = true) : ∀ s ∈ l, s.x0 < s.x1 ∧ okF s.x0 = true ∧ okF s.x1 = true ∧ okF s.h = true := by
  intro s hs
  obtain ⟨i, hi, rfl⟩ := List.getElem_of_mem hs
  have := (chk_okAt h i hi).1
  simp only [sndB, Bool.and_eq_true, decide_eq_true_eq] at this
  exact ⟨this.2, this.1.1.1, this.1.1.2, this.1.2⟩
theorem app_nums {a b : List St} (ha : chkB a = true) (hb : chkB b = true) : ∀ s ∈ a ++ b, s.x0 < s.x1 ∧ okF s.x0 = true ∧ okF s.x1 = true ∧ okF s.h = true := by
  intro s hs
  rcases List.mem_append.1 hs with h | h
  · exact chk_nums ha s h
  · exact chk_nums hb s h
theorem line_comm {a b : List St} (ha : chkB a = true) (hb : chkB b = true) : lineS (b ++ a) = lineS (a ++ b) := by
  obtain ⟨g1, s1⟩ := lineS_spec fun s hs => (app_nums hb ha s hs).1
  obtain ⟨g2, s2⟩ := lineS_spec fun s hs => (app_nums ha hb s hs).1
  refine good_ext g1 g2 fun x k => ?_
  rw [s1, s2]
  exact maxat_congr fun s => by simp only [List.mem_append]; exact Or.comm
theorem line_idem {a : List St} (ha : chkB a = true) : lineS (a ++ a) = a := by
  obtain ⟨g1, s1⟩ := lineS_spec fun s hs => (app_nums ha ha s hs).1
  refine good_ext g1 (chk_good ha) fun x k => ?_
  rw [s1, says_max (chk_good ha)]
  exact maxat_congr fun s => by simp
def mrg (p q : Int × Bool) : Int × Bool := (if p.2 = false ∨ (q.2 = true ∧ p.1 < q.1) then q.1 else p.1, p.2 || q.2)
theorem at_merge {a b : List St} (ha : chkB a = true) (hb : chkB b = true) (x : Int) : atF (lineS (a ++ b)) x = mrg (atF a x) (atF b x) := by
  obtain ⟨g, hs⟩ := lineS_spec fun s hs => (app_nums ha hb s hs).1
  have ga := chk_good ha
  have gb := chk_good hb
  have key : ∀ (k j : Int), says a x k → says b x j → maxat (a ++ b) x (if k < j then j else k) := fun k j h1 h2 => by
    obtain ⟨⟨s, p1, p2, p3⟩, p4⟩ := (says_max ga).1 h1
    obtain ⟨⟨t, q1, q2, q3⟩, q4⟩ := (says_max gb).1 h2
    refine ⟨?_, fun u hu hat => ?_⟩
    · split
      · exact ⟨t, List.mem_append_right _ q1, q2, q3⟩
      · exact ⟨s, List.mem_append_left _ p1, p2, p3⟩
    · rcases List.mem_append.1 hu with h | h
      · have := p4 u h hat; split <;> omega
      · have := q4 u h hat; split <;> omega
  rcases at_or ga x with ⟨k, k1, k2⟩ | ⟨k1, k2⟩ <;> rcases at_or gb x with ⟨j, j1, j2⟩ | ⟨j1, j2⟩ <;> rw [k2, j2]
  · have h1 := (atF_says g _).1 ((hs x _).2 (key k j k1 j1))
    rw [h1]; simp [mrg]
  · have : maxat (a ++ b) x k := by
      obtain ⟨⟨s, p1, p2, p3⟩, p4⟩ := (says_max ga).1 k1
      refine ⟨⟨s, List.mem_append_left _ p1, p2, p3⟩, fun u hu hat => ?_⟩
      rcases List.mem_append.1 hu with h | h
      · exact p4 u h hat
      · exact absurd ⟨u, h, hat, rfl⟩ (j1 u.h)
    rw [(atF_says g _).1 ((hs x _).2 this)]; simp [mrg]
  · have : maxat (a ++ b) x j := by
      obtain ⟨⟨s, p1, p2, p3⟩, p4⟩ := (says_max gb).1 j1
      refine ⟨⟨s, List.mem_append_right _ p1, p2, p3⟩, fun u hu hat => ?_⟩
      rcases List.mem_append.1 hu with h | h
      · exact absurd ⟨u, h, hat, rfl⟩ (k1 u.h)
      · exact p4 u h hat
    rw [(atF_says g _).1 ((hs x _).2 this)]; simp [mrg]
  · rw [(atF_not g).1]
    · simp [mrg]
    · rintro ⟨m, hm⟩
      obtain ⟨⟨s, p1, p2, p3⟩, _⟩ := (hs x m).1 hm
      rcases List.mem_append.1 p1 with h | h
      · exact k1 m ⟨s, h, p2, p3⟩
      · exact j1 m ⟨s, h, p2, p3⟩

section
attribute [local simp ↓] List.map_nil List.map_cons
attribute [local simp] m_ o_ g_ stepsS stepS gd opEff appEff LArg.ev app_val app_new app_upd app_kill putV ins_e0 ins_e1 get_e0 get_e1 binV binI grd bnd ldCells AV.cells AV.scalar AV.known setAt fillL chunks elems mxI mnI del Nat.add_assoc nlt_self nne_self nne_self' List.take_of_length_le decT decF wrap_i64 stepsD stepD ST.as dEffF LOp.cls softOK LOp.args LOp.rds AV.ids appD_val appD_new appD_upd appD_kill AS.flush delAll
set_option maxHeartbeats 2000000 in
set_option maxRecDepth 20000 in
theorem merges_ba (a b : List St) (x : Int) (h : 60 < a.length) : ACalls Go.Proofs.Try.prog 6 [.tsl 3 (a.map St.e), .tsl 3 (b.map St.e), .int .i64 x] [] 0 (fun r _ _ => r = .bool true) := by
  refine pure_body ok6 rfl ?_
  simp only [parV]
  refine LWP_seq ?_
  apply LWP_run
  · repeat (simp -implicitDefEqProofs (maxSteps := 1000000) (disch := first | assumption | omega) [eqV, eqS, h]; try simp only [gz])
    rfl
  refine LWP_seq ?_
  refine LWP_seq ?_
  refine LWP_reg fun K hK => ?_
  apply rgnS_pre 8
  · repeat (simp -implicitDefEqProofs (maxSteps := 1000000) (disch := first | assumption | omega) [eqV, eqS, h]; try simp only [gz])
    rfl
  apply rgnS_pre 8
  · repeat (simp -implicitDefEqProofs (maxSteps := 1000000) (disch := first | assumption | omega) [eqV, eqS, h]; try simp only [gz])
    rfl
  apply rgnS_pre 2
  · repeat (simp -implicitDefEqProofs (maxSteps := 1000000) (disch := first | assumption | omega) [eqV, eqS, h]; try simp only [gz])
    rfl
  refine hK _ ?_; clear hK
  refine LWP_cond (t := true) (by simp [LArg.ev, get_e0, get_e1]) (fun _ => ?_) (fun h => by cases h)
  refine LWP_seq ?_
  refine LWP_reg fun K hK => ?_
  refine rgnS_call (hsheads) rfl rfl (by simp [pureL, pureR, AV.pure, eqV, eqS]) (by simp [pureL, pureR, AV.pure, eqV, eqS]) (by simp [gd, get_e0, get_e1, LArg.ev]) ?_
  apply rgnS_pre 1
  · repeat (simp -implicitDefEqProofs (maxSteps := 1000000) (disch := first | assumption | omega) [eqV, eqS, h]; try simp only [gz])
    rfl
  refine hK _ ?_; clear hK
  -- leaf 0
  refine LWP_ret ⟨_, rfl, ?_⟩
  refine wkV_of_eq ?_
  simp only [retV]
  all_goals
    rfl
set_option maxHeartbeats 2000000 in
set_option maxRecDepth 20000 in
theorem merges_bb (a b : List St) (x : Int) (la : a.length ≤ 60) (h : 60 < b.length) : ACalls Go.Proofs.Try.prog 6 [.tsl 3 (a.map St.e), .tsl 3 (b.map St.e), .int .i64 x] [] 0 (fun r _ _ => r = .bool true) := by
  refine pure_body ok6 rfl ?_
  simp only [parV]
  refine LWP_seq ?_
  apply LWP_run
  · repeat (simp -implicitDefEqProofs (maxSteps := 1000000) (disch := first | assumption | omega) [eqV, eqS, la, h]; try simp only [gz])
    rfl
  refine LWP_seq ?_
  refine LWP_seq ?_
  refine LWP_reg fun K hK => ?_
  apply rgnS_pre 8
  · repeat (simp -implicitDefEqProofs (maxSteps := 1000000) (disch := first | assumption | omega) [eqV, eqS, la, h]; try simp only [gz])
    rfl
  apply rgnS_pre 8
  · repeat (simp -implicitDefEqProofs (maxSteps := 1000000) (disch := first | assumption | omega) [eqV, eqS, la, h]; try simp only [gz])
    rfl
  apply rgnS_pre 2
  · repeat (simp -implicitDefEqProofs (maxSteps := 1000000) (disch := first | assumption | omega) [eqV, eqS, la, h]; try simp only [gz])
    rfl
  refine hK _ ?_; clear hK
  refine LWP_cond (t := true) (by simp [LArg.ev, get_e0, get_e1]) (fun _ => ?_) (fun h => by cases h)
  refine LWP_seq ?_
  refine LWP_reg fun K hK => ?_
  refine rgnS_call (hsheads) rfl rfl (by simp [pureL, pureR, AV.pure, eqV, eqS]) (by simp [pureL, pureR, AV.pure, eqV, eqS]) (by simp [gd, get_e0, get_e1, LArg.ev]) ?_
  apply rgnS_pre 1
  · repeat (simp -implicitDefEqProofs (maxSteps := 1000000) (disch := first | assumption | omega) [eqV, eqS, la, h]; try simp only [gz])
    rfl
  refine hK _ ?_; clear hK
  -- leaf 0
  refine LWP_ret ⟨_, rfl, ?_⟩
  refine wkV_of_eq ?_
  simp only [retV]
  all_goals
    rfl
set_option maxHeartbeats 2000000 in
set_option maxRecDepth 20000 in
theorem merges_ca (a b : List St) (x : Int) (la : a.length ≤ 60) (lb : b.length ≤ 60) (ca : chkB a = false) : ACalls Go.Proofs.Try.prog 6 [.tsl 3 (a.map St.e), .tsl 3 (b.map St.e), .int .i64 x] [] 0 (fun r _ _ => r = .bool true) := by
  refine pure_body ok6 rfl ?_
  simp only [parV]
  have CA := check_ok a (by omega)
  rw [ca] at CA
  refine LWP_seq ?_
  apply LWP_run
  · repeat (simp -implicitDefEqProofs (maxSteps := 1000000) (disch := first | assumption | omega) [eqV, eqS, la, lb]; try simp only [gz])
    rfl
  refine LWP_seq ?_
  refine LWP_seq ?_
  refine LWP_reg fun K hK => ?_
  apply rgnS_pre 8
  · repeat (simp -implicitDefEqProofs (maxSteps := 1000000) (disch := first | assumption | omega) [eqV, eqS, la, lb]; try simp only [gz])
    rfl
  apply rgnS_pre 2
  · repeat (simp -implicitDefEqProofs (maxSteps := 1000000) (disch := first | assumption | omega) [eqV, eqS, la, lb]; try simp only [gz])
    rfl
  refine rgnS_call (CA) rfl rfl (by simp [pureL, pureR, AV.pure, eqV, eqS, pureR_st]) (by simp [pureL, pureR, AV.pure, eqV, eqS, pureR_st]) (by simp [gd, get_e0, get_e1, LArg.ev]) ?_
  apply rgnS_pre 7
  · repeat (simp -implicitDefEqProofs (maxSteps := 1000000) (disch := first | assumption | omega) [eqV, eqS, la, lb]; try simp only [gz])
    rfl
  refine hK _ ?_; clear hK
  refine LWP_cond (t := true) (by simp [LArg.ev, get_e0, get_e1]) (fun _ => ?_) (fun h => by cases h)
  refine LWP_seq ?_
  refine LWP_reg fun K hK => ?_
  refine rgnS_call (hsheads) rfl rfl (by simp [pureL, pureR, AV.pure, eqV, eqS]) (by simp [pureL, pureR, AV.pure, eqV, eqS]) (by simp [gd, get_e0, get_e1, LArg.ev]) ?_
  apply rgnS_pre 1
  · repeat (simp -implicitDefEqProofs (maxSteps := 1000000) (disch := first | assumption | omega) [eqV, eqS, la, lb]; try simp only [gz])
    rfl
  refine hK _ ?_; clear hK
  -- leaf 0
  refine LWP_ret ⟨_, rfl, ?_⟩
  refine wkV_of_eq ?_
  simp only [retV]
  all_goals
    rfl
set_option maxHeartbeats 2000000 in
set_option maxRecDepth 20000 in
theorem merges_cb (a b : List St) (x : Int) (la : a.length ≤ 60) (lb : b.length ≤ 60) (ca : chkB a = true) (cb : chkB b = false) : ACalls Go.Proofs.Try.prog 6 [.tsl 3 (a.map St.e), .tsl 3 (b.map St.e), .int .i64 x] [] 0 (fun r _ _ => r = .bool true) := by
  refine pure_body ok6 rfl ?_
  simp only [parV]
  have CA := check_ok a (by omega)
  rw [ca] at CA
  have CB := check_ok b (by omega)
  rw [cb] at CB
  refine LWP_seq ?_
  apply LWP_run
  · repeat (simp -implicitDefEqProofs (maxSteps := 1000000) (disch := first | assumption | omega) [eqV, eqS, la, lb]; try simp only [gz])
    rfl
  refine LWP_seq ?_
  refine LWP_seq ?_
  refine LWP_reg fun K hK => ?_
  apply rgnS_pre 8
  · repeat (simp -implicitDefEqProofs (maxSteps := 1000000) (disch := first | assumption | omega) [eqV, eqS, la, lb]; try simp only [gz])
    rfl
  apply rgnS_pre 2
  · repeat (simp -implicitDefEqProofs (maxSteps := 1000000) (disch := first | assumption | omega) [eqV, eqS, la, lb]; try simp only [gz])
    rfl
  refine rgnS_call (CA) rfl rfl (by simp [pureL, pureR, AV.pure, eqV, eqS, pureR_st]) (by simp [pureL, pureR, AV.pure, eqV, eqS, pureR_st]) (by simp [gd, get_e0, get_e1, LArg.ev]) ?_
  apply rgnS_pre 4
  · repeat (simp -implicitDefEqProofs (maxSteps := 1000000) (disch := first | assumption | omega) [eqV, eqS, la, lb]; try simp only [gz])
    rfl
  refine rgnS_call (CB) rfl rfl (by simp [pureL, pureR, AV.pure, eqV, eqS, pureR_st]) (by simp [pureL, pureR, AV.pure, eqV, eqS, pureR_st]) (by simp [gd, get_e0, get_e1, LArg.ev]) ?_
  apply rgnS_pre 2
  · repeat (simp -implicitDefEqProofs (maxSteps := 1000000) (disch := first | assumption | omega) [eqV, eqS, la, lb]; try simp only [gz])
    rfl
  refine hK _ ?_; clear hK
  refine LWP_cond (t := true) (by simp [LArg.ev, get_e0, get_e1]) (fun _ => ?_) (fun h => by cases h)
  refine LWP_seq ?_
  refine LWP_reg fun K hK => ?_
  refine rgnS_call (hsheads) rfl rfl (by simp [pureL, pureR, AV.pure, eqV, eqS]) (by simp [pureL, pureR, AV.pure, eqV, eqS]) (by simp [gd, get_e0, get_e1, LArg.ev]) ?_
  apply rgnS_pre 1
  · repeat (simp -implicitDefEqProofs (maxSteps := 1000000) (disch := first | assumption | omega) [eqV, eqS, la, lb]; try simp only [gz])
    rfl
  refine hK _ ?_; clear hK
  -- leaf 0
  refine LWP_ret ⟨_, rfl, ?_⟩
  refine wkV_of_eq ?_
  simp only [retV]
  all_goals
    rfl
set_option maxHeartbeats 2000000 in
set_option maxRecDepth 20000 in
theorem merges_tt (a b c : List St) (x : Int) (p q : Int) (la : a.length ≤ 60) (lb : b.length ≤ 60) (CA : ACalls Go.Proofs.Try.prog 20 [.tsl 3 (a.map St.e)] [] 0 (fun r _ _ => r = .bool true)) (CB : ACalls Go.Proofs.Try.prog 20 [.tsl 3 (b.map St.e)] [] 0 (fun r _ _ => r = .bool true)) (CC : ACalls Go.Proofs.Try.prog 20 [.tsl 3 (c.map St.e)] [] 0 (fun r _ _ => r = .bool true)) (M1 : ACalls Go.Proofs.Try.prog 14 [.tsl 3 (a.map St.e), .tsl 3 (b.map St.e)] [] 0 (fun r _ _ => r = .tup [.tsl 3 (c.map St.e), .int .i64 0])) (M2 : ACalls Go.Proofs.Try.prog 14 [.tsl 3 (b.map St.e), .tsl 3 (a.map St.e)] [] 0 (fun r _ _ => r = .tup [.tsl 3 (c.map St.e), .int .i64 0])) (M3 : ACalls Go.Proofs.Try.prog 14 [.tsl 3 (a.map St.e), .tsl 3 (a.map St.e)] [] 0 (fun r _ _ => r = .tup [.tsl 3 (a.map St.e), .int .i64 0])) (S1 : ACalls Go.Proofs.Try.prog 13 [.tsl 3 (c.map St.e), .tsl 3 (c.map St.e)] [] 0 (fun r _ _ => r = .bool true)) (S2 : ACalls Go.Proofs.Try.prog 13 [.tsl 3 (a.map St.e), .tsl 3 (a.map St.e)] [] 0 (fun r _ _ => r = .bool true)) (A1 : ACalls Go.Proofs.Try.prog 18 [.tsl 3 (a.map St.e), .int .i64 x] [] 0 (fun r _ _ => r = .tup [.int .i64 p, .bool true])) (A2 : ACalls Go.Proofs.Try.prog 18 [.tsl 3 (b.map St.e), .int .i64 x] [] 0 (fun r _ _ => r = .tup [.int .i64 q, .bool true])) (A3 : ACalls Go.Proofs.Try.prog 18 [.tsl 3 (c.map St.e), .int .i64 x] [] 0 (fun r _ _ => r = .tup [.int .i64 q, .bool true])) (hpq : p < q) : ACalls Go.Proofs.Try.prog 6 [.tsl 3 (a.map St.e), .tsl 3 (b.map St.e), .int .i64 x] [] 0 (fun r _ _ => r = .bool true) := by
  refine pure_body ok6 rfl ?_
  simp only [parV]
  refine LWP_seq ?_
  apply LWP_run
  · repeat (simp -implicitDefEqProofs (maxSteps := 1000000) (disch := first | assumption | omega) [eqV, eqS, la, lb, hpq]; try simp only [gz])
    rfl
  refine LWP_seq ?_
  refine LWP_seq ?_
  refine LWP_reg fun K hK => ?_
  apply rgnS_pre 8
  · repeat (simp -implicitDefEqProofs (maxSteps := 1000000) (disch := first | assumption | omega) [eqV, eqS, la, lb, hpq]; try simp only [gz])
    rfl
  apply rgnS_pre 2
  · repeat (simp -implicitDefEqProofs (maxSteps := 1000000) (disch := first | assumption | omega) [eqV, eqS, la, lb, hpq]; try simp only [gz])
    rfl
  refine rgnS_call (CA) rfl rfl (by simp [pureL, pureR, AV.pure, eqV, eqS, pureR_st]) (by simp [pureL, pureR, AV.pure, eqV, eqS, pureR_st]) (by simp [gd, get_e0, get_e1, LArg.ev]) ?_
  apply rgnS_pre 4
  · repeat (simp -implicitDefEqProofs (maxSteps := 1000000) (disch := first | assumption | omega) [eqV, eqS, la, lb, hpq]; try simp only [gz])
    rfl
  refine rgnS_call (CB) rfl rfl (by simp [pureL, pureR, AV.pure, eqV, eqS, pureR_st]) (by simp [pureL, pureR, AV.pure, eqV, eqS, pureR_st]) (by simp [gd, get_e0, get_e1, LArg.ev]) ?_
  apply rgnS_pre 2
  · repeat (simp -implicitDefEqProofs (maxSteps := 1000000) (disch := first | assumption | omega) [eqV, eqS, la, lb, hpq]; try simp only [gz])
    rfl
  refine hK _ ?_; clear hK
  refine LWP_cond (t := false) (by simp [LArg.ev, get_e0, get_e1]) (fun h => by cases h) (fun _ => ?_)
  refine LWP_skip ?_
  refine LWP_seq ?_
  refine LWP_reg fun K hK => ?_
  apply rgnS_pre 2
  · repeat (simp -implicitDefEqProofs (maxSteps := 1000000) (disch := first | assumption | omega) [eqV, eqS, la, lb, hpq]; try simp only [gz])
    rfl
  refine rgnS_call (M1) rfl rfl (by simp [pureL, pureR, AV.pure, eqV, eqS, pureR_st]) (by simp [pureL, pureR, AV.pure, eqV, eqS, pureR_st]) (by simp [gd, get_e0, get_e1, LArg.ev]) ?_
  apply rgnS_pre 5
  · repeat (simp -implicitDefEqProofs (maxSteps := 1000000) (disch := first | assumption | omega) [eqV, eqS, la, lb, hpq]; try simp only [gz])
    rfl
  refine hK _ ?_; clear hK
  refine LWP_seq ?_
  refine LWP_reg fun K hK => ?_
  apply rgnS_pre 2
  · repeat (simp -implicitDefEqProofs (maxSteps := 1000000) (disch := first | assumption | omega) [eqV, eqS, la, lb, hpq]; try simp only [gz])
    rfl
  refine rgnS_call (M2) rfl rfl (by simp [pureL, pureR, AV.pure, eqV, eqS, pureR_st]) (by simp [pureL, pureR, AV.pure, eqV, eqS, pureR_st]) (by simp [gd, get_e0, get_e1, LArg.ev]) ?_
  apply rgnS_pre 5
  · repeat (simp -implicitDefEqProofs (maxSteps := 1000000) (disch := first | assumption | omega) [eqV, eqS, la, lb, hpq]; try simp only [gz])
    rfl
  refine hK _ ?_; clear hK
  refine LWP_seq ?_
  refine LWP_reg fun K hK => ?_
  apply rgnS_pre 2
  · repeat (simp -implicitDefEqProofs (maxSteps := 1000000) (disch := first | assumption | omega) [eqV, eqS, la, lb, hpq]; try simp only [gz])
    rfl
  refine rgnS_call (M3) rfl rfl (by simp [pureL, pureR, AV.pure, eqV, eqS, pureR_st]) (by simp [pureL, pureR, AV.pure, eqV, eqS, pureR_st]) (by simp [gd, get_e0, get_e1, LArg.ev]) ?_
  apply rgnS_pre 5
  · repeat (simp -implicitDefEqProofs (maxSteps := 1000000) (disch := first | assumption | omega) [eqV, eqS, la, lb, hpq]; try simp only [gz])
    rfl
  refine hK _ ?_; clear hK
  refine LWP_seq ?_
  refine LWP_seq ?_
  refine LWP_reg fun K hK => ?_
  apply rgnS_pre 8
  · repeat (simp -implicitDefEqProofs (maxSteps := 1000000) (disch := first | assumption | omega) [eqV, eqS, la, lb, hpq]; try simp only [gz])
    rfl
  apply rgnS_pre 5
  · repeat (simp -implicitDefEqProofs (maxSteps := 1000000) (disch := first | assumption | omega) [eqV, eqS, la, lb, hpq]; try simp only [gz])
    rfl
  refine rgnS_call (S1) rfl rfl (by simp [pureL, pureR, AV.pure, eqV, eqS, pureR_st]) (by simp [pureL, pureR, AV.pure, eqV, eqS, pureR_st]) (by simp [gd, get_e0, get_e1, LArg.ev]) ?_
  apply rgnS_pre 5
  · repeat (simp -implicitDefEqProofs (maxSteps := 1000000) (disch := first | assumption | omega) [eqV, eqS, la, lb, hpq]; try simp only [gz])
    rfl
  refine rgnS_call (S2) rfl rfl (by simp [pureL, pureR, AV.pure, eqV, eqS, pureR_st]) (by simp [pureL, pureR, AV.pure, eqV, eqS, pureR_st]) (by simp [gd, get_e0, get_e1, LArg.ev]) ?_
  apply rgnS_pre 4
  · repeat (simp -implicitDefEqProofs (maxSteps := 1000000) (disch := first | assumption | omega) [eqV, eqS, la, lb, hpq]; try simp only [gz])
    rfl
  refine rgnS_call (CC) rfl rfl (by simp [pureL, pureR, AV.pure, eqV, eqS, pureR_st]) (by simp [pureL, pureR, AV.pure, eqV, eqS, pureR_st]) (by simp [gd, get_e0, get_e1, LArg.ev]) ?_
  apply rgnS_pre 2
  · repeat (simp -implicitDefEqProofs (maxSteps := 1000000) (disch := first | assumption | omega) [eqV, eqS, la, lb, hpq]; try simp only [gz])
    rfl
  refine hK _ ?_; clear hK
  refine LWP_cond (t := false) (by simp [LArg.ev, get_e0, get_e1]) (fun h => by cases h) (fun _ => ?_)
  refine LWP_skip ?_
  refine LWP_seq ?_
  refine LWP_reg fun K hK => ?_
  apply rgnS_pre 2
  · repeat (simp -implicitDefEqProofs (maxSteps := 1000000) (disch := first | assumption | omega) [eqV, eqS, la, lb, hpq]; try simp only [gz])
    rfl
  refine rgnS_call (A1) rfl rfl (by simp [pureL, pureR, AV.pure, eqV, eqS, pureR_st]) (by simp [pureL, pureR, AV.pure, eqV, eqS, pureR_st]) (by simp [gd, get_e0, get_e1, LArg.ev]) ?_
  apply rgnS_pre 5
  · repeat (simp -implicitDefEqProofs (maxSteps := 1000000) (disch := first | assumption | omega) [eqV, eqS, la, lb, hpq]; try simp only [gz])
    rfl
  refine hK _ ?_; clear hK
  refine LWP_seq ?_
  refine LWP_reg fun K hK => ?_
  apply rgnS_pre 2
  · repeat (simp -implicitDefEqProofs (maxSteps := 1000000) (disch := first | assumption | omega) [eqV, eqS, la, lb, hpq]; try simp only [gz])
    rfl
  refine rgnS_call (A2) rfl rfl (by simp [pureL, pureR, AV.pure, eqV, eqS, pureR_st]) (by simp [pureL, pureR, AV.pure, eqV, eqS, pureR_st]) (by simp [gd, get_e0, get_e1, LArg.ev]) ?_
  apply rgnS_pre 5
  · repeat (simp -implicitDefEqProofs (maxSteps := 1000000) (disch := first | assumption | omega) [eqV, eqS, la, lb, hpq]; try simp only [gz])
    rfl
  refine hK _ ?_; clear hK
  refine LWP_seq ?_
  refine LWP_reg fun K hK => ?_
  apply rgnS_pre 2
  · repeat (simp -implicitDefEqProofs (maxSteps := 1000000) (disch := first | assumption | omega) [eqV, eqS, la, lb, hpq]; try simp only [gz])
    rfl
  refine rgnS_call (A3) rfl rfl (by simp [pureL, pureR, AV.pure, eqV, eqS, pureR_st]) (by simp [pureL, pureR, AV.pure, eqV, eqS, pureR_st]) (by simp [gd, get_e0, get_e1, LArg.ev]) ?_
  apply rgnS_pre 5
  · repeat (simp -implicitDefEqProofs (maxSteps := 1000000) (disch := first | assumption | omega) [eqV, eqS, la, lb, hpq]; try simp only [gz])
    rfl
  refine hK _ ?_; clear hK
  refine LWP_seq ?_
  apply LWP_run
  · repeat (simp -implicitDefEqProofs (maxSteps := 1000000) (disch := first | assumption | omega) [eqV, eqS, la, lb, hpq]; try simp only [gz])
    rfl
  refine LWP_seq ?_
  refine LWP_seq ?_
  refine LWP_reg fun K hK => ?_
  apply rgnS_pre 8
  · repeat (simp -implicitDefEqProofs (maxSteps := 1000000) (disch := first | assumption | omega) [eqV, eqS, la, lb, hpq]; try simp only [gz])
    rfl
  apply rgnS_pre 2
  · repeat (simp -implicitDefEqProofs (maxSteps := 1000000) (disch := first | assumption | omega) [eqV, eqS, la, lb, hpq]; try simp only [gz])
    rfl
  refine hK _ ?_; clear hK
  refine LWP_cond (t := true) (by simp [LArg.ev, get_e0, get_e1]) (fun _ => ?_) (fun h => by cases h)
  apply LWP_run
  · repeat (simp -implicitDefEqProofs (maxSteps := 1000000) (disch := first | assumption | omega) [eqV, eqS, la, lb, hpq]; try simp only [gz])
    rfl
  refine LWP_seq ?_
  refine LWP_reg fun K hK => ?_
  apply rgnS_pre 8
  · repeat (simp -implicitDefEqProofs (maxSteps := 1000000) (disch := first | assumption | omega) [eqV, eqS, la, lb, hpq]; try simp only [gz])
    rfl
  apply rgnS_pre 4
  · repeat (simp -implicitDefEqProofs (maxSteps := 1000000) (disch := first | assumption | omega) [eqV, eqS, la, lb, hpq]; try simp only [gz])
    rfl
  refine rgnS_call (hsheads) rfl rfl (by simp [pureL, pureR, AV.pure, eqV, eqS]) (by simp [pureL, pureR, AV.pure, eqV, eqS]) (by simp [gd, get_e0, get_e1, LArg.ev]) ?_
  apply rgnS_pre 2
  · repeat (simp -implicitDefEqProofs (maxSteps := 1000000) (disch := first | assumption | omega) [eqV, eqS, la, lb, hpq]; try simp only [gz])
    rfl
  refine hK _ ?_; clear hK
  -- leaf 0
  refine LWP_ret ⟨_, rfl, ?_⟩
  refine wkV_of_eq ?_
  simp only [retV]
  all_goals
    rfl
set_option maxHeartbeats 2000000 in
set_option maxRecDepth 20000 in
theorem merges_te (a b c : List St) (x : Int) (p q : Int) (la : a.length ≤ 60) (lb : b.length ≤ 60) (CA : ACalls Go.Proofs.Try.prog 20 [.tsl 3 (a.map St.e)] [] 0 (fun r _ _ => r = .bool true)) (CB : ACalls Go.Proofs.Try.prog 20 [.tsl 3 (b.map St.e)] [] 0 (fun r _ _ => r = .bool true)) (CC : ACalls Go.Proofs.Try.prog 20 [.tsl 3 (c.map St.e)] [] 0 (fun r _ _ => r = .bool true)) (M1 : ACalls Go.Proofs.Try.prog 14 [.tsl 3 (a.map St.e), .tsl 3 (b.map St.e)] [] 0 (fun r _ _ => r = .tup [.tsl 3 (c.map St.e), .int .i64 0])) (M2 : ACalls Go.Proofs.Try.prog 14 [.tsl 3 (b.map St.e), .tsl 3 (a.map St.e)] [] 0 (fun r _ _ => r = .tup [.tsl 3 (c.map St.e), .int .i64 0])) (M3 : ACalls Go.Proofs.Try.prog 14 [.tsl 3 (a.map St.e), .tsl 3 (a.map St.e)] [] 0 (fun r _ _ => r = .tup [.tsl 3 (a.map St.e), .int .i64 0])) (S1 : ACalls Go.Proofs.Try.prog 13 [.tsl 3 (c.map St.e), .tsl 3 (c.map St.e)] [] 0 (fun r _ _ => r = .bool true)) (S2 : ACalls Go.Proofs.Try.prog 13 [.tsl 3 (a.map St.e), .tsl 3 (a.map St.e)] [] 0 (fun r _ _ => r = .bool true)) (A1 : ACalls Go.Proofs.Try.prog 18 [.tsl 3 (a.map St.e), .int .i64 x] [] 0 (fun r _ _ => r = .tup [.int .i64 p, .bool true])) (A2 : ACalls Go.Proofs.Try.prog 18 [.tsl 3 (b.map St.e), .int .i64 x] [] 0 (fun r _ _ => r = .tup [.int .i64 q, .bool true])) (A3 : ACalls Go.Proofs.Try.prog 18 [.tsl 3 (c.map St.e), .int .i64 x] [] 0 (fun r _ _ => r = .tup [.int .i64 p, .bool true])) (hpq : ¬ p < q) : ACalls Go.Proofs.Try.prog 6 [.tsl 3 (a.map St.e), .tsl 3 (b.map St.e), .int .i64 x] [] 0 (fun r _ _ => r = .bool true) := by
  refine pure_body ok6 rfl ?_
  simp only [parV]
  refine LWP_seq ?_
  apply LWP_run
  · repeat (simp -implicitDefEqProofs (maxSteps := 1000000) (disch := first | assumption | omega) [eqV, eqS, la, lb, hpq]; try simp only [gz])
    rfl
  refine LWP_seq ?_
  refine LWP_seq ?_
  refine LWP_reg fun K hK => ?_
  apply rgnS_pre 8
  · repeat (simp -implicitDefEqProofs (maxSteps := 1000000) (disch := first | assumption | omega) [eqV, eqS, la, lb, hpq]; try simp only [gz])
    rfl
  apply rgnS_pre 2
  · repeat (simp -implicitDefEqProofs (maxSteps := 1000000) (disch := first | assumption | omega) [eqV, eqS, la, lb, hpq]; try simp only [gz])
    rfl
  refine rgnS_call (CA) rfl rfl (by simp [pureL, pureR, AV.pure, eqV, eqS, pureR_st]) (by simp [pureL, pureR, AV.pure, eqV, eqS, pureR_st]) (by simp [gd, get_e0, get_e1, LArg.ev]) ?_
  apply rgnS_pre 4
  · repeat (simp -implicitDefEqProofs (maxSteps := 1000000) (disch := first | assumption | omega) [eqV, eqS, la, lb, hpq]; try simp only [gz])
    rfl
  refine rgnS_call (CB) rfl rfl (by simp [pureL, pureR, AV.pure, eqV, eqS, pureR_st]) (by simp [pureL, pureR, AV.pure, eqV, eqS, pureR_st]) (by simp [gd, get_e0, get_e1, LArg.ev]) ?_
  apply rgnS_pre 2
  · repeat (simp -implicitDefEqProofs (maxSteps := 1000000) (disch := first | assumption | omega) [eqV, eqS, la, lb, hpq]; try simp only [gz])
    rfl
  refine hK _ ?_; clear hK
  refine LWP_cond (t := false) (by simp [LArg.ev, get_e0, get_e1]) (fun h => by cases h) (fun _ => ?_)
  refine LWP_skip ?_
  refine LWP_seq ?_
  refine LWP_reg fun K hK => ?_
  apply rgnS_pre 2
  · repeat (simp -implicitDefEqProofs (maxSteps := 1000000) (disch := first | assumption | omega) [eqV, eqS, la, lb, hpq]; try simp only [gz])
    rfl
  refine rgnS_call (M1) rfl rfl (by simp [pureL, pureR, AV.pure, eqV, eqS, pureR_st]) (by simp [pureL, pureR, AV.pure, eqV, eqS, pureR_st]) (by simp [gd, get_e0, get_e1, LArg.ev]) ?_
  apply rgnS_pre 5
  · repeat (simp -implicitDefEqProofs (maxSteps := 1000000) (disch := first | assumption | omega) [eqV, eqS, la, lb, hpq]; try simp only [gz])
    rfl
  refine hK _ ?_; clear hK
  refine LWP_seq ?_
  refine LWP_reg fun K hK => ?_
  apply rgnS_pre 2
  · repeat (simp -implicitDefEqProofs (maxSteps := 1000000) (disch := first | assumption | omega) [eqV, eqS, la, lb, hpq]; try simp only [gz])
    rfl
  refine rgnS_call (M2) rfl rfl (by simp [pureL, pureR, AV.pure, eqV, eqS, pureR_st]) (by simp [pureL, pureR, AV.pure, eqV, eqS, pureR_st]) (by simp [gd, get_e0, get_e1, LArg.ev]) ?_
  apply rgnS_pre 5
  · repeat (simp -implicitDefEqProofs (maxSteps := 1000000) (disch := first | assumption | omega) [eqV, eqS, la, lb, hpq]; try simp only [gz])
    rfl
  refine hK _ ?_; clear hK
  refine LWP_seq ?_
  refine LWP_reg fun K hK => ?_
  apply rgnS_pre 2
  · repeat (simp -implicitDefEqProofs (maxSteps := 1000000) (disch := first | assumption | omega) [eqV, eqS, la, lb, hpq]; try simp only [gz])
    rfl
  refine rgnS_call (M3) rfl rfl (by simp [pureL, pureR, AV.pure, eqV, eqS, pureR_st]) (by simp [pureL, pureR, AV.pure, eqV, eqS, pureR_st]) (by simp [gd, get_e0, get_e1, LArg.ev]) ?_
  apply rgnS_pre 5
  · repeat (simp -implicitDefEqProofs (maxSteps := 1000000) (disch := first | assumption | omega) [eqV, eqS, la, lb, hpq]; try simp only [gz])
    rfl
  refine hK _ ?_; clear hK
  refine LWP_seq ?_
  refine LWP_seq ?_
  refine LWP_reg fun K hK => ?_
  apply rgnS_pre 8
  · repeat (simp -implicitDefEqProofs (maxSteps := 1000000) (disch := first | assumption | omega) [eqV, eqS, la, lb, hpq]; try simp only [gz])
    rfl
  apply rgnS_pre 5
  · repeat (simp -implicitDefEqProofs (maxSteps := 1000000) (disch := first | assumption | omega) [eqV, eqS, la, lb, hpq]; try simp only [gz])
    rfl
  refine rgnS_call (S1) rfl rfl (by simp [pureL, pureR, AV.pure, eqV, eqS, pureR_st]) (by simp [pureL, pureR, AV.pure, eqV, eqS, pureR_st]) (by simp [gd, get_e0, get_e1, LArg.ev]) ?_
  apply rgnS_pre 5
  · repeat (simp -implicitDefEqProofs (maxSteps := 1000000) (disch := first | assumption | omega) [eqV, eqS, la, lb, hpq]; try simp only [gz])
    rfl
  refine rgnS_call (S2) rfl rfl (by simp [pureL, pureR, AV.pure, eqV, eqS, pureR_st]) (by simp [pureL, pureR, AV.pure, eqV, eqS, pureR_st]) (by simp [gd, get_e0, get_e1, LArg.ev]) ?_
  apply rgnS_pre 4
  · repeat (simp -implicitDefEqProofs (maxSteps := 1000000) (disch := first | assumption | omega) [eqV, eqS, la, lb, hpq]; try simp only [gz])
    rfl
  refine rgnS_call (CC) rfl rfl (by simp [pureL, pureR, AV.pure, eqV, eqS, pureR_st]) (by simp [pureL, pureR, AV.pure, eqV, eqS, pureR_st]) (by simp [gd, get_e0, get_e1, LArg.ev]) ?_
  apply rgnS_pre 2
  · repeat (simp -implicitDefEqProofs (maxSteps := 1000000) (disch := first | assumption | omega) [eqV, eqS, la, lb, hpq]; try simp only [gz])
    rfl
  refine hK _ ?_; clear hK
  refine LWP_cond (t := false) (by simp [LArg.ev, get_e0, get_e1]) (fun h => by cases h) (fun _ => ?_)
  refine LWP_skip ?_
  refine LWP_seq ?_
  refine LWP_reg fun K hK => ?_
  apply rgnS_pre 2
  · repeat (simp -implicitDefEqProofs (maxSteps := 1000000) (disch := first | assumption | omega) [eqV, eqS, la, lb, hpq]; try simp only [gz])
    rfl
  refine rgnS_call (A1) rfl rfl (by simp [pureL, pureR, AV.pure, eqV, eqS, pureR_st]) (by simp [pureL, pureR, AV.pure, eqV, eqS, pureR_st]) (by simp [gd, get_e0, get_e1, LArg.ev]) ?_
  apply rgnS_pre 5
  · repeat (simp -implicitDefEqProofs (maxSteps := 1000000) (disch := first | assumption | omega) [eqV, eqS, la, lb, hpq]; try simp only [gz])
    rfl
  refine hK _ ?_; clear hK
  refine LWP_seq ?_
  refine LWP_reg fun K hK => ?_
  apply rgnS_pre 2
  · repeat (simp -implicitDefEqProofs (maxSteps := 1000000) (disch := first | assumption | omega) [eqV, eqS, la, lb, hpq]; try simp only [gz])
    rfl
  refine rgnS_call (A2) rfl rfl (by simp [pureL, pureR, AV.pure, eqV, eqS, pureR_st]) (by simp [pureL, pureR, AV.pure, eqV, eqS, pureR_st]) (by simp [gd, get_e0, get_e1, LArg.ev]) ?_
  apply rgnS_pre 5
  · repeat (simp -implicitDefEqProofs (maxSteps := 1000000) (disch := first | assumption | omega) [eqV, eqS, la, lb, hpq]; try simp only [gz])
    rfl
  refine hK _ ?_; clear hK
  refine LWP_seq ?_
  refine LWP_reg fun K hK => ?_
  apply rgnS_pre 2
  · repeat (simp -implicitDefEqProofs (maxSteps := 1000000) (disch := first | assumption | omega) [eqV, eqS, la, lb, hpq]; try simp only [gz])
    rfl
  refine rgnS_call (A3) rfl rfl (by simp [pureL, pureR, AV.pure, eqV, eqS, pureR_st]) (by simp [pureL, pureR, AV.pure, eqV, eqS, pureR_st]) (by simp [gd, get_e0, get_e1, LArg.ev]) ?_
  apply rgnS_pre 5
  · repeat (simp -implicitDefEqProofs (maxSteps := 1000000) (disch := first | assumption | omega) [eqV, eqS, la, lb, hpq]; try simp only [gz])
    rfl
  refine hK _ ?_; clear hK
  refine LWP_seq ?_
  apply LWP_run
  · repeat (simp -implicitDefEqProofs (maxSteps := 1000000) (disch := first | assumption | omega) [eqV, eqS, la, lb, hpq]; try simp only [gz])
    rfl
  refine LWP_seq ?_
  refine LWP_seq ?_
  refine LWP_reg fun K hK => ?_
  apply rgnS_pre 8
  · repeat (simp -implicitDefEqProofs (maxSteps := 1000000) (disch := first | assumption | omega) [eqV, eqS, la, lb, hpq]; try simp only [gz])
    rfl
  apply rgnS_pre 2
  · repeat (simp -implicitDefEqProofs (maxSteps := 1000000) (disch := first | assumption | omega) [eqV, eqS, la, lb, hpq]; try simp only [gz])
    rfl
  refine hK _ ?_; clear hK
  refine LWP_cond (t := false) (by simp [LArg.ev, get_e0, get_e1]) (fun h => by cases h) (fun _ => ?_)
  refine LWP_skip ?_
  refine LWP_seq ?_
  refine LWP_reg fun K hK => ?_
  apply rgnS_pre 8
  · repeat (simp -implicitDefEqProofs (maxSteps := 1000000) (disch := first | assumption | omega) [eqV, eqS, la, lb, hpq]; try simp only [gz])
    rfl
  apply rgnS_pre 4
  · repeat (simp -implicitDefEqProofs (maxSteps := 1000000) (disch := first | assumption | omega) [eqV, eqS, la, lb, hpq]; try simp only [gz])
    rfl
  refine rgnS_call (hsheads) rfl rfl (by simp [pureL, pureR, AV.pure, eqV, eqS]) (by simp [pureL, pureR, AV.pure, eqV, eqS]) (by simp [gd, get_e0, get_e1, LArg.ev]) ?_
  apply rgnS_pre 2
  · repeat (simp -implicitDefEqProofs (maxSteps := 1000000) (disch := first | assumption | omega) [eqV, eqS, la, lb, hpq]; try simp only [gz])
    rfl
  refine hK _ ?_; clear hK
  -- leaf 0
  refine LWP_ret ⟨_, rfl, ?_⟩
  refine wkV_of_eq ?_
  simp only [retV]
  all_goals
    rfl
set_option maxHeartbeats 2000000 in
set_option maxRecDepth 20000 in
theorem merges_tf (a b c : List St) (x : Int) (p q : Int) (la : a.length ≤ 60) (lb : b.length ≤ 60) (CA : ACalls Go.Proofs.Try.prog 20 [.tsl 3 (a.map St.e)] [] 0 (fun r _ _ => r = .bool true)) (CB : ACalls Go.Proofs.Try.prog 20 [.tsl 3 (b.map St.e)] [] 0 (fun r _ _ => r = .bool true)) (CC : ACalls Go.Proofs.Try.prog 20 [.tsl 3 (c.map St.e)] [] 0 (fun r _ _ => r = .bool true)) (M1 : ACalls Go.Proofs.Try.prog 14 [.tsl 3 (a.map St.e), .tsl 3 (b.map St.e)] [] 0 (fun r _ _ => r = .tup [.tsl 3 (c.map St.e), .int .i64 0])) (M2 : ACalls Go.Proofs.Try.prog 14 [.tsl 3 (b.map St.e), .tsl 3 (a.map St.e)] [] 0 (fun r _ _ => r = .tup [.tsl 3 (c.map St.e), .int .i64 0])) (M3 : ACalls Go.Proofs.Try.prog 14 [.tsl 3 (a.map St.e), .tsl 3 (a.map St.e)] [] 0 (fun r _ _ => r = .tup [.tsl 3 (a.map St.e), .int .i64 0])) (S1 : ACalls Go.Proofs.Try.prog 13 [.tsl 3 (c.map St.e), .tsl 3 (c.map St.e)] [] 0 (fun r _ _ => r = .bool true)) (S2 : ACalls Go.Proofs.Try.prog 13 [.tsl 3 (a.map St.e), .tsl 3 (a.map St.e)] [] 0 (fun r _ _ => r = .bool true)) (A1 : ACalls Go.Proofs.Try.prog 18 [.tsl 3 (a.map St.e), .int .i64 x] [] 0 (fun r _ _ => r = .tup [.int .i64 p, .bool true])) (A2 : ACalls Go.Proofs.Try.prog 18 [.tsl 3 (b.map St.e), .int .i64 x] [] 0 (fun r _ _ => r = .tup [.int .i64 q, .bool false])) (A3 : ACalls Go.Proofs.Try.prog 18 [.tsl 3 (c.map St.e), .int .i64 x] [] 0 (fun r _ _ => r = .tup [.int .i64 p, .bool true])) : ACalls Go.Proofs.Try.prog 6 [.tsl 3 (a.map St.e), .tsl 3 (b.map St.e), .int .i64 x] [] 0 (fun r _ _ => r = .bool true) := by
  refine pure_body ok6 rfl ?_
  simp only [parV]
  refine LWP_seq ?_
  apply LWP_run
  · repeat (simp -implicitDefEqProofs (maxSteps := 1000000) (disch := first | assumption | omega) [eqV, eqS, la, lb]; try simp only [gz])
    rfl
  refine LWP_seq ?_
  refine LWP_seq ?_
  refine LWP_reg fun K hK => ?_
  apply rgnS_pre 8
  · repeat (simp -implicitDefEqProofs (maxSteps := 1000000) (disch := first | assumption | omega) [eqV, eqS, la, lb]; try simp only [gz])
    rfl
  apply rgnS_pre 2
  · repeat (simp -implicitDefEqProofs (maxSteps := 1000000) (disch := first | assumption | omega) [eqV, eqS, la, lb]; try simp only [gz])
    rfl
  refine rgnS_call (CA) rfl rfl (by simp [pureL, pureR, AV.pure, eqV, eqS, pureR_st]) (by simp [pureL, pureR, AV.pure, eqV, eqS, pureR_st]) (by simp [gd, get_e0, get_e1, LArg.ev]) ?_
  apply rgnS_pre 4
  · repeat (simp -implicitDefEqProofs (maxSteps := 1000000) (disch := first | assumption | omega) [eqV, eqS, la, lb]; try simp only [gz])
    rfl
  refine rgnS_call (CB) rfl rfl (by simp [pureL, pureR, AV.pure, eqV, eqS, pureR_st]) (by simp [pureL, pureR, AV.pure, eqV, eqS, pureR_st]) (by simp [gd, get_e0, get_e1, LArg.ev]) ?_
  apply rgnS_pre 2
  · repeat (simp -implicitDefEqProofs (maxSteps := 1000000) (disch := first | assumption | omega) [eqV, eqS, la, lb]; try simp only [gz])
    rfl
  refine hK _ ?_; clear hK
  refine LWP_cond (t := false) (by simp [LArg.ev, get_e0, get_e1]) (fun h => by cases h) (fun _ => ?_)
  refine LWP_skip ?_
  refine LWP_seq ?_
  refine LWP_reg fun K hK => ?_
  apply rgnS_pre 2
  · repeat (simp -implicitDefEqProofs (maxSteps := 1000000) (disch := first | assumption | omega) [eqV, eqS, la, lb]; try simp only [gz])
    rfl
  refine rgnS_call (M1) rfl rfl (by simp [pureL, pureR, AV.pure, eqV, eqS, pureR_st]) (by simp [pureL, pureR, AV.pure, eqV, eqS, pureR_st]) (by simp [gd, get_e0, get_e1, LArg.ev]) ?_
  apply rgnS_pre 5
  · repeat (simp -implicitDefEqProofs (maxSteps := 1000000) (disch := first | assumption | omega) [eqV, eqS, la, lb]; try simp only [gz])
    rfl
  refine hK _ ?_; clear hK
  refine LWP_seq ?_
  refine LWP_reg fun K hK => ?_
  apply rgnS_pre 2
  · repeat (simp -implicitDefEqProofs (maxSteps := 1000000) (disch := first | assumption | omega) [eqV, eqS, la, lb]; try simp only [gz])
    rfl
  refine rgnS_call (M2) rfl rfl (by simp [pureL, pureR, AV.pure, eqV, eqS, pureR_st]) (by simp [pureL, pureR, AV.pure, eqV, eqS, pureR_st]) (by simp [gd, get_e0, get_e1, LArg.ev]) ?_
  apply rgnS_pre 5
  · repeat (simp -implicitDefEqProofs (maxSteps := 1000000) (disch := first | assumption | omega) [eqV, eqS, la, lb]; try simp only [gz])
    rfl
  refine hK _ ?_; clear hK
  refine LWP_seq ?_
  refine LWP_reg fun K hK => ?_
  apply rgnS_pre 2
  · repeat (simp -implicitDefEqProofs (maxSteps := 1000000) (disch := first | assumption | omega) [eqV, eqS, la, lb]; try simp only [gz])
    rfl
  refine rgnS_call (M3) rfl rfl (by simp [pureL, pureR, AV.pure, eqV, eqS, pureR_st]) (by simp [pureL, pureR, AV.pure, eqV, eqS, pureR_st]) (by simp [gd, get_e0, get_e1, LArg.ev]) ?_
  apply rgnS_pre 5
  · repeat (simp -implicitDefEqProofs (maxSteps := 1000000) (disch := first | assumption | omega) [eqV, eqS, la, lb]; try simp only [gz])
    rfl
  refine hK _ ?_; clear hK
  refine LWP_seq ?_
  refine LWP_seq ?_
  refine LWP_reg fun K hK => ?_
  apply rgnS_pre 8
  · repeat (simp -implicitDefEqProofs (maxSteps := 1000000) (disch := first | assumption | omega) [eqV, eqS, la, lb]; try simp only [gz])
    rfl
  apply rgnS_pre 5
  · repeat (simp -implicitDefEqProofs (maxSteps := 1000000) (disch := first | assumption | omega) [eqV, eqS, la, lb]; try simp only [gz])
    rfl
  refine rgnS_call (S1) rfl rfl (by simp [pureL, pureR, AV.pure, eqV, eqS, pureR_st]) (by simp [pureL, pureR, AV.pure, eqV, eqS, pureR_st]) (by simp [gd, get_e0, get_e1, LArg.ev]) ?_
  apply rgnS_pre 5
  · repeat (simp -implicitDefEqProofs (maxSteps := 1000000) (disch := first | assumption | omega) [eqV, eqS, la, lb]; try simp only [gz])
    rfl
  refine rgnS_call (S2) rfl rfl (by simp [pureL, pureR, AV.pure, eqV, eqS, pureR_st]) (by simp [pureL, pureR, AV.pure, eqV, eqS, pureR_st]) (by simp [gd, get_e0, get_e1, LArg.ev]) ?_
  apply rgnS_pre 4
  · repeat (simp -implicitDefEqProofs (maxSteps := 1000000) (disch := first | assumption | omega) [eqV, eqS, la, lb]; try simp only [gz])
    rfl
  refine rgnS_call (CC) rfl rfl (by simp [pureL, pureR, AV.pure, eqV, eqS, pureR_st]) (by simp [pureL, pureR, AV.pure, eqV, eqS, pureR_st]) (by simp [gd, get_e0, get_e1, LArg.ev]) ?_
  apply rgnS_pre 2
  · repeat (simp -implicitDefEqProofs (maxSteps := 1000000) (disch := first | assumption | omega) [eqV, eqS, la, lb]; try simp only [gz])
    rfl
  refine hK _ ?_; clear hK
  refine LWP_cond (t := false) (by simp [LArg.ev, get_e0, get_e1]) (fun h => by cases h) (fun _ => ?_)
  refine LWP_skip ?_
  refine LWP_seq ?_
  refine LWP_reg fun K hK => ?_
  apply rgnS_pre 2
  · repeat (simp -implicitDefEqProofs (maxSteps := 1000000) (disch := first | assumption | omega) [eqV, eqS, la, lb]; try simp only [gz])
    rfl
  refine rgnS_call (A1) rfl rfl (by simp [pureL, pureR, AV.pure, eqV, eqS, pureR_st]) (by simp [pureL, pureR, AV.pure, eqV, eqS, pureR_st]) (by simp [gd, get_e0, get_e1, LArg.ev]) ?_
  apply rgnS_pre 5
  · repeat (simp -implicitDefEqProofs (maxSteps := 1000000) (disch := first | assumption | omega) [eqV, eqS, la, lb]; try simp only [gz])
    rfl
  refine hK _ ?_; clear hK
  refine LWP_seq ?_
  refine LWP_reg fun K hK => ?_
  apply rgnS_pre 2
  · repeat (simp -implicitDefEqProofs (maxSteps := 1000000) (disch := first | assumption | omega) [eqV, eqS, la, lb]; try simp only [gz])
    rfl
  refine rgnS_call (A2) rfl rfl (by simp [pureL, pureR, AV.pure, eqV, eqS, pureR_st]) (by simp [pureL, pureR, AV.pure, eqV, eqS, pureR_st]) (by simp [gd, get_e0, get_e1, LArg.ev]) ?_
  apply rgnS_pre 5
  · repeat (simp -implicitDefEqProofs (maxSteps := 1000000) (disch := first | assumption | omega) [eqV, eqS, la, lb]; try simp only [gz])
    rfl
  refine hK _ ?_; clear hK
  refine LWP_seq ?_
  refine LWP_reg fun K hK => ?_
  apply rgnS_pre 2
  · repeat (simp -implicitDefEqProofs (maxSteps := 1000000) (disch := first | assumption | omega) [eqV, eqS, la, lb]; try simp only [gz])
    rfl
  refine rgnS_call (A3) rfl rfl (by simp [pureL, pureR, AV.pure, eqV, eqS, pureR_st]) (by simp [pureL, pureR, AV.pure, eqV, eqS, pureR_st]) (by simp [gd, get_e0, get_e1, LArg.ev]) ?_
  apply rgnS_pre 5
  · repeat (simp -implicitDefEqProofs (maxSteps := 1000000) (disch := first | assumption | omega) [eqV, eqS, la, lb]; try simp only [gz])
    rfl
  refine hK _ ?_; clear hK
  refine LWP_seq ?_
  apply LWP_run
  · repeat (simp -implicitDefEqProofs (maxSteps := 1000000) (disch := first | assumption | omega) [eqV, eqS, la, lb]; try simp only [gz])
    rfl
  refine LWP_seq ?_
  refine LWP_seq ?_
  refine LWP_reg fun K hK => ?_
  apply rgnS_pre 8
  · repeat (simp -implicitDefEqProofs (maxSteps := 1000000) (disch := first | assumption | omega) [eqV, eqS, la, lb]; try simp only [gz])
    rfl
  apply rgnS_pre 2
  · repeat (simp -implicitDefEqProofs (maxSteps := 1000000) (disch := first | assumption | omega) [eqV, eqS, la, lb]; try simp only [gz])
    rfl
  refine hK _ ?_; clear hK
  refine LWP_cond (t := false) (by simp [LArg.ev, get_e0, get_e1]) (fun h => by cases h) (fun _ => ?_)
  refine LWP_skip ?_
  refine LWP_seq ?_
  refine LWP_reg fun K hK => ?_
  apply rgnS_pre 8
  · repeat (simp -implicitDefEqProofs (maxSteps := 1000000) (disch := first | assumption | omega) [eqV, eqS, la, lb]; try simp only [gz])
    rfl
  apply rgnS_pre 4
  · repeat (simp -implicitDefEqProofs (maxSteps := 1000000) (disch := first | assumption | omega) [eqV, eqS, la, lb]; try simp only [gz])
    rfl
  refine rgnS_call (hsheads) rfl rfl (by simp [pureL, pureR, AV.pure, eqV, eqS]) (by simp [pureL, pureR, AV.pure, eqV, eqS]) (by simp [gd, get_e0, get_e1, LArg.ev]) ?_
  apply rgnS_pre 2
  · repeat (simp -implicitDefEqProofs (maxSteps := 1000000) (disch := first | assumption | omega) [eqV, eqS, la, lb]; try simp only [gz])
    rfl
  refine hK _ ?_; clear hK
  -- leaf 0
  refine LWP_ret ⟨_, rfl, ?_⟩
  refine wkV_of_eq ?_
  simp only [retV]
  all_goals
    rfl
set_option maxHeartbeats 2000000 in
set_option maxRecDepth 20000 in
theorem merges_ft (a b c : List St) (x : Int) (p q : Int) (la : a.length ≤ 60) (lb : b.length ≤ 60) (CA : ACalls Go.Proofs.Try.prog 20 [.tsl 3 (a.map St.e)] [] 0 (fun r _ _ => r = .bool true)) (CB : ACalls Go.Proofs.Try.prog 20 [.tsl 3 (b.map St.e)] [] 0 (fun r _ _ => r = .bool true)) (CC : ACalls Go.Proofs.Try.prog 20 [.tsl 3 (c.map St.e)] [] 0 (fun r _ _ => r = .bool true)) (M1 : ACalls Go.Proofs.Try.prog 14 [.tsl 3 (a.map St.e), .tsl 3 (b.map St.e)] [] 0 (fun r _ _ => r = .tup [.tsl 3 (c.map St.e), .int .i64 0])) (M2 : ACalls Go.Proofs.Try.prog 14 [.tsl 3 (b.map St.e), .tsl 3 (a.map St.e)] [] 0 (fun r _ _ => r = .tup [.tsl 3 (c.map St.e), .int .i64 0])) (M3 : ACalls Go.Proofs.Try.prog 14 [.tsl 3 (a.map St.e), .tsl 3 (a.map St.e)] [] 0 (fun r _ _ => r = .tup [.tsl 3 (a.map St.e), .int .i64 0])) (S1 : ACalls Go.Proofs.Try.prog 13 [.tsl 3 (c.map St.e), .tsl 3 (c.map St.e)] [] 0 (fun r _ _ => r = .bool true)) (S2 : ACalls Go.Proofs.Try.prog 13 [.tsl 3 (a.map St.e), .tsl 3 (a.map St.e)] [] 0 (fun r _ _ => r = .bool true)) (A1 : ACalls Go.Proofs.Try.prog 18 [.tsl 3 (a.map St.e), .int .i64 x] [] 0 (fun r _ _ => r = .tup [.int .i64 p, .bool false])) (A2 : ACalls Go.Proofs.Try.prog 18 [.tsl 3 (b.map St.e), .int .i64 x] [] 0 (fun r _ _ => r = .tup [.int .i64 q, .bool true])) (A3 : ACalls Go.Proofs.Try.prog 18 [.tsl 3 (c.map St.e), .int .i64 x] [] 0 (fun r _ _ => r = .tup [.int .i64 q, .bool true])) : ACalls Go.Proofs.Try.prog 6 [.tsl 3 (a.map St.e), .tsl 3 (b.map St.e), .int .i64 x] [] 0 (fun r _ _ => r = .bool true) := by
  refine pure_body ok6 rfl ?_
  simp only [parV]
  refine LWP_seq ?_
  apply LWP_run
  · repeat (simp -implicitDefEqProofs (maxSteps := 1000000) (disch := first | assumption | omega) [eqV, eqS, la, lb]; try simp only [gz])
    rfl
  refine LWP_seq ?_
  refine LWP_seq ?_
  refine LWP_reg fun K hK => ?_
  apply rgnS_pre 8
  · repeat (simp -implicitDefEqProofs (maxSteps := 1000000) (disch := first | assumption | omega) [eqV, eqS, la, lb]; try simp only [gz])
    rfl
  apply rgnS_pre 2
  · repeat (simp -implicitDefEqProofs (maxSteps := 1000000) (disch := first | assumption | omega) [eqV, eqS, la, lb]; try simp only [gz])
    rfl
  refine rgnS_call (CA) rfl rfl (by simp [pureL, pureR, AV.pure, eqV, eqS, pureR_st]) (by simp [pureL, pureR, AV.pure, eqV, eqS, pureR_st]) (by simp [gd, get_e0, get_e1, LArg.ev]) ?_
  apply rgnS_pre 4
  · repeat (simp -implicitDefEqProofs (maxSteps := 1000000) (disch := first | assumption | omega) [eqV, eqS, la, lb]; try simp only [gz])
    rfl
  refine rgnS_call (CB) rfl rfl (by simp [pureL, pureR, AV.pure, eqV, eqS, pureR_st]) (by simp [pureL, pureR, AV.pure, eqV, eqS, pureR_st]) (by simp [gd, get_e0, get_e1, LArg.ev]) ?_
  apply rgnS_pre 2
  · repeat (simp -implicitDefEqProofs (maxSteps := 1000000) (disch := first | assumption | omega) [eqV, eqS, la, lb]; try simp only [gz])
    rfl
  refine hK _ ?_; clear hK
  refine LWP_cond (t := false) (by simp [LArg.ev, get_e0, get_e1]) (fun h => by cases h) (fun _ => ?_)
  refine LWP_skip ?_
  refine LWP_seq ?_
  refine LWP_reg fun K hK => ?_
  apply rgnS_pre 2
  · repeat (simp -implicitDefEqProofs (maxSteps := 1000000) (disch := first | assumption | omega) [eqV, eqS, la, lb]; try simp only [gz])
    rfl
  refine rgnS_call (M1) rfl rfl (by simp [pureL, pureR, AV.pure, eqV, eqS, pureR_st]) (by simp [pureL, pureR, AV.pure, eqV, eqS, pureR_st]) (by simp [gd, get_e0, get_e1, LArg.ev]) ?_
  apply rgnS_pre 5
  · repeat (simp -implicitDefEqProofs (maxSteps := 1000000) (disch := first | assumption | omega) [eqV, eqS, la, lb]; try simp only [gz])
    rfl
  refine hK _ ?_; clear hK
  refine LWP_seq ?_
  refine LWP_reg fun K hK => ?_
  apply rgnS_pre 2
  · repeat (simp -implicitDefEqProofs (maxSteps := 1000000) (disch := first | assumption | omega) [eqV, eqS, la, lb]; try simp only [gz])
    rfl
  refine rgnS_call (M2) rfl rfl (by simp [pureL, pureR, AV.pure, eqV, eqS, pureR_st]) (by simp [pureL, pureR, AV.pure, eqV, eqS, pureR_st]) (by simp [gd, get_e0, get_e1, LArg.ev]) ?_
  apply rgnS_pre 5
  · repeat (simp -implicitDefEqProofs (maxSteps := 1000000) (disch := first | assumption | omega) [eqV, eqS, la, lb]; try simp only [gz])
    rfl
  refine hK _ ?_; clear hK
  refine LWP_seq ?_
  refine LWP_reg fun K hK => ?_
  apply rgnS_pre 2
  · repeat (simp -implicitDefEqProofs (maxSteps := 1000000) (disch := first | assumption | omega) [eqV, eqS, la, lb]; try simp only [gz])
    rfl
  refine rgnS_call (M3) rfl rfl (by simp [pureL, pureR, AV.pure, eqV, eqS, pureR_st]) (by simp [pureL, pureR, AV.pure, eqV, eqS, pureR_st]) (by simp [gd, get_e0, get_e1, LArg.ev]) ?_
  apply rgnS_pre 5
  · repeat (simp -implicitDefEqProofs (maxSteps := 1000000) (disch := first | assumption | omega) [eqV, eqS, la, lb]; try simp only [gz])
    rfl
  refine hK _ ?_; clear hK
  refine LWP_seq ?_
  refine LWP_seq ?_
  refine LWP_reg fun K hK => ?_
  apply rgnS_pre 8
  · repeat (simp -implicitDefEqProofs (maxSteps := 1000000) (disch := first | assumption | omega) [eqV, eqS, la, lb]; try simp only [gz])
    rfl
  apply rgnS_pre 5
  · repeat (simp -implicitDefEqProofs (maxSteps := 1000000) (disch := first | assumption | omega) [eqV, eqS, la, lb]; try simp only [gz])
    rfl
  refine rgnS_call (S1) rfl rfl (by simp [pureL, pureR, AV.pure, eqV, eqS, pureR_st]) (by simp [pureL, pureR, AV.pure, eqV, eqS, pureR_st]) (by simp [gd, get_e0, get_e1, LArg.ev]) ?_
  apply rgnS_pre 5
  · repeat (simp -implicitDefEqProofs (maxSteps := 1000000) (disch := first | assumption | omega) [eqV, eqS, la, lb]; try simp only [gz])
    rfl
  refine rgnS_call (S2) rfl rfl (by simp [pureL, pureR, AV.pure, eqV, eqS, pureR_st]) (by simp [pureL, pureR, AV.pure, eqV, eqS, pureR_st]) (by simp [gd, get_e0, get_e1, LArg.ev]) ?_
  apply rgnS_pre 4
  · repeat (simp -implicitDefEqProofs (maxSteps := 1000000) (disch := first | assumption | omega) [eqV, eqS, la, lb]; try simp only [gz])
    rfl
  refine rgnS_call (CC) rfl rfl (by simp [pureL, pureR, AV.pure, eqV, eqS, pureR_st]) (by simp [pureL, pureR, AV.pure, eqV, eqS, pureR_st]) (by simp [gd, get_e0, get_e1, LArg.ev]) ?_
  apply rgnS_pre 2
  · repeat (simp -implicitDefEqProofs (maxSteps := 1000000) (disch := first | assumption | omega) [eqV, eqS, la, lb]; try simp only [gz])
    rfl
  refine hK _ ?_; clear hK
  refine LWP_cond (t := false) (by simp [LArg.ev, get_e0, get_e1]) (fun h => by cases h) (fun _ => ?_)
  refine LWP_skip ?_
  refine LWP_seq ?_
  refine LWP_reg fun K hK => ?_
  apply rgnS_pre 2
  · repeat (simp -implicitDefEqProofs (maxSteps := 1000000) (disch := first | assumption | omega) [eqV, eqS, la, lb]; try simp only [gz])
    rfl
  refine rgnS_call (A1) rfl rfl (by simp [pureL, pureR, AV.pure, eqV, eqS, pureR_st]) (by simp [pureL, pureR, AV.pure, eqV, eqS, pureR_st]) (by simp [gd, get_e0, get_e1, LArg.ev]) ?_
  apply rgnS_pre 5
  · repeat (simp -implicitDefEqProofs (maxSteps := 1000000) (disch := first | assumption | omega) [eqV, eqS, la, lb]; try simp only [gz])
    rfl
  refine hK _ ?_; clear hK
  refine LWP_seq ?_
  refine LWP_reg fun K hK => ?_
  apply rgnS_pre 2
  · repeat (simp -implicitDefEqProofs (maxSteps := 1000000) (disch := first | assumption | omega) [eqV, eqS, la, lb]; try simp only [gz])
    rfl
  refine rgnS_call (A2) rfl rfl (by simp [pureL, pureR, AV.pure, eqV, eqS, pureR_st]) (by simp [pureL, pureR, AV.pure, eqV, eqS, pureR_st]) (by simp [gd, get_e0, get_e1, LArg.ev]) ?_
  apply rgnS_pre 5
  · repeat (simp -implicitDefEqProofs (maxSteps := 1000000) (disch := first | assumption | omega) [eqV, eqS, la, lb]; try simp only [gz])
    rfl
  refine hK _ ?_; clear hK
  refine LWP_seq ?_
  refine LWP_reg fun K hK => ?_
  apply rgnS_pre 2
  · repeat (simp -implicitDefEqProofs (maxSteps := 1000000) (disch := first | assumption | omega) [eqV, eqS, la, lb]; try simp only [gz])
    rfl
  refine rgnS_call (A3) rfl rfl (by simp [pureL, pureR, AV.pure, eqV, eqS, pureR_st]) (by simp [pureL, pureR, AV.pure, eqV, eqS, pureR_st]) (by simp [gd, get_e0, get_e1, LArg.ev]) ?_
  apply rgnS_pre 5
  · repeat (simp -implicitDefEqProofs (maxSteps := 1000000) (disch := first | assumption | omega) [eqV, eqS, la, lb]; try simp only [gz])
    rfl
  refine hK _ ?_; clear hK
  refine LWP_seq ?_
  apply LWP_run
  · repeat (simp -implicitDefEqProofs (maxSteps := 1000000) (disch := first | assumption | omega) [eqV, eqS, la, lb]; try simp only [gz])
    rfl
  refine LWP_seq ?_
  refine LWP_seq ?_
  refine LWP_reg fun K hK => ?_
  apply rgnS_pre 8
  · repeat (simp -implicitDefEqProofs (maxSteps := 1000000) (disch := first | assumption | omega) [eqV, eqS, la, lb]; try simp only [gz])
    rfl
  apply rgnS_pre 2
  · repeat (simp -implicitDefEqProofs (maxSteps := 1000000) (disch := first | assumption | omega) [eqV, eqS, la, lb]; try simp only [gz])
    rfl
  refine hK _ ?_; clear hK
  refine LWP_cond (t := true) (by simp [LArg.ev, get_e0, get_e1]) (fun _ => ?_) (fun h => by cases h)
  apply LWP_run
  · repeat (simp -implicitDefEqProofs (maxSteps := 1000000) (disch := first | assumption | omega) [eqV, eqS, la, lb]; try simp only [gz])
    rfl
  refine LWP_seq ?_
  refine LWP_reg fun K hK => ?_
  apply rgnS_pre 8
  · repeat (simp -implicitDefEqProofs (maxSteps := 1000000) (disch := first | assumption | omega) [eqV, eqS, la, lb]; try simp only [gz])
    rfl
  apply rgnS_pre 4
  · repeat (simp -implicitDefEqProofs (maxSteps := 1000000) (disch := first | assumption | omega) [eqV, eqS, la, lb]; try simp only [gz])
    rfl
  refine rgnS_call (hsheads) rfl rfl (by simp [pureL, pureR, AV.pure, eqV, eqS]) (by simp [pureL, pureR, AV.pure, eqV, eqS]) (by simp [gd, get_e0, get_e1, LArg.ev]) ?_
  apply rgnS_pre 2
  · repeat (simp -implicitDefEqProofs (maxSteps := 1000000) (disch := first | assumption | omega) [eqV, eqS, la, lb]; try simp only [gz])
    rfl
  refine hK _ ?_; clear hK
  -- leaf 0
  refine LWP_ret ⟨_, rfl, ?_⟩
  refine wkV_of_eq ?_
  simp only [retV]
  all_goals
    rfl
set_option maxHeartbeats 2000000 in
set_option maxRecDepth 20000 in
theorem merges_ff (a b c : List St) (x : Int) (p q : Int) (la : a.length ≤ 60) (lb : b.length ≤ 60) (CA : ACalls Go.Proofs.Try.prog 20 [.tsl 3 (a.map St.e)] [] 0 (fun r _ _ => r = .bool true)) (CB : ACalls Go.Proofs.Try.prog 20 [.tsl 3 (b.map St.e)] [] 0 (fun r _ _ => r = .bool true)) (CC : ACalls Go.Proofs.Try.prog 20 [.tsl 3 (c.map St.e)] [] 0 (fun r _ _ => r = .bool true)) (M1 : ACalls Go.Proofs.Try.prog 14 [.tsl 3 (a.map St.e), .tsl 3 (b.map St.e)] [] 0 (fun r _ _ => r = .tup [.tsl 3 (c.map St.e), .int .i64 0])) (M2 : ACalls Go.Proofs.Try.prog 14 [.tsl 3 (b.map St.e), .tsl 3 (a.map St.e)] [] 0 (fun r _ _ => r = .tup [.tsl 3 (c.map St.e), .int .i64 0])) (M3 : ACalls Go.Proofs.Try.prog 14 [.tsl 3 (a.map St.e), .tsl 3 (a.map St.e)] [] 0 (fun r _ _ => r = .tup [.tsl 3 (a.map St.e), .int .i64 0])) (S1 : ACalls Go.Proofs.Try.prog 13 [.tsl 3 (c.map St.e), .tsl 3 (c.map St.e)] [] 0 (fun r _ _ => r = .bool true)) (S2 : ACalls Go.Proofs.Try.prog 13 [.tsl 3 (a.map St.e), .tsl 3 (a.map St.e)] [] 0 (fun r _ _ => r = .bool true)) (A1 : ACalls Go.Proofs.Try.prog 18 [.tsl 3 (a.map St.e), .int .i64 x] [] 0 (fun r _ _ => r = .tup [.int .i64 p, .bool false])) (A2 : ACalls Go.Proofs.Try.prog 18 [.tsl 3 (b.map St.e), .int .i64 x] [] 0 (fun r _ _ => r = .tup [.int .i64 q, .bool false])) (A3 : ACalls Go.Proofs.Try.prog 18 [.tsl 3 (c.map St.e), .int .i64 x] [] 0 (fun r _ _ => r = .tup [.int .i64 q, .bool false])) : ACalls Go.Proofs.Try.prog 6 [.tsl 3 (a.map St.e), .tsl 3 (b.map St.e), .int .i64 x] [] 0 (fun r _ _ => r = .bool true) := by
  refine pure_body ok6 rfl ?_
  simp only [parV]
  refine LWP_seq ?_
  apply LWP_run
  · repeat (simp -implicitDefEqProofs (maxSteps := 1000000) (disch := first | assumption | omega) [eqV, eqS, la, lb]; try simp only [gz])
    rfl
  refine LWP_seq ?_
  refine LWP_seq ?_
  refine LWP_reg fun K hK => ?_
  apply rgnS_pre 8
  · repeat (simp -implicitDefEqProofs (maxSteps := 1000000) (disch := first | assumption | omega) [eqV, eqS, la, lb]; try simp only [gz])
    rfl
  apply rgnS_pre 2
  · repeat (simp -implicitDefEqProofs (maxSteps := 1000000) (disch := first | assumption | omega) [eqV, eqS, la, lb]; try simp only [gz])
    rfl
  refine rgnS_call (CA) rfl rfl (by simp [pureL, pureR, AV.pure, eqV, eqS, pureR_st]) (by simp [pureL, pureR, AV.pure, eqV, eqS, pureR_st]) (by simp [gd, get_e0, get_e1, LArg.ev]) ?_
  apply rgnS_pre 4
  · repeat (simp -implicitDefEqProofs (maxSteps := 1000000) (disch := first | assumption | omega) [eqV, eqS, la, lb]; try simp only [gz])
    rfl
  refine rgnS_call (CB) rfl rfl (by simp [pureL, pureR, AV.pure, eqV, eqS, pureR_st]) (by simp [pureL, pureR, AV.pure, eqV, eqS, pureR_st]) (by simp [gd, get_e0, get_e1, LArg.ev]) ?_
  apply rgnS_pre 2
  · repeat (simp -implicitDefEqProofs (maxSteps := 1000000) (disch := first | assumption | omega) [eqV, eqS, la, lb]; try simp only [gz])
    rfl
  refine hK _ ?_; clear hK
  refine LWP_cond (t := false) (by simp [LArg.ev, get_e0, get_e1]) (fun h => by cases h) (fun _ => ?_)
  refine LWP_skip ?_
  refine LWP_seq ?_
  refine LWP_reg fun K hK => ?_
  apply rgnS_pre 2
  · repeat (simp -implicitDefEqProofs (maxSteps := 1000000) (disch := first | assumption | omega) [eqV, eqS, la, lb]; try simp only [gz])
    rfl
  refine rgnS_call (M1) rfl rfl (by simp [pureL, pureR, AV.pure, eqV, eqS, pureR_st]) (by simp [pureL, pureR, AV.pure, eqV, eqS, pureR_st]) (by simp [gd, get_e0, get_e1, LArg.ev]) ?_
  apply rgnS_pre 5
  · repeat (simp -implicitDefEqProofs (maxSteps := 1000000) (disch := first | assumption | omega) [eqV, eqS, la, lb]; try simp only [gz])
    rfl
  refine hK _ ?_; clear hK
  refine LWP_seq ?_
  refine LWP_reg fun K hK => ?_
  apply rgnS_pre 2
  · repeat (simp -implicitDefEqProofs (maxSteps := 1000000) (disch := first | assumption | omega) [eqV, eqS, la, lb]; try simp only [gz])
    rfl
  refine rgnS_call (M2) rfl rfl (by simp [pureL, pureR, AV.pure, eqV, eqS, pureR_st]) (by simp [pureL, pureR, AV.pure, eqV, eqS, pureR_st]) (by simp [gd, get_e0, get_e1, LArg.ev]) ?_
  apply rgnS_pre 5
  · repeat (simp -implicitDefEqProofs (maxSteps := 1000000) (disch := first | assumption | omega) [eqV, eqS, la, lb]; try simp only [gz])
    rfl
  refine hK _ ?_; clear hK
  refine LWP_seq ?_
  refine LWP_reg fun K hK => ?_
  apply rgnS_pre 2
  · repeat (simp -implicitDefEqProofs (maxSteps := 1000000) (disch := first | assumption | omega) [eqV, eqS, la, lb]; try simp only [gz])
    rfl
  refine rgnS_call (M3) rfl rfl (by simp [pureL, pureR, AV.pure, eqV, eqS, pureR_st]) (by simp [pureL, pureR, AV.pure, eqV, eqS, pureR_st]) (by simp [gd, get_e0, get_e1, LArg.ev]) ?_
  apply rgnS_pre 5
  · repeat (simp -implicitDefEqProofs (maxSteps := 1000000) (disch := first | assumption | omega) [eqV, eqS, la, lb]; try simp only [gz])
    rfl
  refine hK _ ?_; clear hK
  refine LWP_seq ?_
  refine LWP_seq ?_
  refine LWP_reg fun K hK => ?_
  apply rgnS_pre 8
  · repeat (simp -implicitDefEqProofs (maxSteps := 1000000) (disch := first | assumption | omega) [eqV, eqS, la, lb]; try simp only [gz])
    rfl
  apply rgnS_pre 5
  · repeat (simp -implicitDefEqProofs (maxSteps := 1000000) (disch := first | assumption | omega) [eqV, eqS, la, lb]; try simp only [gz])
    rfl
  refine rgnS_call (S1) rfl rfl (by simp [pureL, pureR, AV.pure, eqV, eqS, pureR_st]) (by simp [pureL, pureR, AV.pure, eqV, eqS, pureR_st]) (by simp [gd, get_e0, get_e1, LArg.ev]) ?_
  apply rgnS_pre 5
  · repeat (simp -implicitDefEqProofs (maxSteps := 1000000) (disch := first | assumption | omega) [eqV, eqS, la, lb]; try simp only [gz])
    rfl
  refine rgnS_call (S2) rfl rfl (by simp [pureL, pureR, AV.pure, eqV, eqS, pureR_st]) (by simp [pureL, pureR, AV.pure, eqV, eqS, pureR_st]) (by simp [gd, get_e0, get_e1, LArg.ev]) ?_
  apply rgnS_pre 4
  · repeat (simp -implicitDefEqProofs (maxSteps := 1000000) (disch := first | assumption | omega) [eqV, eqS, la, lb]; try simp only [gz])
    rfl
  refine rgnS_call (CC) rfl rfl (by simp [pureL, pureR, AV.pure, eqV, eqS, pureR_st]) (by simp [pureL, pureR, AV.pure, eqV, eqS, pureR_st]) (by simp [gd, get_e0, get_e1, LArg.ev]) ?_
  apply rgnS_pre 2
  · repeat (simp -implicitDefEqProofs (maxSteps := 1000000) (disch := first | assumption | omega) [eqV, eqS, la, lb]; try simp only [gz])
    rfl
  refine hK _ ?_; clear hK
  refine LWP_cond (t := false) (by simp [LArg.ev, get_e0, get_e1]) (fun h => by cases h) (fun _ => ?_)
  refine LWP_skip ?_
  refine LWP_seq ?_
  refine LWP_reg fun K hK => ?_
  apply rgnS_pre 2
  · repeat (simp -implicitDefEqProofs (maxSteps := 1000000) (disch := first | assumption | omega) [eqV, eqS, la, lb]; try simp only [gz])
    rfl
  refine rgnS_call (A1) rfl rfl (by simp [pureL, pureR, AV.pure, eqV, eqS, pureR_st]) (by simp [pureL, pureR, AV.pure, eqV, eqS, pureR_st]) (by simp [gd, get_e0, get_e1, LArg.ev]) ?_
  apply rgnS_pre 5
  · repeat (simp -implicitDefEqProofs (maxSteps := 1000000) (disch := first | assumption | omega) [eqV, eqS, la, lb]; try simp only [gz])
    rfl
  refine hK _ ?_; clear hK
  refine LWP_seq ?_
  refine LWP_reg fun K hK => ?_
  apply rgnS_pre 2
  · repeat (simp -implicitDefEqProofs (maxSteps := 1000000) (disch := first | assumption | omega) [eqV, eqS, la, lb]; try simp only [gz])
    rfl
  refine rgnS_call (A2) rfl rfl (by simp [pureL, pureR, AV.pure, eqV, eqS, pureR_st]) (by simp [pureL, pureR, AV.pure, eqV, eqS, pureR_st]) (by simp [gd, get_e0, get_e1, LArg.ev]) ?_
  apply rgnS_pre 5
  · repeat (simp -implicitDefEqProofs (maxSteps := 1000000) (disch := first | assumption | omega) [eqV, eqS, la, lb]; try simp only [gz])
    rfl
  refine hK _ ?_; clear hK
  refine LWP_seq ?_
  refine LWP_reg fun K hK => ?_
  apply rgnS_pre 2
  · repeat (simp -implicitDefEqProofs (maxSteps := 1000000) (disch := first | assumption | omega) [eqV, eqS, la, lb]; try simp only [gz])
    rfl
  refine rgnS_call (A3) rfl rfl (by simp [pureL, pureR, AV.pure, eqV, eqS, pureR_st]) (by simp [pureL, pureR, AV.pure, eqV, eqS, pureR_st]) (by simp [gd, get_e0, get_e1, LArg.ev]) ?_
  apply rgnS_pre 5
  · repeat (simp -implicitDefEqProofs (maxSteps := 1000000) (disch := first | assumption | omega) [eqV, eqS, la, lb]; try simp only [gz])
    rfl
  refine hK _ ?_; clear hK
  refine LWP_seq ?_
  apply LWP_run
  · repeat (simp -implicitDefEqProofs (maxSteps := 1000000) (disch := first | assumption | omega) [eqV, eqS, la, lb]; try simp only [gz])
    rfl
  refine LWP_seq ?_
  refine LWP_seq ?_
  refine LWP_reg fun K hK => ?_
  apply rgnS_pre 8
  · repeat (simp -implicitDefEqProofs (maxSteps := 1000000) (disch := first | assumption | omega) [eqV, eqS, la, lb]; try simp only [gz])
    rfl
  apply rgnS_pre 2
  · repeat (simp -implicitDefEqProofs (maxSteps := 1000000) (disch := first | assumption | omega) [eqV, eqS, la, lb]; try simp only [gz])
    rfl
  refine hK _ ?_; clear hK
  refine LWP_cond (t := true) (by simp [LArg.ev, get_e0, get_e1]) (fun _ => ?_) (fun h => by cases h)
  apply LWP_run
  · repeat (simp -implicitDefEqProofs (maxSteps := 1000000) (disch := first | assumption | omega) [eqV, eqS, la, lb]; try simp only [gz])
    rfl
  refine LWP_seq ?_
  refine LWP_reg fun K hK => ?_
  apply rgnS_pre 8
  · repeat (simp -implicitDefEqProofs (maxSteps := 1000000) (disch := first | assumption | omega) [eqV, eqS, la, lb]; try simp only [gz])
    rfl
  apply rgnS_pre 4
  · repeat (simp -implicitDefEqProofs (maxSteps := 1000000) (disch := first | assumption | omega) [eqV, eqS, la, lb]; try simp only [gz])
    rfl
  refine rgnS_call (hsheads) rfl rfl (by simp [pureL, pureR, AV.pure, eqV, eqS]) (by simp [pureL, pureR, AV.pure, eqV, eqS]) (by simp [gd, get_e0, get_e1, LArg.ev]) ?_
  apply rgnS_pre 2
  · repeat (simp -implicitDefEqProofs (maxSteps := 1000000) (disch := first | assumption | omega) [eqV, eqS, la, lb]; try simp only [gz])
    rfl
  refine hK _ ?_; clear hK
  -- leaf 0
  refine LWP_ret ⟨_, rfl, ?_⟩
  refine wkV_of_eq ?_
  simp only [retV]
  all_goals
    rfl
end

theorem skyMerges_ok (a b : List St) (x : Int) : ACalls Go.Proofs.Try.prog 6 [.tsl 3 (a.map St.e), .tsl 3 (b.map St.e), .int .i64 x] [] 0 (fun r _ _ => r = .bool true) := by
  by_cases hb : 60 < a.length ∨ 60 < b.length
  · by_cases la : 60 < a.length
    · exact merges_ba a b x la
    · exact merges_bb a b x (by omega) (by omega)
  have la : a.length ≤ 60 := by omega
  have lb : b.length ≤ 60 := by omega
  cases ca : chkB a with
  | false => exact merges_ca a b x la lb ca
  | true =>
    cases cb : chkB b with
    | false => exact merges_cb a b x la lb ca cb
    | true =>
      have CA := check_ok a (by omega)
      rw [ca] at CA
      have CB := check_ok b (by omega)
      rw [cb] at CB
      have hl := lineS_len (a ++ b)
      rw [List.length_append] at hl
      have cc : chkB (lineS (a ++ b)) = true := lineS_chk (app_nums ca cb) (by rw [List.length_append]; omega)
      have CC := check_ok (lineS (a ++ b)) (by omega)
      rw [cc] at CC
      have M1 := merge_ok a b la lb
      have M2 := merge_ok b a lb la
      have M3 := merge_ok a a la la
      rw [mergeV, if_pos ⟨ca, cb⟩] at M1
      rw [mergeV, if_pos ⟨cb, ca⟩, line_comm ca cb] at M2
      rw [mergeV, if_pos ⟨ca, ca⟩, line_idem ca] at M3
      have S1 := same_ok (lineS (a ++ b)) (lineS (a ++ b)) (by omega) (by omega)
      rw [same_refl] at S1
      have S2 := same_ok a a (by omega) (by omega)
      rw [same_refl] at S2
      have A1 := at_ok a x (by omega)
      rw [atV, if_pos ca] at A1
      have A2 := at_ok b x (by omega)
      rw [atV, if_pos cb] at A2
      have A3 := at_ok (lineS (a ++ b)) x (by omega)
      rw [atV, if_pos cc, at_merge ca cb] at A3
      rcases at_or (chk_good ca) x with ⟨p, _, hp⟩ | ⟨_, hp⟩ <;> rcases at_or (chk_good cb) x with ⟨q, _, hq⟩ | ⟨_, hq⟩
      all_goals
        rw [hp] at A1
        rw [hq] at A2
        rw [hp, hq] at A3
      · by_cases hpq : p < q
        · rw [show mrg (p, true) (q, true) = (q, true) by simp [mrg, hpq]] at A3
          exact merges_tt a b _ x p q la lb CA CB CC M1 M2 M3 S1 S2 A1 A2 A3 hpq
        · rw [show mrg (p, true) (q, true) = (p, true) by simp [mrg, hpq]] at A3
          exact merges_te a b _ x p q la lb CA CB CC M1 M2 M3 S1 S2 A1 A2 A3 hpq
      · rw [show mrg (p, true) (0, false) = (p, true) by simp [mrg]] at A3
        exact merges_tf a b _ x p 0 la lb CA CB CC M1 M2 M3 S1 S2 A1 A2 A3
      · rw [show mrg (0, false) (q, true) = (q, true) by simp [mrg]] at A3
        exact merges_ft a b _ x 0 q la lb CA CB CC M1 M2 M3 S1 S2 A1 A2 A3
      · rw [show mrg (0, false) (0, false) = (0, false) by simp [mrg]] at A3
        exact merges_ff a b _ x 0 0 la lb CA CB CC M1 M2 M3 S1 S2 A1 A2 A3
theorem c46 : Go.Proofs.Try.prog.cellsOf 46 = 3 := by kernel_rfl
theorem c3 : Go.Proofs.Try.prog.cellsOf 3 = 1 := by kernel_rfl
open Go.Proofs.Try in
set_option maxRecDepth 100000 in
theorem rd_st {n : Nat} {cs : List AV} (h : wtV prog n 46 cs) : ∃ s : St, cs = s.e := by
  obtain ⟨m, h1, h2⟩ := wtV_struct underlying46 h
  rw [c46] at h1
  obtain ⟨a, b, c, rfl⟩ := len3 h1
  simp only [List.forall_mem_cons, List.not_mem_nil, c3] at h2
  simp at h2
  obtain ⟨k1, k2, k3⟩ := h2
  obtain ⟨x, e1, _⟩ := wtV_int underlying3 k1
  obtain ⟨y, e2, _⟩ := wtV_int underlying3 k2
  obtain ⟨z, e3, _⟩ := wtV_int underlying3 k3
  cases e1; cases e2; cases e3
  exact ⟨⟨x, y, z⟩, rfl⟩
open Go.Proofs.Try in
set_option maxRecDepth 100000 in
theorem rd_sts {n : Nat} {a : AV} (h : wtA prog n 24 a) : ∃ l : List St, a = .tsl 3 (l.map St.e) := by
  obtain ⟨m, es, h1, h2, h3⟩ := wtV_slice underlying24 c46 (by decide) (wtA_slice underlying24 h)
  cases h1
  obtain ⟨rs, rfl, _⟩ := map_of (f := St.e) (C := fun _ => True) (es := es) fun x hx => by
    obtain ⟨z, hz⟩ := rd_st (h3 x hx).2
    exact ⟨z, hz, trivial⟩
  exact ⟨rs, rfl⟩
open Go.Proofs.Try in
set_option maxRecDepth 100000 in
theorem skyMerges_all (l : List AV) (h : wtAll prog [24, 24, 3] l) : ACalls prog 6 l [] 0 (fun r _ _ => r = .bool true) := by
  match l, h with
  | [a, b, c], ⟨⟨n, ha⟩, ⟨m, hb⟩, ⟨k, hc⟩, _⟩ =>
    obtain ⟨x, rfl⟩ := rd_sts ha
    obtain ⟨y, rfl⟩ := rd_sts hb
    obtain ⟨z, rfl, _⟩ := wtA_int underlying3 hc
    exact skyMerges_ok x y z
end Go.AM.Sk
