/- A part of a proof about the given program: what its name says. No premise beyond the statements'. -/
import Derived.Test.YteiapnjcelnfdaaRodM
import Derived.Test.YteiapnjcelnfdaaRodWA
set_option linter.unusedSimpArgs false
set_option linter.unusedVariables false
namespace Go.AM.Rod
open Go.AM

theorem placeL_succ {xs : List Int} {l : List Rd} {i : Nat} (h : i < l.length) (k : Nat) : placeL xs (fil l (i + 1) k) k = if l[i].t = (k : Int) then mx (placeL xs (fil l i k) k) (IntKind.i64.wrap (xs.getD l[i].f.toNat 0 + l[i].d)) else placeL xs (fil l i k) k := by
  rw [fil_succ h]
  split
  · simp only [placeL, List.foldl_append, List.foldl_cons, List.foldl_nil]
  · rfl

set_option maxHeartbeats 4000000 in
theorem rleast_ok (l : List Rd) (n : Int) (hl : l.length < 2 ^ 60) : ACalls Go.Proofs.Try.prog 15 [.tsl 3 (l.map Rd.e), .int .i64 n] [] 0 (fun x _ _ => x = placesA (bif chkL l n then leastV l n.toNat else ([], 2))) := by
  refine pure_body ok15 rfl ?_
  simp only [parV]
  refine LWP_seq ?_
  apply LWP_run
  · simp -implicitDefEqProofs [stepsS, stepS, gd, opEff, LArg.ev, app_val, app_new, app_upd, app_kill, putV, ins, get, binV, binI, grd, bnd, ldCells, AV.cells, AV.scalar, AV.known, setAt, fillL, chunks, elems, mxI, mnI, del, Nat.add_assoc, nlt_self, nne_self, nne_self', List.take_of_length_le]; rfl
  refine LWP_seq (LWP_seq (LWP_reg fun K hK => ?_))
  apply rgnS_pre 2
  · simp -implicitDefEqProofs [stepsS, stepS, gd, opEff, LArg.ev, app_val, app_new, app_upd, app_kill, putV, ins, get, binV, binI, grd, bnd, ldCells, AV.cells, AV.scalar, AV.known, setAt, fillL, chunks, elems, mxI, mnI, del, Nat.add_assoc, nlt_self, nne_self, nne_self', List.take_of_length_le]; rfl
  refine rgnS_call (rcheck_ok l n hl) rfl rfl (by simp [pureL, AV.pure, pure_rd]) (by simp [AV.pure, pure_rd]) (by simp [gd, get, LArg.ev]) ?_
  apply rgnS_pre 99
  · simp -implicitDefEqProofs [stepsS, stepS, gd, opEff, LArg.ev, app_val, app_new, app_upd, app_kill, putV, ins, get, binV, binI, grd, bnd, ldCells, AV.cells, AV.scalar, AV.known, setAt, fillL, chunks, elems, mxI, mnI, del, Nat.add_assoc, nlt_self, nne_self, nne_self', List.take_of_length_le]; rfl
  refine hK _ ?_; clear hK
  refine LWP_cond (t := !chkL l n) (by simp [LArg.ev, get]) (fun h => ?_) (fun h => LWP_skip ?_)
  · refine LWP_seq ?_
    apply LWP_run
    · simp -implicitDefEqProofs [stepsS, stepS, gd, opEff, LArg.ev, app_val, app_new, app_upd, app_kill, putV, ins, get, binV, binI, grd, bnd, ldCells, AV.cells, AV.scalar, AV.known, setAt, fillL, chunks, elems, mxI, mnI, del, Nat.add_assoc, nlt_self, nne_self, nne_self', List.take_of_length_le]; rfl
    have hc : chkL l n = false := by simpa using h
    rw [hc]
    refine LWP_ret ?_
    show ∃ vs, resV _ _ = some vs ∧ wkV (retV vs) _
    exact ⟨_, rfl, wkV.tup2 (.nils 1) (.refl _)⟩
  have hck : chkL l n = true := by simpa using h
  have hn0 : 0 ≤ n ∧ n ≤ 4096 := by simp [chkL, wi] at hck; omega
  have hl2 : l.length ≤ 400000 := by simp [chkL] at hck; omega
  obtain ⟨m, rfl⟩ : ∃ m : Nat, n = m := ⟨n.toNat, by omega⟩
  have hrg := chk_rng hck
  rw [hck, Int.toNat_natCast, cond_true]
  refine LWP_seq ?_
  have hq : (m : Int) * 8 ≤ 17592186044416 := by omega
  apply LWP_run
  · simp -implicitDefEqProofs [stepsS, stepS, gd, opEff, LArg.ev, app_val, app_new, app_upd, app_kill, putV, ins, get, binV, binI, grd, bnd, ldCells, AV.cells, AV.scalar, AV.known, setAt, fillL, chunks, elems, mxI, mnI, del, Nat.add_assoc, nlt_self, nne_self, nne_self', List.take_of_length_le, hq]; rfl
  refine LWP_seq (LWP_seq ?_)
  apply LWP_run
  · simp -implicitDefEqProofs [stepsS, stepS, gd, opEff, LArg.ev, app_val, app_new, app_upd, app_kill, putV, ins, get, binV, binI, grd, bnd, ldCells, AV.cells, AV.scalar, AV.known, setAt, fillL, chunks, elems, mxI, mnI, del, Nat.add_assoc, nlt_self, nne_self, nne_self', List.take_of_length_le]; rfl
  refine LWP_block (LWP_inv (fun q : Nat × Nat × List Int => ⟨[(0, .tsl 3 (l.map Rd.e)), (1, .int .i64 m), (6, .sl 1 0 0 m), (7, .int .i64 ((q.1 + 1 : Nat) : Int))], [(0, .rows 1 (q.2.2.map enc1))], q.2.1⟩) (fun q => m - q.1) (fun q => (q.1 < m ∨ q.1 = 0) ∧ 0 < q.2.1 ∧ leastSt l m q.1 = some q.2.2) (0, 1, List.replicate m 0) ?_ ⟨.inr rfl, by simp, rfl⟩ ?_)
  · refine .mk2 ?_ ?_ ?_
    · simp [leV, get, wkV.refl, enc1]
    · simp [leH, get, enc1] <;> rfl
    · simp
  rintro ⟨k, nx, xs⟩ ⟨h1, h2, h3⟩
  simp only at h1 h2 h3 ⊢
  have hxl := leastSt_len l m k xs h3
  refine LWP_seq (LWP_seq ?_)
  apply LWP_run
  · simp -implicitDefEqProofs [stepsS, stepS, gd, opEff, LArg.ev, app_val, app_new, app_upd, app_kill, putV, ins, get, binV, binI, grd, bnd, ldCells, AV.cells, AV.scalar, AV.known, setAt, fillL, chunks, elems, mxI, mnI, del, Nat.add_assoc, nlt_self, nne_self, nne_self', List.take_of_length_le]; rfl
  refine LWP_cond (t := decide (k + 1 < m)) (by simp [LArg.ev, get]; omega) (fun hk => LWP_skip ?_) (fun hk => LWP_exit ?_)
  · have hk1 : k + 1 < m := by simpa using hk
    have hk2 : k < m := by omega
    have hk3 : k < xs.length := by omega
    have hk4 : k + 1 < xs.length := by omega
    have hk5 : (k : Int) + 1 < (m : Int) := by omega
    have hk6 : 0 ≤ (k : Int) + 1 := by omega
    have hk7 : ((k : Int) + 1).toNat = k + 1 := by omega
    have hx0 : IntKind.i64.wrap (xs[k] + 1) = placeL xs (fil l 0 (k + 1)) (k + 1) := by simp [placeL, fil, hk3]
    refine LWP_seq (LWP_block (LWP_seq ?_))
    apply LWP_run
    · simp -implicitDefEqProofs [stepsS, stepS, gd, opEff, LArg.ev, app_val, app_new, app_upd, app_kill, putV, ins, get, binV, binI, grd, bnd, ldCells, AV.cells, AV.scalar, AV.known, setAt, fillL, chunks, elems, mxI, mnI, del, Nat.add_assoc, nlt_self, nne_self, nne_self', List.take_of_length_le, wrap_nat (n := k) (by omega), hk2, hk3, hxl, enc1, get, hk4, hk5, hk6, hk7, hk1]; rfl
    refine LWP_cut (fun q : Nat => ⟨[(0, .tsl 3 (l.map Rd.e)), (1, .int .i64 m), (6, .sl 1 0 0 m), (7, .int .i64 ((k : Int) + 1))], [(0, .rows 1 ((xs.set (k + 1) (placeL xs (fil l l.length (k + 1)) (k + 1))).map enc1))], q⟩) (fun q => 0 < q) ?_ ?_
    · refine LWP_seq ?_
      apply LWP_run
      · simp -implicitDefEqProofs [stepsS, stepS, gd, opEff, LArg.ev, app_val, app_new, app_upd, app_kill, putV, ins, get, binV, binI, grd, bnd, ldCells, AV.cells, AV.scalar, AV.known, setAt, fillL, chunks, elems, mxI, mnI, del, Nat.add_assoc, nlt_self, nne_self, nne_self', List.take_of_length_le]; rfl
      refine LWP_block (LWP_inv (fun q : Nat × Nat => ⟨[(0, .tsl 3 (l.map Rd.e)), (1, .int .i64 m), (6, .sl 1 0 0 m), (7, .int .i64 ((k : Int) + 1)), (8, .int .i64 q.1)], [(0, .rows 1 ((xs.set (k + 1) (placeL xs (fil l q.1 (k + 1)) (k + 1))).map enc1))], q.2⟩) (fun q => l.length - q.1) (fun q => q.1 ≤ l.length ∧ 0 < q.2) (0, nx) ?_ ⟨Nat.zero_le _, h2⟩ ?_)
      · refine .mk2 ?_ ?_ ?_
        · simp [leV, get, wkV.refl, enc1, hx0, List.map_set]
        · simp [leH, get, enc1, hx0, List.map_set] <;> rfl
        · simp
      rintro ⟨i, ny⟩ ⟨g1, g2⟩
      simp only at g1 g2 ⊢
      refine LWP_seq (LWP_seq ?_)
      apply LWP_run
      · simp -implicitDefEqProofs [stepsS, stepS, gd, opEff, LArg.ev, app_val, app_new, app_upd, app_kill, putV, ins, get, binV, binI, grd, bnd, ldCells, AV.cells, AV.scalar, AV.known, setAt, fillL, chunks, elems, mxI, mnI, del, Nat.add_assoc, nlt_self, nne_self, nne_self', List.take_of_length_le]; rfl
      refine LWP_cond (t := decide (i < l.length)) (by simp [LArg.ev, get]) (fun hc => LWP_skip ?_) (fun hc => LWP_exit ?_)
      · have hc' : i < l.length := by simpa using hc
        obtain ⟨r, hr⟩ : ∃ r, r = l[i] := ⟨_, rfl⟩
        have hr' := hr.symm
        have hp := placeL_succ (xs := xs) hc' (k + 1)
        rw [hr'] at hp
        obtain ⟨w1, w2, w3⟩ := hrg r (by rw [hr]; simp)
        refine LWP_seq (LWP_block (LWP_seq ?_))
        by_cases ht : r.t = (k : Int) + 1
        · have ht' : (r.t == (k : Int) + 1) = true := by simp [ht]
          rw [if_pos (by omega)] at hp
          apply LWP_run
          · simp -implicitDefEqProofs [stepsS, stepS, gd, opEff, LArg.ev, app_val, app_new, app_upd, app_kill, putV, ins, get, binV, binI, grd, bnd, ldCells, AV.cells, AV.scalar, AV.known, setAt, fillL, chunks, elems, mxI, mnI, del, Nat.add_assoc, nlt_self, nne_self, nne_self', List.take_of_length_le, hc', hr', Rd.e, ht']; rfl
          refine LWP_cond (t := true) (by simp [LArg.ev, get]) (fun _ => ?_) (fun h => by cases h)
          have w4 : r.f.toNat < xs.length := by omega
          have w5 : r.f < (m : Int) := by omega
          have w6 : ¬ k + 1 = r.f.toNat := by omega
          have z1 : 0 < ny := g2
          obtain ⟨y, hy⟩ : ∃ y, y = placeL xs (fil l i (k + 1)) (k + 1) := ⟨_, rfl⟩
          rw [← hy] at hp ⊢
          have e1 : (xs.set (k + 1) y)[r.f.toNat]? = some xs[r.f.toNat] := by simp [List.getElem?_set, w6, w4]
          have e2 : (xs.set (k + 1) y)[k + 1]? = some y := by simp [hk4]
          apply LWP_runD
          · simp -implicitDefEqProofs [stepsD, stepD, ST.as, dEffF, LOp.cls, softOK, LOp.args, AV.ids, gd, opEff, LArg.ev, appD_val, appD_new, appD_upd, appD_kill, AS.flush, delAll, putV, ins, get, binV, binI, grd, bnd, ldCells, AV.cells, AV.scalar, AV.known, setAt, fillL, chunks, elems, mxI, mnI, del, Nat.add_assoc, nlt_self, nne_self, nne_self', List.take_of_length_le, hc', hr', Rd.e, enc1, w1, w4, w5, w6, hk4, hk5, hk6, hk7, hk1, hxl, z1, List.getElem_set]; rfl
          · simp [AS.fin, delAll, del, Nat.add_assoc]; rfl
          apply LWP_run
          · simp -implicitDefEqProofs [stepsS, stepS, gd, opEff, LArg.ev, app_val, app_new, app_upd, app_kill, putV, ins, get, binV, binI, grd, bnd, ldCells, AV.cells, AV.scalar, AV.known, setAt, fillL, chunks, elems, mxI, mnI, del, Nat.add_assoc, nlt_self, nne_self, nne_self', List.take_of_length_le]; rfl
          refine ⟨(i + 1, _), ⟨hc', ?_⟩, by simp only; omega, .mk2 ?_ ?_ rfl⟩
          · simp only; omega
          · simp [leV, get, wkV.refl, wrap_succ (n := i) (by omega)]
          · simp [leH, get, hp, mx, w4, enc1, List.map_set]
        · have ht' : (r.t == (k : Int) + 1) = false := beq_false_of_ne ht
          rw [if_neg (by omega)] at hp
          apply LWP_run
          · simp -implicitDefEqProofs [stepsS, stepS, gd, opEff, LArg.ev, app_val, app_new, app_upd, app_kill, putV, ins, get, binV, binI, grd, bnd, ldCells, AV.cells, AV.scalar, AV.known, setAt, fillL, chunks, elems, mxI, mnI, del, Nat.add_assoc, nlt_self, nne_self, nne_self', List.take_of_length_le, hc', hr', Rd.e, ht']; rfl
          refine LWP_cond (t := false) (by simp [LArg.ev, get]) (fun h => by cases h) (fun _ => LWP_skip ?_)
          apply LWP_run
          · simp -implicitDefEqProofs [stepsS, stepS, gd, opEff, LArg.ev, app_val, app_new, app_upd, app_kill, putV, ins, get, binV, binI, grd, bnd, ldCells, AV.cells, AV.scalar, AV.known, setAt, fillL, chunks, elems, mxI, mnI, del, Nat.add_assoc, nlt_self, nne_self, nne_self', List.take_of_length_le]; rfl
          refine ⟨(i + 1, ny), ⟨hc', g2⟩, by simp only; omega, ?_⟩
          rw [hp]
          refine .mk2 ?_ ?_ ?_
          · simp [leV, get, wkV.refl, wrap_succ (n := i) (by omega)]
          · simp [leH, get, wrap_succ (n := i) (by omega)] <;> rfl
          · simp
      · have hc' : i = l.length := by have : ¬ i < l.length := by simpa using hc
                                      omega
        subst hc'
        refine ⟨ny, g2, ?_⟩
        refine .mk2 ?_ ?_ ?_
        · simp [leV, get, wkV.refl]
        · simp [leH, get] <;> rfl
        · simp
    · rintro ny g2
      obtain ⟨y, hy⟩ : ∃ y, y = placeL xs (fil l l.length (k + 1)) (k + 1) := ⟨_, rfl⟩
      rw [← hy]
      have e2 : (xs.set (k + 1) y)[k + 1]? = some y := by simp [hk4]
      refine LWP_seq ?_
      apply LWP_run
      · simp -implicitDefEqProofs [stepsS, stepS, gd, opEff, LArg.ev, app_val, app_new, app_upd, app_kill, putV, ins, get, binV, binI, grd, bnd, ldCells, AV.cells, AV.scalar, AV.known, setAt, fillL, chunks, elems, mxI, mnI, del, Nat.add_assoc, nlt_self, nne_self, nne_self', List.take_of_length_le, hk4, hk5, hk6, hk7, hk1, hxl, enc1]; rfl
      refine LWP_cond (t := decide (1125899906842624 < y)) (by simp [LArg.ev, get]) (fun hf => ?_) (fun hf => LWP_skip ?_)
      · refine LWP_seq ?_
        apply LWP_run
        · simp -implicitDefEqProofs [stepsS, stepS, gd, opEff, LArg.ev, app_val, app_new, app_upd, app_kill, putV, ins, get, binV, binI, grd, bnd, ldCells, AV.cells, AV.scalar, AV.known, setAt, fillL, chunks, elems, mxI, mnI, del, Nat.add_assoc, nlt_self, nne_self, nne_self', List.take_of_length_le]; rfl
        have hf' : 1125899906842624 < placeL xs (fil l l.length (k + 1)) (k + 1) := by rw [← hy]; simpa using hf
        have hs : leastSt l m (k + 1) = none := by simp only [leastSt, h3, if_pos hf']
        have hv : leastV l m = ([], 3) := by simp only [leastV, hck, cond_true, leastSt_none l m (k + 1) (m - 1) (by omega) hs]
        rw [hv]
        refine LWP_ret ?_
        show ∃ vs, resV _ _ = some vs ∧ wkV (retV vs) _
        exact ⟨_, rfl, wkV.tup2 (.nils 1) (.refl _)⟩
      · have hf' : ¬ 1125899906842624 < placeL xs (fil l l.length (k + 1)) (k + 1) := by rw [← hy]; simpa using hf
        apply LWP_run
        · simp -implicitDefEqProofs [stepsS, stepS, gd, opEff, LArg.ev, app_val, app_new, app_upd, app_kill, putV, ins, get, binV, binI, grd, bnd, ldCells, AV.cells, AV.scalar, AV.known, setAt, fillL, chunks, elems, mxI, mnI, del, Nat.add_assoc, nlt_self, nne_self, nne_self', List.take_of_length_le]; rfl
        have hs : leastSt l m (k + 1) = some (xs.set (k + 1) (placeL xs (fil l l.length (k + 1)) (k + 1))) := by simp only [leastSt, h3, if_neg hf']
        rw [← hy] at hs
        refine ⟨(k + 1, ny, xs.set (k + 1) y), ⟨by simp only; omega, by simpa using g2, hs⟩, by simp only; omega, ?_⟩
        refine .mk2 ?_ ?_ ?_
        · simp [leV, get, wkV.refl, enc1, show IntKind.i64.wrap ((k : Int) + 1 + 1) = (k : Int) + 1 + 1 from wrap_i64 (by omega) (by omega)]
        · simp [leH, get, enc1, show IntKind.i64.wrap ((k : Int) + 1 + 1) = (k : Int) + 1 + 1 from wrap_i64 (by omega) (by omega)] <;> rfl
        · simp
  · have hk' : m - 1 = k := by have : ¬ k + 1 < m := by simpa using hk
                               omega
    have hv : leastV l m = (xs, 0) := by simp only [leastV, hck, cond_true, hk', h3]
    rw [hv]
    refine LWP_seq ?_
    apply LWP_run
    · simp -implicitDefEqProofs [stepsS, stepS, gd, opEff, LArg.ev, app_val, app_new, app_upd, app_kill, putV, ins, get, binV, binI, grd, bnd, ldCells, AV.cells, AV.scalar, AV.known, setAt, fillL, chunks, elems, mxI, mnI, del, Nat.add_assoc, nlt_self, nne_self, nne_self', List.take_of_length_le]; rfl
    refine LWP_frz 0 (sz := 1) (es := xs.map enc1) (by simp [get]) ?_
    refine LWP_ret ?_
    show ∃ vs, resV _ _ = some vs ∧ wkV (retV vs) _
    refine ⟨_, rfl, ?_⟩
    simp [retV, wkV.refl, ST.frz, mapS, frzV, placesA, encI, hxl, List.take_of_length_le]
end Go.AM.Rod
