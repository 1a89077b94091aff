/- A part of a proof about the given program: what its name says. No premise beyond the statements'. -/
import Derived.Test.YteiapnjcelnfdaaFC
import Derived.Test.YteiapnjcelnfdaaRodJ
set_option linter.unusedSimpArgs false
set_option linter.unusedVariables false
namespace Go.AM.Rod
open Go.AM

def fil (l : List Rd) (i k : Nat) : List Rd := (l.take i).filter fun r => decide (r.t = (k : Int))
def cellA (l : List Rd) (i : Nat) (c : Nat → Option Nat) (k : Nat) : List AV := [match c k with | none => .nils | some b => .sl 3 b 0 (fil l i k).length]

structure ByS where
  i : Nat
  H : Heap
  nx : Nat
  c : Nat → Option Nat

structure ByC (l : List Rd) (n : Nat) (q : ByS) : Prop where
  hi : q.i ≤ l.length
  g0 : get q.H 0 = some (.rows 1 ((List.range n).map (cellA l q.i q.c)))
  nx : 0 < q.nx
  some_ : ∀ k b, k < n → q.c k = some b → get q.H b = some (.rows 3 ((fil l q.i k).map Rd.e)) ∧ b ≠ 0 ∧ b < q.nx
  none_ : ∀ k, k < n → q.c k = none → fil l q.i k = []
  inj : ∀ k k' b, k < n → k' < n → q.c k = some b → q.c k' = some b → k = k'

theorem fil_succ {l : List Rd} {i : Nat} (h : i < l.length) (k : Nat) : fil l (i + 1) k = if l[i].t = (k : Int) then fil l i k ++ [l[i]] else fil l i k := by
  simp only [fil]
  rw [List.take_succ_eq_append_getElem h, List.filter_append]
  by_cases hk : l[i].t = (k : Int) <;> simp [hk]

theorem mapO_map {α β γ : Type} {F : β → Option γ} {f : α → β} {g : α → γ} : ∀ {l : List α}, (∀ x ∈ l, F (f x) = some (g x)) → mapO F (l.map f) = some (l.map g)
  | [], _ => rfl
  | x :: l, h => by
    simp only [List.map_cons, mapO]
    rw [h x (by simp), mapO_map (l := l) fun y hy => h y (List.mem_cons_of_mem _ hy)]

theorem deep_rd (H : Heap) (n : Nat) (l : List Rd) : mapO (mapO (deepV H (n + 1))) (l.map Rd.e) = some (l.map Rd.e) :=
  mapO_map fun x _ => by simp [Rd.e, mapO, deepV]

theorem wkV.tsl1 {α : Type} {f g : α → AV} {l : List α} (h : ∀ x ∈ l, wkV (f x) (g x)) : wkV (.tsl 1 (l.map fun x => [f x])) (.tsl 1 (l.map fun x => [g x])) := fun hp φ I A v H => by
  have key : ∀ (l : List α) (c o : Nat), (∀ x ∈ l, wkV (f x) (g x)) → relR hp φ I A 1 (l.map fun x => [f x]) c o → relR hp φ I A 1 (l.map fun x => [g x]) c o := by
    intro l
    induction l with
    | nil => intro c o _ _; simp [relR]
    | cons x l ih =>
      intro c o hx H
      simp only [List.map_cons, relR, relM] at H ⊢
      obtain ⟨_, ⟨⟨w, k1, k2, k3⟩, _⟩, k4⟩ := H
      exact ⟨rfl, ⟨⟨w, k1, k2, hx x (by simp) _ _ _ _ _ k3⟩, trivial⟩, ih _ _ (fun y hy => hx y (List.mem_cons_of_mem _ hy)) k4⟩
  simp only [relV, List.length_map] at H ⊢
  obtain ⟨base, cap, h1, h2, h3⟩ := H
  refine ⟨base, cap, h1, h2, ?_⟩
  rcases h3 with h3 | ⟨c, o, h3, h4, h5⟩
  · exact .inl (by simpa using h3)
  · exact .inr ⟨c, o, h3, h4, key l c o h h5⟩

/-- What a step makes of the told state: the rod's column has the block 'd', all others have theirs. -/
theorem ByC_step {l : List Rd} {n i nx d : Nat} {H H' : Heap} {c : Nat → Option Nat} (C : ByC l n ⟨i, H, nx, c⟩) (hc : i < l.length) {t : Nat} (tk : l[i].t = (t : Int)) (t2 : t < n) (hd : nx < d) (hd2 : d < nx + 14)
    (e0 : get H' 0 = some (.rows 1 (((List.range n).map (cellA l i c)).set t [.sl 3 d 0 ((fil l i t).length + 1)])))
    (ed : get H' d = some (.rows 3 ((fil l i t ++ [l[i]]).map Rd.e)))
    (eo : ∀ b, b ≠ 0 → b < nx → c t ≠ some b → get H' b = get H b) : ByC l n ⟨i + 1, H', nx + 14, fun k => if k = t then some d else c k⟩ := by
  obtain ⟨h1, g0, hnx, hs, hnone, hinj⟩ := C
  simp only at h1 g0 hnx hs hnone hinj
  have ft : fil l (i + 1) t = fil l i t ++ [l[i]] := by rw [fil_succ hc, if_pos tk]
  have fo : ∀ k, k ≠ t → fil l (i + 1) k = fil l i k := fun k hk => by rw [fil_succ hc, if_neg (by omega)]
  refine ⟨hc, ?_, by simp only; omega, fun k b hk hb => ?_, fun k hk hb => ?_, fun k k' b hk hk' hb hb' => ?_⟩
  · simp only [e0]
    congr 2
    apply List.ext_getElem
    · simp
    · intro k q1 q2
      by_cases hk : k = t
      · subst hk; simp [cellA, ft]
      · rw [List.getElem_set_ne (fun e => hk e.symm)]
        simp [cellA, hk, fo k hk]
  · simp only at hb ⊢
    by_cases hkt : k = t
    · subst hkt
      simp only [if_true, Option.some.injEq] at hb
      subst hb
      exact ⟨by rw [ed, ft], by omega, hd2⟩
    · rw [if_neg hkt] at hb
      obtain ⟨k1, k2, k3⟩ := hs k b hk hb
      exact ⟨by rw [eo b k2 k3 (fun e => hkt (hinj k t b hk t2 hb e)), k1, fo k hkt], k2, by omega⟩
  · simp only at hb ⊢
    by_cases hkt : k = t
    · simp [hkt] at hb
    · rw [if_neg hkt] at hb
      rw [fo k hkt]
      exact hnone k hk hb
  · simp only at hb hb'
    by_cases q1 : k = t <;> by_cases q2 : k' = t
    · omega
    · rw [if_pos q1] at hb; rw [if_neg q2] at hb'
      cases hb
      have := (hs k' d hk' hb').2.2; omega
    · rw [if_neg q1] at hb; rw [if_pos q2] at hb'
      cases hb'
      have := (hs k d hk hb).2.2; omega
    · rw [if_neg q1] at hb; rw [if_neg q2] at hb'
      exact hinj k k' b hk hk' hb hb'

theorem by_ok (l : List Rd) (n : Nat) (hn : n ≤ 4096) (hl : l.length ≤ 400000) (hr : ∀ x ∈ l, 0 ≤ x.t ∧ x.t < n) :
    ACalls Go.Proofs.Try.prog 26 [.tsl 3 (l.map Rd.e), .int .i64 n] [] 0 (fun x _ _ => x = .tsl 1 ((List.range n).map fun k => [.tsl 3 ((fil l l.length k).map Rd.e)])) := by
  refine pure_body ok26 rfl ?_
  simp only [parV]
  refine LWP_seq ?_
  apply LWP_run
  · simp -implicitDefEqProofs [stepsS, stepS, gd, opEff, LArg.ev, app_val, app_new, app_upd, app_kill, putV, ins, get, binV, binI, grd, bnd, ldCells, AV.cells, AV.scalar, AV.known, setAt, fillL, chunks, elems, mxI, mnI, del, Nat.add_assoc, nlt_self, nne_self, nne_self', List.take_of_length_le]; rfl
  refine LWP_seq ?_
  have hq : (n : Int) * 24 ≤ 17592186044416 := by omega
  apply LWP_run
  · simp -implicitDefEqProofs [stepsS, stepS, gd, opEff, LArg.ev, app_val, app_new, app_upd, app_kill, putV, ins, get, binV, binI, grd, bnd, ldCells, AV.cells, AV.scalar, AV.known, setAt, fillL, chunks, elems, mxI, mnI, del, Nat.add_assoc, nlt_self, nne_self, nne_self', List.take_of_length_le, hq]; rfl
  refine LWP_seq (LWP_seq ?_)
  apply LWP_run
  · simp -implicitDefEqProofs [stepsS, stepS, gd, opEff, LArg.ev, app_val, app_new, app_upd, app_kill, putV, ins, get, binV, binI, grd, bnd, ldCells, AV.cells, AV.scalar, AV.known, setAt, fillL, chunks, elems, mxI, mnI, del, Nat.add_assoc, nlt_self, nne_self, nne_self', List.take_of_length_le]; rfl
  refine LWP_block (LWP_inv (fun q : ByS => ⟨[(0, .tsl 3 (l.map Rd.e)), (5, .sl 1 0 0 n), (10, .tsl 3 (l.map Rd.e)), (11, .int .i64 l.length), (12, .int .i64 q.i)], q.H, q.nx⟩) (fun q => l.length - q.i) (ByC l n) ⟨0, [(0, .rows 1 (List.replicate n [.nils]))], 1, fun _ => none⟩ ?_ ?_ ?_)
  · refine .mk2 ?_ ?_ ?_
    · simp [leV, get, wkV.refl]
    · simp [leH, get] <;> rfl
    · simp
  · refine ⟨Nat.zero_le _, ?_, by simp, by simp, by simp [fil], by simp⟩
    simp only [get, if_pos]
    congr 2
    apply List.ext_getElem
    · simp
    · intro k h1 h2; simp [cellA]
  rintro ⟨i, H, nx, c⟩ C
  have C' := C
  obtain ⟨h1, g0, hnx, hs, hnone, hinj⟩ := C
  simp only at h1 g0 hnx hs hnone hinj ⊢
  refine LWP_seq ?_
  apply LWP_run
  · simp -implicitDefEqProofs [stepsS, stepS, gd, opEff, LArg.ev, app_val, app_new, app_upd, app_kill, putV, ins, get, binV, binI, grd, bnd, ldCells, AV.cells, AV.scalar, AV.known, setAt, fillL, chunks, elems, mxI, mnI, del, Nat.add_assoc, nlt_self, nne_self, nne_self', List.take_of_length_le]; rfl
  refine LWP_seq (LWP_cond (t := decide (i < l.length)) (by simp [LArg.ev, get]) (fun hc => LWP_skip ?_) (fun hc => LWP_exit ?_))
  · simp only [decide_eq_true_eq] at hc
    obtain ⟨t0, t1⟩ := hr l[i] (by simp)
    have t2 : l[i].t.toNat < n := by omega
    have z1 : ¬ nx = 0 := by omega
    refine LWP_seq (LWP_block (LWP_seq ?_))
    apply LWP_run
    · simp -implicitDefEqProofs [stepsS, stepS, gd, opEff, LArg.ev, app_val, app_new, app_upd, app_kill, putV, ins, get, binV, binI, grd, bnd, ldCells, AV.cells, AV.scalar, AV.known, setAt, fillL, chunks, elems, mxI, mnI, del, Nat.add_assoc, nlt_self, nne_self, nne_self', List.take_of_length_le, get_ins, hc, Rd.e, z1]; rfl
    have tk : l[i].t = (l[i].t.toNat : Int) := by omega
    have z2 : ¬ nx + 11 = 0 := by omega
    cases hct : c l[i].t.toNat with
    | none =>
      apply LWP_runD
      · simp -implicitDefEqProofs [stepsD, stepD, ST.as, dEffF, LOp.cls, softOK, LOp.args, AV.ids, gd, opEff, LArg.ev, appD_val, appD_new, appD_upd, appD_kill, AS.flush, delAll, putV, ins, get, binV, binI, grd, bnd, ldCells, AV.cells, AV.scalar, AV.known, setAt, fillL, chunks, elems, mxI, mnI, del, Nat.add_assoc, nlt_self, nne_self, nne_self', List.take_of_length_le, get_ins, get_del, g0, z1, z2, t0, t1, t2, hct, cellA]; rfl
      · simp [AS.fin, delAll, del, Nat.add_assoc]; rfl
      apply LWP_run
      · simp -implicitDefEqProofs [stepsS, stepS, gd, opEff, LArg.ev, app_val, app_new, app_upd, app_kill, putV, ins, get, binV, binI, grd, bnd, ldCells, AV.cells, AV.scalar, AV.known, setAt, fillL, chunks, elems, mxI, mnI, del, Nat.add_assoc, nlt_self, nne_self, nne_self', List.take_of_length_le]; rfl
      have f0 : fil l i l[i].t.toNat = [] := hnone _ t2 hct
      refine ⟨⟨i + 1, _, nx + 14, fun k => if k = l[i].t.toNat then some (nx + 11) else c k⟩, ?_, by simp only; omega, .mk' ?_ (fun _ _ h => h) (by simp)⟩
      · refine ByC_step C' hc tk t2 (by omega) (by omega) ?_ ?_ (fun b b1 b2 _ => ?_)
        · simp [get_ins, f0]
        · simp [get_ins, f0, Rd.e]
        · simp [get_ins, show ¬ 0 = b by omega, show ¬ nx + 11 = b by omega, show ¬ nx = b by omega]
      · simp [leV, get, wkV.refl, wrap_succ (n := i) (by omega)]
    | some b =>
      obtain ⟨s1, s2, s3⟩ := hs _ _ t2 hct
      have hq2 : ((fil l i l[i].t.toNat).length + 1) * 24 ≤ 17592186044416 := by
        have : (fil l i l[i].t.toNat).length ≤ l.length := by
          simp only [fil]
          refine Nat.le_trans (List.length_filter_le _ _) ?_
          simp; omega
        omega
      have z3 : ¬ nx = b := by omega
      have z4 : ¬ b = 0 := s2
      have z5 : b < nx + 1 := by omega
      apply LWP_runD
      · simp -implicitDefEqProofs [stepsD, stepD, ST.as, dEffF, LOp.cls, softOK, LOp.args, AV.ids, gd, opEff, LArg.ev, appD_val, appD_new, appD_upd, appD_kill, AS.flush, delAll, putV, ins, get, binV, binI, grd, bnd, ldCells, AV.cells, AV.scalar, AV.known, setAt, fillL, chunks, elems, mxI, mnI, del, Nat.add_assoc, nlt_self, nne_self, nne_self', List.take_of_length_le, get_ins, get_del, g0, z1, z2, z3, z4, s1, t0, t1, t2, hct, cellA, hq2, z5, s3]; rfl
      · simp [AS.fin, delAll, del, Nat.add_assoc]; rfl
      apply LWP_run
      · simp -implicitDefEqProofs [stepsS, stepS, gd, opEff, LArg.ev, app_val, app_new, app_upd, app_kill, putV, ins, get, binV, binI, grd, bnd, ldCells, AV.cells, AV.scalar, AV.known, setAt, fillL, chunks, elems, mxI, mnI, del, Nat.add_assoc, nlt_self, nne_self, nne_self', List.take_of_length_le]; rfl
      refine ⟨⟨i + 1, _, nx + 14, fun k => if k = l[i].t.toNat then some (nx + 11) else c k⟩, ?_, by simp only; omega, .mk' ?_ (fun _ _ h => h) (by simp)⟩
      · refine ByC_step C' hc tk t2 (by omega) (by omega) ?_ ?_ (fun b' b1 b2 b3 => ?_)
        · simp [get_ins]
        · simp [get_ins, get_del, show ¬ b = nx + 11 by omega, Rd.e]
        · have b4 : ¬ b = b' := fun e => b3 (by rw [hct, e])
          simp [get_ins, get_del, show ¬ 0 = b' by omega, show ¬ nx + 11 = b' by omega, show ¬ nx = b' by omega, b4]
      · simp [leV, get, wkV.refl, wrap_succ (n := i) (by omega)]
  · have hc' : i = l.length := by have : ¬ i < l.length := by simpa using hc
                                  omega
    subst hc'
    refine LWP_seq ?_
    apply LWP_run
    · simp -implicitDefEqProofs [stepsS, stepS, gd, opEff, LArg.ev, app_val, app_new, app_upd, app_kill, putV, ins, get, binV, binI, grd, bnd, ldCells, AV.cells, AV.scalar, AV.known, setAt, fillL, chunks, elems, mxI, mnI, del, Nat.add_assoc, nlt_self, nne_self, nne_self', List.take_of_length_le]; rfl
    refine LWP_deep [(4, .tsl 1 ((List.range n).map fun k => [match c k with | none => .nils | some _ => .tsl 3 ((fil l l.length k).map Rd.e)]))] 4 ?_ ?_
    · refine ⟨⟨.sl 1 0 0 n, by simp [get], ?_⟩, trivial⟩
      have hm : mapO (mapO (deepV H 3)) (((List.range n).map (cellA l l.length c)).drop 0 |>.take n) = some ((List.range n).map fun k => [match c k with | none => .nils | some _ => .tsl 3 ((fil l l.length k).map Rd.e)]) := by
        rw [List.drop_zero, List.take_of_length_le (by simp)]
        refine mapO_map fun k hk => ?_
        have hk' : k < n := by simpa using hk
        simp only [cellA]
        cases hck : c k with
        | none => simp [mapO, deepV]
        | some b =>
          obtain ⟨q1, _, _⟩ := hs k b hk' hck
          have hd : deepV H 3 (.sl 3 b 0 (fil l l.length k).length) = some (.tsl 3 ((fil l l.length k).map Rd.e)) := by
            refine deepV_sl q1 (by simp) ?_
            rw [List.drop_zero, List.take_of_length_le (by simp), deep_rd H 1]
          simp only [mapO, hd]
      exact deepV_sl g0 (by simp) hm
    · refine LWP_ret ?_
      show ∃ vs, resV _ _ = some vs ∧ wkV (retV vs) _
      refine ⟨_, rfl, ?_⟩
      simp only [retV]
      refine wkV.tsl1 fun k hk => ?_
      have hk' : k < n := by simpa using hk
      cases hck : c k with
      | none => simp only [hnone k hk' hck]; exact wkV.nils 3
      | some b => exact wkV.refl _
end Go.AM.Rod
