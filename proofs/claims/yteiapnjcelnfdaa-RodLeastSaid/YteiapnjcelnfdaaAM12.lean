/- Writing into maps, and copies. -/
import Derived.Test.YteiapnjcelnfdaaAM11
set_option linter.unusedSimpArgs false
set_option linter.unusedVariables false
namespace Go.AM

section
variable {P : Program} {X : Ctx} {φ : Nat → Option (Nat × Nat)} {I : Nat → Prop} {S : AS} {nt : Nat} {a : Act} {w : World} {o : Oper} {dst : Option Nat} {id : Nat} {hard : Bool} {h : Array Obj} {A : Nat → Prop}

theorem sameBits_eqS {k : EK} {x y : AV} {a b : Value} (n : Nat) (H : eqS k x y = some true) (hx : relV h φ I A x a) (hy : relV h φ I A y b) : Instr.sameBits n a b = true := by
  unfold eqS at H
  split at H
  · simp only [relV] at hx hy; subst hx hy
    injection H with H
    cases n <;> simpa [Instr.sameBits] using H
  · obtain ⟨h1, h2⟩ := grd_some H
    simp only [decide_eq_true_eq] at h1; subst h1
    injection h2 with h2
    simp only [relV] at hx hy; subst hx hy
    cases n <;> simpa [Instr.sameBits] using h2
  · simp only [relV] at hx hy; subst hx hy
    injection H with H
    cases n <;> simpa [Instr.sameBits] using H
  · cases H

theorem sameBits_eqL : ∀ {ks : List EK} {x y : List AV} {a b : List Value} (n : Nat), eqL ks x y = some true → relL h φ I A x a → relL h φ I A y b → a.length = b.length ∧ (a.zip b).all (fun p => Instr.sameBits n p.1 p.2) = true
  | [], [], [], a, b, n, H, hx, hy => by simp only [relL] at hx hy; subst hx hy; simp
  | [], _ :: _, _, a, b, n, H, hx, hy => by simp [eqL] at H
  | [], [], _ :: _, a, b, n, H, hx, hy => by simp [eqL] at H
  | k :: ks, [], [], a, b, n, H, hx, hy => by simp [eqL] at H
  | k :: ks, [], _ :: _, a, b, n, H, hx, hy => by simp [eqL] at H
  | k :: ks, _ :: _, [], a, b, n, H, hx, hy => by simp [eqL] at H
  | k :: ks, u :: x, v :: y, a, b, n, H, hx, hy => by
    simp only [eqL] at H
    simp only [relL] at hx hy
    obtain ⟨a0, a', rfl, h2, h3⟩ := hx
    obtain ⟨b0, b', rfl, h4, h5⟩ := hy
    split at H
    · rename_i hq
      obtain ⟨h6, h7⟩ := sameBits_eqL n H h3 h5
      refine ⟨by simp [h6], ?_⟩
      simp only [List.zip_cons_cons, List.all_cons, Bool.and_eq_true]
      exact ⟨sameBits_eqS n hq h2 h4, h7⟩
    · cases H
    · cases H

theorem sameBits_eqV {kt : KT} {x y : AV} {a b : Value} (H : eqV kt x y = some true) (hx : relV h φ I A x a) (hy : relV h φ I A y b) : Instr.sameBits 10000 a b = true := by
  unfold eqV at H
  split at H
  · simp only [relV] at hx hy
    obtain ⟨vs, rfl, h1⟩ := hx
    obtain ⟨us, rfl, h2⟩ := hy
    obtain ⟨h3, h4⟩ := sameBits_eqL 9999 H h1 h2
    simp only [Instr.sameBits, Bool.and_eq_true]
    exact ⟨by simp [h3], by simpa using h4⟩
  · exact sameBits_eqS _ H hx hy
  · cases H

theorem eqS_symm {k : EK} {x y : AV} {r : Bool} (H : eqS k x y = some r) : eqS k y x = some r := by
  unfold eqS at H
  split at H
  · injection H with H; subst H; simp only [eqS]; rw [Bool.beq_comm]
  · obtain ⟨h1, h2⟩ := grd_some H
    simp only [decide_eq_true_eq] at h1; subst h1
    injection h2 with h2; subst h2
    simp only [eqS, decide_true, grd]; rw [BEq.comm]
  · injection H with H; subst H; simp only [eqS]
    rename_i a b
    congr 1
    rw [Bool.eq_iff_iff, beq_toListBytes, beq_toListBytes]; simp; exact ⟨Eq.symm, Eq.symm⟩
  · cases H

theorem eqL_symm : ∀ {ks : List EK} {x y : List AV} {r : Bool}, eqL ks x y = some r → eqL ks y x = some r
  | [], x, y, r, H => by
    cases x <;> cases y <;> simp only [eqL] at H ⊢ <;> first | exact H | (cases H)
  | k :: ks, [], [], r, H => by simp [eqL] at H
  | k :: ks, [], _ :: _, r, H => by simp [eqL] at H
  | k :: ks, _ :: _, [], r, H => by simp [eqL] at H
  | k :: ks, u :: x, v :: y, r, H => by
    simp only [eqL] at H ⊢
    cases hq : eqS k u v with
    | none => rw [hq] at H; cases H
    | some b =>
      rw [hq] at H
      rw [eqS_symm hq]
      cases b
      · exact H
      · exact eqL_symm H

theorem eqV_symm {kt : KT} {x y : AV} {r : Bool} (H : eqV kt x y = some r) : eqV kt y x = some r := by
  unfold eqV at H
  split at H
  · exact eqL_symm H
  · exact eqS_symm H
  · cases H

/-- The entry that a key is found at. -/
theorem findKV_at {kt : KT} {k : AV} : ∀ {l : List (AV × AV)} {es : List MapEntry} {i j : Nat} {y : AV}, relE h φ I A l es → findKV kt k l i = some (some (j, y)) → ∃ m e k', j = i + m ∧ es[m]? = some e ∧ l[m]? = some (k', y) ∧ relV h φ I A k' e.key ∧ eqV kt k k' = some true
  | [], es, i, j, y, hE, H => by simp [findKV] at H
  | (k', v) :: l, es, i, j, y, hE, H => by
    simp only [relE] at hE
    obtain ⟨e, es', rfl, h1, h2, h3⟩ := hE
    simp only [findKV] at H
    split at H
    · rename_i hq
      injection H with H; injection H with H; injection H with H1 H2; subst H1 H2
      exact ⟨0, e, k', by simp, by simp, by simp, h1, hq⟩
    · obtain ⟨m, e', k'', h4, h5, h6, h7, h8⟩ := findKV_at h3 H
      exact ⟨m + 1, e', k'', by omega, by simpa using h5, by simpa using h6, h7, h8⟩
    · cases H

theorem relE_modify {k : AV} {kv : Value} (hk : relV h φ I A k kv) {y : AV} {v : Value} (hv : relV h φ I A y v) : ∀ {l : List (AV × AV)} {es : List MapEntry} (i : Nat), relE h φ I A l es →
    relE h φ I A (l.modify i fun _ => (k, y)) (es.modify i fun e => { e with key := kv, val := v })
  | [], es, i, hE => by simp only [relE] at hE; subst hE; simp [relE]
  | (k', v') :: l, es, i, hE => by
    simp only [relE] at hE
    obtain ⟨e, es', rfl, h1, h2, h3⟩ := hE
    cases i with
    | zero => simp only [List.modify_zero_cons, relE]; exact ⟨_, _, rfl, hk, hv, h3⟩
    | succ i => simp only [List.modify_succ_cons, relE]; exact ⟨_, _, rfl, h1, h2, relE_modify hk hv i h3⟩

theorem relE_push {k y : AV} {e : MapEntry} (hk : relV h φ I A k e.key) (hv : relV h φ I A y e.val) : ∀ {l : List (AV × AV)} {es : List MapEntry}, relE h φ I A l es → relE h φ I A (l ++ [(k, y)]) (es ++ [e])
  | [], es, hE => by simp only [relE] at hE; subst hE; simp only [List.nil_append, relE]; exact ⟨e, [], rfl, hk, hv, rfl⟩
  | (k', v') :: l, es, hE => by
    simp only [relE] at hE
    obtain ⟨e', es', rfl, h1, h2, h3⟩ := hE
    simp only [List.cons_append, relE]
    exact ⟨e', _, rfl, h1, h2, relE_push hk hv h3⟩

theorem stepOK_mapupd (R : RelH X φ I S w.heap) (RA : RelA φ I S nt a w.heap) (hd : ∀ d, dst = some d → d < nt) (hdead : ∀ b', get S.dead b' = none) {t key el : TypeId} {kt : KT} {om ok ov : Operand} {k y : AV} {b : Nat} {l : List (AV × AV)} {r : Option (Nat × AV)}
    (ho : execOp a.eval o = (do Instr.mapUpdate t (a.eval om) (a.eval ok) (a.eval ov); pure .skip)) (hu : P.underlying t = some (.map key el)) (hT : okKT P key kt = true)
    (hm : relV w.heap φ I S.A (.map b) (a.eval om)) (hk : relV w.heap φ I S.A k (a.eval ok)) (hko : keyOK kt k = true) (hv : relV w.heap φ I S.A y (a.eval ov)) (hb : get S.heap b = some (.mp l)) (hf : findKV kt k l 0 = some r) :
    StepOK P X S nt a w o dst id hard { val := .any, upd := some (b, .mp (updE r l k y)) } := by
  simp only [relV] at hm
  obtain ⟨hA, c, hφ, he⟩ := hm
  obtain ⟨_, hB⟩ := R.heap _ _ hb
  simp only [relB] at hB
  obtain ⟨c', es, clk, h1, h2, h3⟩ := hB
  rw [hφ] at h1; injection h1 with h1; injection h1 with h4; subst h4
  obtain ⟨q, h5, h6⟩ := run_findKey (P := P) (w := w) hT hk h3 hf
  have hgo : (getObj c).run P w = .ok (.map es clk) w := by simp [getObj, Sem.run, h2]
  have hcs : c < w.heap.size := (R.live _ _ _ _ hb hφ).1
  let es' : Array MapEntry := match q with
    | some (i, _) => es.modify i fun e => { e with key := a.eval ok, val := a.eval ov }
    | none => es.push { key := a.eval ok, val := a.eval ov, born := clk }
  let clk' : Nat := match q with
    | some _ => clk
    | none => clk + 1
  let h' : Array Obj := w.heap.setIfInBounds c (.map es' clk')
  have hset : ∀ ob, (setObj c ob).run P w = .ok () { w with heap := w.heap.setIfInBounds c ob } := fun ob => by simp [setObj, Sem.run, h2]
  have hrun : (Instr.mapUpdate t (.map (some c)) (a.eval ok) (a.eval ov)).run P w = .ok () { w with heap := h' } := by
    unfold Instr.mapUpdate
    rw [Sem.run_bind, run_underlying hu]
    simp only [Result.andThen_ok, Sem.run_bind, hgo]
    rw [run_checkKey hT hk hko]
    simp only [Result.andThen_ok, h5]
    cases q with
    | none => simp only [hset]; rfl
    | some p =>
      obtain ⟨i, v⟩ := p
      cases r with
      | none => simp [foundV] at h6
      | some rr =>
        obtain ⟨i', y'⟩ := rr
        simp only [foundV] at h6
        obtain ⟨h7, _⟩ := h6; subst h7
        obtain ⟨m, e, k', h8, h9, h10, h11, h12⟩ := findKV_at h3 hf
        simp only [Nat.zero_add] at h8; subst h8
        have h13 : Instr.sameBits 10000 e.key (a.eval ok) = true := sameBits_eqV (eqV_symm h12) h11 hk
        have h14 : (es[i']?.map (·.key)).getD (a.eval ok) = e.key := by
          rw [← Array.getElem?_toList, h9]; rfl
        simp only [Sem.run_bind, Instr.keyThatStays, h14, h13, if_true, Sem.run_pure, Result.andThen_ok, hset]
        rfl
  obtain ⟨R', E⟩ := R.wrote (blk' := .mp (updE r l k y)) (h' := h') (putV dst .any S.vars) hb hφ hdead (by simp [h']) (fun c' h7 => by simp only [h']; rw [Array.getElem?_setIfInBounds]; rw [if_neg (Ne.symm h7)])
    (fun c' s h7 => by
      by_cases h8 : c' = c
      · subst h8; simp [hsize, h2] at h7
      · simp only [h', hsize]; rw [Array.getElem?_setIfInBounds, if_neg (Ne.symm h8)]; exact h7)
    (fun E => by
      simp only [relB]
      refine ⟨c, es', clk', hφ, by simp [h', hcs], ?_⟩
      have hE := relE_mono E _ _ h3
      have hk' := relV_mono E _ _ hk
      have hv' := relV_mono E _ _ hv
      unfold foundV at h6
      unfold updE
      split at h6
      · simp only [es', Array.toList_push]
        exact relE_push hk' hv' hE
      · obtain ⟨h7, _⟩ := h6; subst h7
        simp only [es', Array.toList_modify]
        exact relE_modify hk' hv' _ hE
      · exact h6.elim)
  refine ⟨φ, I, undef, { w with heap := h' }, .inr ⟨?_, rfl⟩, R', RA.app (e := { val := .any, upd := some (b, .mp (updE r l k y)) }) E hd (by simp [relV]), ⟨rfl, rfl, rfl⟩⟩
  rw [ho, he, Sem.run_bind, hrun]; rfl
end
end Go.AM
