/- Maps and copies: their runs, and what becomes of the state. -/
import Derived.Test.YteiapnjcelnfdaaAM10
set_option linter.unusedSimpArgs false
set_option linter.unusedVariables false
namespace Go.AM

section
variable {P : Program} {X : Ctx} {φ : Nat → Option (Nat × Nat)} {I : Nat → Prop} {S : AS} {nt : Nat} {a : Act} {w : World} {o : Oper} {dst : Option Nat} {id : Nat} {hard : Bool} {h : Array Obj} {A : Nat → Prop}

theorem run_checkKey_one {t : TypeId} {k : EK} {em : Bool} (n : Nat) (hT : ekOf P t = some k) (v : Value) : (Instr.checkKey em (n + 1) t v).run P w = .ok () w := by
  unfold ekOf at hT
  unfold Instr.checkKey
  rw [Sem.run_bind]
  split at hT <;> simp at hT
  all_goals (rename_i hu; rw [run_underlying hu]; simp only [Result.andThen_ok]; rfl)

theorem run_checkFields {em : Bool} (n : Nat) : ∀ (fs : List Field) (ks : List EK) (o : Nat) (xs : List AV) (vs : List Value), flatFs P fs o ks = true → relL h φ I A xs vs → xs.length = o + ks.length →
    (forIn fs PUnit.unit (fun f _ => if f.name ≠ "_" then do
        let v ← part f.type vs.toArray f.offset
        Instr.checkKey em (n + 1) f.type v
        pure (ForInStep.yield PUnit.unit)
      else pure (ForInStep.yield PUnit.unit) : Field → PUnit → Sem (ForInStep PUnit))).run P w = .ok PUnit.unit w
  | [], _, _, _, _, _, _, _ => by simp
  | f :: fs, ks, o, xs, vs, hf, hx, hl => by
    cases ks with
    | nil => simp [flatFs] at hf
    | cons k ks =>
      simp only [flatFs, Bool.and_eq_true, decide_eq_true_eq] at hf
      obtain ⟨h1, h2, h3, h4⟩ := hf
      have hlt : o < xs.length := by simp at hl; omega
      obtain ⟨v, h5, h6⟩ := relL_get hx (List.getElem?_eq_getElem hlt)
      have h7 := run_checkFields (em := em) n fs ks (o + 1) xs vs h4 hx (by simp at hl; omega)
      simp only [List.forIn_cons, Sem.run_bind]
      rw [if_pos (by simpa using h2)]
      simp only [Sem.run_bind, h1]
      rw [run_part_one h3 (by simpa using h5)]
      simp only [Result.andThen_ok]
      rw [run_checkKey_one n h3]
      simp only [Result.andThen_ok, Sem.run_pure]
      exact h7

theorem eqL_length : ∀ {ks : List EK} {x y : List AV} {r : Bool}, eqL ks x y = some r → r = true → x.length = ks.length ∧ y.length = ks.length
  | ks, x, y, r, H, hr => by
    subst hr
    unfold eqL at H
    split at H
    · simp
    · split at H
      · obtain ⟨h1, h2⟩ := eqL_length H rfl
        simp [h1, h2]
      · cases H
      · cases H
    · cases H

theorem run_checkKey {t : TypeId} {kt : KT} {em : Bool} (hT : okKT P t kt = true) {x : AV} {v : Value} (hx : relV h φ I A x v) (hk : keyOK kt x = true) : (Instr.checkKey em 10000 t v).run P w = .ok () w := by
  cases kt with
  | sc k => exact run_checkKey_one 9999 (by simpa [okKT] using hT) v
  | ag ks =>
    cases x <;> simp only [keyOK, Bool.false_eq_true] at hk
    rename_i cs
    simp only [decide_eq_true_eq] at hk
    simp only [relV] at hx
    obtain ⟨vs, rfl, hL⟩ := hx
    simp only [okKT] at hT
    split at hT
    · rename_i fs hu
      simp only [Bool.and_eq_true] at hT
      have := run_checkFields (w := w) (em := em) 9998 fs.toList ks 0 cs vs hT.1 hL (by omega)
      unfold Instr.checkKey
      rw [Sem.run_bind, run_underlying hu]
      simp only [Result.andThen_ok]
      rw [← Array.forIn_toList, Sem.run_bind, this]
      rfl
    · cases hT

/-- What the machine finds of a key. -/
def foundV (r : Option (Nat × AV)) (q : Option (Nat × Value)) (R : AV → Value → Prop) : Prop := match r, q with
  | none, none => True
  | some (i, x), some (j, v) => i = j ∧ R x v
  | _, _ => False

theorem run_findAsking {t : TypeId} {kt : KT} (hT : okKT P t kt = true) {k : AV} {kv : Value} (hk : relV h φ I A k kv) : ∀ (l : List (AV × AV)) (es : List MapEntry) (i : Nat) (r : Option (Nat × AV)), relE h φ I A l es → findKV kt k l i = some r →
    ∃ q, (Instr.findAsking t kv es i).run P w = .ok q w ∧ foundV r q (relV h φ I A)
  | [], es, i, r, hE, H => by
    simp only [relE] at hE; subst hE
    simp only [findKV, Option.some.injEq] at H; subst H
    exact ⟨none, rfl, by simp [foundV]⟩
  | (k', v) :: l, es, i, r, hE, H => by
    simp only [relE] at hE
    obtain ⟨e, es', rfl, h1, h2, h3⟩ := hE
    simp only [findKV] at H
    split at H
    · rename_i hq
      injection H with H; subst H
      refine ⟨some (i, e.val), ?_, by simp [foundV, h2]⟩
      unfold Instr.findAsking
      rw [Sem.run_bind]
      rw [show Op.equal t kv e.key = Op.equalIn (9998 + 2) t kv e.key from rfl, eqV_run 9998 hT hk h1 hq]
      simp
    · rename_i hq
      obtain ⟨q, h4, h5⟩ := run_findAsking hT hk l es' (i + 1) r h3 H
      refine ⟨q, ?_, h5⟩
      unfold Instr.findAsking
      rw [Sem.run_bind]
      rw [show Op.equal t kv e.key = Op.equalIn (9998 + 2) t kv e.key from rfl, eqV_run 9998 hT hk h1 hq]
      simpa using h4
    · cases H

theorem run_findNow {t : TypeId} {k0 : EK} {d : TypeDesc} (hu : P.underlying t = some d) (hT : ekOf P t = some k0) {k : AV} {kv : Value} (hk : relV h φ I A k kv) : ∀ (l : List (AV × AV)) (es : List MapEntry) (i : Nat) (r : Option (Nat × AV)), relE h φ I A l es → findKV (.sc k0) k l i = some r →
    ∃ q, Instr.findNow d kv es i = some q ∧ foundV r q (relV h φ I A)
  | [], es, i, r, hE, H => by
    simp only [relE] at hE; subst hE
    simp only [findKV, Option.some.injEq] at H; subst H
    exact ⟨none, rfl, by simp [foundV]⟩
  | (k', v) :: l, es, i, r, hE, H => by
    simp only [relE] at hE
    obtain ⟨e, es', rfl, h1, h2, h3⟩ := hE
    have key : ∀ b, eqV (.sc k0) k k' = some b → Instr.sameNow d kv e.key = some b := by
      intro b hb
      simp only [eqV] at hb
      unfold ekOf at hT
      rw [hu] at hT
      unfold eqS at hb
      split at hb
      · simp only [relV] at hk h1; subst hk; rw [h1]
        injection hb with hb; subst hb
        cases d <;> simp at hT
        rfl
      · obtain ⟨h4, h5⟩ := grd_some hb
        simp only [decide_eq_true_eq] at h4; subst h4
        injection h5 with h5; subst h5
        simp only [relV] at hk h1; subst hk; rw [h1]
        cases d <;> simp at hT
        simp [Instr.sameNow]
      · simp only [relV] at hk h1; subst hk; rw [h1]
        injection hb with hb; subst hb
        cases d <;> simp at hT
        rfl
      · cases hb
    simp only [findKV] at H
    split at H
    · rename_i hq
      injection H with H; subst H
      exact ⟨some (i, e.val), by simp [Instr.findNow, key _ hq], by simp [foundV, h2]⟩
    · rename_i hq
      obtain ⟨q, h4, h5⟩ := run_findNow hu hT hk l es' (i + 1) r h3 H
      exact ⟨q, by simp [Instr.findNow, key _ hq, h4], h5⟩
    · cases H

theorem run_findKey {t : TypeId} {kt : KT} (hT : okKT P t kt = true) {k : AV} {kv : Value} (hk : relV h φ I A k kv) {l : List (AV × AV)} {es : List MapEntry} {r : Option (Nat × AV)} (hE : relE h φ I A l es) (H : findKV kt k l 0 = some r) :
    ∃ q, (Instr.findKey t kv es).run P w = .ok q w ∧ foundV r q (relV h φ I A) := by
  cases kt with
  | sc k0 =>
    simp only [okKT, decide_eq_true_eq] at hT
    have hu : ∃ d, P.underlying t = some d := by
      unfold ekOf at hT
      cases hd : P.underlying t with
      | none => rw [hd] at hT; cases hT
      | some d => exact ⟨d, rfl⟩
    obtain ⟨d, hu⟩ := hu
    obtain ⟨q, h1, h2⟩ := run_findNow hu hT hk l es 0 r hE H
    refine ⟨q, ?_, h2⟩
    unfold Instr.findKey
    rw [Sem.run_bind, run_underlying hu]
    simp only [Result.andThen_ok, h1, Sem.run_pure]
  | ag ks =>
    obtain ⟨q, h1, h2⟩ := run_findAsking (w := w) hT hk l es 0 r hE H
    refine ⟨q, ?_, h2⟩
    simp only [okKT] at hT
    split at hT
    · rename_i fs hu
      unfold Instr.findKey
      rw [Sem.run_bind, run_underlying hu]
      simp only [Result.andThen_ok]
      cases es with
      | nil =>
        cases l with
        | nil => simpa [Instr.findNow, Instr.findAsking] using h1
        | cons p l => obtain ⟨_, _⟩ := p; simp [relE] at hE
      | cons e es =>
        simp only [Instr.findNow, Instr.sameNow]
        exact h1
    · cases hT

theorem y_lookup_map (R : RelH X φ I S w.heap) {t key el : TypeId} {kt : KT} {ok : Bool} {zero : AV} {zv : Value} {k : AV} {v kv : Value} {b : Nat} {l : List (AV × AV)} {r : Option (Nat × AV)} {res : AV} (hu : P.underlying t = some (.map key el)) (hT : okKT P key kt = true)
    (hz : zeroOf P el = some zv) (hok : okC zv zero = true) (hx : relV w.heap φ I S.A (.map b) v) (hk : relV w.heap φ I S.A k kv) (hko : keyOK kt k = true) (hb : get S.heap b = some (.mp l)) (hf : findKV kt k l 0 = some r)
    (hres : res = lkV ok zero r) :
    Yields P (Instr.lookup t v kv ok) w.heap φ I S.A res w := by
  simp only [relV] at hx
  obtain ⟨hA, c, hφ, rfl⟩ := hx
  obtain ⟨_, hB⟩ := R.heap _ _ hb
  simp only [relB] at hB
  obtain ⟨c', es, clk, h1, h2, h3⟩ := hB
  rw [hφ] at h1; injection h1 with h1; injection h1 with h4; subst h4
  obtain ⟨q, h5, h6⟩ := run_findKey (P := P) (w := w) hT hk h3 hf
  have hgo : (getObj c).run P w = .ok (.map es clk) w := by simp [getObj, Sem.run, h2]
  have hrun : (Instr.lookup t (.map (some c)) kv ok).run P w = .ok (match q with | some (_, y) => (if ok then .tuple #[y, .bool true] else y) | none => (if ok then .tuple #[zv, .bool false] else zv)) w := by
    unfold Instr.lookup
    rw [Sem.run_bind, run_underlying hu]
    simp only [Result.andThen_ok, Sem.run_bind, hgo, Sem.run_pure]
    rw [run_checkKey hT hk hko]
    simp only [Result.andThen_ok, h5]
    cases q with
    | none => simp only [Sem.run_bind]; rw [run_zeroOf hz]; simp
    | some p => obtain ⟨i, y⟩ := p; simp
  refine ⟨_, w, hrun, rfl, ?_⟩
  subst hres
  unfold lkV
  unfold foundV at h6
  split at h6
  · cases ok
    · exact okC_rel _ _ hok
    · simp only [relV, relL, if_true]; exact ⟨[zv, .bool false], rfl, zv, [.bool false], rfl, okC_rel _ _ hok, .bool false, [], rfl, rfl, rfl⟩
  · obtain ⟨_, h7⟩ := h6
    cases ok
    · exact h7
    · simp only [relV, relL, if_true]; exact ⟨_, rfl, _, _, rfl, h7, .bool true, [], rfl, rfl, rfl⟩
  · exact h6.elim

theorem y_lookup_nil {t key el : TypeId} {kt : KT} {ok : Bool} {zero : AV} {zv : Value} {k : AV} {v kv : Value} {res : AV} (hu : P.underlying t = some (.map key el)) (hT : okKT P key kt = true)
    (hz : zeroOf P el = some zv) (hok : okC zv zero = true) (hx : relV h φ I A .nilm v) (hk : relV h φ I A k kv) (hko : keyOK kt k = true)
    (hres : res = lkV ok zero none) : Yields P (Instr.lookup t v kv ok) h φ I A res w := by
  simp only [relV] at hx; subst hx
  obtain ⟨q, h5, h6⟩ := run_findKey (P := P) (w := w) (l := []) (es := []) (r := none) hT hk (by simp [relE]) rfl
  have hq : q = none := by cases q with | none => rfl | some p => simp [foundV] at h6
  subst hq
  have hrun : (Instr.lookup t (.map none) kv ok).run P w = .ok (if ok then .tuple #[zv, .bool false] else zv) w := by
    unfold Instr.lookup
    rw [Sem.run_bind, run_underlying hu]
    simp only [Result.andThen_ok, Sem.run_bind, Sem.run_pure]
    rw [run_checkKey hT hk hko]
    simp only [Result.andThen_ok]
    rw [h5]
    simp only [Result.andThen_ok, Sem.run_bind]
    rw [run_zeroOf hz]; simp
  refine ⟨_, w, hrun, rfl, ?_⟩
  subst hres
  unfold lkV
  cases ok
  · exact okC_rel _ _ hok
  · simp only [relV, relL, if_true]; exact ⟨[zv, .bool false], rfl, zv, [.bool false], rfl, okC_rel _ _ hok, .bool false, [], rfl, rfl, rfl⟩
end
end Go.AM
