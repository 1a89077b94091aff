/- A part of a proof about the given program: what its name says. No premise beyond the statements'. -/
import Derived.Test.YteiapnjcelnfdaaFA
import Derived.Tactics
import Derived.Still
set_option linter.unusedSimpArgs false
set_option linter.unusedVariables false
/- Maps and copies: their runs, and what becomes of the state. -/
namespace Go.AM

section
variable {P : Program} {X : Ctx} {φ : Nat → Option (Nat × Nat)} {I : Nat → Prop} {S : AS} {nt : Nat} {a : Act} {w : World} {o : Oper} {dst : Option Nat} {id : Nat} {hard : Bool} {h : Array Obj} {A : Nat → Prop}

theorem run_checkKey_one {t : TypeId} {k : EK} {em : Bool} (n : Nat) (hT : ekOf P t = some k) (v : Value) : (Instr.checkKey em (n + 1) t v).run P w = .ok () w := by
  unfold ekOf at hT
  unfold Instr.checkKey
  rw [Sem.run_bind]
  split at hT <;> simp at hT
  all_goals (rename_i hu; rw [run_underlying hu]; simp only [Result.andThen_ok]; rfl)

theorem run_checkFields {em : Bool} (n : Nat) : ∀ (fs : List Field) (ks : List EK) (o : Nat) (xs : List AV) (vs : List Value), flatFs P fs o ks = true → relL h φ I A xs vs → xs.length = o + ks.length →
    (forIn fs PUnit.unit (fun f _ => if f.name ≠ "_" then do
        let v ← part f.type vs.toArray f.offset
        Instr.checkKey em (n + 1) f.type v
        pure (ForInStep.yield PUnit.unit)
      else pure (ForInStep.yield PUnit.unit) : Field → PUnit → Sem (ForInStep PUnit))).run P w = .ok PUnit.unit w
  | [], _, _, _, _, _, _, _ => by simp
  | f :: fs, ks, o, xs, vs, hf, hx, hl => by
    cases ks with
    | nil => simp [flatFs] at hf
    | cons k ks =>
      simp only [flatFs, Bool.and_eq_true, decide_eq_true_eq] at hf
      obtain ⟨h1, h2, h3, h4⟩ := hf
      have hlt : o < xs.length := by simp at hl; omega
      obtain ⟨v, h5, h6⟩ := relL_get hx (List.getElem?_eq_getElem hlt)
      have h7 := run_checkFields (em := em) n fs ks (o + 1) xs vs h4 hx (by simp at hl; omega)
      simp only [List.forIn_cons, Sem.run_bind]
      rw [if_pos (by simpa using h2)]
      simp only [Sem.run_bind, h1]
      rw [run_part_one h3 (by simpa using h5)]
      simp only [Result.andThen_ok]
      rw [run_checkKey_one n h3]
      simp only [Result.andThen_ok, Sem.run_pure]
      exact h7

theorem eqL_length : ∀ {ks : List EK} {x y : List AV} {r : Bool}, eqL ks x y = some r → r = true → x.length = ks.length ∧ y.length = ks.length
  | ks, x, y, r, H, hr => by
    subst hr
    unfold eqL at H
    split at H
    · simp
    · split at H
      · obtain ⟨h1, h2⟩ := eqL_length H rfl
        simp [h1, h2]
      · cases H
      · cases H
    · cases H

theorem run_checkKey {t : TypeId} {kt : KT} {em : Bool} (hT : okKT P t kt = true) {x : AV} {v : Value} (hx : relV h φ I A x v) (hk : keyOK kt x = true) : (Instr.checkKey em 10000 t v).run P w = .ok () w := by
  cases kt with
  | sc k => exact run_checkKey_one 9999 (by simpa [okKT] using hT) v
  | ag ks =>
    cases x <;> simp only [keyOK, Bool.false_eq_true] at hk
    rename_i cs
    simp only [decide_eq_true_eq] at hk
    simp only [relV] at hx
    obtain ⟨vs, rfl, hL⟩ := hx
    simp only [okKT] at hT
    split at hT
    · rename_i fs hu
      simp only [Bool.and_eq_true] at hT
      have := run_checkFields (w := w) (em := em) 9998 fs.toList ks 0 cs vs hT.1 hL (by omega)
      unfold Instr.checkKey
      rw [Sem.run_bind, run_underlying hu]
      simp only [Result.andThen_ok]
      rw [← Array.forIn_toList, Sem.run_bind, this]
      rfl
    · cases hT

/-- What the machine finds of a key. -/
def foundV (r : Option (Nat × AV)) (q : Option (Nat × Value)) (R : AV → Value → Prop) : Prop := match r, q with
  | none, none => True
  | some (i, x), some (j, v) => i = j ∧ R x v
  | _, _ => False

theorem run_findAsking {t : TypeId} {kt : KT} (hT : okKT P t kt = true) {k : AV} {kv : Value} (hk : relV h φ I A k kv) : ∀ (l : List (AV × AV)) (es : List MapEntry) (i : Nat) (r : Option (Nat × AV)), relE h φ I A l es → findKV kt k l i = some r →
    ∃ q, (Instr.findAsking t kv es i).run P w = .ok q w ∧ foundV r q (relV h φ I A)
  | [], es, i, r, hE, H => by
    simp only [relE] at hE; subst hE
    simp only [findKV, Option.some.injEq] at H; subst H
    exact ⟨none, rfl, by simp [foundV]⟩
  | (k', v) :: l, es, i, r, hE, H => by
    simp only [relE] at hE
    obtain ⟨e, es', rfl, h1, h2, h3⟩ := hE
    simp only [findKV] at H
    split at H
    · rename_i hq
      injection H with H; subst H
      refine ⟨some (i, e.val), ?_, by simp [foundV, h2]⟩
      unfold Instr.findAsking
      rw [Sem.run_bind]
      rw [show Op.equal t kv e.key = Op.equalIn (9998 + 2) t kv e.key from rfl, eqV_run 9998 hT hk h1 hq]
      simp
    · rename_i hq
      obtain ⟨q, h4, h5⟩ := run_findAsking hT hk l es' (i + 1) r h3 H
      refine ⟨q, ?_, h5⟩
      unfold Instr.findAsking
      rw [Sem.run_bind]
      rw [show Op.equal t kv e.key = Op.equalIn (9998 + 2) t kv e.key from rfl, eqV_run 9998 hT hk h1 hq]
      simpa using h4
    · cases H

theorem run_findNow {t : TypeId} {k0 : EK} {d : TypeDesc} (hu : P.underlying t = some d) (hT : ekOf P t = some k0) {k : AV} {kv : Value} (hk : relV h φ I A k kv) : ∀ (l : List (AV × AV)) (es : List MapEntry) (i : Nat) (r : Option (Nat × AV)), relE h φ I A l es → findKV (.sc k0) k l i = some r →
    ∃ q, Instr.findNow d kv es i = some q ∧ foundV r q (relV h φ I A)
  | [], es, i, r, hE, H => by
    simp only [relE] at hE; subst hE
    simp only [findKV, Option.some.injEq] at H; subst H
    exact ⟨none, rfl, by simp [foundV]⟩
  | (k', v) :: l, es, i, r, hE, H => by
    simp only [relE] at hE
    obtain ⟨e, es', rfl, h1, h2, h3⟩ := hE
    have key : ∀ b, eqV (.sc k0) k k' = some b → Instr.sameNow d kv e.key = some b := by
      intro b hb
      simp only [eqV] at hb
      unfold ekOf at hT
      rw [hu] at hT
      unfold eqS at hb
      split at hb
      · simp only [relV] at hk h1; subst hk; rw [h1]
        injection hb with hb; subst hb
        cases d <;> simp at hT
        rfl
      · obtain ⟨h4, h5⟩ := grd_some hb
        simp only [decide_eq_true_eq] at h4; subst h4
        injection h5 with h5; subst h5
        simp only [relV] at hk h1; subst hk; rw [h1]
        cases d <;> simp at hT
        simp [Instr.sameNow]
      · simp only [relV] at hk h1; subst hk; rw [h1]
        injection hb with hb; subst hb
        cases d <;> simp at hT
        rfl
      · cases hb
    simp only [findKV] at H
    split at H
    · rename_i hq
      injection H with H; subst H
      exact ⟨some (i, e.val), by simp [Instr.findNow, key _ hq], by simp [foundV, h2]⟩
    · rename_i hq
      obtain ⟨q, h4, h5⟩ := run_findNow hu hT hk l es' (i + 1) r h3 H
      exact ⟨q, by simp [Instr.findNow, key _ hq, h4], h5⟩
    · cases H

theorem run_findKey {t : TypeId} {kt : KT} (hT : okKT P t kt = true) {k : AV} {kv : Value} (hk : relV h φ I A k kv) {l : List (AV × AV)} {es : List MapEntry} {r : Option (Nat × AV)} (hE : relE h φ I A l es) (H : findKV kt k l 0 = some r) :
    ∃ q, (Instr.findKey t kv es).run P w = .ok q w ∧ foundV r q (relV h φ I A) := by
  cases kt with
  | sc k0 =>
    simp only [okKT, decide_eq_true_eq] at hT
    have hu : ∃ d, P.underlying t = some d := by
      unfold ekOf at hT
      cases hd : P.underlying t with
      | none => rw [hd] at hT; cases hT
      | some d => exact ⟨d, rfl⟩
    obtain ⟨d, hu⟩ := hu
    obtain ⟨q, h1, h2⟩ := run_findNow hu hT hk l es 0 r hE H
    refine ⟨q, ?_, h2⟩
    unfold Instr.findKey
    rw [Sem.run_bind, run_underlying hu]
    simp only [Result.andThen_ok, h1, Sem.run_pure]
  | ag ks =>
    obtain ⟨q, h1, h2⟩ := run_findAsking (w := w) hT hk l es 0 r hE H
    refine ⟨q, ?_, h2⟩
    simp only [okKT] at hT
    split at hT
    · rename_i fs hu
      unfold Instr.findKey
      rw [Sem.run_bind, run_underlying hu]
      simp only [Result.andThen_ok]
      cases es with
      | nil =>
        cases l with
        | nil => simpa [Instr.findNow, Instr.findAsking] using h1
        | cons p l => obtain ⟨_, _⟩ := p; simp [relE] at hE
      | cons e es =>
        simp only [Instr.findNow, Instr.sameNow]
        exact h1
    · cases hT

theorem y_lookup_map (R : RelH X φ I S w.heap) {t key el : TypeId} {kt : KT} {ok : Bool} {zero : AV} {zv : Value} {k : AV} {v kv : Value} {b : Nat} {l : List (AV × AV)} {r : Option (Nat × AV)} {res : AV} (hu : P.underlying t = some (.map key el)) (hT : okKT P key kt = true)
    (hz : zeroOf P el = some zv) (hok : okC zv zero = true) (hx : relV w.heap φ I S.A (.map b) v) (hk : relV w.heap φ I S.A k kv) (hko : keyOK kt k = true) (hb : get S.heap b = some (.mp l)) (hf : findKV kt k l 0 = some r)
    (hres : res = lkV ok zero r) :
    Yields P (Instr.lookup t v kv ok) w.heap φ I S.A res w := by
  simp only [relV] at hx
  obtain ⟨hA, c, hφ, rfl⟩ := hx
  obtain ⟨_, hB⟩ := R.heap _ _ hb
  simp only [relB] at hB
  obtain ⟨c', es, clk, h1, h2, h3⟩ := hB
  rw [hφ] at h1; injection h1 with h1; injection h1 with h4; subst h4
  obtain ⟨q, h5, h6⟩ := run_findKey (P := P) (w := w) hT hk h3 hf
  have hgo : (getObj c).run P w = .ok (.map es clk) w := by simp [getObj, Sem.run, h2]
  have hrun : (Instr.lookup t (.map (some c)) kv ok).run P w = .ok (match q with | some (_, y) => (if ok then .tuple #[y, .bool true] else y) | none => (if ok then .tuple #[zv, .bool false] else zv)) w := by
    unfold Instr.lookup
    rw [Sem.run_bind, run_underlying hu]
    simp only [Result.andThen_ok, Sem.run_bind, hgo, Sem.run_pure]
    rw [run_checkKey hT hk hko]
    simp only [Result.andThen_ok, h5]
    cases q with
    | none => simp only [Sem.run_bind]; rw [run_zeroOf hz]; simp
    | some p => obtain ⟨i, y⟩ := p; simp
  refine ⟨_, w, hrun, rfl, ?_⟩
  subst hres
  unfold lkV
  unfold foundV at h6
  split at h6
  · cases ok
    · exact okC_rel _ _ hok
    · simp only [relV, relL, if_true]; exact ⟨[zv, .bool false], rfl, zv, [.bool false], rfl, okC_rel _ _ hok, .bool false, [], rfl, rfl, rfl⟩
  · obtain ⟨_, h7⟩ := h6
    cases ok
    · exact h7
    · simp only [relV, relL, if_true]; exact ⟨_, rfl, _, _, rfl, h7, .bool true, [], rfl, rfl, rfl⟩
  · exact h6.elim

theorem y_lookup_nil {t key el : TypeId} {kt : KT} {ok : Bool} {zero : AV} {zv : Value} {k : AV} {v kv : Value} {res : AV} (hu : P.underlying t = some (.map key el)) (hT : okKT P key kt = true)
    (hz : zeroOf P el = some zv) (hok : okC zv zero = true) (hx : relV h φ I A .nilm v) (hk : relV h φ I A k kv) (hko : keyOK kt k = true)
    (hres : res = lkV ok zero none) : Yields P (Instr.lookup t v kv ok) h φ I A res w := by
  simp only [relV] at hx; subst hx
  obtain ⟨q, h5, h6⟩ := run_findKey (P := P) (w := w) (l := []) (es := []) (r := none) hT hk (by simp [relE]) rfl
  have hq : q = none := by cases q with | none => rfl | some p => simp [foundV] at h6
  subst hq
  have hrun : (Instr.lookup t (.map none) kv ok).run P w = .ok (if ok then .tuple #[zv, .bool false] else zv) w := by
    unfold Instr.lookup
    rw [Sem.run_bind, run_underlying hu]
    simp only [Result.andThen_ok, Sem.run_bind, Sem.run_pure]
    rw [run_checkKey hT hk hko]
    simp only [Result.andThen_ok]
    rw [h5]
    simp only [Result.andThen_ok, Sem.run_bind]
    rw [run_zeroOf hz]; simp
  refine ⟨_, w, hrun, rfl, ?_⟩
  subst hres
  unfold lkV
  cases ok
  · exact okC_rel _ _ hok
  · simp only [relV, relL, if_true]; exact ⟨[zv, .bool false], rfl, zv, [.bool false], rfl, okC_rel _ _ hok, .bool false, [], rfl, rfl, rfl⟩
end
end Go.AM

/- Writing into maps, and copies. -/
namespace Go.AM

section
variable {P : Program} {X : Ctx} {φ : Nat → Option (Nat × Nat)} {I : Nat → Prop} {S : AS} {nt : Nat} {a : Act} {w : World} {o : Oper} {dst : Option Nat} {id : Nat} {hard : Bool} {h : Array Obj} {A : Nat → Prop}

theorem sameBits_eqS {k : EK} {x y : AV} {a b : Value} (n : Nat) (H : eqS k x y = some true) (hx : relV h φ I A x a) (hy : relV h φ I A y b) : Instr.sameBits n a b = true := by
  unfold eqS at H
  split at H
  · simp only [relV] at hx hy; subst hx hy
    injection H with H
    cases n <;> simpa [Instr.sameBits] using H
  · obtain ⟨h1, h2⟩ := grd_some H
    simp only [decide_eq_true_eq] at h1; subst h1
    injection h2 with h2
    simp only [relV] at hx hy; subst hx hy
    cases n <;> simpa [Instr.sameBits] using h2
  · simp only [relV] at hx hy; subst hx hy
    injection H with H
    cases n <;> simpa [Instr.sameBits] using H
  · cases H

theorem sameBits_eqL : ∀ {ks : List EK} {x y : List AV} {a b : List Value} (n : Nat), eqL ks x y = some true → relL h φ I A x a → relL h φ I A y b → a.length = b.length ∧ (a.zip b).all (fun p => Instr.sameBits n p.1 p.2) = true
  | [], [], [], a, b, n, H, hx, hy => by simp only [relL] at hx hy; subst hx hy; simp
  | [], _ :: _, _, a, b, n, H, hx, hy => by simp [eqL] at H
  | [], [], _ :: _, a, b, n, H, hx, hy => by simp [eqL] at H
  | k :: ks, [], [], a, b, n, H, hx, hy => by simp [eqL] at H
  | k :: ks, [], _ :: _, a, b, n, H, hx, hy => by simp [eqL] at H
  | k :: ks, _ :: _, [], a, b, n, H, hx, hy => by simp [eqL] at H
  | k :: ks, u :: x, v :: y, a, b, n, H, hx, hy => by
    simp only [eqL] at H
    simp only [relL] at hx hy
    obtain ⟨a0, a', rfl, h2, h3⟩ := hx
    obtain ⟨b0, b', rfl, h4, h5⟩ := hy
    split at H
    · rename_i hq
      obtain ⟨h6, h7⟩ := sameBits_eqL n H h3 h5
      refine ⟨by simp [h6], ?_⟩
      simp only [List.zip_cons_cons, List.all_cons, Bool.and_eq_true]
      exact ⟨sameBits_eqS n hq h2 h4, h7⟩
    · cases H
    · cases H

theorem sameBits_eqV {kt : KT} {x y : AV} {a b : Value} (H : eqV kt x y = some true) (hx : relV h φ I A x a) (hy : relV h φ I A y b) : Instr.sameBits 10000 a b = true := by
  unfold eqV at H
  split at H
  · simp only [relV] at hx hy
    obtain ⟨vs, rfl, h1⟩ := hx
    obtain ⟨us, rfl, h2⟩ := hy
    obtain ⟨h3, h4⟩ := sameBits_eqL 9999 H h1 h2
    simp only [Instr.sameBits, Bool.and_eq_true]
    exact ⟨by simp [h3], by simpa using h4⟩
  · exact sameBits_eqS _ H hx hy
  · cases H

theorem eqS_symm {k : EK} {x y : AV} {r : Bool} (H : eqS k x y = some r) : eqS k y x = some r := by
  unfold eqS at H
  split at H
  · injection H with H; subst H; simp only [eqS]; rw [Bool.beq_comm]
  · obtain ⟨h1, h2⟩ := grd_some H
    simp only [decide_eq_true_eq] at h1; subst h1
    injection h2 with h2; subst h2
    simp only [eqS, decide_true, grd]; rw [BEq.comm]
  · injection H with H; subst H; simp only [eqS]
    rename_i a b
    congr 1
    rw [Bool.eq_iff_iff, beq_toListBytes, beq_toListBytes]; simp; exact ⟨Eq.symm, Eq.symm⟩
  · cases H

theorem eqL_symm : ∀ {ks : List EK} {x y : List AV} {r : Bool}, eqL ks x y = some r → eqL ks y x = some r
  | [], x, y, r, H => by
    cases x <;> cases y <;> simp only [eqL] at H ⊢ <;> first | exact H | (cases H)
  | k :: ks, [], [], r, H => by simp [eqL] at H
  | k :: ks, [], _ :: _, r, H => by simp [eqL] at H
  | k :: ks, _ :: _, [], r, H => by simp [eqL] at H
  | k :: ks, u :: x, v :: y, r, H => by
    simp only [eqL] at H ⊢
    cases hq : eqS k u v with
    | none => rw [hq] at H; cases H
    | some b =>
      rw [hq] at H
      rw [eqS_symm hq]
      cases b
      · exact H
      · exact eqL_symm H

theorem eqV_symm {kt : KT} {x y : AV} {r : Bool} (H : eqV kt x y = some r) : eqV kt y x = some r := by
  unfold eqV at H
  split at H
  · exact eqL_symm H
  · exact eqS_symm H
  · cases H

/-- The entry that a key is found at. -/
theorem findKV_at {kt : KT} {k : AV} : ∀ {l : List (AV × AV)} {es : List MapEntry} {i j : Nat} {y : AV}, relE h φ I A l es → findKV kt k l i = some (some (j, y)) → ∃ m e k', j = i + m ∧ es[m]? = some e ∧ l[m]? = some (k', y) ∧ relV h φ I A k' e.key ∧ eqV kt k k' = some true
  | [], es, i, j, y, hE, H => by simp [findKV] at H
  | (k', v) :: l, es, i, j, y, hE, H => by
    simp only [relE] at hE
    obtain ⟨e, es', rfl, h1, h2, h3⟩ := hE
    simp only [findKV] at H
    split at H
    · rename_i hq
      injection H with H; injection H with H; injection H with H1 H2; subst H1 H2
      exact ⟨0, e, k', by simp, by simp, by simp, h1, hq⟩
    · obtain ⟨m, e', k'', h4, h5, h6, h7, h8⟩ := findKV_at h3 H
      exact ⟨m + 1, e', k'', by omega, by simpa using h5, by simpa using h6, h7, h8⟩
    · cases H

theorem relE_modify {k : AV} {kv : Value} (hk : relV h φ I A k kv) {y : AV} {v : Value} (hv : relV h φ I A y v) : ∀ {l : List (AV × AV)} {es : List MapEntry} (i : Nat), relE h φ I A l es →
    relE h φ I A (l.modify i fun _ => (k, y)) (es.modify i fun e => { e with key := kv, val := v })
  | [], es, i, hE => by simp only [relE] at hE; subst hE; simp [relE]
  | (k', v') :: l, es, i, hE => by
    simp only [relE] at hE
    obtain ⟨e, es', rfl, h1, h2, h3⟩ := hE
    cases i with
    | zero => simp only [List.modify_zero_cons, relE]; exact ⟨_, _, rfl, hk, hv, h3⟩
    | succ i => simp only [List.modify_succ_cons, relE]; exact ⟨_, _, rfl, h1, h2, relE_modify hk hv i h3⟩

theorem relE_push {k y : AV} {e : MapEntry} (hk : relV h φ I A k e.key) (hv : relV h φ I A y e.val) : ∀ {l : List (AV × AV)} {es : List MapEntry}, relE h φ I A l es → relE h φ I A (l ++ [(k, y)]) (es ++ [e])
  | [], es, hE => by simp only [relE] at hE; subst hE; simp only [List.nil_append, relE]; exact ⟨e, [], rfl, hk, hv, rfl⟩
  | (k', v') :: l, es, hE => by
    simp only [relE] at hE
    obtain ⟨e', es', rfl, h1, h2, h3⟩ := hE
    simp only [List.cons_append, relE]
    exact ⟨e', _, rfl, h1, h2, relE_push hk hv h3⟩

theorem stepOK_mapupd (R : RelH X φ I S w.heap) (RA : RelA φ I S nt a w.heap) (hd : ∀ d, dst = some d → d < nt) (hdead : ∀ b', get S.dead b' = none) {t key el : TypeId} {kt : KT} {om ok ov : Operand} {k y : AV} {b : Nat} {l : List (AV × AV)} {r : Option (Nat × AV)}
    (ho : execOp a.eval o = (do Instr.mapUpdate t (a.eval om) (a.eval ok) (a.eval ov); pure .skip)) (hu : P.underlying t = some (.map key el)) (hT : okKT P key kt = true)
    (hm : relV w.heap φ I S.A (.map b) (a.eval om)) (hk : relV w.heap φ I S.A k (a.eval ok)) (hko : keyOK kt k = true) (hv : relV w.heap φ I S.A y (a.eval ov)) (hb : get S.heap b = some (.mp l)) (hf : findKV kt k l 0 = some r) :
    StepOK P X S nt a w o dst id hard { val := .any, upd := some (b, .mp (updE r l k y)) } := by
  simp only [relV] at hm
  obtain ⟨hA, c, hφ, he⟩ := hm
  obtain ⟨_, hB⟩ := R.heap _ _ hb
  simp only [relB] at hB
  obtain ⟨c', es, clk, h1, h2, h3⟩ := hB
  rw [hφ] at h1; injection h1 with h1; injection h1 with h4; subst h4
  obtain ⟨q, h5, h6⟩ := run_findKey (P := P) (w := w) hT hk h3 hf
  have hgo : (getObj c).run P w = .ok (.map es clk) w := by simp [getObj, Sem.run, h2]
  have hcs : c < w.heap.size := (R.live _ _ _ _ hb hφ).1
  let es' : Array MapEntry := match q with
    | some (i, _) => es.modify i fun e => { e with key := a.eval ok, val := a.eval ov }
    | none => es.push { key := a.eval ok, val := a.eval ov, born := clk }
  let clk' : Nat := match q with
    | some _ => clk
    | none => clk + 1
  let h' : Array Obj := w.heap.setIfInBounds c (.map es' clk')
  have hset : ∀ ob, (setObj c ob).run P w = .ok () { w with heap := w.heap.setIfInBounds c ob } := fun ob => by simp [setObj, Sem.run, h2]
  have hrun : (Instr.mapUpdate t (.map (some c)) (a.eval ok) (a.eval ov)).run P w = .ok () { w with heap := h' } := by
    unfold Instr.mapUpdate
    rw [Sem.run_bind, run_underlying hu]
    simp only [Result.andThen_ok, Sem.run_bind, hgo]
    rw [run_checkKey hT hk hko]
    simp only [Result.andThen_ok, h5]
    cases q with
    | none => simp only [hset]; rfl
    | some p =>
      obtain ⟨i, v⟩ := p
      cases r with
      | none => simp [foundV] at h6
      | some rr =>
        obtain ⟨i', y'⟩ := rr
        simp only [foundV] at h6
        obtain ⟨h7, _⟩ := h6; subst h7
        obtain ⟨m, e, k', h8, h9, h10, h11, h12⟩ := findKV_at h3 hf
        simp only [Nat.zero_add] at h8; subst h8
        have h13 : Instr.sameBits 10000 e.key (a.eval ok) = true := sameBits_eqV (eqV_symm h12) h11 hk
        have h14 : (es[i']?.map (·.key)).getD (a.eval ok) = e.key := by
          rw [← Array.getElem?_toList, h9]; rfl
        simp only [Sem.run_bind, Instr.keyThatStays, h14, h13, if_true, Sem.run_pure, Result.andThen_ok, hset]
        rfl
  obtain ⟨R', E⟩ := R.wrote (blk' := .mp (updE r l k y)) (h' := h') (putV dst .any S.vars) hb hφ hdead (by simp [h']) (fun c' h7 => by simp only [h']; rw [Array.getElem?_setIfInBounds]; rw [if_neg (Ne.symm h7)])
    (fun c' s h7 => by
      by_cases h8 : c' = c
      · subst h8; simp [hsize, h2] at h7
      · simp only [h', hsize]; rw [Array.getElem?_setIfInBounds, if_neg (Ne.symm h8)]; exact h7)
    (fun E => by
      simp only [relB]
      refine ⟨c, es', clk', hφ, by simp [h', hcs], ?_⟩
      have hE := relE_mono E _ _ h3
      have hk' := relV_mono E _ _ hk
      have hv' := relV_mono E _ _ hv
      unfold foundV at h6
      unfold updE
      split at h6
      · simp only [es', Array.toList_push]
        exact relE_push hk' hv' hE
      · obtain ⟨h7, _⟩ := h6; subst h7
        simp only [es', Array.toList_modify]
        exact relE_modify hk' hv' _ hE
      · exact h6.elim)
  refine ⟨φ, I, undef, { w with heap := h' }, .inr ⟨?_, rfl⟩, R', RA.app (e := { val := .any, upd := some (b, .mp (updE r l k y)) }) E hd (by simp [relV]), ⟨rfl, rfl, rfl⟩⟩
  rw [ho, he, Sem.run_bind, hrun]; rfl
end
end Go.AM

/- The operation that an abstract one stands for, and that its effect is sound. -/
namespace Go.AM

def placeS (P : Program) (fs : Array Field) (i : Nat) : Option (Nat × Nat) := match fs[i]? with
  | some f => match szOf P f.type with
    | some n => some (f.offset, n)
    | none => none
  | none => none

def okPartsI : List (Nat × Operand) → List (Nat × LArg) → Bool
  | [], [] => true
  | (i, x) :: l, (j, y) :: m => decide (i = j) && (okArg x y && okPartsI l m)
  | _, _ => false

def okZero (P : Program) (t : TypeId) (zero : List AV) : Bool := match zeroOf P t with
  | some zv => okCs zv.cells.toList zero && zero.all AV.scalar
  | none => false

def okSl (P : Program) (t : TypeId) (sz : Nat) : Option TypeId := match P.underlying t with
  | some (.slice el) => if szOf P el = some sz ∧ sz ≠ 0 then some el else none
  | _ => none

def okPart (P : Program) (t : TypeId) (ag : Bool) (n : Nat) : Bool := match P.underlying t with
  | some _ => decide (ag = aggT P t) && (!ag || decide (szOf P t = some n))
  | none => false

def okOp (P : Program) (op : Op) (l : LOp) : Bool :=
  match op, l with
  | .move x, .mv y => okArg x y
  | .assign x, .mv y => okArg x y
  | .move (.const (.slice none n c)), .own _ => decide (n = 0) && decide (c = 0)
  | .assign (.const (.slice none n c)), .own _ => decide (n = 0) && decide (c = 0)
  | .pick c x y, .pick c' x' y' => okArg c c' && (okArg x x' && okArg y y')
  | .alloc t, .newv zero => okZero P t zero
  | .box _ x, .box _ y => okArg x y
  | .build t ps, .build zero qs => okZero P t zero && (match P.underlying t with
    | some (.struct fs) => okParts P (placeS P fs) ps.toList qs && fs.toList.all fun f => (szOf P f.type).isSome
    | some (.array _ el) => match szOf P el with
      | some sz => okParts P (fun i => some (i * sz, sz)) ps.toList qs
      | none => false
    | _ => false)
  | .buildSlice t len ps, .bsl sz n zero qs => match okSl P t sz with
    | some el => decide (n = len) && (okZero P el zero && (decide (zero.length = sz) && (decide (len * sz ≤ 2 ^ 24) && okPartsI ps.toList qs)))
    | none => false
  | .buildSlice t len ps, .btsl sz n zero qs => match okSl P t sz with
    | some el => decide (n = len) && (okZero P el zero && (decide (zero.length = sz) && (decide (len * sz ≤ 2 ^ 24) && okPartsI ps.toList qs)))
    | none => false
  | .load t x, .load ag n y => okPart P t ag n && okArg x y
  | .store t x y, .store n x' y' => decide (szOf P t = some n) && (decide (n ≠ 0) && (okArg x x' && okArg y y'))
  | .binOp op _ x y _, .bin op' x' y' => decide (op = op') && (okArg x x' && okArg y y')
  | .binOp op t x y _, .eq ng kt x' y' => decide (op = eqOp ng) && (okKT P t kt && (okArg x x' && okArg y y'))
  | .unOp .not _ x, .not y => okArg x y
  | .unOp .neg _ x, .neg y => okArg x y
  | .convert src dst x, .conv k y => (P.underlying src).isSome && ((match P.underlying dst with | some (.int k') => decide (k = k') | _ => false) && okArg x y)
  | .makeFunc (.func f) fs cs, .mkfn f' fs' cs' => decide (f = f') && (okArgs fs.toList fs' && okArgs cs.toList cs')
  | .makeMap _ none, .mkmap => true
  | .makeSlice t l c, .mksl sz zero bytes l' c' => match okSl P t sz with
    | some el => okZero P el zero && (decide (zero.length = sz) && (decide ((P.info? el).map (·.bytes) = some bytes) && (decide (bytes ≠ 0) && (okArg l l' && okArg c c'))))
    | none => false
  | .slice t x lo hi mx, .slice sz x' lo' hi' mx' => (okSl P t sz).isSome && (okArg x x' && (okOpt lo lo' && (okOpt hi hi' && (okOpt mx mx' && (!mx.isSome || hi.isSome)))))
  | .slice t x lo hi none, .substr x' lo' hi' => (match P.underlying t with | some .string => true | _ => false) && (okArg x x' && (okOpt lo lo' && okOpt hi hi'))
  | .fieldAddr t x i, .fadr off y => fieldOK P t i off && okArg x y
  | .indexAddr t x i, .idxa sz x' i' => (okSl P t sz).isSome && (okArg x x' && okArg i i')
  | .indexAddr t x i, .idxp esz len x' i' => (match P.underlying t with | some (.array n el) => decide (n = len) && decide (szOf P el = some esz) | _ => false) && (okArg x x' && okArg i i')
  | .index t x i, .idxs x' i' => (match P.underlying t with | some .string => true | _ => false) && (okArg x x' && okArg i i')
  | .index t x i, .idxc ag esz len x' i' => (match P.underlying t with | some (.array n el) => decide (n = len) && (decide (szOf P el = some esz) && okPart P el ag esz) | _ => false) && (okArg x x' && okArg i i')
  | .field t x i, .field ag off n x' => (match P.underlying t with | some (.struct fs) => (match fs[i]? with | some f => decide (f.offset = off) && okPart P f.type ag n | none => false) | _ => false) && okArg x x'
  | .lookup t x k ok, .lookup ok' kt zero x' k' => decide (ok = ok') && ((match P.underlying t with | some (.map key el) => okKT P key kt && (match zeroOf P el with | some zv => okC zv zero | none => false) | _ => false) && (okArg x x' && okArg k k'))
  | .mapUpdate t m k x, .mapupd kt m' k' x' => (match P.underlying t with | some (.map key _) => okKT P key kt | _ => false) && (okArg m m' && (okArg k k' && okArg x x'))
  | .insert t m k x, .mapupd kt m' k' x' => (match P.underlying t with | some (.map key _) => okKT P key kt | _ => false) && (okArg m m' && (okArg k k' && okArg x x'))
  | .nilCheck x, .nilck y => okArg x y
  | .extract x i, .extract y j => decide (i = j) && okArg x y
  | .call { callee := .builtin .len, args := ⟨[x]⟩, argTypes := ⟨[t]⟩ }, .len k y => (match k, P.underlying t with | .str, some .string => true | .sli, some (.slice _) => true | .mp, some (.map _ _) => true | _, _ => false) && okArg x y
  | .call { callee := .builtin .len, args := ⟨[_]⟩, argTypes := ⟨[t]⟩ }, .lenc n => (match P.underlying t with | some (.array m _) => decide (m = n) | _ => false)
  | .call { callee := .builtin .append, args := ⟨[x, y]⟩, argTypes := ⟨[t1, t2]⟩ }, .append sz bytes x' y' => match okSl P t1 sz with
    | some el => (match P.underlying t2 with | some (.slice _) => true | some .string => true | _ => false) && ((match zeroOf P el with | some zv => decide (zv.cells.size = sz) | none => false) && (decide ((P.info? el).map (·.bytes) = some bytes) && (decide (bytes ≠ 0) && (decide (bytes ≤ 1048576) && (okArg x x' && okArg y y')))))
    | none => false
  | .call { callee := .builtin .max, args := xs, argTypes := _ }, .maxs ys => okArgs xs.toList ys
  | .call { callee := .builtin .min, args := xs, argTypes := _ }, .mins ys => okArgs xs.toList ys
  | _, _ => false

section
variable {P : Program} {X : Ctx} {φ : Nat → Option (Nat × Nat)} {I : Nat → Prop} {S : AS} {nt : Nat} {a : Act} {w : World} {o : Oper} {dst : Option Nat} {id : Nat} {hard : Bool}

theorem okSl_spec {t el : TypeId} {sz : Nat} (H : okSl P t sz = some el) : P.underlying t = some (.slice el) ∧ szOf P el = some sz ∧ sz ≠ 0 := by
  unfold okSl at H
  split at H
  · split at H
    · rename_i h1 h2; injection H with H; subst H; exact ⟨h1, h2.1, h2.2⟩
    · cases H
  · cases H

theorem okZero_spec {t : TypeId} {zero : List AV} (H : okZero P t zero = true) : ∃ zv, zeroOf P t = some zv ∧ okCs zv.cells.toList zero = true ∧ zero.all AV.scalar = true := by
  unfold okZero at H
  split at H
  · rename_i zv h1; simp only [Bool.and_eq_true] at H; exact ⟨zv, h1, H.1, H.2⟩
  · cases H

theorem okPart_spec {t : TypeId} {ag : Bool} {n : Nat} (H : okPart P t ag n = true) : ∃ u, P.underlying t = some u ∧ ag = aggT P t ∧ (ag = true → szOf P t = some n) := by
  unfold okPart at H
  split at H
  · rename_i u h1; simp only [Bool.and_eq_true, Bool.or_eq_true, Bool.not_eq_true', decide_eq_true_eq] at H
    exact ⟨u, h1, H.1, fun h2 => H.2.resolve_left (by rw [h2]; simp)⟩
  · cases H

theorem okZero_size {zero : List AV} {zv : Value} {sz : Nat} (hok : okCs zv.cells.toList zero = true) (hl : zero.length = sz) : zv.cells.size = sz := by
  have := relL_length (okCs_rel (h := #[]) (φ := fun _ => none) (I := fun _ => False) (A := fun _ => False) _ _ hok)
  simp only [Array.length_toList] at this; omega

theorem partsI_rel (RA : RelA φ I S nt a w.heap) (sz : Nat) : ∀ {ps : List (Nat × Operand)} {qs : List (Nat × LArg)}, okPartsI ps qs = true →
    relP w.heap φ I S.A (fun i => some (i * sz, sz)) (ps.map fun p => (p.1, a.eval p.2)) (qs.map fun q => (q.1 * sz, sz, q.2.ev S.vars))
  | [], [], _ => by simp [relP]
  | (i, x) :: ps, (j, y) :: qs, H => by
    simp only [okPartsI, Bool.and_eq_true, decide_eq_true_eq] at H
    obtain ⟨h1, h2, h3⟩ := H; subst h1
    simp only [List.map_cons, relP]
    exact ⟨⟨trivial, ev_rel RA h2⟩, partsI_rel RA sz h3⟩
  | [], _ :: _, H => by simp [okPartsI] at H
  | _ :: _, [], H => by simp [okPartsI] at H

theorem run_places : ∀ (fs : List Field), (fs.all fun f => (szOf P f.type).isSome) = true → ∃ pl : List (Nat × Nat), (fs.mapM fun f => do pure (f.offset, ← sizeOf f.type) : Sem (List (Nat × Nat))).run P w = .ok pl w ∧ ∀ i, pl[i]? = placeS P fs.toArray i
  | [], _ => ⟨[], by simp, by simp [placeS]⟩
  | f :: fs, H => by
    simp only [List.all_cons, Bool.and_eq_true] at H
    obtain ⟨pl, h1, h2⟩ := run_places fs H.2
    obtain ⟨n, hn⟩ := Option.isSome_iff_exists.1 H.1
    refine ⟨(f.offset, n) :: pl, ?_, fun i => ?_⟩
    · simp only [List.mapM_cons, Sem.run_bind]
      rw [run_szOf hn]
      simp only [Result.andThen_ok, Sem.run_pure, h1]
    · cases i with
      | zero => simp [placeS, hn]
      | succ i => simpa [placeS] using h2 i

theorem opt_rel (RA : RelA φ I S nt a w.heap) {x : Option Operand} {y : Option LArg} (H : okOpt x y = true) :
    match y.map (·.ev S.vars), x.map a.eval with | none, none => True | some u, some v => relV w.heap φ I S.A u v | _, _ => False := by
  cases x <;> cases y <;> simp only [okOpt, Bool.false_eq_true] at H
  · trivial
  · exact ev_rel RA H


/-- May the append leave the old block readable? -/
def softOK (H : Heap) (vs : Vars) : LOp → Bool
  | .append _ _ x _ => match x.ev vs with
    | .sl _ b i n => match get H b with
      | some (.rows _ es) => decide (i + n = es.length)
      | _ => false
    | _ => true
  | _ => true

theorem y_len_map (R : RelH X φ I S w.heap) {t k el : TypeId} {ty : TypeId} {b : Nat} {l : List (AV × AV)} {v : Value} (hu : P.underlying t = some (.map k el)) (hx : relV w.heap φ I S.A (.map b) v) (hb : get S.heap b = some (.mp l)) :
    Yields P (Builtin.len_ #[t] ty #[v]) w.heap φ I S.A (.int .i64 l.length) w := by
  simp only [relV] at hx
  obtain ⟨hA, c, hφ, rfl⟩ := hx
  obtain ⟨_, hB⟩ := R.heap _ _ hb
  simp only [relB] at hB
  obtain ⟨c', es, clk, h1, h2, h3⟩ := hB
  rw [hφ] at h1; injection h1 with h1; injection h1 with h4; subst h4
  have hl : ∀ (l : List (AV × AV)) (es : List MapEntry), relE w.heap φ I S.A l es → es.length = l.length := by
    intro l
    induction l with
    | nil => intro es h; simp only [relE] at h; simp [h]
    | cons p l ih => intro es h; obtain ⟨k, v⟩ := p; simp only [relE] at h; obtain ⟨e, r, rfl, _, _, h5⟩ := h; simp [ih _ h5]
  have hl' := hl _ _ h3
  refine yields_int ?_
  have hgo : (getObj c).run P w = .ok (.map es clk) w := by simp [getObj, Sem.run, h2]
  unfold Builtin.len_
  simp only [List.getElem?_toArray, List.getElem?_cons_zero, Sem.run_bind]
  rw [run_underlying hu]
  simp only [Result.andThen_ok, Sem.run_bind, hgo, Sem.run_pure, goInt]
  simp only [Array.length_toList] at hl'
  rw [hl']

theorem op_sound (R : RelH X φ I S w.heap) (RA : RelA φ I S nt a w.heap) {o : Oper} {l : LOp} {e : Eff} {dst : Option Nat} (hd : ∀ d, dst = some d → d < nt) (hid : ¬ S.A id) (hok : okOp P o.op l = true) (he : opEff S.heap S.vars id l = some e)
    (hhard : hard = true → ∀ b', get S.dead b' = none) (hdl : ∀ b', get S.dead b' ≠ none → b' < S.next) (hsoft : hard = false → softOK S.heap S.vars l = true ∧ ∀ b, e.kill = some b → b < S.next ∧ get S.dead b = none)
    (hupd : e.upd ≠ none → ∀ b', get S.dead b' = none) : StepOK P X S nt a w o dst id hard e := by
  obtain ⟨dst0, op, ty, pos, after, guard⟩ := o
  simp only at hok
  unfold okOp at hok
  split at hok
  next _ _ x y =>
    simp only [opEff, Option.some.injEq] at he; subst he
    exact stepOK_val R RA hd (s := pure (a.eval x)) (by simp [execOp, vS]) (y_pure (ev_rel RA hok))
  next _ _ x y =>
    simp only [opEff, Option.some.injEq] at he; subst he
    exact stepOK_val R RA hd (s := pure (a.eval x)) (by simp [execOp, vS]) (y_pure (ev_rel RA hok))
  next _ _ n c sz =>
    simp only [opEff, Option.some.injEq] at he; subst he
    simp only [Bool.and_eq_true, decide_eq_true_eq] at hok; obtain ⟨rfl, rfl⟩ := hok
    exact stepOK_own R RA hd hid (by simp [execOp, Act.eval])
  next _ _ n c sz =>
    simp only [opEff, Option.some.injEq] at he; subst he
    simp only [Bool.and_eq_true, decide_eq_true_eq] at hok; obtain ⟨rfl, rfl⟩ := hok
    exact stepOK_own R RA hd hid (by simp [execOp, Act.eval])
  next _ _ c x y c' x' y' =>
    simp only [Bool.and_eq_true] at hok; obtain ⟨h1, h2, h3⟩ := hok
    have hc := ev_rel RA h1
    simp only [opEff] at he
    split at he
    · rename_i t ht
      rw [ht] at hc
      have := rel_bool hc
      injection he with he; subst he
      cases t
      · exact stepOK_val R RA hd (s := pure (a.eval y)) (by simp [execOp, vS, this, asBool]) (y_pure (ev_rel RA h3))
      · exact stepOK_val R RA hd (s := pure (a.eval x)) (by simp [execOp, vS, this, asBool]) (y_pure (ev_rel RA h2))
    · cases he
  next _ _ t zero =>
    obtain ⟨zv, h1, h2, h3⟩ := okZero_spec hok
    simp only [opEff, Option.some.injEq] at he; subst he
    exact stepOK_newv R RA hd hid rfl h1 h2 h3
  next _ _ t x sz y =>
    simp only [opEff] at he
    obtain ⟨h1, h2⟩ := grd_some he
    simp only [Bool.and_eq_true, decide_eq_true_eq] at h1
    injection h2 with h2; subst h2
    exact stepOK_box R RA hd hid rfl (ev_rel RA hok) h1.1 h1.2
  next _ _ t ps zero qs =>
    simp only [Bool.and_eq_true] at hok; obtain ⟨h1, h2⟩ := hok
    obtain ⟨zv, h3, h4, h5⟩ := okZero_spec h1
    simp only [opEff] at he
    split at he
    · rename_i r hr
      injection he with he; subst he
      refine stepOK_val R RA hd (s := Instr.build t (ps.toList.map fun p => (p.1, a.eval p.2)).toArray) ?_ ?_
      · simp only [execOp, vS]
        rw [show (Array.map (fun x : Nat × Operand => match x with | (i, x) => (i, a.eval x)) ps) = (ps.toList.map fun p => (p.1, a.eval p.2)).toArray by apply Array.ext'; simp]
      · split at h2
        · rename_i fs hu
          simp only [Bool.and_eq_true] at h2
          obtain ⟨pl, k1, k2⟩ := run_places (P := P) (w := w) fs.toList h2.2
          refine y_build h3 h4 (.inl ⟨fs, hu, pl.toArray, ?_, rfl⟩) ?_ hr
          · have k3 : (fs.mapM fun f => do pure (f.offset, ← sizeOf f.type) : Sem (Array (Nat × Nat))) = List.toArray <$> (fs.toList.mapM fun f => do pure (f.offset, ← sizeOf f.type) : Sem (List (Nat × Nat))) := by
              exact Array.mapM_eq_mapM_toList ..
            rw [k3, Sem.run_map, k1]; rfl
          · rw [show (fun i => pl.toArray[i]?) = placeS P fs by funext i; simpa using k2 i]
            exact parts_rel RA h2.1
        · rename_i n el hu
          split at h2
          · rename_i sz hs
            exact y_build h3 h4 (.inr ⟨n, el, sz, hu, hs, rfl⟩) (parts_rel RA h2) hr
          · cases h2
        · cases h2
    · cases he
  next _ _ t len ps sz n zero qs =>
    split at hok
    · rename_i el hel
      obtain ⟨h1, h2, h3⟩ := okSl_spec hel
      simp only [Bool.and_eq_true, decide_eq_true_eq] at hok; obtain ⟨rfl, h4, h5, h6, h7⟩ := hok
      obtain ⟨zv, h8, h9, h10⟩ := okZero_spec h4
      simp only [opEff] at he
      split at he
      · rename_i r hr
        injection he with he; subst he
        exact stepOK_bsl R RA hd hid rfl h1 h2 h8 h9 h10 (okZero_size h9 h5) h3 h6 (partsI_rel RA sz h7) hr
      · cases he
    · cases hok
  next _ _ t len ps sz n zero qs =>
    split at hok
    · rename_i el hel
      obtain ⟨h1, h2, h3⟩ := okSl_spec hel
      simp only [Bool.and_eq_true, decide_eq_true_eq] at hok; obtain ⟨rfl, h4, h5, h6, h7⟩ := hok
      obtain ⟨zv, h8, h9, h10⟩ := okZero_spec h4
      simp only [opEff] at he
      split at he
      · rename_i r hr
        injection he with he; subst he
        exact stepOK_btsl R RA hd rfl h1 h2 h8 h9 h10 (okZero_size h9 h5) h3 h6 (partsI_rel RA sz h7) hr
      · cases he
    · cases hok
  next _ _ t x ag n y =>
    simp only [Bool.and_eq_true] at hok; obtain ⟨h1, h2⟩ := hok
    obtain ⟨u, h3, h4, h5⟩ := okPart_spec h1
    have hx := ev_rel RA h2
    simp only [opEff] at he
    split at he
    · rename_i sz b i j hev
      rw [hev] at hx
      split at he
      · rename_i sz' es hb
        obtain ⟨h6, h7⟩ := grd_some he
        simp only [Bool.and_eq_true, decide_eq_true_eq] at h6; obtain ⟨rfl, h8⟩ := h6
        split at h7
        · rename_i v hv
          injection h7 with h7; subst h7
          simp only [relV] at hx
          obtain ⟨hA, c, oo, hφ, hx⟩ := hx
          obtain ⟨_, hB⟩ := R.heap _ _ hb
          simp only [relB] at hB
          rcases hB with ⟨k1, _⟩ | ⟨c', o', cs, el, k1, k2, k3⟩
          · rw [hφ] at k1; cases k1
          rw [hφ] at k1; injection k1 with k1; injection k1 with k4 k5; subst k4 k5
          have k6 := relM_drop j (relR_get k3 h8).2
          refine stepOK_val R RA hd (s := loadVar t ⟨c, oo + i * sz' + j, none⟩) ?_ (y_load h3 h4 h5 k6 hv)
          simp [execOp, vS, hx, Instr.loadAt, Instr.sureAddr]
        · cases h7
      · cases he
    · rename_i cs hev
      rw [hev] at hx
      split at he
      · rename_i v hv
        injection he with he; subst he
        simp only [relV] at hx
        obtain ⟨c, oo, hx, _, k3⟩ := hx
        refine stepOK_val R RA hd (s := loadVar t ⟨c, oo, none⟩) ?_ (y_load h3 h4 h5 k3 hv)
        simp [execOp, vS, hx, Instr.loadAt, Instr.sureAddr]
      · cases he
    · cases he
  next _ _ t x y n x' y' =>
    simp only [Bool.and_eq_true, decide_eq_true_eq] at hok; obtain ⟨h1, h2, h3, h4⟩ := hok
    have hx := ev_rel RA h3
    simp only [opEff] at he
    split at he
    · rename_i sz b i j hev
      rw [hev] at hx
      split at he
      · rename_i sz' es hb
        obtain ⟨h6, h7⟩ := grd_some he
        simp only [Bool.and_eq_true, decide_eq_true_eq] at h6; obtain ⟨rfl, h8, h9, h10, h11⟩ := h6
        injection h7 with h7; subst h7
        exact stepOK_store R RA hd (hupd (by simp)) rfl h1 hx (ev_rel RA h4) hb h8 h9 h2 h10 h11
      · cases he
    · cases he
  next _ _ op t x y t2 op' x' y' =>
    simp only [Bool.and_eq_true, decide_eq_true_eq] at hok; obtain ⟨rfl, h2, h3⟩ := hok
    simp only [opEff] at he
    split at he
    · rename_i v hv
      injection he with he; subst he
      exact stepOK_val R RA hd (s := do eqGuard op t x y (a.eval x) (a.eval y); binOp op t (a.eval x) (a.eval y)) rfl (y_bin (ev_rel RA h2) (ev_rel RA h3) hv)
    · cases he
  next _ _ op t x y t2 ng kt x' y' =>
    simp only [Bool.and_eq_true, decide_eq_true_eq] at hok; obtain ⟨rfl, h1, h2, h3⟩ := hok
    simp only [opEff] at he
    split at he
    · rename_i b hb
      injection he with he; subst he
      exact stepOK_val R RA hd (s := do eqGuard (eqOp ng) t x y (a.eval x) (a.eval y); binOp (eqOp ng) t (a.eval x) (a.eval y)) rfl (y_eq h1 (ev_rel RA h2) (ev_rel RA h3) hb)
    · cases he
  next _ _ t x y =>
    have hx := ev_rel RA hok
    simp only [opEff] at he
    split at he
    · rename_i b hb
      rw [hb] at hx
      injection he with he; subst he
      exact stepOK_val R RA hd (s := Op.unary .not (a.eval x)) rfl (y_not hx)
    · cases he
  next _ _ t x y =>
    have hx := ev_rel RA hok
    simp only [opEff] at he
    split at he
    · rename_i k n hb
      rw [hb] at hx
      injection he with he; subst he
      exact stepOK_val R RA hd (s := Op.unary .neg (a.eval x)) rfl (y_neg hx)
    · cases he
  next _ _ src dt x k y =>
    simp only [Bool.and_eq_true] at hok; obtain ⟨h1, h2, h3⟩ := hok
    obtain ⟨u, hu⟩ := Option.isSome_iff_exists.1 h1
    have hx := ev_rel RA h3
    split at h2
    · rename_i k' hk'
      simp only [decide_eq_true_eq] at h2; subst h2
      simp only [opEff] at he
      split at he
      · rename_i k n hb
        rw [hb] at hx
        injection he with he; subst he
        exact stepOK_val R RA hd (s := convert src dt (a.eval x)) rfl (y_conv hu hk' hx)
      · cases he
    · cases h2
  next _ _ f fs cs f' fs' cs' =>
    simp only [Bool.and_eq_true, decide_eq_true_eq] at hok; obtain ⟨rfl, h2, h3⟩ := hok
    simp only [opEff, Option.some.injEq] at he; subst he
    refine stepOK_val R RA hd (s := Instr.makeFunc (.func f) (fs.toList.map a.eval).toArray (cs.toList.map a.eval).toArray) ?_ (y_mkfn (evs_rel RA h2) (evs_rel RA h3))
    simp only [execOp, vS]
    rw [show (fs.toList.map a.eval).toArray = fs.map a.eval by apply Array.ext'; simp, show (cs.toList.map a.eval).toArray = cs.map a.eval by apply Array.ext'; simp]
  next _ _ t =>
    simp only [opEff, Option.some.injEq] at he; subst he
    exact stepOK_mkmap R RA hd hid rfl
  next _ _ t l c sz zero bytes l' c' =>
    split at hok
    · rename_i el hel
      obtain ⟨h1, h2, h3⟩ := okSl_spec hel
      simp only [Bool.and_eq_true, decide_eq_true_eq] at hok; obtain ⟨h4, h5, h6, h7, h8, h9⟩ := hok
      obtain ⟨zv, h10, h11, h12⟩ := okZero_spec h4
      have hl := ev_rel RA h8
      have hc := ev_rel RA h9
      simp only [opEff] at he
      split at he
      · rename_i k l k' c e1 e2
        rw [e1] at hl; rw [e2] at hc
        obtain ⟨h13, h14⟩ := grd_some he
        simp only [Bool.and_eq_true, decide_eq_true_eq] at h13
        injection h14 with h14; subst h14
        exact stepOK_mksl R RA hd hid rfl h1 h2 h10 h6 h7 h11 h12 (okZero_size h11 h5) h3 (rel_int hl) (rel_int hc) h13.1 h13.2.1 h13.2.2
      · cases he
    · cases hok
  next _ _ t x lo hi mx sz x' lo' hi' mx' =>
    simp only [Bool.and_eq_true, Bool.or_eq_true, Bool.not_eq_true'] at hok; obtain ⟨h1, h2, h3, h4, h5, h6⟩ := hok
    obtain ⟨el, hel⟩ := Option.isSome_iff_exists.1 h1
    obtain ⟨hu, hs, hsz⟩ := okSl_spec hel
    have hx := ev_rel RA h2
    have hmh : (mx.map a.eval).isSome = true → (hi.map a.eval).isSome = true := by
      intro h7; simp only [Option.isSome_map] at h7 ⊢
      rcases h6 with h6 | h6
      · rw [h7] at h6; cases h6
      · exact h6
    have hex : execOp a.eval ⟨dst0, .slice t x lo hi mx, ty, pos, after, guard⟩ = vS (Instr.sliceAt t (a.eval x) (lo.map a.eval) (hi.map a.eval) (mx.map a.eval)) := rfl
    have hsl : ∀ {v : AV}, Yields P (Instr.slice t (a.eval x) (lo.map a.eval) (hi.map a.eval) (mx.map a.eval)) w.heap φ I S.A v w → Yields P (Instr.sliceAt t (a.eval x) (lo.map a.eval) (hi.map a.eval) (mx.map a.eval)) w.heap φ I S.A v w := fun {v} ⟨r, w', k1, k2, k3⟩ => by
      refine ⟨r, w', ?_, k2, k3⟩
      unfold Instr.sliceAt
      rw [Sem.run_bind, run_underlying hu]
      exact k1
    simp only [opEff] at he
    split at he
    · rename_i sz' b i n hev
      rw [hev] at hx
      split at he
      · rename_i l h m e1 e2 e3
        obtain ⟨h7, h8⟩ := grd_some he
        simp only [Bool.and_eq_true, decide_eq_true_eq] at h7; obtain ⟨rfl, k1, k2, k3, k4⟩ := h7
        injection h8 with h8; subst h8
        exact stepOK_val R RA hd hex (hsl (y_slice_sl hu hs hx (bnd_rel (opt_rel RA h3) e1) (bnd_rel (opt_rel RA h4) e2) (bnd_rel (opt_rel RA h5) e3) k1 k2 k3 k4 hmh))
      · cases he
    · rename_i sz' es hev
      rw [hev] at hx
      split at he
      · rename_i l h m e1 e2 e3
        obtain ⟨h7, h8⟩ := grd_some he
        simp only [Bool.and_eq_true, decide_eq_true_eq] at h7; obtain ⟨rfl, k1, k2, k3, k4⟩ := h7
        injection h8 with h8; subst h8
        exact stepOK_val R RA hd hex (hsl (y_slice_tsl hu hs hx (bnd_rel (opt_rel RA h3) e1) (bnd_rel (opt_rel RA h4) e2) (bnd_rel (opt_rel RA h5) e3) k1 k2 k3 k4 hmh))
      · cases he
    · rename_i hev
      rw [hev] at hx
      split at he
      · rename_i l h m e1 e2 e3
        obtain ⟨h7, h8⟩ := grd_some he
        simp only [Bool.and_eq_true, decide_eq_true_eq] at h7; obtain ⟨rfl, rfl, rfl⟩ := h7
        injection h8 with h8; subst h8
        exact stepOK_val R RA hd hex (hsl (y_slice_nils hu hs hx (bnd_rel (opt_rel RA h3) e1) (bnd_rel (opt_rel RA h4) e2) (bnd_rel (opt_rel RA h5) e3) hmh))
      · cases he
    · cases he
  next _ _ t x lo hi x' lo' hi' =>
    simp only [Bool.and_eq_true] at hok; obtain ⟨h1, h2, h3, h4⟩ := hok
    split at h1
    · rename_i hu
      have hx := ev_rel RA h2
      simp only [opEff] at he
      split at he
      · rename_i s hev
        rw [hev] at hx
        split at he
        · rename_i l h e1 e2
          obtain ⟨h7, h8⟩ := grd_some he
          simp only [Bool.and_eq_true, decide_eq_true_eq] at h7; obtain ⟨k1, k2, k3⟩ := h7
          injection h8 with h8; subst h8
          obtain ⟨r, w', q1, q2, q3⟩ := y_substr (P := P) (w := w) hu hx (bnd_rel (opt_rel RA h3) e1) (bnd_rel (opt_rel RA h4) e2) k1 k2 k3
          refine stepOK_val R RA hd (s := Instr.sliceAt t (a.eval x) (lo.map a.eval) (hi.map a.eval) none) rfl ⟨r, w', ?_, q2, q3⟩
          unfold Instr.sliceAt
          rw [Sem.run_bind, run_underlying hu]
          exact q1
        · cases he
      · cases he
    · cases h1
  next _ _ t x i off y =>
    simp only [Bool.and_eq_true] at hok; obtain ⟨h1, h2⟩ := hok
    have hx := ev_rel RA h2
    simp only [opEff] at he
    split at he
    · rename_i sz b i' j hev
      rw [hev] at hx
      injection he with he; subst he
      exact stepOK_val R RA hd (s := Instr.fieldAt t (a.eval x) i) rfl (y_fadr h1 hx rfl)
    · rename_i cs hev
      rw [hev] at hx
      injection he with he; subst he
      exact stepOK_val R RA hd (s := Instr.fieldAt t (a.eval x) i) rfl (y_fadr h1 hx rfl)
    · cases he
  next _ _ t x i sz x' i' =>
    simp only [Bool.and_eq_true] at hok; obtain ⟨h1, h2, h3⟩ := hok
    obtain ⟨el, hel⟩ := Option.isSome_iff_exists.1 h1
    obtain ⟨hu, hs, hsz⟩ := okSl_spec hel
    have hx := ev_rel RA h2
    have hi := ev_rel RA h3
    simp only [opEff] at he
    split at he
    · rename_i k m hi'
      rw [hi'] at hi
      split at he
      · rename_i sz' b oo n hev
        rw [hev] at hx
        obtain ⟨h7, h8⟩ := grd_some he
        simp only [Bool.and_eq_true, decide_eq_true_eq] at h7; obtain ⟨rfl, k1, k2⟩ := h7
        injection h8 with h8; subst h8
        exact stepOK_val R RA hd (s := Instr.indexAt t (a.eval x) (a.eval i)) rfl (y_idxa_sl hu hs hx hi k1 k2)
      · rename_i sz' es hev
        rw [hev] at hx
        obtain ⟨h7, h8⟩ := grd_some he
        simp only [Bool.and_eq_true, decide_eq_true_eq] at h7; obtain ⟨rfl, k1, k2⟩ := h7
        injection h8 with h8; subst h8
        exact stepOK_val R RA hd (s := Instr.indexAt t (a.eval x) (a.eval i)) rfl (y_idxa_tsl hu hs hx hi k1 k2)
      · cases he
    · cases he
  next _ _ t x i esz len x' i' =>
    simp only [Bool.and_eq_true] at hok; obtain ⟨h1, h2, h3⟩ := hok
    split at h1
    · rename_i n el hu
      simp only [Bool.and_eq_true, decide_eq_true_eq] at h1; obtain ⟨rfl, hs⟩ := h1
      have hx := ev_rel RA h2
      have hi := ev_rel RA h3
      simp only [opEff] at he
      split at he
      · rename_i k m hi'
        rw [hi'] at hi
        obtain ⟨h7, h8⟩ := grd_some he
        simp only [Bool.and_eq_true, decide_eq_true_eq] at h7
        split at h8
        · rename_i sz b oo j hev
          rw [hev] at hx
          injection h8 with h8; subst h8
          exact stepOK_val R RA hd (s := Instr.indexAt t (a.eval x) (a.eval i)) rfl (y_idxp hu hs hx hi h7.1 h7.2 rfl)
        · rename_i cs hev
          rw [hev] at hx
          injection h8 with h8; subst h8
          exact stepOK_val R RA hd (s := Instr.indexAt t (a.eval x) (a.eval i)) rfl (y_idxp hu hs hx hi h7.1 h7.2 rfl)
        · cases h8
      · cases he
    · cases h1
  next _ _ t x i x' i' =>
    simp only [Bool.and_eq_true] at hok; obtain ⟨h1, h2, h3⟩ := hok
    split at h1
    · rename_i hu
      have hx := ev_rel RA h2
      have hi := ev_rel RA h3
      simp only [opEff] at he
      split at he
      · rename_i k m hi'
        rw [hi'] at hi
        split at he
        · rename_i s hev
          rw [hev] at hx
          obtain ⟨h7, h8⟩ := grd_some he
          simp only [Bool.and_eq_true, decide_eq_true_eq] at h7
          injection h8 with h8; subst h8
          exact stepOK_val R RA hd (s := Instr.index t (a.eval x) (a.eval i)) rfl (y_idxs hu hx hi h7.1 h7.2)
        · cases he
      · cases he
    · cases h1
  next _ _ t x i ag esz len x' i' =>
    simp only [Bool.and_eq_true] at hok; obtain ⟨h1, h2, h3⟩ := hok
    split at h1
    · rename_i n el hu
      simp only [Bool.and_eq_true, decide_eq_true_eq] at h1; obtain ⟨rfl, hs, hp⟩ := h1
      obtain ⟨u, k1, k2, k3⟩ := okPart_spec hp
      have hx := ev_rel RA h2
      have hi := ev_rel RA h3
      simp only [opEff] at he
      split at he
      · rename_i k m hi'
        rw [hi'] at hi
        obtain ⟨h7, h8⟩ := grd_some he
        simp only [Bool.and_eq_true, decide_eq_true_eq] at h7
        split at h8
        · rename_i cs hev
          rw [hev] at hx
          split at h8
          · rename_i v hv
            injection h8 with h8; subst h8
            exact stepOK_val R RA hd (s := Instr.index t (a.eval x) (a.eval i)) rfl (y_idxc hu hs k1 k2 hx hi h7.1 h7.2 hv)
          · cases h8
        · cases h8
      · cases he
    · cases h1
  next _ _ t x i ag off n x' =>
    simp only [Bool.and_eq_true] at hok; obtain ⟨h1, h2⟩ := hok
    split at h1
    · rename_i fs hu
      split at h1
      · rename_i f hf
        simp only [Bool.and_eq_true, decide_eq_true_eq] at h1; obtain ⟨ho, hp⟩ := h1
        obtain ⟨u, k1, k2, k3⟩ := okPart_spec hp
        have hx := ev_rel RA h2
        simp only [opEff] at he
        split at he
        · rename_i cs hev
          rw [hev] at hx
          split at he
          · rename_i v hv
            injection he with he; subst he
            exact stepOK_val R RA hd (s := Instr.field t (a.eval x) i) rfl (y_field hu hf ho k1 k2 k3 hx hv)
          · cases he
        · cases he
      · cases h1
    · cases h1
  next _ _ t x k ok ok' kt zero x' k' =>
    simp only [Bool.and_eq_true, decide_eq_true_eq] at hok; obtain ⟨rfl, h1, h2, h3⟩ := hok
    split at h1
    · rename_i key el hu
      simp only [Bool.and_eq_true] at h1; obtain ⟨hT, hz⟩ := h1
      split at hz
      · rename_i zv hzv
        have hx := ev_rel RA h2
        have hk := ev_rel RA h3
        simp only [opEff] at he
        obtain ⟨hko, he⟩ := grd_some he
        split at he
        · rename_i b hev
          rw [hev] at hx
          split at he
          · rename_i es hb
            split at he
            · rename_i r hr
              injection he with he; subst he
              exact stepOK_val R RA hd (s := Instr.lookup t (a.eval x) (a.eval k) ok) rfl (y_lookup_map R hu hT hzv hz hx hk hko hb hr rfl)
            · cases he
          · cases he
        · rename_i hev
          rw [hev] at hx
          injection he with he; subst he
          exact stepOK_val R RA hd (s := Instr.lookup t (a.eval x) (a.eval k) ok) rfl (y_lookup_nil hu hT hzv hz hx hk hko rfl)
        · cases he
      · cases hz
    · cases h1
  next _ _ t m k x kt m' k' x' =>
    simp only [Bool.and_eq_true] at hok; obtain ⟨h1, h2, h3, h4⟩ := hok
    split at h1
    · rename_i key el hu
      have hx := ev_rel RA h2
      simp only [opEff] at he
      obtain ⟨hko, he⟩ := grd_some he
      split at he
      · rename_i b hev
        rw [hev] at hx
        split at he
        · rename_i es hb
          split at he
          · rename_i r hr
            injection he with he; subst he
            exact stepOK_mapupd R RA hd (hupd (by simp)) (om := m) (ok := k) (ov := x) rfl hu h1 hx (ev_rel RA h3) hko (ev_rel RA h4) hb hr
          · cases he
        · cases he
      · cases he
    · cases h1
  next _ _ t m k x kt m' k' x' =>
    simp only [Bool.and_eq_true] at hok; obtain ⟨h1, h2, h3, h4⟩ := hok
    split at h1
    · rename_i key el hu
      have hx := ev_rel RA h2
      simp only [opEff] at he
      obtain ⟨hko, he⟩ := grd_some he
      split at he
      · rename_i b hev
        rw [hev] at hx
        split at he
        · rename_i es hb
          split at he
          · rename_i r hr
            injection he with he; subst he
            exact stepOK_mapupd R RA hd (hupd (by simp)) (om := m) (ok := k) (ov := x) rfl hu h1 hx (ev_rel RA h3) hko (ev_rel RA h4) hb hr
          · cases he
        · cases he
      · cases he
    · cases h1
  next _ _ x y =>
    have hx := ev_rel RA hok
    have key : ∀ v, a.eval x = v → (∀ n f c, v ≠ .func (.method n) f c) → v ≠ .pointer none → v ≠ .nilIface → v ≠ .nilFunc → execOp a.eval ⟨dst0, .nilCheck x, ty, pos, after, guard⟩ = vS (pure v) := by
      intro v hv h1 h2 h3 h4
      simp only [execOp, hv, vS]
      rfl
    simp only [opEff] at he
    split at he
    · rename_i sz b i j hev
      rw [hev] at hx
      injection he with he; subst he
      have hx0 := hx
      simp only [relV] at hx
      obtain ⟨_, c, oo, _, hv⟩ := hx
      exact stepOK_val R RA hd (key _ rfl (by rw [hv]; simp) (by rw [hv]; simp) (by rw [hv]; simp) (by rw [hv]; simp)) (y_pure hx0)
    · rename_i cs hev
      rw [hev] at hx
      injection he with he; subst he
      have hx0 := hx
      simp only [relV] at hx
      obtain ⟨c, oo, hv, _⟩ := hx
      exact stepOK_val R RA hd (key _ rfl (by rw [hv]; simp) (by rw [hv]; simp) (by rw [hv]; simp) (by rw [hv]; simp)) (y_pure hx0)
    · rename_i f fs cs hev
      rw [hev] at hx
      injection he with he; subst he
      have hx0 := hx
      simp only [relV] at hx
      obtain ⟨fs', cs', hv, _⟩ := hx
      exact stepOK_val R RA hd (key _ rfl (by rw [hv]; simp) (by rw [hv]; simp) (by rw [hv]; simp) (by rw [hv]; simp)) (y_pure hx0)
    · cases he
  next _ _ x i y j =>
    simp only [Bool.and_eq_true, decide_eq_true_eq] at hok; obtain ⟨rfl, h2⟩ := hok
    have hx := ev_rel RA h2
    simp only [opEff] at he
    split at he
    · rename_i l hev
      rw [hev] at hx
      split at he
      · rename_i v hv
        injection he with he; subst he
        exact stepOK_val R RA hd (s := Instr.extract (a.eval x) i) rfl (y_extract hx hv)
      · cases he
    · cases he
  next _ _ x t k y =>
    simp only [Bool.and_eq_true] at hok; obtain ⟨h1, h2⟩ := hok
    have hx := ev_rel RA h2
    have hex : execOp a.eval ⟨dst0, .call { callee := .builtin .len, args := #[x], argTypes := #[t] }, ty, pos, after, guard⟩ = vS (Builtin.len_ #[t] ty #[a.eval x]) := by
      simp [execOp, resolve, invoke, builtin, vS]
    simp only [opEff] at he
    split at he
    · split at h1 <;> first | (cases h1; done) | skip
      all_goals first | (rename_i hk _; cases hk; done) | skip
      rename_i hu
      split at he
      · rename_i s hev
        rw [hev] at hx
        injection he with he; subst he
        exact stepOK_val R RA hd hex (y_len_str hu hx)
      · cases he
    · split at h1 <;> first | (cases h1; done) | skip
      all_goals first | (rename_i hk _; cases hk; done) | skip
      rename_i el hu
      split at he
      · rename_i hev
        rw [hev] at hx
        injection he with he; subst he
        simp only [relV] at hx
        exact stepOK_val R RA hd hex (y_len_sl (x := .nils) (n := 0) hu ⟨none, 0, hx⟩)
      · rename_i sz b i n hev
        rw [hev] at hx
        injection he with he; subst he
        simp only [relV] at hx
        obtain ⟨_, base, cap, hx, _⟩ := hx
        exact stepOK_val R RA hd hex (y_len_sl (x := .nils) hu ⟨base, cap, hx⟩)
      · rename_i sz es hev
        rw [hev] at hx
        injection he with he; subst he
        simp only [relV] at hx
        obtain ⟨base, cap, hx, _⟩ := hx
        exact stepOK_val R RA hd hex (y_len_sl (x := .nils) hu ⟨base, cap, hx⟩)
      · cases he
    · split at h1 <;> first | (cases h1; done) | skip
      all_goals first | (rename_i hk _; cases hk; done) | skip
      rename_i kk el hu
      split at he
      · rename_i hev
        rw [hev] at hx
        injection he with he; subst he
        simp only [relV] at hx
        refine stepOK_val R RA hd hex (yields_int ?_)
        simp [Builtin.len_, run_underlying hu, hx, goInt]
      · rename_i b hev
        rw [hev] at hx
        split at he
        · rename_i es hb
          injection he with he; subst he
          exact stepOK_val R RA hd hex (y_len_map R hu hx hb)
        · cases he
      · cases he
  next _ _ x t n =>
    split at hok
    · rename_i m el hu
      simp only [decide_eq_true_eq] at hok; subst hok
      simp only [opEff, Option.some.injEq] at he; subst he
      refine stepOK_val R RA hd (s := Builtin.len_ #[t] ty #[a.eval x]) ?_ (y_lenc hu)
      simp [execOp, resolve, invoke, builtin, vS]
    · cases hok
  next _ _ x y t1 t2 sz bytes x' y' =>
    split at hok
    · rename_i el hel
      obtain ⟨hu, hs, hsz⟩ := okSl_spec hel
      simp only [Bool.and_eq_true, decide_eq_true_eq] at hok; obtain ⟨h1, h2, h3, h4, h5, h6, h7⟩ := hok
      split at h2
      · rename_i zv hzv
        simp only [decide_eq_true_eq] at h2
        have hu2 : ∃ u2, P.underlying t2 = some u2 ∧ ∀ k, u2 ≠ .int k := by
          split at h1
          · rename_i e1; exact ⟨_, e1, by simp⟩
          · rename_i e1; exact ⟨_, e1, by simp⟩
          · cases h1
        obtain ⟨u2, hu2, hni⟩ := hu2
        have T : AppT P t1 t2 el sz bytes zv u2 := ⟨hu, hu2, hni, hs, hzv, h2, h3, h4, h5⟩
        have hx := ev_rel RA h6
        have hy := ev_rel RA h7
        simp only [opEff] at he
        split at he
        · rename_i ys hys
          obtain ⟨hl, hya, hf⟩ := elems_run (P := P) R hy hys
          split at he
          · rename_i hev
            rw [hev] at hx
            obtain ⟨k1, k2⟩ := grd_some he
            simp only [decide_eq_true_eq] at k1
            injection k2 with k2; subst k2
            simp only [relV] at hx
            by_cases h0 : ys.length = 0
            · have : ys = [] := List.eq_nil_of_length_eq_zero h0
              subst this
              refine stepOK_append_none R RA hd hid (base := none) (w' := w) rfl ?_ rfl
              refine exec_append rfl ?_
              rw [hx]
              obtain ⟨vs, q1, q2, q3, _⟩ := hf 0 (Nat.le_refl _)
              exact run_append_in (n := 0) T.hu T.hu2 T.hni T.hs hl (q1 w rfl) (Nat.le_refl _) (fun b hb => by cases hb) (fun _ => rfl)
            · have := stepOK_append_new (o := ⟨dst0, .call { callee := .builtin .append, args := #[x, y], argTypes := #[t1, t2] }, ty, pos, after, guard⟩) (hard := hard) (kill := none) (xs := []) (n := 0) (cap := 0) (base := none) R RA hd hid T rfl hx rfl (by simp) ⟨[], fun _ _ => rfl, by simp [relL], by simp⟩ hy hys (by omega) (by simpa using k1)
              simpa using this
          · rename_i sz' b i n hev
            rw [hev] at hx
            split at he
            · rename_i sz'' es hb
              obtain ⟨k1, k2⟩ := grd_some he
              simp only [Bool.and_eq_true, decide_eq_true_eq] at k1; obtain ⟨rfl, rfl, k3, k4⟩ := k1
              injection k2 with k2; subst k2
              have hxe : elems S.heap sz'' (.sl sz'' b i n) = some ((es.drop i).take n) := by simp [elems, hb, grd, k3]
              obtain ⟨hl', hxa, hf'⟩ := elems_run (P := P) R hx hxe
              have hlen : ((es.drop i).take n).length = n := by simp; omega
              simp only [relV] at hx
              obtain ⟨hA, base, cap, hx, hc⟩ := hx
              have hold : ∃ old : List Value, (∀ w' : World, w'.heap = w.heap → (Builtin.firstCells sz'' n (.slice base n cap)).run P w' = .ok old.toArray w') ∧ relL w.heap φ I S.A ((es.drop i).take n).flatten old ∧ ∀ v ∈ old, Value.oneCell' v = true := by
                obtain ⟨vs, q1, q2, q3, q4⟩ := hf' n (by omega)
                rw [List.take_of_length_le (by omega)] at q2
                rw [hx] at q1
                exact ⟨vs, q1, q2, q4⟩
              by_cases hroom : cap < n + ys.length
              · exact stepOK_append_new R RA hd hid T rfl hx hlen hxa hold hy hys hroom k4
              · rcases hc with ⟨rfl, rfl⟩ | ⟨c, oo, s, q1, rfl, q2, q3, q4⟩
                · have : ys = [] := List.eq_nil_of_length_eq_zero (by omega)
                  subst this
                  have hgoal := stepOK_append_none (hard := hard) (kill := some b) (sz := sz'') R RA hd hid (base := base) (cv := .slice base 0 0) (w' := w) (o := ⟨dst0, .call { callee := .builtin .append, args := #[x, y], argTypes := #[t1, t2] }, ty, pos, after, guard⟩) (P := P) rfl (exec_append rfl (by
                    rw [hx]
                    obtain ⟨vs, p1, p2, p3, _⟩ := hf 0 (Nat.le_refl _)
                    simp only [List.take_nil, List.flatten_nil, relL] at p2
                    subst p2
                    exact run_append_in (n := 0) T.hu T.hu2 T.hni T.hs hl (p1 w rfl) (Nat.le_refl _) (fun b hb => by simp [storeCells]) (fun _ => rfl))) rfl
                  simpa using hgoal
                · have hkill := hsoft
                  refine stepOK_append_in R RA hd hid T rfl hx q1 hb k3 q3 q4 hy hys (by omega) ?_ hdl (fun hh => ?_)
                  · cases hhd : hard with
                    | true => exact .inl (hhard hhd)
                    | false => exact .inr ((hsoft hhd).2 b rfl)
                  · obtain ⟨p1, p2⟩ := hsoft hh
                    simp only [softOK, hev, hb, decide_eq_true_eq] at p1
                    exact ⟨(p2 b rfl).1, p1⟩
            · cases he
          · cases he
        · cases he
      · cases h2
    · cases hok
  next _ _ xs tys ys =>
    simp only [opEff] at he
    have hL := evs_rel RA hok
    split at he
    · rename_i x r hxr
      rw [hxr] at hL
      simp only [relL] at hL
      obtain ⟨v, vs, h1, h2, h3⟩ := hL
      split at he
      · rename_i q hq
        injection he with he; subst he
        refine stepOK_val R RA hd (s := Builtin.max_ tys ty (xs.map a.eval)) (by simp [execOp, resolve, invoke, builtin, vS]) ?_
        obtain ⟨u, w', p1, p2, p3⟩ := y_max (P := P) (w := w) h2 h3 hq
        refine ⟨u, w', ?_, p2, p3⟩
        unfold Builtin.max_
        rw [show (xs.map a.eval).toList = v :: vs by simpa using h1]
        exact p1
      · cases he
    · cases he
  next _ _ xs tys ys =>
    simp only [opEff] at he
    have hL := evs_rel RA hok
    split at he
    · rename_i x r hxr
      rw [hxr] at hL
      simp only [relL] at hL
      obtain ⟨v, vs, h1, h2, h3⟩ := hL
      split at he
      · rename_i q hq
        injection he with he; subst he
        refine stepOK_val R RA hd (s := Builtin.min_ tys ty (xs.map a.eval)) (by simp [execOp, resolve, invoke, builtin, vS]) ?_
        obtain ⟨u, w', p1, p2, p3⟩ := y_min (P := P) (w := w) h2 h3 hq
        refine ⟨u, w', ?_, p2, p3⟩
        unfold Builtin.min_
        rw [show (xs.map a.eval).toList = v :: vs by simpa using h1]
        exact p1
      · cases he
    · cases he
  · cases hok
end
end Go.AM

/- Regions in order, calls, code: what a run of the abstract code says of the program's. -/
namespace Go.AM

/-- A state at rest. -/
structure ST where
  vars : Vars
  heap : Heap
  next : Nat

def ST.as (S : ST) : AS := ⟨S.vars, S.heap, S.next, [], []⟩

theorem ST.as_A (S : ST) (b : Nat) : S.as.A b ↔ b < S.next := by simp [ST.as, AS.A, get]

def ST.app (S : ST) (dst : Option Nat) (e : Eff) : ST where
  vars := putV dst e.val S.vars
  heap :=
    let h1 := match e.upd with
      | some p => ins p.1 p.2 S.heap
      | none => S.heap
    let h2 := match e.kill with
      | some b => del b h1
      | none => h1
    match e.new with
    | some blk => ins S.next blk h2
    | none => h2
  next := match e.new with
    | some _ => S.next + 1
    | none => S.next

structure RelS (X : Ctx) (φ : Nat → Option (Nat × Nat)) (I : Nat → Prop) (S : ST) (nt : Nat) (a : Act) (h : Array Obj) : Prop where
  H : RelH X φ I S.as h
  A : RelA φ I S.as nt a h

/-- The relation goes by the lists, and by which numbers are in use. -/
theorem RelH.conv {X : Ctx} {φ : Nat → Option (Nat × Nat)} {I : Nat → Prop} {S T : AS} {h : Array Obj} (R : RelH X φ I S h) (hA : S.A = T.A) (hh : S.heap = T.heap) (hd : ∀ b, get S.dead b = none) (hn : S.next ≤ T.next) : RelH X φ I T h :=
  ⟨fun b blk h1 => by rw [← hA]; exact R.heap b blk (hh ▸ h1), fun b blk c o h1 => R.live b blk c o (hh ▸ h1), fun b b' c o c' o' h1 h2 h3 _ => R.inj b b' c o c' o' (hh ▸ h1) (hh ▸ h2) h3 (.inl ⟨hd _, hd _⟩), R.idom, R.isub, R.isup, R.frame, R.size, R.sizes, R.agree, Nat.le_trans R.n0 hn⟩

theorem RelA.conv {φ : Nat → Option (Nat × Nat)} {I : Nat → Prop} {S T : AS} {nt : Nat} {a : Act} {h : Array Obj} (R : RelA φ I S nt a h) (hA : S.A = T.A) (hv : S.vars = T.vars) : RelA φ I T nt a h :=
  ⟨fun x v h1 => by rw [← hA]; exact R.vars x v (hv ▸ h1), R.nt, R.defers⟩

section
variable {P : Program} {X : Ctx} {φ : Nat → Option (Nat × Nat)} {I : Nat → Prop} {S : ST} {nt : Nat} {a : Act} {w : World}

theorem ST.app_A (S : ST) (dst : Option Nat) (e : Eff) : (S.as.app dst S.next true e).A = (S.app dst e).as.A := by
  funext b
  apply propext
  rw [ST.as_A]
  cases hn : e.new with
  | none => simp [AS.A, AS.app, ST.as, ST.app, hn, get]
  | some blk =>
    simp only [AS.A, AS.app, ST.as, ST.app, hn, get_ins, get]
    by_cases h1 : S.next = b
    · simp [h1]
    · simp [h1]; omega

theorem RelS.step {o : Oper} {l : LOp} {e : Eff} {dst : Option Nat} (R : RelS X φ I S nt a w.heap) (hd : ∀ d, dst = some d → d < nt) (hok : okOp P o.op l = true) (he : opEff S.heap S.vars S.next l = some e) :
    ∃ φ' I' cv w', ((execOp a.eval o).run P w = .ok (.value cv) w' ∨ ((execOp a.eval o).run P w = .ok .skip w' ∧ cv = undef)) ∧ RelS X φ' I' (S.app dst e) nt (a.put dst cv) w'.heap ∧ Keep w w' := by
  have hid : ¬ S.as.A S.next := by rw [ST.as_A]; omega
  obtain ⟨φ', I', cv, w', h1, h2, h3, hkp⟩ := op_sound (P := P) (o := o) (l := l) (e := e) (dst := dst) (id := S.next) (hard := true) R.H R.A hd hid hok he (fun _ _ => rfl) (fun b h => by simp [ST.as, get] at h) (fun h => by cases h) (fun _ _ => rfl)
  refine ⟨φ', I', cv, w', h1, ⟨h2.conv (S.app_A dst e) ?_ ?_ ?_, h3.conv (S.app_A dst e) ?_⟩, hkp⟩
  · cases h4 : e.kill <;> cases h5 : e.new <;> cases h6 : e.upd <;> simp [AS.app, ST.as, ST.app, khp, h4, h5, h6]
  · intro b; cases h4 : e.kill <;> simp [AS.app, ST.as, kdd, h4, get]
  · cases h5 : e.new <;> simp [AS.app, ST.as, ST.app, h5]
  · simp [AS.app, ST.as, ST.app]

/-! ### Calls -/
def okFn (P : Program) (f : Nat) : Bool := match P.funcs[f]? with
  | some fn => fn.body.isSome && (fn.name != "runtime.NumGoroutine")
  | none => false

/-- What a call does, told of its arguments and the blocks that it is handed; block numbers below 'n' are the caller's. -/
def ACalls (P : Program) (f : Nat) (args : List AV) (H : Heap) (n : Nat) (Q : AV → Heap → Nat → Prop) : Prop :=
  okFn P f = true ∧ ∀ (w : World) (F : Nat → Prop) (φ : Nat → Option (Nat × Nat)) (I : Nat → Prop) (cargs : List Value), RelH ⟨w.heap, F, φ, n, I⟩ φ I ⟨[], H, n, [], []⟩ w.heap → relL w.heap φ I (· < n) args cargs →
    Calls P f cargs.toArray w fun e w' => ∃ cv r H' n' φ' I', e = .returned cv ∧ RelH ⟨w.heap, F, φ, n, I⟩ φ' I' ⟨[], H', n', [], []⟩ w'.heap ∧ relV w'.heap φ' I' (· < n') r cv ∧ Q r H' n' ∧ Keep w w'

theorem ACalls.mono {f : Nat} {args : List AV} {H : Heap} {n : Nat} {Q Q' : AV → Heap → Nat → Prop} (h : ACalls P f args H n Q) (hq : ∀ r H' n', Q r H' n' → Q' r H' n') : ACalls P f args H n Q' :=
  ⟨h.1, fun w F φ I cargs h1 h2 => (h.2 w F φ I cargs h1 h2).mono fun e w' ⟨cv, r, H', n', φ', I', k1, k2, k3, k4, k5⟩ => ⟨cv, r, H', n', φ', I', k1, k2, k3, hq _ _ _ k4, k5⟩⟩

/-- A call seen from a state: the frame's variables stay; what is told of the rest. -/
def CallS (P : Program) (f : Nat) (args : List AV) (S : ST) (K : AV → ST → Prop) : Prop :=
  okFn P f = true ∧ ∀ (X : Ctx) (φ : Nat → Option (Nat × Nat)) (I : Nat → Prop) (w : World) (cargs : List Value), RelH X φ I S.as w.heap → relL w.heap φ I S.as.A args cargs →
    Calls P f cargs.toArray w fun e w' => ∃ cv r φ' I' S', e = .returned cv ∧ RelH X φ' I' S'.as w'.heap ∧ Ext w.heap φ I S.as.A w'.heap φ' I' S'.as.A ∧ relV w'.heap φ' I' S'.as.A r cv ∧ S'.vars = S.vars ∧ K r S' ∧ Keep w w'

theorem CallS.mono {f : Nat} {args : List AV} {K K' : AV → ST → Prop} (h : CallS P f args S K) (hq : ∀ r S', K r S' → K' r S') : CallS P f args S K' :=
  ⟨h.1, fun X φ I w cargs h1 h2 => (h.2 X φ I w cargs h1 h2).mono fun e w' ⟨cv, r, φ', I', S', k1, k2, k3, k4, k5, k6, k7⟩ => ⟨cv, r, φ', I', S', k1, k2, k3, k4, k5, hq _ _ k6, k7⟩⟩

/-! ### Regions whose order is fixed -/
def gd (vs : Vars) : Option (Nat × Bool) → Option Bool
  | none => some true
  | some (x, b) => match get vs x with
    | some (.bool t) => some (t == b)
    | some (.tup []) => some false
    | _ => none

def Option.sat {α : Type} (x : Option α) (K : α → Prop) : Prop := match x with
  | some a => K a
  | none => False

def rgnS (P : Program) : List LOper → ST → (ST → Prop) → Prop
  | [], S, K => K S
  | o :: os, S, K => Option.sat (gd S.vars o.guard) fun b => match b with
    | false => rgnS P os { S with vars := putV o.dst (.tup []) S.vars } K
    | true => match o.op with
      | .call _ f args => match f.ev S.vars with
        | .fn g first caps => CallS P g (first ++ args.map (·.ev S.vars) ++ caps) S fun r S' => rgnS P os { S' with vars := putV o.dst r S'.vars } K
        | _ => False
      | op => Option.sat (opEff S.heap S.vars S.next op) fun e => rgnS P os (S.app o.dst e) K

def okCall (op : Op) (l : LOp) : Bool := match op, l with
  | .call { callee := .value f, args := args, argTypes := _ }, .call _ f' args' => okArg f f' && okArgs args.toList args'
  | _, _ => false

def okGuard (ops : Array Oper) : Option (Nat × Bool) → Option (Nat × Bool) → Bool
  | none, none => true
  | some (j, b), some (x, b') => decide ((ops[j]?).bind (·.dst) = some x) && decide (b = b')
  | _, _ => false

def okDst (nt : Nat) : Option Nat → Option Nat → Bool
  | none, none => true
  | some d, some d' => decide (d = d') && decide (d < nt)
  | _, _ => false

def okOper (P : Program) (nt : Nat) (ops : Array Oper) (o : Oper) (l : LOper) : Bool :=
  okDst nt o.dst l.dst && (okGuard ops o.guard l.guard && (okOp P o.op l.op || okCall o.op l.op))

def okOpers (P : Program) (nt : Nat) (ops : Array Oper) : List Oper → List LOper → Bool
  | [], [] => true
  | o :: os, l :: ls => okOper P nt ops o l && okOpers P nt ops os ls
  | _, _ => false

theorem okDst_spec {d d' : Option Nat} (H : okDst nt d d' = true) : d = d' ∧ ∀ x, d' = some x → x < nt := by
  cases d <;> cases d' <;> simp only [okDst, Bool.false_eq_true] at H
  · exact ⟨rfl, by simp⟩
  · simp only [Bool.and_eq_true, decide_eq_true_eq] at H
    obtain ⟨rfl, h2⟩ := H
    exact ⟨rfl, fun x hx => by injection hx with hx; omega⟩

theorem wanted_gd {ops : Array Oper} {o : Oper} {g : Option (Nat × Bool)} {b : Bool} {h : Array Obj} {T : AS} (RA : RelA φ I T nt a h) (hg : okGuard ops o.guard g = true) (hb : gd T.vars g = some b) : Region.wanted o (yielded ops a.tmps) = b := by
  unfold Region.wanted
  cases hog : o.guard with
  | none =>
    rw [hog] at hg
    cases g with
    | none => simp only [gd, Option.some.injEq] at hb; exact hb
    | some p => simp [okGuard] at hg
  | some q =>
    obtain ⟨j, b1⟩ := q
    rw [hog] at hg
    cases g with
    | none => simp [okGuard] at hg
    | some p =>
      obtain ⟨x, b2⟩ := p
      simp only [okGuard, Bool.and_eq_true, decide_eq_true_eq] at hg
      obtain ⟨h1, rfl⟩ := hg
      simp only [gd] at hb
      split at hb
      · rename_i t ht
        injection hb with hb; subst hb
        have h2 := rel_bool (RA.vars _ _ ht)
        have h3 : a.tmps[x]? = some (.bool t) := by
          rw [Array.getD_eq_getD_getElem?] at h2
          cases h4 : a.tmps[x]? with
          | none => rw [h4] at h2; simp [undef] at h2
          | some v => rw [h4] at h2; simp at h2; rw [h2]
        have h5 : yielded ops a.tmps j = some t := by
          unfold yielded; rw [h1]; simp [h3]
        show (yielded ops a.tmps j == some b1) = (t == b1)
        rw [h5]; cases t <;> cases b1 <;> rfl
      · rename_i ht
        injection hb with hb; subst hb
        have h2 := RA.vars _ _ ht
        simp only [relV, relL] at h2
        obtain ⟨vs, h2, rfl⟩ := h2
        have h5 : yielded ops a.tmps j = none := by
          unfold yielded; rw [h1]
          rw [Array.getD_eq_getD_getElem?] at h2
          cases h4 : a.tmps[x]? with
          | none => simp [h4]
          | some v => rw [h4] at h2; simp at h2; simp [h4, h2]
        show (yielded ops a.tmps j == some b1) = false
        rw [h5]; rfl
      · cases hb

theorem RelS.any (R : RelS X φ I S nt a w.heap) {dst : Option Nat} (hd : ∀ d, dst = some d → d < nt) : RelS X φ I { S with vars := putV dst (.tup []) S.vars } nt (a.put dst undef) w.heap :=
  ⟨R.H.vars (putV dst (.tup []) S.vars), RelA.app (S := S.as) (id := 0) (hard := true) (e := { val := .tup [] }) R.A (Ext.refl' fun _ h => h) hd (by simp [relV, relL, undef])⟩

theorem RelS.put {φ' : Nat → Option (Nat × Nat)} {I' : Nat → Prop} {S' : ST} {h h' : Array Obj} {r : AV} {cv : Value} (RA : RelA φ I S.as nt a h) (R' : RelH X φ' I' S'.as h') (E : Ext h φ I S.as.A h' φ' I' S'.as.A) (hv : S'.vars = S.vars) {dst : Option Nat} (hd : ∀ d, dst = some d → d < nt)
    (hr : relV h' φ' I' S'.as.A r cv) : RelS X φ' I' { S' with vars := putV dst r S'.vars } nt (a.put dst cv) h' := by
  refine ⟨R'.vars (putV dst r S'.vars), ?_⟩
  have RA' : RelA φ' I' S'.as nt a h' := ⟨fun x v hx => relV_mono E _ _ (RA.vars x v (by simpa [ST.as, hv] using hx)), RA.nt, RA.defers⟩
  exact RelA.app (S := S'.as) (id := 0) (hard := true) (e := { val := r }) RA' (Ext.refl' fun _ h => h) hd hr

/-- A call operation enters its function. -/
theorem exec_call {o : Oper} {f : Operand} {args : Array Operand} {tys : Array TypeId} {g : Nat} {fs cs : List Value} (ho : o.op = .call { callee := .value f, args := args, argTypes := tys })
    (hf : a.eval f = .func (.func g) fs.toArray cs.toArray) (hok : okFn P g = true) : (execOp a.eval o).run P w = .ok (.enter g (fs ++ args.toList.map a.eval ++ cs).toArray) w := by
  unfold okFn at hok
  split at hok
  · rename_i fn hfn
    simp only [Bool.and_eq_true, bne_iff_ne, ne_eq] at hok
    have h1 : (fn.name == "runtime.NumGoroutine") = false := by simp [hok.2]
    have h2 : fn.body.isNone = false := by
      cases hb : fn.body with
      | none => rw [hb] at hok; simp at hok
      | some b => rfl
    simp only [execOp, ho, resolve, Sem.run_bind, hf, Deferred.ofValue, Sem.run_pure, Result.andThen_ok, invoke, callFunc, run_program, hfn, h1, h2, Bool.false_eq_true, if_false]
    congr 2
    apply Array.ext'; simp
  · cases hok

theorem rgnS_sound {ops : Array Oper} {Q : Exit → Act → World → Prop} : ∀ (os : List Oper) (ls : List LOper), okOpers P nt ops os ls = true → ∀ (S : ST) (a : Act) (w : World) (φ : Nat → Option (Nat × Nat)) (I : Nat → Prop) (K : ST → Prop), RelS X φ I S nt a w.heap → rgnS P ls S K →
    (∀ φ' I' S' a' w', K S' → RelS X φ' I' S' nt a' w'.heap → Keep w w' → Q .normal a' w') → wpList P ops Q os a w
  | [], [], _, S, a, w, φ, I, K, R, H, hQ => hQ φ I S a w H R (Keep.refl w)
  | o :: os, l :: ls, hok, S, a, w, φ, I, K, R, H, hQ => by
    simp only [okOpers, Bool.and_eq_true] at hok
    obtain ⟨h1, h2⟩ := hok
    simp only [okOper, Bool.and_eq_true, Bool.or_eq_true] at h1
    obtain ⟨h3, h4, h5⟩ := h1
    obtain ⟨h6, h7⟩ := okDst_spec h3
    simp only [rgnS] at H
    cases hg : gd S.vars l.guard with
    | none => rw [hg] at H; exact H.elim
    | some b =>
      rw [hg] at H
      simp only [Option.sat] at H
      have hw := wanted_gd (ops := ops) (o := o) R.A h4 (by simpa [ST.as] using hg)
      cases b with
      | false =>
        unfold wpList
        rw [hw]
        simp only [Bool.false_eq_true, if_false]
        rw [h6]
        exact rgnS_sound os ls h2 _ _ w φ I K (R.any h7) H hQ
      | true =>
        unfold wpList
        rw [hw]
        simp only [if_true]
        left
        have hop : okOp P o.op l.op = true → (∀ q f args, l.op ≠ .call q f args) → Option.sat (opEff S.heap S.vars S.next l.op) (fun e => rgnS P ls (S.app l.dst e) K) → o.wp P a w (wpList P ops Q os) Q := by
          intro hk _ H
          cases he : opEff S.heap S.vars S.next l.op with
          | none => rw [he] at H; exact H.elim
          | some e =>
            rw [he] at H
            obtain ⟨φ', I', cv, w', k1, k2, kp⟩ := R.step (P := P) h7 hk he
            rw [← h6] at k2
            have k3 := rgnS_sound os ls h2 _ _ w' φ' I' K (by rw [← h6]; exact k2) H (fun φ' I' S' a' w'' q1 q2 q3 => hQ φ' I' S' a' w'' q1 q2 (kp.trans q3))
            unfold Oper.wp
            rcases k1 with k1 | ⟨k1, rfl⟩
            · rw [k1]; exact k3
            · rw [k1]; exact k3
        cases hl : l.op with
        | call q f args =>
          rw [hl] at H h5
          simp only at H
          rcases h5 with h5 | h5
          · unfold okOp at h5
            split at h5 <;> first | (rename_i hh _; cases hh; done) | (cases h5; done) | skip
            all_goals first | (rename_i hh; cases hh; done) | skip
          · unfold okCall at h5
            split at h5
            · rename_i f0 args0 tys q' f' args' ho hl'
              injection hl' with e1 e2 e3
              subst e1 e2 e3
              simp only [Bool.and_eq_true] at h5
              have hf := ev_rel R.A h5.1
              have ha := evs_rel R.A h5.2
              cases hfe : f.ev S.vars with
              | fn g first caps =>
                rw [hfe] at H
                simp only [ST.as] at hf
                rw [hfe] at hf
                simp only [relV] at hf
                obtain ⟨fs, cs, k1, k2, k3⟩ := hf
                have hx := exec_call (P := P) (w := w) (o := o) (a := a) ho k1 H.1
                have hc := H.2 X φ I w _ R.H (relL_append (relL_append k2 ha) k3)
                unfold Oper.wp
                rw [hx]
                simp only [Oper.upon]
                refine hc.mono fun e w' hh => ?_
                obtain ⟨cv, r, φ', I', S', k4, k5, k6, k7, k8, k9, kp⟩ := hh
                subst k4
                simp only
                rw [h6]
                exact rgnS_sound os ls h2 _ _ w' φ' I' K (RelS.put R.A k5 k6 k8 h7 k7) k9 (fun φ' I' S' a' w'' q1 q2 q3 => hQ φ' I' S' a' w'' q1 q2 (kp.trans q3))
              | _ => rw [hfe] at H; exact H.elim
            · cases h5
        | _ =>
          rw [hl] at H h5 hop
          simp only at H
          rcases h5 with h5 | h5
          · exact hop h5 (by simp) H
          · unfold okCall at h5
            split at h5
            · rename_i hh; cases hh
            · cases h5
  | [], _ :: _, hok, _, _, _, _, _, _, _, _, _ => by simp [okOpers] at hok
  | _ :: _, [], hok, _, _, _, _, _, _, _, _, _ => by simp [okOpers] at hok
end
end Go.AM

/- Regions that draw their order: what an operation looks at, and which ones may change places. -/
namespace Go.AM

def LOp.args : LOp → List LArg
  | .mv x => [x]
  | .own _ => []
  | .pick c a b => [c, a, b]
  | .newv _ => []
  | .box _ x => [x]
  | .build _ ps => ps.map (·.2.2)
  | .bsl _ _ _ ps => ps.map (·.2)
  | .btsl _ _ _ ps => ps.map (·.2)
  | .load _ _ a => [a]
  | .store _ a x => [a, x]
  | .bin _ x y => [x, y]
  | .eq _ _ x y => [x, y]
  | .not x => [x]
  | .neg x => [x]
  | .conv _ x => [x]
  | .mkfn _ fs cs => fs ++ cs
  | .mkmap => []
  | .mksl _ _ _ l c => [l, c]
  | .slice _ x lo hi mx => x :: (lo.toList ++ (hi.toList ++ mx.toList))
  | .substr x lo hi => x :: (lo.toList ++ hi.toList)
  | .fadr _ x => [x]
  | .idxa _ x i => [x, i]
  | .idxp _ _ x i => [x, i]
  | .field _ _ _ x => [x]
  | .idxs x i => [x, i]
  | .idxc _ _ _ x i => [x, i]
  | .lookup _ _ _ x k => [x, k]
  | .mapupd _ x k v => [x, k, v]
  | .extract x _ => [x]
  | .len _ x => [x]
  | .lenc _ => []
  | .append _ _ x y => [x, y]
  | .copy _ x y => [x, y]
  | .maxs xs => xs
  | .mins xs => xs
  | .nilck x => [x]
  | .call _ f xs => f :: xs

def LOp.cls : LOp → Nat
  | .store _ _ _ | .mapupd _ _ _ _ | .copy _ _ _ => 2
  | .load _ _ _ | .lookup _ _ _ _ _ | .newv _ | .box _ _ | .bsl _ _ _ _ | .mkmap | .mksl _ _ _ _ _ | .own _ => 1
  | .append _ _ _ _ => 3
  | .call _ _ _ => 4
  | .len .mp _ => 1
  | _ => 0

def AV.ids : AV → List Nat
  | .ptr _ b _ _ | .sl _ b _ _ | .map b => [b]
  | _ => []

def LArg.slot : LArg → Option Nat
  | .t x => some x
  | .c _ => none

def LOper.looks (l : LOper) : List Nat := l.op.args.filterMap LArg.slot ++ (match l.guard with | some p => [p.1] | none => [])

theorem ev_same {vs vs' : Vars} {x : LArg} (h : ∀ s, x.slot = some s → get vs s = get vs' s) : x.ev vs = x.ev vs' := by
  cases x with
  | t s => simp only [LArg.ev]; rw [h s rfl]
  | c v => rfl

theorem map_ev_same {vs vs' : Vars} {xs : List LArg} (h : ∀ x ∈ xs, x.ev vs = x.ev vs') : xs.map (·.ev vs) = xs.map (·.ev vs') := List.map_congr_left h

/-- An operation goes by its arguments. -/
theorem opEff_vars {H : Heap} {vs vs' : Vars} {id : Nat} {op : LOp} (h : ∀ x ∈ op.args, x.ev vs = x.ev vs') : opEff H vs id op = opEff H vs' id op := by
  cases op <;> simp only [LOp.args, List.mem_cons, List.mem_append, List.not_mem_nil, or_false, forall_eq_or_imp, forall_eq, List.mem_map, forall_exists_index, and_imp, forall_apply_eq_imp_iff₂] at h <;> simp only [opEff]
  case mv => rw [h]
  case pick => rw [h.1, h.2.1, h.2.2]
  case box => rw [h]
  case build zero ps => rw [show (ps.map fun p => (p.1, p.2.1, p.2.2.ev vs)) = ps.map fun p => (p.1, p.2.1, p.2.2.ev vs') from List.map_congr_left fun p hp => by rw [h p hp]]
  case bsl sz n zero ps => rw [show (ps.map fun p => (p.1 * sz, sz, p.2.ev vs)) = ps.map fun p => (p.1 * sz, sz, p.2.ev vs') from List.map_congr_left fun p hp => by rw [h p hp]]
  case btsl sz n zero ps => rw [show (ps.map fun p => (p.1 * sz, sz, p.2.ev vs)) = ps.map fun p => (p.1 * sz, sz, p.2.ev vs') from List.map_congr_left fun p hp => by rw [h p hp]]
  case load => rw [h]
  case store => rw [h.1, h.2]
  case bin => rw [h.1, h.2]
  case eq => rw [h.1, h.2]
  case not => rw [h]
  case neg => rw [h]
  case conv => rw [h]
  case mkfn fs cs => rw [map_ev_same (xs := fs) fun x hx => h x (.inl hx), map_ev_same (xs := cs) fun x hx => h x (.inr hx)]
  case mksl => rw [h.1, h.2]
  case slice sz x lo hi mx =>
    rw [h.1]
    have e1 : lo.map (·.ev vs) = lo.map (·.ev vs') := by cases lo with | none => rfl | some y => simp [h.2 y (.inl (by simp))]
    have e2 : hi.map (·.ev vs) = hi.map (·.ev vs') := by cases hi with | none => rfl | some y => simp [h.2 y (.inr (.inl (by simp)))]
    have e3 : mx.map (·.ev vs) = mx.map (·.ev vs') := by cases mx with | none => rfl | some y => simp [h.2 y (.inr (.inr (by simp)))]
    rw [e1, e2, e3]
  case substr x lo hi =>
    rw [h.1]
    have e1 : lo.map (·.ev vs) = lo.map (·.ev vs') := by cases lo with | none => rfl | some y => simp [h.2 y (.inl (by simp))]
    have e2 : hi.map (·.ev vs) = hi.map (·.ev vs') := by cases hi with | none => rfl | some y => simp [h.2 y (.inr (by simp))]
    rw [e1, e2]
  case fadr => rw [h]
  case idxa => rw [h.1, h.2]
  case idxp => rw [h.1, h.2]
  case field => rw [h]
  case idxs => rw [h.1, h.2]
  case idxc => rw [h.1, h.2]
  case lookup => rw [h.1, h.2]
  case mapupd => rw [h.1, h.2.1, h.2.2]
  case extract => rw [h]
  case len k x => cases k <;> simp only [h]
  case nilck => rw [h]
  case append => rw [h.1, h.2]
  case copy => rw [h.1, h.2]
  case maxs xs => rw [map_ev_same h]
  case mins xs => rw [map_ev_same h]

theorem elems_heap {H H' : Heap} {sz : Nat} {v : AV} (h : ∀ b ∈ v.ids, get H b = get H' b) : elems H sz v = elems H' sz v := by
  cases v <;> simp only [elems]
  rw [h _ (by simp [AV.ids])]

/-- Plain operations know nothing of memory. -/
theorem opEff_plain {H H' : Heap} {vs : Vars} {id id' : Nat} {op : LOp} (hc : op.cls = 0) : opEff H vs id op = opEff H' vs id' op := by
  cases op <;> simp only [LOp.cls, Nat.succ_ne_zero, reduceCtorEq] at hc <;> simp only [opEff]
  case len k x => cases k <;> first | rfl | (simp [LOp.cls] at hc)
  all_goals (cases hc)

theorem opEff_heap {H H' : Heap} {vs : Vars} {id : Nat} {op : LOp} (h : ∀ x ∈ op.args, ∀ b ∈ (x.ev vs).ids, get H b = get H' b) : opEff H vs id op = opEff H' vs id op := by
  have key : ∀ {x : LArg} {v : AV} {b : Nat}, x ∈ op.args → x.ev vs = v → b ∈ v.ids → get H b = get H' b := fun h1 h2 h3 => h _ h1 _ (by rw [h2]; exact h3)
  cases op <;> simp only [opEff]
  case load ag n a =>
    cases hv : a.ev vs <;> simp only
    rw [key (x := a) (by simp [LOp.args]) hv (by simp [AV.ids])]
  case store n a x =>
    cases hv : a.ev vs <;> simp only
    rw [key (x := a) (by simp [LOp.args]) hv (by simp [AV.ids])]
  case lookup ok t zero x k =>
    cases hv : x.ev vs <;> simp only
    rw [key (x := x) (by simp [LOp.args]) hv (by simp [AV.ids])]
  case mapupd t x k v =>
    cases hv : x.ev vs <;> simp only
    rw [key (x := x) (by simp [LOp.args]) hv (by simp [AV.ids])]
  case len k x =>
    cases k <;> simp only
    cases hv : x.ev vs <;> simp only
    rw [key (x := x) (by simp [LOp.args]) hv (by simp [AV.ids])]
  case append sz bytes x y =>
    rw [elems_heap (H := H) (H' := H') fun b hb => h y (by simp [LOp.args]) b hb]
    cases hv : x.ev vs <;> simp only
    rw [key (x := x) (by simp [LOp.args]) hv (by simp [AV.ids])]
  case copy sz x y =>
    rw [elems_heap (H := H) (H' := H') fun b hb => h y (by simp [LOp.args]) b hb]
    cases hv : x.ev vs <;> simp only
    rw [key (x := x) (by simp [LOp.args]) hv (by simp [AV.ids])]
end Go.AM

/- Regions that draw their order: one run in the text's order serves every order. -/
namespace Go.AM

def QC (P : Program) (g : Nat) (args : List AV) (H : Heap) (n : Nat) (v : AV) : Prop :=
  okFn P g = true ∧ ∀ (X : Ctx) (φ : Nat → Option (Nat × Nat)) (I : Nat → Prop) (T : AS) (w : World) (cargs : List Value), RelH X φ I T w.heap → T.next = n → (∀ b blk, get H b = some blk → get T.heap b = some blk ∧ get T.dead b = none) → relL w.heap φ I T.A args cargs →
    Calls P g cargs.toArray w fun e w' => ∃ cv φ' I', e = .returned cv ∧ RelH X φ' I' T w'.heap ∧ Ext w.heap φ I T.A w'.heap φ' I' T.A ∧ relV w'.heap φ' I' T.A v cv ∧ Keep w w'

def delAll (D : List (Nat × Unit)) (H : Heap) : Heap := match D with
  | [] => H
  | (b, _) :: D => delAll D (del b H)

theorem get_delAll : ∀ (D : List (Nat × Unit)) (H : Heap) (b : Nat), get (delAll D H) b = if get D b = none then get H b else none
  | [], H, b => by simp [delAll, get]
  | (k, u) :: D, H, b => by
    simp only [delAll, get_delAll D, get_del, get]
    by_cases h1 : k = b
    · simp [h1]
    · simp [h1]

def AS.flush (S : AS) : AS := { S with heap := delAll S.dead S.heap, dead := [] }

def AS.appD (S : AS) (l : LOper) (i : Nat) (e : Eff) : AS := (if l.op.cls = 2 then S.flush else S).app l.dst (S.next + i) false e

/-- What an operation of a region may yield in a state. -/
def DEff (P : Program) (S : AS) (l : LOper) (i : Nat) (e : Eff) : Prop :=
  (gd S.vars l.guard = some false ∧ e = { val := .tup [] }) ∨
  (gd S.vars l.guard = some true ∧ get S.used (S.next + i) = none ∧ (
    (∃ q f args v H g first caps, l.op = .call q f args ∧ e = { val := v } ∧ f.ev S.vars = .fn g first caps ∧ QC P g (first ++ args.map (·.ev S.vars) ++ caps) H S.next v ∧ ∀ b blk, get H b = some blk → b < S.next ∧ get S.heap b = some blk ∧ get S.dead b = none) ∨
    (l.op.cls = 0 ∧ opEff S.heap S.vars (S.next + i) l.op = some e) ∨
    ((l.op.cls = 1 ∨ l.op.cls = 3) ∧ opEff S.heap S.vars (S.next + i) l.op = some e ∧ softOK S.heap S.vars l.op = true ∧ (∀ x ∈ l.op.args, ∀ b ∈ (x.ev S.vars).ids, b < S.next) ∧ (∀ b, e.kill = some b → get S.dead b = none)) ∨
    (l.op.cls = 2 ∧ opEff S.flush.heap S.vars (S.next + i) l.op = some e)))

theorem opEff_shape {H : Heap} {vs : Vars} {id : Nat} {op : LOp} {e : Eff} (he : opEff H vs id op = some e) :
    (op.cls = 0 → e = { val := e.val }) ∧ (op.cls = 1 → e.upd = none ∧ e.kill = none) ∧ (op.cls = 3 → e.upd = none ∧ ∀ b, e.kill = some b → ∃ x ∈ op.args, b ∈ (x.ev vs).ids) ∧ (op.cls = 2 → e.new = none ∧ e.kill = none) := by
  have fin : ∀ {α : Type} {b : Bool} {x : Option α} {y : α}, grd b x = some y → x = some y := fun h => (grd_some h).2
  cases op <;> simp only [LOp.cls] <;> simp only [opEff] at he
  case len k x =>
    cases k <;> simp only at he ⊢ <;> (repeat' split at he) <;> first | (cases he; done) | (injection he with he; subst he; simp)
  case pick c x y => (repeat' split at he) <;> first | (cases he; done) | (injection he with he; subst he; simp)
  case append sz bytes x y =>
    split at he
    · split at he
      · have := fin he; injection this with this; subst this; simp
      · rename_i b i n hx
        split at he
        · have := fin he; injection this with this; subst this
          simp [LOp.args, hx, AV.ids]
        · cases he
      · cases he
    · cases he
  all_goals
    first
      | (injection he with he; subst he; simp; done)
      | ((repeat' (first | (have he' := fin he; clear he; rename _ => he) | split at he)) <;> first | (cases he; done) | (injection he with he; subst he; simp; done) | skip)

theorem opEff_light {H : Heap} {vs : Vars} {id : Nat} {op : LOp} {e : Eff} (he : opEff H vs id op = some e) (hc : op.cls = 1 ∨ op.cls = 3) : e.upd = none ∧ ∀ b, e.kill = some b → ∃ x ∈ op.args, b ∈ (x.ev vs).ids := by
  rcases hc with hc | hc
  · have := (opEff_shape he).2.1 hc; exact ⟨this.1, fun b hb => by rw [this.2] at hb; cases hb⟩
  · exact (opEff_shape he).2.2.1 hc

theorem softOK_vars {H : Heap} {vs vs' : Vars} {op : LOp} (h : ∀ x ∈ op.args, x.ev vs = x.ev vs') : softOK H vs op = softOK H vs' op := by
  cases op <;> simp only [softOK]
  case append => rw [h _ (by simp [LOp.args])]

theorem softOK_heap {H H' : Heap} {vs : Vars} {op : LOp} (h : ∀ x ∈ op.args, ∀ b ∈ (x.ev vs).ids, get H b = get H' b) : softOK H vs op = softOK H' vs op := by
  cases op <;> simp only [softOK]
  case append sz bytes x y =>
    cases hv : x.ev vs <;> simp only
    rw [h x (by simp [LOp.args]) _ (by rw [hv]; simp [AV.ids])]

theorem softOK_cls {H : Heap} {vs : Vars} {op : LOp} (h : op.cls ≠ 3) : softOK H vs op = true := by
  cases op <;> first | rfl | (simp [LOp.cls] at h)

section
variable {P : Program} {X : Ctx} {φ : Nat → Option (Nat × Nat)} {I : Nat → Prop} {S : AS} {nt : Nat} {a : Act} {w : World}

def DInv (S : AS) : Prop := ∀ b, get S.dead b ≠ none → b < S.next

theorem RelH.flush {h : Array Obj} (R : RelH X φ I S h) : RelH X φ I S.flush h := by
  refine R.sub (vs := S.vars) (fun b blk h1 => ?_) (fun b _ h1 => ?_)
  · rw [get_delAll] at h1
    split at h1
    · exact h1
    · cases h1
  · rw [get_delAll] at h1
    by_cases h2 : get S.dead b = none
    · exact h2
    · rw [if_neg h2] at h1; exact absurd rfl h1

theorem RelA.of_vars {T : AS} {h : Array Obj} (R : RelA φ I S nt a h) (hA : S.A = T.A) (hv : S.vars = T.vars) : RelA φ I T nt a h := R.conv hA hv

theorem okOp_call {op : Op} {q : Bool} {f : LArg} {args : List LArg} (h : okOp P op (.call q f args) = true) : False := by
  unfold okOp at h
  split at h <;> first | (rename_i hh _; cases hh; done) | (cases h; done) | skip
  all_goals (rename_i hh; cases hh)

theorem okCall_spec {op : Op} {l : LOp} (h : okCall op l = true) : ∃ q f args f' args' tys, l = .call q f args ∧ op = .call { callee := .value f', args := args', argTypes := tys } ∧ okArg f' f = true ∧ okArgs args'.toList args = true := by
  unfold okCall at h
  split at h
  · rename_i f' args' tys q f args
    simp only [Bool.and_eq_true] at h
    exact ⟨q, f, args, f', args', tys, rfl, rfl, h.1, h.2⟩
  · cases h

/-- One operation, in whatever order. -/
theorem DEff.step {ops : Array Oper} {o : Oper} {l : LOper} {i : Nat} {e : Eff} (R : RelH X φ I S w.heap) (RA : RelA φ I S nt a w.heap) (hD : DInv S) (hok : okOper P nt ops o l = true) (he : DEff P S l i e)
    {K : Act → World → Prop} {Q : Exit → Act → World → Prop} (hK : ∀ φ' I' a' w', RelH X φ' I' (S.appD l i e) w'.heap → RelA φ' I' (S.appD l i e) nt a' w'.heap → Keep w w' → K a' w') :
    if Region.wanted o (yielded ops a.tmps) then o.wp P a w K Q else K (a.put o.dst undef) w := by
  simp only [okOper, Bool.and_eq_true, Bool.or_eq_true] at hok
  obtain ⟨h3, h4, h5⟩ := hok
  obtain ⟨h6, h7⟩ := okDst_spec h3
  have RAf : ∀ (b : Bool), RelH X φ I (if l.op.cls = 2 then S.flush else S) w.heap ∧ RelA φ I (if l.op.cls = 2 then S.flush else S) nt a w.heap := fun _ => by
    split
    · exact ⟨R.flush, RA.of_vars rfl rfl⟩
    · exact ⟨R, RA⟩
  rcases he with ⟨hg, rfl⟩ | ⟨hg, hu, he⟩
  · rw [wanted_gd (ops := ops) (o := o) RA h4 hg]
    simp only [Bool.false_eq_true, if_false]
    obtain ⟨R1, RA1⟩ := RAf true
    refine hK φ I _ w (R1.vars (putV l.dst (.tup []) _)) ?_ (Keep.refl w)
    rw [h6]
    exact RelA.app (id := S.next + i) (hard := false) (e := { val := .tup [] }) RA1 (Ext.refl' fun _ h => h) h7 (by simp [relV, relL, undef])
  · rw [wanted_gd (ops := ops) (o := o) RA h4 hg]
    simp only [if_true]
    have fin : ∀ {T : AS}, (∃ φ' I' cv w', ((execOp a.eval o).run P w = .ok (.value cv) w' ∨ ((execOp a.eval o).run P w = .ok .skip w' ∧ cv = undef)) ∧ RelH X φ' I' T w'.heap ∧ RelA φ' I' T nt (a.put l.dst cv) w'.heap ∧ Keep w w') →
        (∀ φ' I' a' w', RelH X φ' I' T w'.heap → RelA φ' I' T nt a' w'.heap → Keep w w' → K a' w') → o.wp P a w K Q := fun {T} ⟨φ', I', cv, w', k1, k2, k3, k4⟩ hK => by
      unfold Oper.wp
      rcases k1 with k1 | ⟨k1, rfl⟩
      · rw [k1]; simp only [Oper.upon]; rw [h6]; exact hK φ' I' _ w' k2 k3 k4
      · rw [k1]; simp only [Oper.upon]; rw [h6]; exact hK φ' I' _ w' k2 k3 k4
    have hnc : ∀ {H : Heap} {id : Nat}, opEff H S.vars id l.op = some e → okOp P o.op l.op = true := fun he => by
      rcases h5 with h5 | h5
      · exact h5
      · obtain ⟨q, f, args, _, _, _, h8, _⟩ := okCall_spec h5
        rw [h8] at he; simp [opEff] at he
    have hid : ¬ S.A (S.next + i) := fun h9 => by
      rcases h9 with h9 | h9
      · omega
      · rw [hu] at h9; cases h9
    rcases he with ⟨q, f, args, v, H, g, first, caps, hl, rfl, hf, hqc, hH⟩ | ⟨hc, he⟩ | ⟨hc, he, hs, hids, hkill⟩ | ⟨hc, he⟩
    · rw [hl] at h5
      rcases h5 with h5 | h5
      · exact (okOp_call h5).elim
      · obtain ⟨q', f0, args0, f', args', tys, k1, k2, k3, k4⟩ := okCall_spec h5
        injection k1 with k5 k6 k7; subst k5 k6 k7
        have hfe := ev_rel RA k3
        rw [hf] at hfe
        simp only [relV] at hfe
        obtain ⟨fs, cs, k8, k9, k10⟩ := hfe
        have hx := exec_call (P := P) (w := w) (o := o) (a := a) k2 k8 hqc.1
        have hcall := hqc.2 X φ I S w _ R rfl (fun b blk hb => (hH b blk hb).2) (relL_append (relL_append k9 (evs_rel RA k4)) k10)
        have happ : S.appD l i { val := v } = { S with vars := putV l.dst v S.vars } := by simp [AS.appD, hl, LOp.cls, AS.app]
        rw [happ] at hK
        unfold Oper.wp
        rw [hx]
        simp only [Oper.upon]
        refine hcall.mono fun e w' hh => ?_
        obtain ⟨cv, φ', I', k11, k12, k13, k14, kp⟩ := hh
        subst k11
        simp only
        rw [h6]
        refine hK φ' I' _ w' (k12.vars (putV l.dst v S.vars)) ?_ kp
        have RA' : RelA φ' I' S nt a w'.heap := ⟨fun x v hx => relV_mono k13 _ _ (RA.vars x v hx), RA.nt, RA.defers⟩
        exact RelA.app (S := S) (id := S.next + i) (hard := false) (e := { val := v }) RA' (Ext.refl' fun _ h => h) h7 k14
    · have hsh := (opEff_shape he).1 hc
      have Y := op_sound (P := P) (o := o) (hard := false) R RA h7 hid (hnc he) he (fun h => by cases h) hD (fun _ => ⟨softOK_cls (by rw [hc]; decide), by rw [hsh]; simp⟩) (by rw [hsh]; simp)
      simp only [AS.appD, hc] at hK
      exact fin Y hK
    · have hsh := opEff_light he hc
      have hc2 : l.op.cls ≠ 2 := by omega
      have Y := op_sound (P := P) (o := o) (hard := false) R RA h7 hid (hnc he) he (fun h => by cases h) hD (fun _ => ⟨hs, fun b hb => ?_⟩) (fun h => absurd hsh.1 h)
      · simp only [AS.appD, hc2] at hK
        exact fin Y hK
      · obtain ⟨x, k1, k2⟩ := hsh.2 b hb
        exact ⟨hids x k1 b k2, hkill b hb⟩
    · have hsh := (opEff_shape he).2.2.2 hc
      have Y := op_sound (P := P) (o := o) (hard := false) (S := S.flush) R.flush (RA.of_vars rfl rfl) h7 hid (hnc he) he (fun h => by cases h) (fun b hb => by simp [AS.flush, get] at hb) (fun _ => ⟨softOK_cls (by rw [hc]; decide), by rw [hsh.2]; simp⟩) (fun _ _ => rfl)
      simp only [AS.appD, hc, if_true] at hK
      exact fin Y hK

theorem DInv.app (hD : DInv S) {l : LOper} {i : Nat} {e : Eff} (he : DEff P S l i e) : DInv (S.appD l i e) := by
  intro b hb
  have hd : get (S.appD l i e).dead b ≠ none → get S.dead b ≠ none ∨ e.kill = some b := by
    unfold AS.appD
    split
    · simp only [AS.app, AS.flush]
      cases hk : e.kill with
      | none => simp [get]
      | some b' =>
        simp only [kdd, get_ins, get]
        intro h; split at h
        · rename_i h'; subst h'; exact .inr rfl
        · exact absurd rfl h
    · simp only [AS.app]
      cases hk : e.kill with
      | none => exact fun h => .inl h
      | some b' =>
        simp only [kdd, get_ins]
        intro h; split at h
        · rename_i h'; subst h'; exact .inr rfl
        · exact .inl h
  have hn : (S.appD l i e).next = S.next := by unfold AS.appD; split <;> rfl
  rw [hn]
  rcases hd hb with h1 | h1
  · exact hD b h1
  · rcases he with ⟨_, rfl⟩ | ⟨_, _, he⟩
    · cases h1
    · rcases he with ⟨q, f, args, v, H, g, first, caps, hl, rfl, hf, hqc, hH⟩ | ⟨hc, he⟩ | ⟨hc, he, hs, hids, hkill⟩ | ⟨hc, he⟩
      · cases h1
      · rw [(opEff_shape he).1 hc] at h1; cases h1
      · obtain ⟨x, k1, k2⟩ := (opEff_light he hc).2 b h1
        exact hids x k1 b k2
      · rw [((opEff_shape he).2.2.2 hc).2] at h1; cases h1
end
end Go.AM

/- Operations that may change places, and the theorem on drawn orders. -/
namespace Go.AM

def apartL (x y : LOper) : Bool :=
  (match x.dst with
    | some d => !(y.looks.contains d) && !(decide (y.dst = some d))
    | none => true) &&
  (match y.dst with
    | some d => !(x.looks.contains d)
    | none => true)

def clsOK (x y : LOper) : Bool := match x.op.cls, y.op.cls with
  | 0, _ => true
  | _, 0 => true
  | 1, 1 => true
  | 1, 3 => true
  | 3, 1 => true
  | 1, 4 => true
  | 4, 1 => true
  | 3, 3 => true
  | 4, 4 => true
  | _, _ => false

theorem apartL_spec {x y : LOper} (h : apartL x y = true) : (∀ d, x.dst = some d → d ∉ y.looks) ∧ (∀ d, x.dst = some d → y.dst ≠ some d) ∧ (∀ d, y.dst = some d → d ∉ x.looks) := by
  refine ⟨fun d hd => ?_, fun d hd => ?_, fun d hd => ?_⟩ <;> simp [apartL, hd] at h
  · exact h.1.1
  · exact h.1.2
  · exact h.2

theorem putV_get {dst : Option Nat} {v : AV} {vs : Vars} {s : Nat} (h : ∀ d, dst = some d → d ≠ s) : get (putV dst v vs) s = get vs s := by
  cases dst with
  | none => rfl
  | some d => simp only [putV, get_ins]; rw [if_neg (h d rfl)]

theorem putV_comm {d d' : Option Nat} {v v' : AV} {vs : Vars} (h : ∀ x, d = some x → d' ≠ some x) : putV d' v' (putV d v vs) = putV d v (putV d' v' vs) := by
  cases d with
  | none => rfl
  | some x =>
    cases d' with
    | none => rfl
    | some y => simp only [putV]; exact ins_comm vs v' v (fun e => h x rfl (by rw [e]))

theorem gd_same {vs vs' : Vars} {l : LOper} (h : ∀ s ∈ l.looks, get vs s = get vs' s) : gd vs l.guard = gd vs' l.guard := by
  cases hg : l.guard with
  | none => rfl
  | some p =>
    obtain ⟨x, b⟩ := p
    simp only [gd]
    rw [h x (by simp [LOper.looks, hg])]

theorem args_same {vs vs' : Vars} {l : LOper} (h : ∀ s ∈ l.looks, get vs s = get vs' s) : ∀ x ∈ l.op.args, x.ev vs = x.ev vs' := fun x hx =>
  ev_same fun s hs => h s (List.mem_append_left _ (List.mem_filterMap.2 ⟨x, hx, hs⟩))

/-- What an operation yields in one state it yields in another that it can't tell from it. -/
theorem DEff.move {P : Program} {S T : AS} {l : LOper} {i : Nat} {e : Eff} (he : DEff P S l i e) (hv : ∀ s ∈ l.looks, get S.vars s = get T.vars s) (hn : T.next = S.next) (hu : get S.used (S.next + i) = none → get T.used (S.next + i) = none)
    (hh : l.op.cls ≠ 0 → ∀ b, b < S.next → get S.heap b = get T.heap b) (hk : ∀ b, e.kill = some b → get S.dead b = none → get T.dead b = none) (hcall : l.op.cls = 4 → ∀ b, get S.dead b = none → get T.dead b = none)
    (hf : l.op.cls = 2 → S.flush.heap = T.flush.heap) : DEff P T l i e := by
  have hgd := gd_same hv
  have hargs := args_same hv
  rcases he with ⟨hg, rfl⟩ | ⟨hg, hus, he⟩
  · exact .inl ⟨hgd ▸ hg, rfl⟩
  · refine .inr ⟨hgd ▸ hg, by rw [hn]; exact hu hus, ?_⟩
    rw [hn]
    rcases he with ⟨q, f, args, v, H, g, first, caps, hl, rfl, hfe, hqc, hH⟩ | ⟨hc, he⟩ | ⟨hc, he, hs, hids, hkill⟩ | ⟨hc, he⟩
    · refine .inl ⟨q, f, args, v, H, g, first, caps, hl, rfl, ?_, ?_, fun b blk hb => ?_⟩
      · rw [← hargs f (by rw [hl]; simp [LOp.args])]; exact hfe
      · rw [← map_ev_same (vs := S.vars) (vs' := T.vars) fun x hx => hargs x (by rw [hl]; simp [LOp.args, hx])]
        exact hqc
      · obtain ⟨h1, h2, h3⟩ := hH b blk hb
        exact ⟨h1, by rw [← hh (by rw [hl]; simp [LOp.cls]) b h1]; exact h2, hcall (by rw [hl]; rfl) b h3⟩
    · refine .inr (.inl ⟨hc, ?_⟩)
      rw [← opEff_vars hargs, opEff_plain hc (H' := S.heap) (id' := S.next + i)]; exact he
    · have hids' : ∀ x ∈ l.op.args, ∀ b ∈ (x.ev T.vars).ids, b < S.next := fun x hx b hb => hids x hx b (by rw [hargs x hx]; exact hb)
      have hheap : ∀ x ∈ l.op.args, ∀ b ∈ (x.ev S.vars).ids, get S.heap b = get T.heap b := fun x hx b hb => hh (by omega) b (hids x hx b hb)
      refine .inr (.inr (.inl ⟨hc, ?_, ?_, hids', fun b hb => hk b hb (hkill b hb)⟩))
      · rw [← opEff_vars hargs, ← opEff_heap hheap]; exact he
      · rw [← softOK_vars hargs, ← softOK_heap hheap]; exact hs
    · refine .inr (.inr (.inr ⟨hc, ?_⟩))
      rw [← opEff_vars hargs, ← hf hc]; exact he

section
variable {P : Program} {S : AS} {li lj : LOper} {i j : Nat} {ei ej : Eff}

theorem DEff.plain (he : DEff P S li i ei) (hc : li.op.cls = 0) : ei = { val := ei.val } := by
  rcases he with ⟨_, rfl⟩ | ⟨_, _, he⟩
  · rfl
  · rcases he with ⟨q, f, args, v, H, g, first, caps, hl, rfl, _⟩ | ⟨_, he⟩ | ⟨hc', _⟩ | ⟨hc', _⟩
    · rfl
    · exact (opEff_shape he).1 hc
    · omega
    · omega

theorem DEff.noupd (he : DEff P S li i ei) (hc : li.op.cls ≠ 2) : ei.upd = none := by
  rcases he with ⟨_, rfl⟩ | ⟨_, _, he⟩
  · rfl
  · rcases he with ⟨q, f, args, v, H, g, first, caps, hl, rfl, _⟩ | ⟨hc', he⟩ | ⟨hc', he, _⟩ | ⟨hc', _⟩
    · rfl
    · rw [(opEff_shape he).1 hc']
    · exact (opEff_light he hc').1
    · omega

theorem appD_next : (S.appD li i ei).next = S.next := by unfold AS.appD; split <;> rfl

theorem appD_vars : (S.appD li i ei).vars = putV li.dst ei.val S.vars := by unfold AS.appD; split <;> rfl

theorem appD_plain (hp : ei = { val := ei.val }) (hc : li.op.cls ≠ 2) : S.appD li i ei = { S with vars := putV li.dst ei.val S.vars } := by
  rw [hp]; simp [AS.appD, hc, AS.app]

theorem looks_put {l l' : LOper} {v : AV} {vs : Vars} (h : ∀ d, l.dst = some d → d ∉ l'.looks) : ∀ s ∈ l'.looks, get (putV l.dst v vs) s = get vs s := fun s hs =>
  putV_get fun d hd e => h d hd (e ▸ hs)

/-- A plain operation changes places with any. -/
theorem DEff.swap_plain (hap : apartL li lj = true) (hc : li.op.cls = 0) (hi : DEff P S li i ei) (hj : DEff P (S.appD li i ei) lj j ej) (hij : i ≠ j) :
    DEff P S lj j ej ∧ DEff P (S.appD lj j ej) li i ei ∧ (S.appD li i ei).appD lj j ej = (S.appD lj j ej).appD li i ei := by
  obtain ⟨h1, h2, h3⟩ := apartL_spec hap
  have hpl := hi.plain hc
  have hSi := appD_plain (S := S) (li := li) (i := i) hpl (by omega)
  rw [hSi] at hj
  have hj' : DEff P S lj j ej := hj.move (looks_put h1) rfl (fun h => h) (fun _ _ _ => rfl) (fun _ _ h => h) (fun _ _ h => h) (fun _ => rfl)
  refine ⟨hj', ?_, ?_⟩
  · refine hi.move (fun s hs => ?_) appD_next (fun h => ?_) (fun h => absurd hc h) (fun b hb => by rw [hpl] at hb; cases hb) (fun h => by omega) (fun h => by omega)
    · rw [appD_vars, looks_put h3 s hs]
    · have : ∀ U : AS, U.used = S.used → U.next = S.next → get (U.app lj.dst (S.next + j) false ej).used (S.next + i) = none := fun U hU _ => by
        simp only [AS.app]
        cases ej.new with
        | none => simp only [hU]; exact h
        | some blk => simp only [get_ins]; rw [if_neg (by omega), hU]; exact h
      unfold AS.appD
      split
      · exact this S.flush rfl rfl
      · exact this S rfl rfl
  · rw [hSi, appD_plain (S := S.appD lj j ej) (li := li) (i := i) hpl (by omega)]
    unfold AS.appD
    split
    · simp only [AS.app, AS.flush]; rw [putV_comm h2]
    · simp only [AS.app]; rw [putV_comm h2]

theorem DEff.swap (hap : apartL li lj = true) (hcl : clsOK li lj = true) (hij : i ≠ j) (hi : DEff P S li i ei) (hj : DEff P (S.appD li i ei) lj j ej) :
    DEff P S lj j ej ∧ DEff P (S.appD lj j ej) li i ei ∧ (S.appD li i ei).appD lj j ej = (S.appD lj j ej).appD li i ei := by
  obtain ⟨h1, h2, h3⟩ := apartL_spec hap
  by_cases hc : li.op.cls = 0
  · exact hi.swap_plain hap hc hj hij
  by_cases hc' : lj.op.cls = 0
  · -- the other one is plain
    have hpl := hj.plain hc'
    have hSj : ∀ U : AS, U.appD lj j ej = { U with vars := putV lj.dst ej.val U.vars } := fun U => appD_plain (li := lj) hpl (by omega)
    have hused : get (S.appD li i ei).used (S.next + j) = none → get S.used (S.next + j) = none := by
      have : ∀ U : AS, U.used = S.used → get (U.app li.dst (S.next + i) false ei).used (S.next + j) = none → get S.used (S.next + j) = none := fun U hU h => by
        simp only [AS.app] at h
        cases hn : ei.new with
        | none => rw [hn] at h; simp only [hU] at h; exact h
        | some blk => rw [hn] at h; simp only [get_ins] at h; rw [if_neg (by omega), hU] at h; exact h
      unfold AS.appD
      split
      · exact this S.flush rfl
      · exact this S rfl
    have hj' : DEff P S lj j ej := hj.move (fun s hs => by rw [appD_vars, looks_put h1 s hs]) appD_next.symm (fun h => by rw [appD_next] at h ⊢; exact hused h) (fun h => absurd hc' h) (fun b hb => by rw [hpl] at hb; cases hb) (fun h => by omega) (fun h => by omega)
    refine ⟨hj', ?_, ?_⟩
    · rw [hSj]
      exact hi.move (fun s hs => (looks_put h3 s hs).symm) rfl (fun h => h) (fun _ _ _ => rfl) (fun _ _ h => h) (fun _ _ h => h) (fun _ => rfl)
    · rw [hSj, hSj]
      unfold AS.appD
      split
      · simp only [AS.app, AS.flush]; rw [putV_comm h2]
      · simp only [AS.app]; rw [putV_comm h2]
  · -- both look at memory, and neither writes
    have hl : li.op.cls ≠ 2 ∧ lj.op.cls ≠ 2 ∧ (li.op.cls = 4 → lj.op.cls ≠ 3) ∧ (lj.op.cls = 4 → li.op.cls ≠ 3) := by
      unfold clsOK at hcl
      split at hcl <;> first | (cases hcl; done) | (rename_i e1 e2; omega) | (rename_i e1; omega)
    have hA : ∀ (U : AS) (l : LOper) (k : Nat) (e : Eff), l.op.cls ≠ 2 → U.appD l k e = U.app l.dst (U.next + k) false e := fun U l k e h => by simp [AS.appD, h]
    have ui := hi.noupd hl.1
    have uj := hj.noupd hl.2.1
    -- kills
    have kcls : ∀ {U : AS} {l : LOper} {k : Nat} {e : Eff} {b : Nat}, DEff P U l k e → e.kill = some b → l.op.cls ≠ 2 → l.op.cls = 3 ∧ get U.dead b = none := by
      intro U l k e b he hb hc2
      rcases he with ⟨_, rfl⟩ | ⟨_, _, he⟩
      · cases hb
      · rcases he with ⟨q, f, args, v, H, g, first, caps, hl, rfl, _⟩ | ⟨hc', he⟩ | ⟨hc', he, _, _, hk⟩ | ⟨hc', _⟩
        · cases hb
        · rw [(opEff_shape he).1 hc'] at hb; cases hb
        · rcases hc' with hc' | hc'
          · rw [((opEff_shape he).2.1 hc').2] at hb; cases hb
          · exact ⟨hc', hk b hb⟩
        · omega
    have hdead : ∀ (U : AS) (d : Option Nat) (id b : Nat) (e : Eff), get (U.app d id false e).dead b = none ↔ get U.dead b = none ∧ e.kill ≠ some b := fun U d id b e => by
      simp only [AS.app]
      cases hk : e.kill with
      | none => simp
      | some k =>
        simp only [kdd, get_ins]
        by_cases h : k = b
        · simp [h]
        · simp [h]
    have hheap : ∀ (U : AS) (d : Option Nat) (id b : Nat) (e : Eff), e.upd = none → b ≠ id → get (U.app d id false e).heap b = get U.heap b := fun U d id b e hu hb => by
      simp only [AS.app, hu]
      cases e.kill <;> cases e.new <;> simp only [khp, get_ins] <;> rw [if_neg (Ne.symm hb)]
    have hused : ∀ (U : AS) (d : Option Nat) (id b : Nat) (e : Eff), b ≠ id → (get (U.app d id false e).used b = none ↔ get U.used b = none) := fun U d id b e hb => by
      simp only [AS.app]
      cases e.new with
      | none => exact Iff.rfl
      | some blk => simp only [get_ins]; rw [if_neg (Ne.symm hb)]
    rw [hA S li i ei hl.1] at hj
    have nkij : ∀ b, ei.kill = some b → ej.kill ≠ some b := fun b hb hb' => by
      have := (kcls hj hb' hl.2.1).2
      rw [hdead] at this
      exact this.2 hb
    have hj' : DEff P S lj j ej := by
      refine hj.move (fun s hs => ?_) rfl (fun h => (hused _ _ _ _ _ (by simp only [AS.app]; omega)).1 h) (fun _ b hb => hheap _ _ _ _ _ ui (by simp only [AS.app] at hb; omega)) (fun b _ h => ((hdead _ _ _ _ _).1 h).1) (fun _ b h => ((hdead _ _ _ _ _).1 h).1) (fun h => absurd h hl.2.1)
      show get (putV li.dst ei.val S.vars) s = _
      exact looks_put h1 s hs
    refine ⟨hj', ?_, ?_⟩
    · rw [hA S lj j ej hl.2.1]
      refine hi.move (fun s hs => ?_) rfl (fun h => (hused _ _ _ _ _ (by omega)).2 h) (fun _ b hb => (hheap _ _ _ _ _ uj (by omega)).symm) (fun b hb h => (hdead _ _ _ _ _).2 ⟨h, fun h' => nkij b hb h'⟩) (fun hc4 b h => (hdead _ _ _ _ _).2 ⟨h, fun h' => ?_⟩) (fun h => absurd h hl.1)
      · show _ = get (putV lj.dst ej.val S.vars) s
        exact (looks_put h3 s hs).symm
      · exact absurd (kcls hj' h' hl.2.1).1 (hl.2.2.1 hc4)
    · rw [hA S li i ei hl.1, hA S lj j ej hl.2.1, hA _ lj j ej hl.2.1, hA _ li i ei hl.1]
      show (S.app li.dst (S.next + i) false ei).app lj.dst (S.next + j) false ej = (S.app lj.dst (S.next + j) false ej).app li.dst (S.next + i) false ei
      simp only [AS.app, ui, uj, AS.mk.injEq, true_and]
      refine ⟨putV_comm h2, ?_, ?_, ?_⟩
      · cases ei.kill <;> cases ej.kill <;> cases ei.new <;> cases ej.new <;> simp only [khp] <;> exact ins_comm _ _ _ (by omega)
      · cases ei.new <;> cases ej.new <;> first | rfl | exact ins_comm _ _ _ (by omega)
      · cases hki : ei.kill with
        | none => cases ej.kill <;> rfl
        | some b =>
          cases hkj : ej.kill with
          | none => rfl
          | some b' =>
            simp only [kdd]
            exact ins_comm _ _ _ (fun e => nkij b hki (by rw [hkj, e]))
end
end Go.AM

/- The theorem on drawn orders; rules for code. -/
namespace Go.AM

section
variable {P : Program} {X : Ctx} {φ : Nat → Option (Nat × Nat)} {I : Nat → Prop} {S : AS} {nt : Nat} {a : Act} {w : World} {ops : Array Oper} {ls : List LOper} {md : Region.Mode}

def aOp (P : Program) (ls : List LOper) (i : Nat) (K : AS → Prop) (S : AS) : Prop := match ls[i]? with
  | none => False
  | some l => ∃ e, DEff P S l i e ∧ K (S.appD l i e)

theorem aOp_mono {i : Nat} {K K' : AS → Prop} (h : ∀ S, K S → K' S) (H : aOp P ls i K S) : aOp P ls i K' S := by
  unfold aOp at *
  split
  · rename_i h1; rw [h1] at H; exact H
  · rename_i l h1; rw [h1] at H; obtain ⟨e, h2, h3⟩ := H; exact ⟨e, h2, h _ h3⟩

def anyA (P : Program) (md : Region.Mode) (ops : Array Oper) (ls : List LOper) (Q : AS → Prop) : Nat → Array Bool → AS → Prop
  | 0, listed, S => Region.ready md ops listed = [] ∧ Q S
  | fuel + 1, listed, S => (Region.ready md ops listed = [] → Q S) ∧ ∀ i ∈ Region.ready md ops listed, aOp P ls i (anyA P md ops ls Q fuel (listed.setIfInBounds i true)) S

theorem okOpers_get : ∀ {os : List Oper} {ls : List LOper} {i : Nat} {l : LOper}, okOpers P nt ops os ls = true → ls[i]? = some l → ∃ o, os[i]? = some o ∧ okOper P nt ops o l = true
  | [], [], i, l, _, h => by simp at h
  | o :: os, m :: ls, i, l, hok, h => by
    simp only [okOpers, Bool.and_eq_true] at hok
    cases i with
    | zero => simp at h; subst h; exact ⟨o, by simp, hok.1⟩
    | succ i => simp at h; obtain ⟨o', h1, h2⟩ := okOpers_get hok.2 h; exact ⟨o', by simpa using h1, h2⟩
  | [], _ :: _, _, _, hok, _ => by simp [okOpers] at hok
  | _ :: _, [], _, _, hok, _ => by simp [okOpers] at hok

/-- In whatever order. -/
theorem anyA_sound {Q : AS → Prop} {Q' : Exit → Act → World → Prop} (hok : okOpers P nt ops ops.toList ls = true) {w0 : World} (hQ : ∀ φ' I' S' a' w', Q S' → RelH X φ' I' S' w'.heap → RelA φ' I' S' nt a' w'.heap → Keep w0 w' → Q' .normal a' w') :
    ∀ (fuel : Nat) (listed : Array Bool) (S : AS) (φ : Nat → Option (Nat × Nat)) (I : Nat → Prop) (a : Act) (w : World), RelH X φ I S w.heap → RelA φ I S nt a w.heap → Keep w0 w → DInv S → anyA P md ops ls Q fuel listed S → wpAny P md ops Q' fuel listed a w
  | 0, _, S, φ, I, a, w, R, RA, kp, _, h => ⟨h.1, hQ φ I S a w h.2 R RA kp⟩
  | fuel + 1, listed, S, φ, I, a, w, R, RA, kp, hD, h => ⟨fun h0 => hQ φ I S a w (h.1 h0) R RA kp, fun i hi => by
    have h1 := h.2 i hi
    unfold aOp at h1
    split at h1
    · exact h1.elim
    · rename_i l hl
      obtain ⟨e, h2, h3⟩ := h1
      obtain ⟨o, h4, h5⟩ := okOpers_get hok hl
      have h6 : ops[i]? = some o := by rw [← Array.getElem?_toList]; exact h4
      have h7 := DEff.step (Q := Q') (K := wpAny P md ops Q' fuel (listed.setIfInBounds i true)) R RA hD h5 h2 (fun φ' I' a' w' k1 k2 k3 => anyA_sound hok hQ fuel _ _ φ' I' a' w' k1 k2 (kp.trans k3) (hD.app h2) h3)
      unfold wpOp
      simp only [h6]
      split
      · rename_i hw; rw [if_pos hw] at h7; exact .inl h7
      · rename_i hw; rw [if_neg hw] at h7; exact h7⟩

theorem anyA_first {Q : AS → Prop} {i : Nat} {li : LOper} {ei : Eff} (hi : ls[i]? = some li) (hlen : ls.length = ops.size) :
    ∀ (fuel : Nat) (listed : Array Bool) (S : AS), (∀ j lj oj, ls[j]? = some lj → ops[j]? = some oj → j ≠ i → listed.getD j true = false → (∀ e ∈ oj.after, Region.binds md e = true → e.on ≠ i) → apartL li lj = true ∧ clsOK li lj = true) →
      i ∈ Region.ready md ops listed → DEff P S li i ei → anyA P md ops ls Q fuel (listed.setIfInBounds i true) (S.appD li i ei) → anyA P md ops ls Q (fuel + 1) listed S := by
  have hop : ∀ {S : AS} {K : AS → Prop}, DEff P S li i ei → K (S.appD li i ei) → aOp P ls i K S := fun h1 h2 => by unfold aOp; rw [hi]; exact ⟨ei, h1, h2⟩
  intro fuel
  induction fuel with
  | zero =>
    intro listed S _ hr hy H
    refine ⟨fun h => (by rw [h] at hr; cases hr), fun j hj => ?_⟩
    by_cases hji : j = i
    · subst hji; exact hop hy H
    · have := ready_mono hj hji
      rw [H.1] at this
      cases this
  | succ fuel ih =>
    intro listed S hfree hr hy H
    refine ⟨fun h => (by rw [h] at hr; cases hr), fun j hj => ?_⟩
    by_cases hji : j = i
    · subst hji; exact hop hy H
    · have h1 := H.2 j (ready_mono hj hji)
      obtain ⟨hjun, oj, hoj, hall⟩ := mem_ready.1 hj
      have hjl : j < ls.length := by
        rw [hlen]
        rcases Nat.lt_or_ge j ops.size with h | h
        · exact h
        · rw [Array.getElem?_eq_none h] at hoj; cases hoj
      have hlj : ls[j]? = some ls[j] := List.getElem?_eq_getElem hjl
      have hnot : ∀ e ∈ oj.after, Region.binds md e = true → e.on ≠ i := fun e he hb heq => by
        have h1 := hall e he hb
        have h0 := (mem_ready.1 hr).1
        rw [heq] at h1
        rcases Nat.lt_or_ge i listed.size with h' | h'
        · simp [h'] at h0 h1; rw [h0] at h1; cases h1
        · simp [Array.getElem?_eq_none h'] at h1
      obtain ⟨hap, hcl⟩ := hfree j _ oj hlj hoj hji hjun hnot
      unfold aOp at h1 ⊢
      rw [hlj] at h1 ⊢
      obtain ⟨ej, h2, h3⟩ := h1
      obtain ⟨k1, k2, k3⟩ := hy.swap hap hcl (Ne.symm hji) h2
      refine ⟨ej, k1, ?_⟩
      refine ih (listed.setIfInBounds j true) _ (fun k lk ok hlk hok hki hun hno => ?_) (ready_mono hr (Ne.symm hji)) k2 ?_
      · refine hfree k lk ok hlk hok hki ?_ hno
        by_cases hjk : j = k
        · subst hjk; exact hjun
        · rw [getD_set_ne true hjk] at hun; exact hun
      · rw [← k3, Array.setIfInBounds_comm _ _ hji]
        exact h3

/-- The run in the text's order. -/
def dRun (P : Program) : List LOper → Nat → AS → (AS → Prop) → Prop
  | [], _, S, K => K S
  | l :: ls, i, S, K => ∃ e, DEff P S l i e ∧ dRun P ls (i + 1) (S.appD l i e) K

def freeC (md : Region.Mode) (ops : Array Oper) (ls : List LOper) (listed : Array Bool) (k : Nat) : Bool :=
  match ls[k]? with
  | none => false
  | some lk => (List.range ops.size).all fun j => listed.getD j true || (decide (j = k) || ((match ops[j]? with
    | some o => o.after.any fun e => Region.binds md e && decide (e.on = k)
    | none => true) || (match ls[j]? with
      | some lj => apartL lk lj && clsOK lk lj
      | none => false)))

def lexC (md : Region.Mode) (ops : Array Oper) (ls : List LOper) : Nat → Nat → Array Bool → Bool
  | 0, _, listed => (Region.ready md ops listed).isEmpty
  | fuel + 1, k, listed => (Region.ready md ops listed).contains k && (freeC md ops ls listed k && lexC md ops ls fuel (k + 1) (listed.setIfInBounds k true))

theorem freeC_spec {listed : Array Bool} {k : Nat} {lk : LOper} (hk : ls[k]? = some lk) (h : freeC md ops ls listed k = true) : ∀ j lj oj, ls[j]? = some lj → ops[j]? = some oj → j ≠ k → listed.getD j true = false → (∀ e ∈ oj.after, Region.binds md e = true → e.on ≠ k) → apartL lk lj = true ∧ clsOK lk lj = true := by
  intro j lj oj h1 h2 h3 h4 h5
  unfold freeC at h
  rw [hk] at h
  simp only [List.all_eq_true, List.mem_range, Bool.or_eq_true, decide_eq_true_eq] at h
  have hj : j < ops.size := by
    rcases Nat.lt_or_ge j ops.size with h' | h'
    · exact h'
    · rw [Array.getElem?_eq_none h'] at h2; cases h2
  rcases h j hj with h6 | h6 | h6 | h6
  · rw [h4] at h6; cases h6
  · exact absurd h6 h3
  · rw [h2] at h6
    simp only [Array.any_eq_true, Bool.and_eq_true, decide_eq_true_eq] at h6
    obtain ⟨q, hq, h7, h8⟩ := h6
    exact absurd h8 (h5 _ (Array.getElem_mem hq) h7)
  · rw [h1] at h6
    simpa using h6

theorem anyA_lex {Q : AS → Prop} (hlen : ls.length = ops.size) : ∀ (l : List LOper) (k : Nat) (listed : Array Bool) (S : AS), (∀ j, l[j]? = ls[k + j]?) → lexC md ops ls l.length k listed = true → dRun P l k S Q → anyA P md ops ls Q l.length listed S
  | [], _, _, _, _, hB, h => ⟨by simpa [lexC] using hB, h⟩
  | o :: l, k, listed, S, hl, hB, h => by
    have h0 : ls[k]? = some o := by simpa using (hl 0).symm
    simp only [List.length_cons, lexC, Bool.and_eq_true] at hB
    obtain ⟨hr, hf, hB'⟩ := hB
    obtain ⟨e, h1, h2⟩ := h
    exact anyA_first h0 hlen l.length listed S (freeC_spec h0 hf) (by simpa using hr) h1
      (anyA_lex hlen l (k + 1) _ _ (fun j => by have := hl (j + 1); simpa [Nat.add_assoc, Nat.add_comm 1 j] using this) hB' h2)

def regC (ops : Array Oper) (ls : List LOper) : Bool := decide (ls.length = ops.size) && lexC .any ops ls ls.length 0 (Array.replicate ops.size false)

/-- The state behind a region. -/
def AS.fin (S : AS) (n : Nat) : ST := ⟨S.vars, delAll S.dead S.heap, S.next + n⟩

def UInv (S : AS) (n : Nat) : Prop := ∀ b, get S.used b ≠ none → b < S.next + n

theorem RelH.wide {T : AS} {h : Array Obj} (R : RelH X φ I S h) (hA : ∀ b, S.A b → T.A b) (hh : S.heap = T.heap) (hd : ∀ b, get S.dead b = none) (hn : S.next ≤ T.next) : RelH X φ I T h :=
  ⟨fun b blk h1 => by obtain ⟨k1, k2⟩ := R.heap b blk (hh ▸ h1); exact ⟨hA b k1, relB_same (Ext.refl' hA) k1 (fun _ _ _ => rfl) k2⟩, fun b blk c o h1 => R.live b blk c o (hh ▸ h1), fun b b' c o c' o' h1 h2 h3 _ => R.inj b b' c o c' o' (hh ▸ h1) (hh ▸ h2) h3 (.inl ⟨hd _, hd _⟩), R.idom, R.isub, R.isup, R.frame, R.size, R.sizes, R.agree, Nat.le_trans R.n0 hn⟩

theorem fin_rel {n : Nat} (R : RelH X φ I S w.heap) (RA : RelA φ I S nt a w.heap) (hU : UInv S n) : RelS X φ I (S.fin n) nt a w.heap := by
  have hA : ∀ b, S.flush.A b → (S.fin n).as.A b := fun b hb => by
    rw [ST.as_A]
    simp only [AS.fin]
    rcases hb with hb | hb
    · simp only [AS.flush] at hb; omega
    · exact hU b (by simp only [AS.flush] at hb; rw [hb]; simp)
  refine ⟨R.flush.wide hA rfl (fun b => by simp [AS.flush, get]) (by simp [AS.fin, AS.flush, ST.as]), ?_⟩
  exact ⟨fun x v hx => relV_mono (Ext.refl' hA) _ _ (RA.vars x v hx), RA.nt, RA.defers⟩

theorem UInv.app {n : Nat} (hU : UInv S n) {l : LOper} {i : Nat} {e : Eff} (hi : i < n) : UInv (S.appD l i e) n := by
  have : ∀ U : AS, U.next = S.next → U.used = S.used → UInv (U.app l.dst (S.next + i) false e) n := fun U h1 h2 b hb => by
    simp only [AS.app, h1] at hb ⊢
    cases hn : e.new with
    | none => rw [hn] at hb; exact hU b (by simpa [h2] using hb)
    | some blk =>
      rw [hn] at hb
      simp only [get_ins] at hb
      split at hb
      · omega
      · exact hU b (by simpa [h2] using hb)
  unfold AS.appD
  split
  · exact this S.flush rfl rfl
  · exact this S rfl rfl

theorem dRun_inv {n : Nat} {K : AS → Prop} : ∀ (l : List LOper) (i : Nat) (S : AS), i + l.length ≤ n → UInv S n → dRun P l i S K → dRun P l i S fun S' => K S' ∧ UInv S' n
  | [], _, _, _, hU, h => ⟨h, hU⟩
  | o :: l, i, S, hi, hU, ⟨e, h1, h2⟩ => ⟨e, h1, dRun_inv l (i + 1) _ (by simp at hi; omega) (hU.app (by simp at hi; omega)) h2⟩

/-- **A region that draws its order.** -/
theorem rgnD_sound {id : Nat} {T : ST} {K : ST → Prop} {Q : Exit → Act → World → Prop} (hm : P.follows .mixedOrders = true) (hok : okOpers P nt ops ops.toList ls = true) (hC : regC ops ls = true) (R : RelS X φ I T nt a w.heap)
    (H : dRun P ls 0 T.as fun S' => K (S'.fin ls.length)) (hQ : ∀ φ' I' S' a' w', K S' → RelS X φ' I' S' nt a' w'.heap → Keep w w' → Q .normal a' w') : (Code.region id ops true).wp P Q a w := by
  simp only [regC, Bool.and_eq_true, decide_eq_true_eq] at hC
  obtain ⟨hlen, hC⟩ := hC
  have H2 := dRun_inv (n := ls.length) ls 0 T.as (by omega) (fun b hb => by simp [ST.as, get] at hb) H
  have H3 := anyA_lex (md := .any) hlen ls 0 (Array.replicate ops.size false) T.as (by simp) hC H2
  rw [hlen] at H3
  refine wp_region_any hm ?_
  refine anyA_sound (X := X) (w0 := w) hok (fun φ' I' S' a' w' k1 k2 k3 k4 => ?_) _ _ T.as φ I a { w with drawn := w.drawn + 1 } R.H R.A ⟨rfl, rfl, rfl⟩ (fun b hb => by simp [ST.as, get] at hb) H3
  rw [← hlen] at k1
  exact hQ φ' I' (S'.fin ls.length) a' w' k1.1 (fin_rel k2 k3 k1.2) k4
end
end Go.AM
