/- Which operation of the program an abstract operation stands for; what its run yields. -/
import Derived.Test.YteiapnjcelnfdaaAM4
import Derived.Laws.StructEq
set_option linter.unusedSimpArgs false
set_option linter.unusedVariables false
namespace Go.AM

mutual
def okC : Value → AV → Bool
  | .bool a, .bool b => a == b
  | .int k n, .int k' n' => decide (k = k') && decide (n = n')
  | .string s, .str s' => decide (s.data.toList = s'.data.toList)
  | .pointer none, .nilp => true
  | .slice none n c, .nils => decide (n = 0) && decide (c = 0)
  | .map none, .nilm => true
  | .nilFunc, .nilf => true
  | .nilIface, .nili => true
  | .agg ⟨vs⟩, .agg cs => okCs vs cs
  | _, _ => false
def okCs : List Value → List AV → Bool
  | [], [] => true
  | v :: vs, x :: xs => okC v x && okCs vs xs
  | _, _ => false
end

def okArg : Operand → LArg → Bool
  | .tmp t, .t x => decide (t = x)
  | .func f, .c (.fn g [] []) => decide (f = g)
  | .const v, .c x => okC v x
  | _, _ => false

def okArgs : List Operand → List LArg → Bool
  | [], [] => true
  | x :: l, y :: m => okArg x y && okArgs l m
  | _, _ => false

def okOpt : Option Operand → Option LArg → Bool
  | none, none => true
  | some x, some y => okArg x y
  | _, _ => false

section
variable {h : Array Obj} {φ : Nat → Option (Nat × Nat)} {I A : Nat → Prop}
mutual
theorem okC_rel : ∀ (v : Value) (x : AV), okC v x = true → relV h φ I A x v
  | .bool a, x, H => by
    cases x <;> simp only [okC, Bool.false_eq_true] at H
    simp only [relV]; simp at H; rw [H]
  | .int k n, x, H => by
    cases x <;> simp only [okC, Bool.false_eq_true] at H
    simp only [Bool.and_eq_true, decide_eq_true_eq] at H
    obtain ⟨rfl, rfl⟩ := H
    simp only [relV]
  | .string s, x, H => by
    cases x <;> simp only [okC, Bool.false_eq_true] at H
    simp only [decide_eq_true_eq] at H
    simp only [relV]; rw [ByteArray.ext (Array.ext' H)]
  | .pointer a, x, H => by
    cases a <;> cases x <;> simp only [okC, Bool.false_eq_true] at H
    simp only [relV]
  | .slice a n c, x, H => by
    cases a <;> cases x <;> simp only [okC, Bool.false_eq_true] at H
    simp only [Bool.and_eq_true, decide_eq_true_eq] at H
    obtain ⟨rfl, rfl⟩ := H
    simp only [relV]
  | .map a, x, H => by
    cases a <;> cases x <;> simp only [okC, Bool.false_eq_true] at H
    simp only [relV]
  | .nilFunc, x, H => by
    cases x <;> simp only [okC, Bool.false_eq_true] at H
    simp only [relV]
  | .nilIface, x, H => by
    cases x <;> simp only [okC, Bool.false_eq_true] at H
    simp only [relV]
  | .agg ⟨vs⟩, x, H => by
    cases x <;> simp only [okC, Bool.false_eq_true] at H
    simp only [relV]
    exact ⟨vs, rfl, okCs_rel vs _ H⟩
  | .float _ _, x, H => by cases x <;> simp [okC] at H
  | .complex _ _ _, x, H => by cases x <;> simp [okC] at H
  | .chan _, x, H => by cases x <;> simp [okC] at H
  | .func _ _ _, x, H => by cases x <;> simp [okC] at H
  | .iface _ _, x, H => by cases x <;> simp [okC] at H
  | .tuple _, x, H => by cases x <;> simp [okC] at H
theorem okCs_rel : ∀ (vs : List Value) (xs : List AV), okCs vs xs = true → relL h φ I A xs vs
  | [], [], _ => by simp [relL]
  | v :: vs, x :: xs, H => by
    simp only [okCs, Bool.and_eq_true] at H
    simp only [relL]
    exact ⟨v, vs, rfl, okC_rel v x H.1, okCs_rel vs xs H.2⟩
  | [], _ :: _, H => by simp [okCs] at H
  | _ :: _, [], H => by simp [okCs] at H
end

variable {S : AS} {nt : Nat} {a : Act}
theorem ev_rel (R : RelA φ I S nt a h) {x : Operand} {y : LArg} (H : okArg x y = true) : relV h φ I S.A (y.ev S.vars) (a.eval x) := by
  cases x with
  | tmp t =>
    cases y with
    | t x =>
      simp only [okArg, decide_eq_true_eq] at H; subst H
      simp only [LArg.ev, Act.eval]
      cases hx : get S.vars t with
      | none => simp [relV]
      | some v => simpa [Array.getD_eq_getD_getElem?] using R.vars t v hx
    | c v => simp [okArg] at H
  | const v =>
    cases y with
    | t x => simp [okArg] at H
    | c x => simp only [okArg] at H; exact okC_rel v x H
  | global g => cases y <;> simp [okArg] at H
  | func f =>
    cases y with
    | t x => simp [okArg] at H
    | c x =>
      unfold okArg at H
      split at H
      · rename_i h1 h2; cases h1
      · rename_i h1 h2
        injection h1 with h1; injection h2 with h2
        subst h1 h2
        simp only [decide_eq_true_eq] at H
        simp only [LArg.ev, Act.eval, relV]
        exact ⟨[], [], by rw [H], by simp [relL], by simp [relL]⟩
      · rename_i h1 h2; cases h1
      · cases H

theorem evs_rel (R : RelA φ I S nt a h) : ∀ {xs : List Operand} {ys : List LArg}, okArgs xs ys = true → relL h φ I S.A (ys.map (·.ev S.vars)) (xs.map a.eval)
  | [], [], _ => by simp [relL]
  | x :: xs, y :: ys, H => by
    simp only [okArgs, Bool.and_eq_true] at H
    simp only [List.map_cons, relL]
    exact ⟨_, _, rfl, ev_rel R H.1, evs_rel R H.2⟩
  | [], _ :: _, H => by simp [okArgs] at H
  | _ :: _, [], H => by simp [okArgs] at H

theorem rel_bool {t : Bool} {v : Value} (H : relV h φ I A (.bool t) v) : v = .bool t := by simpa [relV] using H
theorem rel_int {k : IntKind} {n : Int} {v : Value} (H : relV h φ I A (.int k n) v) : v = .int k n := by simpa [relV] using H
theorem rel_str {s : ByteArray} {v : Value} (H : relV h φ I A (.str s) v) : v = .string s := by simpa [relV] using H
end

/-- An operation that yields a value and leaves memory alone. -/
def Yields (P : Program) (s : Sem Value) (h : Array Obj) (φ : Nat → Option (Nat × Nat)) (I A : Nat → Prop) (x : AV) (w : World) : Prop :=
  ∃ v w', s.run P w = .ok v w' ∧ w' = w ∧ relV h φ I A x v

section
variable {P : Program} {h : Array Obj} {φ : Nat → Option (Nat × Nat)} {I A : Nat → Prop} {w : World}

theorem grd_some {α : Type} {b : Bool} {x : Option α} {y : α} (H : grd b x = some y) : b = true ∧ x = some y := by
  cases b <;> simp [grd] at H
  exact ⟨rfl, H⟩

theorem yields_int {s : Sem Value} {k : IntKind} {n : Int} (H : s.run P w = .ok (.int k n) w) : Yields P s h φ I A (.int k n) w := ⟨_, w, H, rfl, by simp [relV]⟩
theorem yields_bool {s : Sem Value} {b : Bool} (H : s.run P w = .ok (.bool b) w) : Yields P s h φ I A (.bool b) w := ⟨_, w, H, rfl, by simp [relV]⟩
theorem yields_str {s : Sem Value} {b : ByteArray} (H : s.run P w = .ok (.string b) w) : Yields P s h φ I A (.str b) w := ⟨_, w, H, rfl, by simp [relV]⟩

theorem y_binI {op : BinOp} {k : IntKind} {t : TypeId} {m n : Int} {v : AV} (H : binI op k m n = some v) : Yields P (binOp op t (.int k m) (.int k n)) h φ I A v w := by
  cases op
  case quo => 
    simp only [binI] at H
    obtain ⟨h1, h2⟩ := grd_some H; injection h2 with h2; subst h2; simp only [decide_eq_true_eq] at h1
    exact yields_int (by simp [binOp, Op.intDiv, h1])
  case rem =>
    simp only [binI] at H
    obtain ⟨h1, h2⟩ := grd_some H; injection h2 with h2; subst h2; simp only [decide_eq_true_eq] at h1
    exact yields_int (by simp [binOp, Op.intDiv, h1])
  case shl => simp [binI] at H
  case shr => simp [binI] at H
  all_goals
    simp only [binI] at H
    injection H with H; subst H
    first | (refine yields_int ?_; simp [binOp, Op.intArith, Op.intBits]; done) | (refine yields_bool ?_; simp [binOp, Op.intCmp]; done)

theorem y_binSh {op : BinOp} {k k' : IntKind} {t : TypeId} {m n : Int} {v : AV} (H : binSh op k m n = some v) : Yields P (binOp op t (.int k m) (.int k' n)) h φ I A v w := by
  cases op
  case shl =>
    simp only [binSh] at H
    obtain ⟨h1, h2⟩ := grd_some H; injection h2 with h2; subst h2; simp only [decide_eq_true_eq] at h1
    exact yields_int (by simp only [binOp, Op.shift]; rw [if_neg (by omega)]; rfl)
  case shr =>
    simp only [binSh] at H
    obtain ⟨h1, h2⟩ := grd_some H; injection h2 with h2; subst h2; simp only [decide_eq_true_eq] at h1
    exact yields_int (by simp only [binOp, Op.shift]; rw [if_neg (by omega)]; rfl)
  all_goals simp [binSh] at H

theorem y_binS {op : BinOp} {t : TypeId} {m n : ByteArray} {v : AV} (H : binS op m n = some v) : Yields P (binOp op t (.string m) (.string n)) h φ I A v w := by
  cases op
  case add =>
    simp only [binS] at H
    obtain ⟨h1, h2⟩ := grd_some H; injection h2 with h2; subst h2; simp only [decide_eq_true_eq] at h1
    refine ⟨.string (m ++ n), w, ?_, rfl, by simp [relV]⟩
    simp only [binOp, Op.stringOp]
    rw [if_neg (by simp [IntKind.max, IntKind.signed, IntKind.bits]; omega)]
    rfl
  case eql | neq | lss | leq | gtr | geq =>
    simp only [binS] at H
    injection H with H; subst H
    exact yields_bool (by simp [binOp, Op.stringOp])
  all_goals simp [binS] at H

theorem y_binV {op : BinOp} {t : TypeId} {x y v : AV} {a b : Value} (hx : relV h φ I A x a) (hy : relV h φ I A y b) (H : binV op x y = some v) : Yields P (binOp op t a b) h φ I A v w := by
  unfold binV at H
  split at H
  · rename_i k m k' n
    have := rel_int hx; subst this
    have := rel_int hy; subst this
    split at H
    · exact y_binSh H
    · exact y_binSh H
    · obtain ⟨h1, h2⟩ := grd_some H
      simp only [decide_eq_true_eq] at h1
      subst h1
      exact y_binI h2
  · have := rel_str hx; subst this
    have := rel_str hy; subst this
    exact y_binS H
  · cases H

theorem run_eqGuard_scalar {op : BinOp} {t : TypeId} {x y : Operand} {a b : Value} (h1 : ∀ cs, a ≠ .agg cs) (h2 : a ≠ .nilIface) : (eqGuard op t x y a b).run P w = .ok () w := by
  unfold eqGuard
  cases op <;> first | rfl | (cases a <;> first | rfl | (exact absurd rfl (h1 _)) | (exact absurd rfl h2))

theorem y_bin {op : BinOp} {t : TypeId} {ox oy : Operand} {x y v : AV} {a b : Value} (hx : relV h φ I A x a) (hy : relV h φ I A y b) (H : binV op x y = some v) :
    Yields P (do eqGuard op t ox oy a b; binOp op t a b) h φ I A v w := by
  obtain ⟨r, w', h1, h2, h3⟩ := y_binV (P := P) (t := t) (w := w) hx hy H
  refine ⟨r, w', ?_, h2, h3⟩
  have hg : (eqGuard op t ox oy a b).run P w = .ok () w := by
    unfold binV at H
    split at H
    · have := rel_int hx; subst this; exact run_eqGuard_scalar (by simp) (by simp)
    · have := rel_str hx; subst this; exact run_eqGuard_scalar (by simp) (by simp)
    · cases H
  rw [Sem.run_bind, hg]
  exact h1

/-! ### Equality -/
def ekOf (P : Program) (t : TypeId) : Option EK := match P.underlying t with
  | some .bool => some .b
  | some (.int _) => some .i
  | some .string => some .s
  | _ => none

/-- The fields of a struct are single cells, one behind the other, of kinds that are compared at sight. -/
def flatFs (P : Program) : List Field → Nat → List EK → Bool
  | [], _, [] => true
  | f :: fs, o, k :: ks => decide (f.offset = o) && ((f.name != "_") && (decide (ekOf P f.type = some k) && flatFs P fs (o + 1) ks))
  | _, _, _ => false

def okKT (P : Program) (t : TypeId) : KT → Bool
  | .sc k => decide (ekOf P t = some k)
  | .ag ks => match P.underlying t with
    | some (.struct fs) => flatFs P fs.toList 0 ks && (!P.stoodInHeld t && !P.eqGuardType P.depth t)
    | _ => false

theorem eqS_run {t : TypeId} (d : Nat) {k : EK} (hT : ekOf P t = some k) {x y : AV} {a b : Value} {r : Bool} (hx : relV h φ I A x a) (hy : relV h φ I A y b) (H : eqS k x y = some r) : (Op.equalIn (d + 1) t a b).run P w = .ok r w := by
  unfold ekOf at hT
  unfold eqS at H
  split at H
  · simp only [relV] at hx hy
    subst hx hy; injection H with H; subst H
    split at hT <;> simp at hT
    rename_i hu
    exact run_equalIn_bool' w d t _ _ hu
  · simp only [relV] at hx hy
    obtain ⟨h1, h2⟩ := grd_some H; injection h2 with h2; subst h2; simp only [decide_eq_true_eq] at h1; subst h1
    subst hx hy
    split at hT <;> simp at hT
    rename_i hu
    exact run_equalIn_int w d t _ _ _ _ hu
  · simp only [relV] at hx hy
    subst hx hy; injection H with H; subst H
    split at hT <;> simp at hT
    rename_i hu
    rw [run_equalIn_string w d t _ _ hu, beq_toListBytes]
  · cases H

theorem ekOf_one {t : TypeId} {k : EK} (hT : ekOf P t = some k) : (isAgg t).run P w = .ok false w := by
  unfold ekOf at hT
  split at hT <;> simp at hT
  all_goals (rename_i hu; simp [isAgg, run_underlying hu])

theorem run_part_one {t : TypeId} {k : EK} (hT : ekOf P t = some k) {cs : Array Value} {o : Nat} {v : Value} (hv : cs[o]? = some v) : (part t cs o).run P w = .ok v w := by
  simp [part, ekOf_one hT, hv]

theorem eqFields_run (d : Nat) : ∀ (fs : List Field) (ks : List EK) (o : Nat) (xs ys : List AV) (vs us : List Value) (r : Bool), flatFs P fs o ks = true → relL h φ I A xs vs → relL h φ I A ys us →
    eqL ks (xs.drop o) (ys.drop o) = some r → (Op.eqFields (d + 1) vs.toArray us.toArray fs).run P w = .ok r w
  | [], ks, o, xs, ys, vs, us, r, hf, hx, hy, H => by
    cases ks <;> simp only [flatFs, Bool.false_eq_true] at hf
    unfold eqL at H
    split at H
    · injection H with H; subst H; rfl
    · rename_i h1 _ _; cases h1
    · cases H
  | f :: fs, ks, o, xs, ys, vs, us, r, hf, hx, hy, H => by
    cases ks with
    | nil => simp [flatFs] at hf
    | cons k ks =>
      simp only [flatFs, Bool.and_eq_true, decide_eq_true_eq] at hf
      obtain ⟨h1, h2, h3, h4⟩ := hf
      unfold eqL at H
      split at H
      · rename_i h5 _ _; cases h5
      · rename_i k' ks' a x b y e1 e2 e3
        injection e1 with e1 e1'; subst e1 e1'
        have ga : xs[o]? = some a := by rw [← List.head?_drop, e2]; rfl
        have gb : ys[o]? = some b := by rw [← List.head?_drop, e3]; rfl
        obtain ⟨va, h6, h7⟩ := relL_get hx ga
        obtain ⟨vb, h8, h9⟩ := relL_get hy gb
        have hx1 : xs.drop (o + 1) = x := by rw [← List.drop_drop, e2]; rfl
        have hy1 : ys.drop (o + 1) = y := by rw [← List.drop_drop, e3]; rfl
        simp only [Op.eqFields]
        rw [if_pos (by simpa using h2)]
        simp only [Sem.run_bind, h1]
        rw [run_part_one h3 (by simpa using h6)]
        simp only [Result.andThen_ok]
        rw [run_part_one h3 (by simpa using h8)]
        simp only [Result.andThen_ok]
        cases hr : eqS k a b with
        | none => rw [hr] at H; cases H
        | some q =>
          rw [hr] at H
          rw [eqS_run d h3 h7 h9 hr]
          simp only [Result.andThen_ok]
          cases q with
          | false => injection H with H; subst H; rfl
          | true =>
            simp only [Bool.not_true, Bool.false_eq_true, if_false]
            exact eqFields_run d fs ks (o + 1) xs ys vs us r h4 hx hy (by rw [hx1, hy1]; exact H)
      · cases H

theorem eqV_run {t : TypeId} {kt : KT} (d : Nat) (hT : okKT P t kt = true) {x y : AV} {a b : Value} {r : Bool} (hx : relV h φ I A x a) (hy : relV h φ I A y b) (H : eqV kt x y = some r) :
    (Op.equalIn (d + 2) t a b).run P w = .ok r w := by
  unfold eqV at H
  split at H
  · rename_i ks xs ys
    simp only [relV] at hx hy
    obtain ⟨vs, rfl, h1⟩ := hx
    obtain ⟨us, rfl, h2⟩ := hy
    simp only [okKT] at hT
    split at hT
    · rename_i fs hu
      simp only [Bool.and_eq_true, Bool.not_eq_true'] at hT
      obtain ⟨h3, h4, h5⟩ := hT
      have hf : P.fieldsOf t = fs := by simp [Program.fieldsOf, hu]
      rw [run_equalIn_struct w (d + 1) t _ _ (by rw [hf, hu]) h4, hf]
      exact eqFields_run d fs.toList ks 0 xs ys vs us r h3 h1 h2 (by simpa using H)
    · cases hT
  · rename_i k
    simp only [okKT, decide_eq_true_eq] at hT
    exact eqS_run (d + 1) hT hx hy H
  · cases H

theorem y_eq {t : TypeId} {kt : KT} {ng : Bool} {ox oy : Operand} (hT : okKT P t kt = true) {x y : AV} {a b : Value} {r : Bool} (hx : relV h φ I A x a) (hy : relV h φ I A y b) (H : eqV kt x y = some r) :
    Yields P (do eqGuard (eqOp ng) t ox oy a b; binOp (eqOp ng) t a b) h φ I A (.bool (ng ^^ r)) w := by
  have hrun := eqV_run (P := P) (w := w) 9998 hT hx hy H
  refine ⟨.bool (ng ^^ r), w, ?_, rfl, by simp [relV]⟩
  unfold eqV at H
  split at H
  · rename_i ks xs ys
    simp only [relV] at hx hy
    obtain ⟨vs, rfl, h1⟩ := hx
    obtain ⟨us, rfl, h2⟩ := hy
    simp only [okKT] at hT
    split at hT
    · simp only [Bool.and_eq_true, Bool.not_eq_true'] at hT
      rw [Sem.run_bind, run_eqGuard_agg w _ t ox oy _ _ hT.2.2]
      simp only [Result.andThen_ok]
      cases ng
      · simp only [eqOp, run_eql_struct]; rw [hrun]; simp
      · simp only [eqOp, run_neq_struct]; rw [hrun]; simp
    · cases hT
  · unfold eqS at H
    split at H
    · simp only [relV] at hx hy; subst hx hy
      rw [Sem.run_bind, run_eqGuard_scalar (by simp) (by simp)]
      simp only [Result.andThen_ok]
      cases ng <;> simp [eqOp, binOp, Op.equal, Op.maxDepth, hrun]
    · obtain ⟨h1, h2⟩ := grd_some H; injection h2 with h2; subst h2; simp only [decide_eq_true_eq] at h1; subst h1
      simp only [relV] at hx hy; subst hx hy
      rw [Sem.run_bind, run_eqGuard_scalar (by simp) (by simp)]
      simp only [Result.andThen_ok]
      cases ng <;> simp [eqOp, binOp, Op.intCmp, bne]
    · injection H with H; subst H
      simp only [relV] at hx hy; subst hx hy
      rw [Sem.run_bind, run_eqGuard_scalar (by simp) (by simp)]
      simp only [Result.andThen_ok]
      cases ng <;> simp [eqOp, binOp, Op.stringOp, beq_toListBytes]
    · cases H
  · cases H
end
end Go.AM
