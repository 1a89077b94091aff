/- The operation that an abstract one stands for, and that its effect is sound. -/
import Derived.Test.YteiapnjcelnfdaaAM12
set_option linter.unusedSimpArgs false
set_option linter.unusedVariables false
namespace Go.AM

def placeS (P : Program) (fs : Array Field) (i : Nat) : Option (Nat × Nat) := match fs[i]? with
  | some f => match szOf P f.type with
    | some n => some (f.offset, n)
    | none => none
  | none => none

def okPartsI : List (Nat × Operand) → List (Nat × LArg) → Bool
  | [], [] => true
  | (i, x) :: l, (j, y) :: m => decide (i = j) && (okArg x y && okPartsI l m)
  | _, _ => false

def okZero (P : Program) (t : TypeId) (zero : List AV) : Bool := match zeroOf P t with
  | some zv => okCs zv.cells.toList zero && zero.all AV.scalar
  | none => false

def okSl (P : Program) (t : TypeId) (sz : Nat) : Option TypeId := match P.underlying t with
  | some (.slice el) => if szOf P el = some sz ∧ sz ≠ 0 then some el else none
  | _ => none

def okPart (P : Program) (t : TypeId) (ag : Bool) (n : Nat) : Bool := match P.underlying t with
  | some _ => decide (ag = aggT P t) && (!ag || decide (szOf P t = some n))
  | none => false

def okOp (P : Program) (op : Op) (l : LOp) : Bool :=
  match op, l with
  | .move x, .mv y => okArg x y
  | .assign x, .mv y => okArg x y
  | .move (.const (.slice none n c)), .own _ => decide (n = 0) && decide (c = 0)
  | .assign (.const (.slice none n c)), .own _ => decide (n = 0) && decide (c = 0)
  | .pick c x y, .pick c' x' y' => okArg c c' && (okArg x x' && okArg y y')
  | .alloc t, .newv zero => okZero P t zero
  | .box _ x, .box _ y => okArg x y
  | .build t ps, .build zero qs => okZero P t zero && (match P.underlying t with
    | some (.struct fs) => okParts P (placeS P fs) ps.toList qs && fs.toList.all fun f => (szOf P f.type).isSome
    | some (.array _ el) => match szOf P el with
      | some sz => okParts P (fun i => some (i * sz, sz)) ps.toList qs
      | none => false
    | _ => false)
  | .buildSlice t len ps, .bsl sz n zero qs => match okSl P t sz with
    | some el => decide (n = len) && (okZero P el zero && (decide (zero.length = sz) && (decide (len * sz ≤ 2 ^ 24) && okPartsI ps.toList qs)))
    | none => false
  | .buildSlice t len ps, .btsl sz n zero qs => match okSl P t sz with
    | some el => decide (n = len) && (okZero P el zero && (decide (zero.length = sz) && (decide (len * sz ≤ 2 ^ 24) && okPartsI ps.toList qs)))
    | none => false
  | .load t x, .load ag n y => okPart P t ag n && okArg x y
  | .store t x y, .store n x' y' => decide (szOf P t = some n) && (decide (n ≠ 0) && (okArg x x' && okArg y y'))
  | .binOp op _ x y _, .bin op' x' y' => decide (op = op') && (okArg x x' && okArg y y')
  | .binOp op t x y _, .eq ng kt x' y' => decide (op = eqOp ng) && (okKT P t kt && (okArg x x' && okArg y y'))
  | .unOp .not _ x, .not y => okArg x y
  | .unOp .neg _ x, .neg y => okArg x y
  | .convert src dst x, .conv k y => (P.underlying src).isSome && ((match P.underlying dst with | some (.int k') => decide (k = k') | _ => false) && okArg x y)
  | .makeFunc (.func f) fs cs, .mkfn f' fs' cs' => decide (f = f') && (okArgs fs.toList fs' && okArgs cs.toList cs')
  | .makeMap _ none, .mkmap => true
  | .makeSlice t l c, .mksl sz zero bytes l' c' => match okSl P t sz with
    | some el => okZero P el zero && (decide (zero.length = sz) && (decide ((P.info? el).map (·.bytes) = some bytes) && (decide (bytes ≠ 0) && (okArg l l' && okArg c c'))))
    | none => false
  | .slice t x lo hi mx, .slice sz x' lo' hi' mx' => (okSl P t sz).isSome && (okArg x x' && (okOpt lo lo' && (okOpt hi hi' && (okOpt mx mx' && (!mx.isSome || hi.isSome)))))
  | .slice t x lo hi none, .substr x' lo' hi' => (match P.underlying t with | some .string => true | _ => false) && (okArg x x' && (okOpt lo lo' && okOpt hi hi'))
  | .fieldAddr t x i, .fadr off y => fieldOK P t i off && okArg x y
  | .indexAddr t x i, .idxa sz x' i' => (okSl P t sz).isSome && (okArg x x' && okArg i i')
  | .indexAddr t x i, .idxp esz len x' i' => (match P.underlying t with | some (.array n el) => decide (n = len) && decide (szOf P el = some esz) | _ => false) && (okArg x x' && okArg i i')
  | .index t x i, .idxs x' i' => (match P.underlying t with | some .string => true | _ => false) && (okArg x x' && okArg i i')
  | .index t x i, .idxc ag esz len x' i' => (match P.underlying t with | some (.array n el) => decide (n = len) && (decide (szOf P el = some esz) && okPart P el ag esz) | _ => false) && (okArg x x' && okArg i i')
  | .field t x i, .field ag off n x' => (match P.underlying t with | some (.struct fs) => (match fs[i]? with | some f => decide (f.offset = off) && okPart P f.type ag n | none => false) | _ => false) && okArg x x'
  | .lookup t x k ok, .lookup ok' kt zero x' k' => decide (ok = ok') && ((match P.underlying t with | some (.map key el) => okKT P key kt && (match zeroOf P el with | some zv => okC zv zero | none => false) | _ => false) && (okArg x x' && okArg k k'))
  | .mapUpdate t m k x, .mapupd kt m' k' x' => (match P.underlying t with | some (.map key _) => okKT P key kt | _ => false) && (okArg m m' && (okArg k k' && okArg x x'))
  | .insert t m k x, .mapupd kt m' k' x' => (match P.underlying t with | some (.map key _) => okKT P key kt | _ => false) && (okArg m m' && (okArg k k' && okArg x x'))
  | .nilCheck x, .nilck y => okArg x y
  | .extract x i, .extract y j => decide (i = j) && okArg x y
  | .call { callee := .builtin .len, args := ⟨[x]⟩, argTypes := ⟨[t]⟩ }, .len k y => (match k, P.underlying t with | .str, some .string => true | .sli, some (.slice _) => true | .mp, some (.map _ _) => true | _, _ => false) && okArg x y
  | .call { callee := .builtin .len, args := ⟨[_]⟩, argTypes := ⟨[t]⟩ }, .lenc n => (match P.underlying t with | some (.array m _) => decide (m = n) | _ => false)
  | .call { callee := .builtin .append, args := ⟨[x, y]⟩, argTypes := ⟨[t1, t2]⟩ }, .append sz bytes x' y' => match okSl P t1 sz with
    | some el => (match P.underlying t2 with | some (.slice _) => true | some .string => true | _ => false) && ((match zeroOf P el with | some zv => decide (zv.cells.size = sz) | none => false) && (decide ((P.info? el).map (·.bytes) = some bytes) && (decide (bytes ≠ 0) && (decide (bytes ≤ 1048576) && (okArg x x' && okArg y y')))))
    | none => false
  | .call { callee := .builtin .max, args := xs, argTypes := _ }, .maxs ys => okArgs xs.toList ys
  | .call { callee := .builtin .min, args := xs, argTypes := _ }, .mins ys => okArgs xs.toList ys
  | _, _ => false

section
variable {P : Program} {X : Ctx} {φ : Nat → Option (Nat × Nat)} {I : Nat → Prop} {S : AS} {nt : Nat} {a : Act} {w : World} {o : Oper} {dst : Option Nat} {id : Nat} {hard : Bool}

theorem okSl_spec {t el : TypeId} {sz : Nat} (H : okSl P t sz = some el) : P.underlying t = some (.slice el) ∧ szOf P el = some sz ∧ sz ≠ 0 := by
  unfold okSl at H
  split at H
  · split at H
    · rename_i h1 h2; injection H with H; subst H; exact ⟨h1, h2.1, h2.2⟩
    · cases H
  · cases H

theorem okZero_spec {t : TypeId} {zero : List AV} (H : okZero P t zero = true) : ∃ zv, zeroOf P t = some zv ∧ okCs zv.cells.toList zero = true ∧ zero.all AV.scalar = true := by
  unfold okZero at H
  split at H
  · rename_i zv h1; simp only [Bool.and_eq_true] at H; exact ⟨zv, h1, H.1, H.2⟩
  · cases H

theorem okPart_spec {t : TypeId} {ag : Bool} {n : Nat} (H : okPart P t ag n = true) : ∃ u, P.underlying t = some u ∧ ag = aggT P t ∧ (ag = true → szOf P t = some n) := by
  unfold okPart at H
  split at H
  · rename_i u h1; simp only [Bool.and_eq_true, Bool.or_eq_true, Bool.not_eq_true', decide_eq_true_eq] at H
    exact ⟨u, h1, H.1, fun h2 => H.2.resolve_left (by rw [h2]; simp)⟩
  · cases H

theorem okZero_size {zero : List AV} {zv : Value} {sz : Nat} (hok : okCs zv.cells.toList zero = true) (hl : zero.length = sz) : zv.cells.size = sz := by
  have := relL_length (okCs_rel (h := #[]) (φ := fun _ => none) (I := fun _ => False) (A := fun _ => False) _ _ hok)
  simp only [Array.length_toList] at this; omega

theorem partsI_rel (RA : RelA φ I S nt a w.heap) (sz : Nat) : ∀ {ps : List (Nat × Operand)} {qs : List (Nat × LArg)}, okPartsI ps qs = true →
    relP w.heap φ I S.A (fun i => some (i * sz, sz)) (ps.map fun p => (p.1, a.eval p.2)) (qs.map fun q => (q.1 * sz, sz, q.2.ev S.vars))
  | [], [], _ => by simp [relP]
  | (i, x) :: ps, (j, y) :: qs, H => by
    simp only [okPartsI, Bool.and_eq_true, decide_eq_true_eq] at H
    obtain ⟨h1, h2, h3⟩ := H; subst h1
    simp only [List.map_cons, relP]
    exact ⟨⟨trivial, ev_rel RA h2⟩, partsI_rel RA sz h3⟩
  | [], _ :: _, H => by simp [okPartsI] at H
  | _ :: _, [], H => by simp [okPartsI] at H

theorem run_places : ∀ (fs : List Field), (fs.all fun f => (szOf P f.type).isSome) = true → ∃ pl : List (Nat × Nat), (fs.mapM fun f => do pure (f.offset, ← sizeOf f.type) : Sem (List (Nat × Nat))).run P w = .ok pl w ∧ ∀ i, pl[i]? = placeS P fs.toArray i
  | [], _ => ⟨[], by simp, by simp [placeS]⟩
  | f :: fs, H => by
    simp only [List.all_cons, Bool.and_eq_true] at H
    obtain ⟨pl, h1, h2⟩ := run_places fs H.2
    obtain ⟨n, hn⟩ := Option.isSome_iff_exists.1 H.1
    refine ⟨(f.offset, n) :: pl, ?_, fun i => ?_⟩
    · simp only [List.mapM_cons, Sem.run_bind]
      rw [run_szOf hn]
      simp only [Result.andThen_ok, Sem.run_pure, h1]
    · cases i with
      | zero => simp [placeS, hn]
      | succ i => simpa [placeS] using h2 i

theorem opt_rel (RA : RelA φ I S nt a w.heap) {x : Option Operand} {y : Option LArg} (H : okOpt x y = true) :
    match y.map (·.ev S.vars), x.map a.eval with | none, none => True | some u, some v => relV w.heap φ I S.A u v | _, _ => False := by
  cases x <;> cases y <;> simp only [okOpt, Bool.false_eq_true] at H
  · trivial
  · exact ev_rel RA H


/-- May the append leave the old block readable? -/
def softOK (H : Heap) (vs : Vars) : LOp → Bool
  | .append _ _ x _ => match x.ev vs with
    | .sl _ b i n => match get H b with
      | some (.rows _ es) => decide (i + n = es.length)
      | _ => false
    | _ => true
  | _ => true

theorem y_len_map (R : RelH X φ I S w.heap) {t k el : TypeId} {ty : TypeId} {b : Nat} {l : List (AV × AV)} {v : Value} (hu : P.underlying t = some (.map k el)) (hx : relV w.heap φ I S.A (.map b) v) (hb : get S.heap b = some (.mp l)) :
    Yields P (Builtin.len_ #[t] ty #[v]) w.heap φ I S.A (.int .i64 l.length) w := by
  simp only [relV] at hx
  obtain ⟨hA, c, hφ, rfl⟩ := hx
  obtain ⟨_, hB⟩ := R.heap _ _ hb
  simp only [relB] at hB
  obtain ⟨c', es, clk, h1, h2, h3⟩ := hB
  rw [hφ] at h1; injection h1 with h1; injection h1 with h4; subst h4
  have hl : ∀ (l : List (AV × AV)) (es : List MapEntry), relE w.heap φ I S.A l es → es.length = l.length := by
    intro l
    induction l with
    | nil => intro es h; simp only [relE] at h; simp [h]
    | cons p l ih => intro es h; obtain ⟨k, v⟩ := p; simp only [relE] at h; obtain ⟨e, r, rfl, _, _, h5⟩ := h; simp [ih _ h5]
  have hl' := hl _ _ h3
  refine yields_int ?_
  have hgo : (getObj c).run P w = .ok (.map es clk) w := by simp [getObj, Sem.run, h2]
  unfold Builtin.len_
  simp only [List.getElem?_toArray, List.getElem?_cons_zero, Sem.run_bind]
  rw [run_underlying hu]
  simp only [Result.andThen_ok, Sem.run_bind, hgo, Sem.run_pure, goInt]
  simp only [Array.length_toList] at hl'
  rw [hl']

theorem op_sound (R : RelH X φ I S w.heap) (RA : RelA φ I S nt a w.heap) {o : Oper} {l : LOp} {e : Eff} {dst : Option Nat} (hd : ∀ d, dst = some d → d < nt) (hid : ¬ S.A id) (hok : okOp P o.op l = true) (he : opEff S.heap S.vars id l = some e)
    (hhard : hard = true → ∀ b', get S.dead b' = none) (hdl : ∀ b', get S.dead b' ≠ none → b' < S.next) (hsoft : hard = false → softOK S.heap S.vars l = true ∧ ∀ b, e.kill = some b → b < S.next ∧ get S.dead b = none)
    (hupd : e.upd ≠ none → ∀ b', get S.dead b' = none) : StepOK P X S nt a w o dst id hard e := by
  obtain ⟨dst0, op, ty, pos, after, guard⟩ := o
  simp only at hok
  unfold okOp at hok
  split at hok
  next _ _ x y =>
    simp only [opEff, Option.some.injEq] at he; subst he
    exact stepOK_val R RA hd (s := pure (a.eval x)) (by simp [execOp, vS]) (y_pure (ev_rel RA hok))
  next _ _ x y =>
    simp only [opEff, Option.some.injEq] at he; subst he
    exact stepOK_val R RA hd (s := pure (a.eval x)) (by simp [execOp, vS]) (y_pure (ev_rel RA hok))
  next _ _ n c sz =>
    simp only [opEff, Option.some.injEq] at he; subst he
    simp only [Bool.and_eq_true, decide_eq_true_eq] at hok; obtain ⟨rfl, rfl⟩ := hok
    exact stepOK_own R RA hd hid (by simp [execOp, Act.eval])
  next _ _ n c sz =>
    simp only [opEff, Option.some.injEq] at he; subst he
    simp only [Bool.and_eq_true, decide_eq_true_eq] at hok; obtain ⟨rfl, rfl⟩ := hok
    exact stepOK_own R RA hd hid (by simp [execOp, Act.eval])
  next _ _ c x y c' x' y' =>
    simp only [Bool.and_eq_true] at hok; obtain ⟨h1, h2, h3⟩ := hok
    have hc := ev_rel RA h1
    simp only [opEff] at he
    split at he
    · rename_i t ht
      rw [ht] at hc
      have := rel_bool hc
      injection he with he; subst he
      cases t
      · exact stepOK_val R RA hd (s := pure (a.eval y)) (by simp [execOp, vS, this, asBool]) (y_pure (ev_rel RA h3))
      · exact stepOK_val R RA hd (s := pure (a.eval x)) (by simp [execOp, vS, this, asBool]) (y_pure (ev_rel RA h2))
    · cases he
  next _ _ t zero =>
    obtain ⟨zv, h1, h2, h3⟩ := okZero_spec hok
    simp only [opEff, Option.some.injEq] at he; subst he
    exact stepOK_newv R RA hd hid rfl h1 h2 h3
  next _ _ t x sz y =>
    simp only [opEff] at he
    obtain ⟨h1, h2⟩ := grd_some he
    simp only [Bool.and_eq_true, decide_eq_true_eq] at h1
    injection h2 with h2; subst h2
    exact stepOK_box R RA hd hid rfl (ev_rel RA hok) h1.1 h1.2
  next _ _ t ps zero qs =>
    simp only [Bool.and_eq_true] at hok; obtain ⟨h1, h2⟩ := hok
    obtain ⟨zv, h3, h4, h5⟩ := okZero_spec h1
    simp only [opEff] at he
    split at he
    · rename_i r hr
      injection he with he; subst he
      refine stepOK_val R RA hd (s := Instr.build t (ps.toList.map fun p => (p.1, a.eval p.2)).toArray) ?_ ?_
      · simp only [execOp, vS]
        rw [show (Array.map (fun x : Nat × Operand => match x with | (i, x) => (i, a.eval x)) ps) = (ps.toList.map fun p => (p.1, a.eval p.2)).toArray by apply Array.ext'; simp]
      · split at h2
        · rename_i fs hu
          simp only [Bool.and_eq_true] at h2
          obtain ⟨pl, k1, k2⟩ := run_places (P := P) (w := w) fs.toList h2.2
          refine y_build h3 h4 (.inl ⟨fs, hu, pl.toArray, ?_, rfl⟩) ?_ hr
          · have k3 : (fs.mapM fun f => do pure (f.offset, ← sizeOf f.type) : Sem (Array (Nat × Nat))) = List.toArray <$> (fs.toList.mapM fun f => do pure (f.offset, ← sizeOf f.type) : Sem (List (Nat × Nat))) := by
              exact Array.mapM_eq_mapM_toList ..
            rw [k3, Sem.run_map, k1]; rfl
          · rw [show (fun i => pl.toArray[i]?) = placeS P fs by funext i; simpa using k2 i]
            exact parts_rel RA h2.1
        · rename_i n el hu
          split at h2
          · rename_i sz hs
            exact y_build h3 h4 (.inr ⟨n, el, sz, hu, hs, rfl⟩) (parts_rel RA h2) hr
          · cases h2
        · cases h2
    · cases he
  next _ _ t len ps sz n zero qs =>
    split at hok
    · rename_i el hel
      obtain ⟨h1, h2, h3⟩ := okSl_spec hel
      simp only [Bool.and_eq_true, decide_eq_true_eq] at hok; obtain ⟨rfl, h4, h5, h6, h7⟩ := hok
      obtain ⟨zv, h8, h9, h10⟩ := okZero_spec h4
      simp only [opEff] at he
      split at he
      · rename_i r hr
        injection he with he; subst he
        exact stepOK_bsl R RA hd hid rfl h1 h2 h8 h9 h10 (okZero_size h9 h5) h3 h6 (partsI_rel RA sz h7) hr
      · cases he
    · cases hok
  next _ _ t len ps sz n zero qs =>
    split at hok
    · rename_i el hel
      obtain ⟨h1, h2, h3⟩ := okSl_spec hel
      simp only [Bool.and_eq_true, decide_eq_true_eq] at hok; obtain ⟨rfl, h4, h5, h6, h7⟩ := hok
      obtain ⟨zv, h8, h9, h10⟩ := okZero_spec h4
      simp only [opEff] at he
      split at he
      · rename_i r hr
        injection he with he; subst he
        exact stepOK_btsl R RA hd rfl h1 h2 h8 h9 h10 (okZero_size h9 h5) h3 h6 (partsI_rel RA sz h7) hr
      · cases he
    · cases hok
  next _ _ t x ag n y =>
    simp only [Bool.and_eq_true] at hok; obtain ⟨h1, h2⟩ := hok
    obtain ⟨u, h3, h4, h5⟩ := okPart_spec h1
    have hx := ev_rel RA h2
    simp only [opEff] at he
    split at he
    · rename_i sz b i j hev
      rw [hev] at hx
      split at he
      · rename_i sz' es hb
        obtain ⟨h6, h7⟩ := grd_some he
        simp only [Bool.and_eq_true, decide_eq_true_eq] at h6; obtain ⟨rfl, h8⟩ := h6
        split at h7
        · rename_i v hv
          injection h7 with h7; subst h7
          simp only [relV] at hx
          obtain ⟨hA, c, oo, hφ, hx⟩ := hx
          obtain ⟨_, hB⟩ := R.heap _ _ hb
          simp only [relB] at hB
          rcases hB with ⟨k1, _⟩ | ⟨c', o', cs, el, k1, k2, k3⟩
          · rw [hφ] at k1; cases k1
          rw [hφ] at k1; injection k1 with k1; injection k1 with k4 k5; subst k4 k5
          have k6 := relM_drop j (relR_get k3 h8).2
          refine stepOK_val R RA hd (s := loadVar t ⟨c, oo + i * sz' + j, none⟩) ?_ (y_load h3 h4 h5 k6 hv)
          simp [execOp, vS, hx, Instr.loadAt, Instr.sureAddr]
        · cases h7
      · cases he
    · rename_i cs hev
      rw [hev] at hx
      split at he
      · rename_i v hv
        injection he with he; subst he
        simp only [relV] at hx
        obtain ⟨c, oo, hx, _, k3⟩ := hx
        refine stepOK_val R RA hd (s := loadVar t ⟨c, oo, none⟩) ?_ (y_load h3 h4 h5 k3 hv)
        simp [execOp, vS, hx, Instr.loadAt, Instr.sureAddr]
      · cases he
    · cases he
  next _ _ t x y n x' y' =>
    simp only [Bool.and_eq_true, decide_eq_true_eq] at hok; obtain ⟨h1, h2, h3, h4⟩ := hok
    have hx := ev_rel RA h3
    simp only [opEff] at he
    split at he
    · rename_i sz b i j hev
      rw [hev] at hx
      split at he
      · rename_i sz' es hb
        obtain ⟨h6, h7⟩ := grd_some he
        simp only [Bool.and_eq_true, decide_eq_true_eq] at h6; obtain ⟨rfl, h8, h9, h10, h11⟩ := h6
        injection h7 with h7; subst h7
        exact stepOK_store R RA hd (hupd (by simp)) rfl h1 hx (ev_rel RA h4) hb h8 h9 h2 h10 h11
      · cases he
    · cases he
  next _ _ op t x y t2 op' x' y' =>
    simp only [Bool.and_eq_true, decide_eq_true_eq] at hok; obtain ⟨rfl, h2, h3⟩ := hok
    simp only [opEff] at he
    split at he
    · rename_i v hv
      injection he with he; subst he
      exact stepOK_val R RA hd (s := do eqGuard op t x y (a.eval x) (a.eval y); binOp op t (a.eval x) (a.eval y)) rfl (y_bin (ev_rel RA h2) (ev_rel RA h3) hv)
    · cases he
  next _ _ op t x y t2 ng kt x' y' =>
    simp only [Bool.and_eq_true, decide_eq_true_eq] at hok; obtain ⟨rfl, h1, h2, h3⟩ := hok
    simp only [opEff] at he
    split at he
    · rename_i b hb
      injection he with he; subst he
      exact stepOK_val R RA hd (s := do eqGuard (eqOp ng) t x y (a.eval x) (a.eval y); binOp (eqOp ng) t (a.eval x) (a.eval y)) rfl (y_eq h1 (ev_rel RA h2) (ev_rel RA h3) hb)
    · cases he
  next _ _ t x y =>
    have hx := ev_rel RA hok
    simp only [opEff] at he
    split at he
    · rename_i b hb
      rw [hb] at hx
      injection he with he; subst he
      exact stepOK_val R RA hd (s := Op.unary .not (a.eval x)) rfl (y_not hx)
    · cases he
  next _ _ t x y =>
    have hx := ev_rel RA hok
    simp only [opEff] at he
    split at he
    · rename_i k n hb
      rw [hb] at hx
      injection he with he; subst he
      exact stepOK_val R RA hd (s := Op.unary .neg (a.eval x)) rfl (y_neg hx)
    · cases he
  next _ _ src dt x k y =>
    simp only [Bool.and_eq_true] at hok; obtain ⟨h1, h2, h3⟩ := hok
    obtain ⟨u, hu⟩ := Option.isSome_iff_exists.1 h1
    have hx := ev_rel RA h3
    split at h2
    · rename_i k' hk'
      simp only [decide_eq_true_eq] at h2; subst h2
      simp only [opEff] at he
      split at he
      · rename_i k n hb
        rw [hb] at hx
        injection he with he; subst he
        exact stepOK_val R RA hd (s := convert src dt (a.eval x)) rfl (y_conv hu hk' hx)
      · cases he
    · cases h2
  next _ _ f fs cs f' fs' cs' =>
    simp only [Bool.and_eq_true, decide_eq_true_eq] at hok; obtain ⟨rfl, h2, h3⟩ := hok
    simp only [opEff, Option.some.injEq] at he; subst he
    refine stepOK_val R RA hd (s := Instr.makeFunc (.func f) (fs.toList.map a.eval).toArray (cs.toList.map a.eval).toArray) ?_ (y_mkfn (evs_rel RA h2) (evs_rel RA h3))
    simp only [execOp, vS]
    rw [show (fs.toList.map a.eval).toArray = fs.map a.eval by apply Array.ext'; simp, show (cs.toList.map a.eval).toArray = cs.map a.eval by apply Array.ext'; simp]
  next _ _ t =>
    simp only [opEff, Option.some.injEq] at he; subst he
    exact stepOK_mkmap R RA hd hid rfl
  next _ _ t l c sz zero bytes l' c' =>
    split at hok
    · rename_i el hel
      obtain ⟨h1, h2, h3⟩ := okSl_spec hel
      simp only [Bool.and_eq_true, decide_eq_true_eq] at hok; obtain ⟨h4, h5, h6, h7, h8, h9⟩ := hok
      obtain ⟨zv, h10, h11, h12⟩ := okZero_spec h4
      have hl := ev_rel RA h8
      have hc := ev_rel RA h9
      simp only [opEff] at he
      split at he
      · rename_i k l k' c e1 e2
        rw [e1] at hl; rw [e2] at hc
        obtain ⟨h13, h14⟩ := grd_some he
        simp only [Bool.and_eq_true, decide_eq_true_eq] at h13
        injection h14 with h14; subst h14
        exact stepOK_mksl R RA hd hid rfl h1 h2 h10 h6 h7 h11 h12 (okZero_size h11 h5) h3 (rel_int hl) (rel_int hc) h13.1 h13.2.1 h13.2.2
      · cases he
    · cases hok
  next _ _ t x lo hi mx sz x' lo' hi' mx' =>
    simp only [Bool.and_eq_true, Bool.or_eq_true, Bool.not_eq_true'] at hok; obtain ⟨h1, h2, h3, h4, h5, h6⟩ := hok
    obtain ⟨el, hel⟩ := Option.isSome_iff_exists.1 h1
    obtain ⟨hu, hs, hsz⟩ := okSl_spec hel
    have hx := ev_rel RA h2
    have hmh : (mx.map a.eval).isSome = true → (hi.map a.eval).isSome = true := by
      intro h7; simp only [Option.isSome_map] at h7 ⊢
      rcases h6 with h6 | h6
      · rw [h7] at h6; cases h6
      · exact h6
    have hex : execOp a.eval ⟨dst0, .slice t x lo hi mx, ty, pos, after, guard⟩ = vS (Instr.sliceAt t (a.eval x) (lo.map a.eval) (hi.map a.eval) (mx.map a.eval)) := rfl
    have hsl : ∀ {v : AV}, Yields P (Instr.slice t (a.eval x) (lo.map a.eval) (hi.map a.eval) (mx.map a.eval)) w.heap φ I S.A v w → Yields P (Instr.sliceAt t (a.eval x) (lo.map a.eval) (hi.map a.eval) (mx.map a.eval)) w.heap φ I S.A v w := fun {v} ⟨r, w', k1, k2, k3⟩ => by
      refine ⟨r, w', ?_, k2, k3⟩
      unfold Instr.sliceAt
      rw [Sem.run_bind, run_underlying hu]
      exact k1
    simp only [opEff] at he
    split at he
    · rename_i sz' b i n hev
      rw [hev] at hx
      split at he
      · rename_i l h m e1 e2 e3
        obtain ⟨h7, h8⟩ := grd_some he
        simp only [Bool.and_eq_true, decide_eq_true_eq] at h7; obtain ⟨rfl, k1, k2, k3, k4⟩ := h7
        injection h8 with h8; subst h8
        exact stepOK_val R RA hd hex (hsl (y_slice_sl hu hs hx (bnd_rel (opt_rel RA h3) e1) (bnd_rel (opt_rel RA h4) e2) (bnd_rel (opt_rel RA h5) e3) k1 k2 k3 k4 hmh))
      · cases he
    · rename_i sz' es hev
      rw [hev] at hx
      split at he
      · rename_i l h m e1 e2 e3
        obtain ⟨h7, h8⟩ := grd_some he
        simp only [Bool.and_eq_true, decide_eq_true_eq] at h7; obtain ⟨rfl, k1, k2, k3, k4⟩ := h7
        injection h8 with h8; subst h8
        exact stepOK_val R RA hd hex (hsl (y_slice_tsl hu hs hx (bnd_rel (opt_rel RA h3) e1) (bnd_rel (opt_rel RA h4) e2) (bnd_rel (opt_rel RA h5) e3) k1 k2 k3 k4 hmh))
      · cases he
    · rename_i hev
      rw [hev] at hx
      split at he
      · rename_i l h m e1 e2 e3
        obtain ⟨h7, h8⟩ := grd_some he
        simp only [Bool.and_eq_true, decide_eq_true_eq] at h7; obtain ⟨rfl, rfl, rfl⟩ := h7
        injection h8 with h8; subst h8
        exact stepOK_val R RA hd hex (hsl (y_slice_nils hu hs hx (bnd_rel (opt_rel RA h3) e1) (bnd_rel (opt_rel RA h4) e2) (bnd_rel (opt_rel RA h5) e3) hmh))
      · cases he
    · cases he
  next _ _ t x lo hi x' lo' hi' =>
    simp only [Bool.and_eq_true] at hok; obtain ⟨h1, h2, h3, h4⟩ := hok
    split at h1
    · rename_i hu
      have hx := ev_rel RA h2
      simp only [opEff] at he
      split at he
      · rename_i s hev
        rw [hev] at hx
        split at he
        · rename_i l h e1 e2
          obtain ⟨h7, h8⟩ := grd_some he
          simp only [Bool.and_eq_true, decide_eq_true_eq] at h7; obtain ⟨k1, k2, k3⟩ := h7
          injection h8 with h8; subst h8
          obtain ⟨r, w', q1, q2, q3⟩ := y_substr (P := P) (w := w) hu hx (bnd_rel (opt_rel RA h3) e1) (bnd_rel (opt_rel RA h4) e2) k1 k2 k3
          refine stepOK_val R RA hd (s := Instr.sliceAt t (a.eval x) (lo.map a.eval) (hi.map a.eval) none) rfl ⟨r, w', ?_, q2, q3⟩
          unfold Instr.sliceAt
          rw [Sem.run_bind, run_underlying hu]
          exact q1
        · cases he
      · cases he
    · cases h1
  next _ _ t x i off y =>
    simp only [Bool.and_eq_true] at hok; obtain ⟨h1, h2⟩ := hok
    have hx := ev_rel RA h2
    simp only [opEff] at he
    split at he
    · rename_i sz b i' j hev
      rw [hev] at hx
      injection he with he; subst he
      exact stepOK_val R RA hd (s := Instr.fieldAt t (a.eval x) i) rfl (y_fadr h1 hx rfl)
    · rename_i cs hev
      rw [hev] at hx
      injection he with he; subst he
      exact stepOK_val R RA hd (s := Instr.fieldAt t (a.eval x) i) rfl (y_fadr h1 hx rfl)
    · cases he
  next _ _ t x i sz x' i' =>
    simp only [Bool.and_eq_true] at hok; obtain ⟨h1, h2, h3⟩ := hok
    obtain ⟨el, hel⟩ := Option.isSome_iff_exists.1 h1
    obtain ⟨hu, hs, hsz⟩ := okSl_spec hel
    have hx := ev_rel RA h2
    have hi := ev_rel RA h3
    simp only [opEff] at he
    split at he
    · rename_i k m hi'
      rw [hi'] at hi
      split at he
      · rename_i sz' b oo n hev
        rw [hev] at hx
        obtain ⟨h7, h8⟩ := grd_some he
        simp only [Bool.and_eq_true, decide_eq_true_eq] at h7; obtain ⟨rfl, k1, k2⟩ := h7
        injection h8 with h8; subst h8
        exact stepOK_val R RA hd (s := Instr.indexAt t (a.eval x) (a.eval i)) rfl (y_idxa_sl hu hs hx hi k1 k2)
      · rename_i sz' es hev
        rw [hev] at hx
        obtain ⟨h7, h8⟩ := grd_some he
        simp only [Bool.and_eq_true, decide_eq_true_eq] at h7; obtain ⟨rfl, k1, k2⟩ := h7
        injection h8 with h8; subst h8
        exact stepOK_val R RA hd (s := Instr.indexAt t (a.eval x) (a.eval i)) rfl (y_idxa_tsl hu hs hx hi k1 k2)
      · cases he
    · cases he
  next _ _ t x i esz len x' i' =>
    simp only [Bool.and_eq_true] at hok; obtain ⟨h1, h2, h3⟩ := hok
    split at h1
    · rename_i n el hu
      simp only [Bool.and_eq_true, decide_eq_true_eq] at h1; obtain ⟨rfl, hs⟩ := h1
      have hx := ev_rel RA h2
      have hi := ev_rel RA h3
      simp only [opEff] at he
      split at he
      · rename_i k m hi'
        rw [hi'] at hi
        obtain ⟨h7, h8⟩ := grd_some he
        simp only [Bool.and_eq_true, decide_eq_true_eq] at h7
        split at h8
        · rename_i sz b oo j hev
          rw [hev] at hx
          injection h8 with h8; subst h8
          exact stepOK_val R RA hd (s := Instr.indexAt t (a.eval x) (a.eval i)) rfl (y_idxp hu hs hx hi h7.1 h7.2 rfl)
        · rename_i cs hev
          rw [hev] at hx
          injection h8 with h8; subst h8
          exact stepOK_val R RA hd (s := Instr.indexAt t (a.eval x) (a.eval i)) rfl (y_idxp hu hs hx hi h7.1 h7.2 rfl)
        · cases h8
      · cases he
    · cases h1
  next _ _ t x i x' i' =>
    simp only [Bool.and_eq_true] at hok; obtain ⟨h1, h2, h3⟩ := hok
    split at h1
    · rename_i hu
      have hx := ev_rel RA h2
      have hi := ev_rel RA h3
      simp only [opEff] at he
      split at he
      · rename_i k m hi'
        rw [hi'] at hi
        split at he
        · rename_i s hev
          rw [hev] at hx
          obtain ⟨h7, h8⟩ := grd_some he
          simp only [Bool.and_eq_true, decide_eq_true_eq] at h7
          injection h8 with h8; subst h8
          exact stepOK_val R RA hd (s := Instr.index t (a.eval x) (a.eval i)) rfl (y_idxs hu hx hi h7.1 h7.2)
        · cases he
      · cases he
    · cases h1
  next _ _ t x i ag esz len x' i' =>
    simp only [Bool.and_eq_true] at hok; obtain ⟨h1, h2, h3⟩ := hok
    split at h1
    · rename_i n el hu
      simp only [Bool.and_eq_true, decide_eq_true_eq] at h1; obtain ⟨rfl, hs, hp⟩ := h1
      obtain ⟨u, k1, k2, k3⟩ := okPart_spec hp
      have hx := ev_rel RA h2
      have hi := ev_rel RA h3
      simp only [opEff] at he
      split at he
      · rename_i k m hi'
        rw [hi'] at hi
        obtain ⟨h7, h8⟩ := grd_some he
        simp only [Bool.and_eq_true, decide_eq_true_eq] at h7
        split at h8
        · rename_i cs hev
          rw [hev] at hx
          split at h8
          · rename_i v hv
            injection h8 with h8; subst h8
            exact stepOK_val R RA hd (s := Instr.index t (a.eval x) (a.eval i)) rfl (y_idxc hu hs k1 k2 hx hi h7.1 h7.2 hv)
          · cases h8
        · cases h8
      · cases he
    · cases h1
  next _ _ t x i ag off n x' =>
    simp only [Bool.and_eq_true] at hok; obtain ⟨h1, h2⟩ := hok
    split at h1
    · rename_i fs hu
      split at h1
      · rename_i f hf
        simp only [Bool.and_eq_true, decide_eq_true_eq] at h1; obtain ⟨ho, hp⟩ := h1
        obtain ⟨u, k1, k2, k3⟩ := okPart_spec hp
        have hx := ev_rel RA h2
        simp only [opEff] at he
        split at he
        · rename_i cs hev
          rw [hev] at hx
          split at he
          · rename_i v hv
            injection he with he; subst he
            exact stepOK_val R RA hd (s := Instr.field t (a.eval x) i) rfl (y_field hu hf ho k1 k2 k3 hx hv)
          · cases he
        · cases he
      · cases h1
    · cases h1
  next _ _ t x k ok ok' kt zero x' k' =>
    simp only [Bool.and_eq_true, decide_eq_true_eq] at hok; obtain ⟨rfl, h1, h2, h3⟩ := hok
    split at h1
    · rename_i key el hu
      simp only [Bool.and_eq_true] at h1; obtain ⟨hT, hz⟩ := h1
      split at hz
      · rename_i zv hzv
        have hx := ev_rel RA h2
        have hk := ev_rel RA h3
        simp only [opEff] at he
        obtain ⟨hko, he⟩ := grd_some he
        split at he
        · rename_i b hev
          rw [hev] at hx
          split at he
          · rename_i es hb
            split at he
            · rename_i r hr
              injection he with he; subst he
              exact stepOK_val R RA hd (s := Instr.lookup t (a.eval x) (a.eval k) ok) rfl (y_lookup_map R hu hT hzv hz hx hk hko hb hr rfl)
            · cases he
          · cases he
        · rename_i hev
          rw [hev] at hx
          injection he with he; subst he
          exact stepOK_val R RA hd (s := Instr.lookup t (a.eval x) (a.eval k) ok) rfl (y_lookup_nil hu hT hzv hz hx hk hko rfl)
        · cases he
      · cases hz
    · cases h1
  next _ _ t m k x kt m' k' x' =>
    simp only [Bool.and_eq_true] at hok; obtain ⟨h1, h2, h3, h4⟩ := hok
    split at h1
    · rename_i key el hu
      have hx := ev_rel RA h2
      simp only [opEff] at he
      obtain ⟨hko, he⟩ := grd_some he
      split at he
      · rename_i b hev
        rw [hev] at hx
        split at he
        · rename_i es hb
          split at he
          · rename_i r hr
            injection he with he; subst he
            exact stepOK_mapupd R RA hd (hupd (by simp)) (om := m) (ok := k) (ov := x) rfl hu h1 hx (ev_rel RA h3) hko (ev_rel RA h4) hb hr
          · cases he
        · cases he
      · cases he
    · cases h1
  next _ _ t m k x kt m' k' x' =>
    simp only [Bool.and_eq_true] at hok; obtain ⟨h1, h2, h3, h4⟩ := hok
    split at h1
    · rename_i key el hu
      have hx := ev_rel RA h2
      simp only [opEff] at he
      obtain ⟨hko, he⟩ := grd_some he
      split at he
      · rename_i b hev
        rw [hev] at hx
        split at he
        · rename_i es hb
          split at he
          · rename_i r hr
            injection he with he; subst he
            exact stepOK_mapupd R RA hd (hupd (by simp)) (om := m) (ok := k) (ov := x) rfl hu h1 hx (ev_rel RA h3) hko (ev_rel RA h4) hb hr
          · cases he
        · cases he
      · cases he
    · cases h1
  next _ _ x y =>
    have hx := ev_rel RA hok
    have key : ∀ v, a.eval x = v → (∀ n f c, v ≠ .func (.method n) f c) → v ≠ .pointer none → v ≠ .nilIface → v ≠ .nilFunc → execOp a.eval ⟨dst0, .nilCheck x, ty, pos, after, guard⟩ = vS (pure v) := by
      intro v hv h1 h2 h3 h4
      simp only [execOp, hv, vS]
      rfl
    simp only [opEff] at he
    split at he
    · rename_i sz b i j hev
      rw [hev] at hx
      injection he with he; subst he
      have hx0 := hx
      simp only [relV] at hx
      obtain ⟨_, c, oo, _, hv⟩ := hx
      exact stepOK_val R RA hd (key _ rfl (by rw [hv]; simp) (by rw [hv]; simp) (by rw [hv]; simp) (by rw [hv]; simp)) (y_pure hx0)
    · rename_i cs hev
      rw [hev] at hx
      injection he with he; subst he
      have hx0 := hx
      simp only [relV] at hx
      obtain ⟨c, oo, hv, _⟩ := hx
      exact stepOK_val R RA hd (key _ rfl (by rw [hv]; simp) (by rw [hv]; simp) (by rw [hv]; simp) (by rw [hv]; simp)) (y_pure hx0)
    · rename_i f fs cs hev
      rw [hev] at hx
      injection he with he; subst he
      have hx0 := hx
      simp only [relV] at hx
      obtain ⟨fs', cs', hv, _⟩ := hx
      exact stepOK_val R RA hd (key _ rfl (by rw [hv]; simp) (by rw [hv]; simp) (by rw [hv]; simp) (by rw [hv]; simp)) (y_pure hx0)
    · cases he
  next _ _ x i y j =>
    simp only [Bool.and_eq_true, decide_eq_true_eq] at hok; obtain ⟨rfl, h2⟩ := hok
    have hx := ev_rel RA h2
    simp only [opEff] at he
    split at he
    · rename_i l hev
      rw [hev] at hx
      split at he
      · rename_i v hv
        injection he with he; subst he
        exact stepOK_val R RA hd (s := Instr.extract (a.eval x) i) rfl (y_extract hx hv)
      · cases he
    · cases he
  next _ _ x t k y =>
    simp only [Bool.and_eq_true] at hok; obtain ⟨h1, h2⟩ := hok
    have hx := ev_rel RA h2
    have hex : execOp a.eval ⟨dst0, .call { callee := .builtin .len, args := #[x], argTypes := #[t] }, ty, pos, after, guard⟩ = vS (Builtin.len_ #[t] ty #[a.eval x]) := by
      simp [execOp, resolve, invoke, builtin, vS]
    simp only [opEff] at he
    split at he
    · split at h1 <;> first | (cases h1; done) | skip
      all_goals first | (rename_i hk _; cases hk; done) | skip
      rename_i hu
      split at he
      · rename_i s hev
        rw [hev] at hx
        injection he with he; subst he
        exact stepOK_val R RA hd hex (y_len_str hu hx)
      · cases he
    · split at h1 <;> first | (cases h1; done) | skip
      all_goals first | (rename_i hk _; cases hk; done) | skip
      rename_i el hu
      split at he
      · rename_i hev
        rw [hev] at hx
        injection he with he; subst he
        simp only [relV] at hx
        exact stepOK_val R RA hd hex (y_len_sl (x := .nils) (n := 0) hu ⟨none, 0, hx⟩)
      · rename_i sz b i n hev
        rw [hev] at hx
        injection he with he; subst he
        simp only [relV] at hx
        obtain ⟨_, base, cap, hx, _⟩ := hx
        exact stepOK_val R RA hd hex (y_len_sl (x := .nils) hu ⟨base, cap, hx⟩)
      · rename_i sz es hev
        rw [hev] at hx
        injection he with he; subst he
        simp only [relV] at hx
        obtain ⟨base, cap, hx, _⟩ := hx
        exact stepOK_val R RA hd hex (y_len_sl (x := .nils) hu ⟨base, cap, hx⟩)
      · cases he
    · split at h1 <;> first | (cases h1; done) | skip
      all_goals first | (rename_i hk _; cases hk; done) | skip
      rename_i kk el hu
      split at he
      · rename_i hev
        rw [hev] at hx
        injection he with he; subst he
        simp only [relV] at hx
        refine stepOK_val R RA hd hex (yields_int ?_)
        simp [Builtin.len_, run_underlying hu, hx, goInt]
      · rename_i b hev
        rw [hev] at hx
        split at he
        · rename_i es hb
          injection he with he; subst he
          exact stepOK_val R RA hd hex (y_len_map R hu hx hb)
        · cases he
      · cases he
  next _ _ x t n =>
    split at hok
    · rename_i m el hu
      simp only [decide_eq_true_eq] at hok; subst hok
      simp only [opEff, Option.some.injEq] at he; subst he
      refine stepOK_val R RA hd (s := Builtin.len_ #[t] ty #[a.eval x]) ?_ (y_lenc hu)
      simp [execOp, resolve, invoke, builtin, vS]
    · cases hok
  next _ _ x y t1 t2 sz bytes x' y' =>
    split at hok
    · rename_i el hel
      obtain ⟨hu, hs, hsz⟩ := okSl_spec hel
      simp only [Bool.and_eq_true, decide_eq_true_eq] at hok; obtain ⟨h1, h2, h3, h4, h5, h6, h7⟩ := hok
      split at h2
      · rename_i zv hzv
        simp only [decide_eq_true_eq] at h2
        have hu2 : ∃ u2, P.underlying t2 = some u2 ∧ ∀ k, u2 ≠ .int k := by
          split at h1
          · rename_i e1; exact ⟨_, e1, by simp⟩
          · rename_i e1; exact ⟨_, e1, by simp⟩
          · cases h1
        obtain ⟨u2, hu2, hni⟩ := hu2
        have T : AppT P t1 t2 el sz bytes zv u2 := ⟨hu, hu2, hni, hs, hzv, h2, h3, h4, h5⟩
        have hx := ev_rel RA h6
        have hy := ev_rel RA h7
        simp only [opEff] at he
        split at he
        · rename_i ys hys
          obtain ⟨hl, hya, hf⟩ := elems_run (P := P) R hy hys
          split at he
          · rename_i hev
            rw [hev] at hx
            obtain ⟨k1, k2⟩ := grd_some he
            simp only [decide_eq_true_eq] at k1
            injection k2 with k2; subst k2
            simp only [relV] at hx
            by_cases h0 : ys.length = 0
            · have : ys = [] := List.eq_nil_of_length_eq_zero h0
              subst this
              refine stepOK_append_none R RA hd hid (base := none) (w' := w) rfl ?_ rfl
              refine exec_append rfl ?_
              rw [hx]
              obtain ⟨vs, q1, q2, q3, _⟩ := hf 0 (Nat.le_refl _)
              exact run_append_in (n := 0) T.hu T.hu2 T.hni T.hs hl (q1 w rfl) (Nat.le_refl _) (fun b hb => by cases hb) (fun _ => rfl)
            · have := stepOK_append_new (o := ⟨dst0, .call { callee := .builtin .append, args := #[x, y], argTypes := #[t1, t2] }, ty, pos, after, guard⟩) (hard := hard) (kill := none) (xs := []) (n := 0) (cap := 0) (base := none) R RA hd hid T rfl hx rfl (by simp) ⟨[], fun _ _ => rfl, by simp [relL], by simp⟩ hy hys (by omega) (by simpa using k1)
              simpa using this
          · rename_i sz' b i n hev
            rw [hev] at hx
            split at he
            · rename_i sz'' es hb
              obtain ⟨k1, k2⟩ := grd_some he
              simp only [Bool.and_eq_true, decide_eq_true_eq] at k1; obtain ⟨rfl, rfl, k3, k4⟩ := k1
              injection k2 with k2; subst k2
              have hxe : elems S.heap sz'' (.sl sz'' b i n) = some ((es.drop i).take n) := by simp [elems, hb, grd, k3]
              obtain ⟨hl', hxa, hf'⟩ := elems_run (P := P) R hx hxe
              have hlen : ((es.drop i).take n).length = n := by simp; omega
              simp only [relV] at hx
              obtain ⟨hA, base, cap, hx, hc⟩ := hx
              have hold : ∃ old : List Value, (∀ w' : World, w'.heap = w.heap → (Builtin.firstCells sz'' n (.slice base n cap)).run P w' = .ok old.toArray w') ∧ relL w.heap φ I S.A ((es.drop i).take n).flatten old ∧ ∀ v ∈ old, Value.oneCell' v = true := by
                obtain ⟨vs, q1, q2, q3, q4⟩ := hf' n (by omega)
                rw [List.take_of_length_le (by omega)] at q2
                rw [hx] at q1
                exact ⟨vs, q1, q2, q4⟩
              by_cases hroom : cap < n + ys.length
              · exact stepOK_append_new R RA hd hid T rfl hx hlen hxa hold hy hys hroom k4
              · rcases hc with ⟨rfl, rfl⟩ | ⟨c, oo, s, q1, rfl, q2, q3, q4⟩
                · have : ys = [] := List.eq_nil_of_length_eq_zero (by omega)
                  subst this
                  have hgoal := stepOK_append_none (hard := hard) (kill := some b) (sz := sz'') R RA hd hid (base := base) (cv := .slice base 0 0) (w' := w) (o := ⟨dst0, .call { callee := .builtin .append, args := #[x, y], argTypes := #[t1, t2] }, ty, pos, after, guard⟩) (P := P) rfl (exec_append rfl (by
                    rw [hx]
                    obtain ⟨vs, p1, p2, p3, _⟩ := hf 0 (Nat.le_refl _)
                    simp only [List.take_nil, List.flatten_nil, relL] at p2
                    subst p2
                    exact run_append_in (n := 0) T.hu T.hu2 T.hni T.hs hl (p1 w rfl) (Nat.le_refl _) (fun b hb => by simp [storeCells]) (fun _ => rfl))) rfl
                  simpa using hgoal
                · have hkill := hsoft
                  refine stepOK_append_in R RA hd hid T rfl hx q1 hb k3 q3 q4 hy hys (by omega) ?_ hdl (fun hh => ?_)
                  · cases hhd : hard with
                    | true => exact .inl (hhard hhd)
                    | false => exact .inr ((hsoft hhd).2 b rfl)
                  · obtain ⟨p1, p2⟩ := hsoft hh
                    simp only [softOK, hev, hb, decide_eq_true_eq] at p1
                    exact ⟨(p2 b rfl).1, p1⟩
            · cases he
          · cases he
        · cases he
      · cases h2
    · cases hok
  next _ _ xs tys ys =>
    simp only [opEff] at he
    have hL := evs_rel RA hok
    split at he
    · rename_i x r hxr
      rw [hxr] at hL
      simp only [relL] at hL
      obtain ⟨v, vs, h1, h2, h3⟩ := hL
      split at he
      · rename_i q hq
        injection he with he; subst he
        refine stepOK_val R RA hd (s := Builtin.max_ tys ty (xs.map a.eval)) (by simp [execOp, resolve, invoke, builtin, vS]) ?_
        obtain ⟨u, w', p1, p2, p3⟩ := y_max (P := P) (w := w) h2 h3 hq
        refine ⟨u, w', ?_, p2, p3⟩
        unfold Builtin.max_
        rw [show (xs.map a.eval).toList = v :: vs by simpa using h1]
        exact p1
      · cases he
    · cases he
  next _ _ xs tys ys =>
    simp only [opEff] at he
    have hL := evs_rel RA hok
    split at he
    · rename_i x r hxr
      rw [hxr] at hL
      simp only [relL] at hL
      obtain ⟨v, vs, h1, h2, h3⟩ := hL
      split at he
      · rename_i q hq
        injection he with he; subst he
        refine stepOK_val R RA hd (s := Builtin.min_ tys ty (xs.map a.eval)) (by simp [execOp, resolve, invoke, builtin, vS]) ?_
        obtain ⟨u, w', p1, p2, p3⟩ := y_min (P := P) (w := w) h2 h3 hq
        refine ⟨u, w', ?_, p2, p3⟩
        unfold Builtin.min_
        rw [show (xs.map a.eval).toList = v :: vs by simpa using h1]
        exact p1
      · cases he
    · cases he
  · cases hok
end
end Go.AM
