/- A part of a proof about the given program: what its name says. No premise beyond the statements'. -/
import Derived.Test.YtjmcolfdpbohpaaGreatFA
import Derived.WideLaws
import Derived.Laws.RangeString
import Derived.KernelRfl
import Derived.Tactics
import Derived.Still
set_option linter.unusedSimpArgs false
set_option linter.unusedVariables false
/- The operation that an abstract one stands for, and that its effect is sound. -/
namespace Go.AM
noncomputable section

def placeS (P : Program) (fs : Array Field) (i : Nat) : Option (Nat × Nat) := match fs[i]? with
  | some f => match szOf P f.type with
    | some n => some (f.offset, n)
    | none => none
  | none => none

def okPartsI : List (Nat × Operand) → List (Nat × LArg) → Bool
  | [], [] => true
  | (i, x) :: l, (j, y) :: m => decide (i = j) && (okArg x y && okPartsI l m)
  | _, _ => false

def okZero (P : Program) (t : TypeId) (zero : List AV) : Bool := match zeroOf P t with
  | some zv => okCs zv.cells.toList zero && zero.all AV.scalar
  | none => false

def okSl (P : Program) (t : TypeId) (sz : Nat) : Option TypeId := match P.underlying t with
  | some (.slice el) => if szOf P el = some sz ∧ sz ≠ 0 then some el else none
  | _ => none

def okPart (P : Program) (t : TypeId) (ag : Bool) (n : Nat) : Bool := match P.underlying t with
  | some _ => decide (ag = aggT P t) && (!ag || decide (szOf P t = some n))
  | none => false

def okOp (P : Program) (op : Op) (l : LOp) : Bool :=
  match op, l with
  | .move x, .mv y => okArg x y
  | .assign x, .mv y => okArg x y
  | .move (.const (.slice none n c)), .own _ => decide (n = 0) && decide (c = 0)
  | .assign (.const (.slice none n c)), .own _ => decide (n = 0) && decide (c = 0)
  | .pick c x y, .pick c' x' y' => okArg c c' && (okArg x x' && okArg y y')
  | .alloc t, .newv zero => okZero P t zero
  | .box _ x, .box _ y => okArg x y
  | .box _ x, .boxt _ y => okArg x y
  | .build t ps, .build zero qs => okZero P t zero && (match P.underlying t with
    | some (.struct fs) => okParts P (placeS P fs) ps.toList qs && fs.toList.all fun f => (szOf P f.type).isSome
    | some (.array _ el) => match szOf P el with
      | some sz => okParts P (fun i => some (i * sz, sz)) ps.toList qs
      | none => false
    | _ => false)
  | .buildSlice t len ps, .bsl sz n zero qs => match okSl P t sz with
    | some el => decide (n = len) && (okZero P el zero && (decide (zero.length = sz) && (decide (len * sz ≤ 2 ^ 24) && okPartsI ps.toList qs)))
    | none => false
  | .buildSlice t len ps, .btsl sz n zero qs => match okSl P t sz with
    | some el => decide (n = len) && (okZero P el zero && (decide (zero.length = sz) && (decide (len * sz ≤ 2 ^ 24) && okPartsI ps.toList qs)))
    | none => false
  | .call { callee := .value (.func f), args := args, argTypes := _ }, .ibs x c => (match P.funcs[f]? with | some fn => fn.body.isNone && (fn.name == "internal/bytealg.IndexByteString" && fn.origin == "") | none => false) && okArgs args.toList [x, c]
  | .range t x, .rng y => (match P.underlying t with | some .string => true | _ => false) && okArg x y
  | .next x q, .nxt y => q && okArg x y
  | .load t x, .load ag n y => okPart P t ag n && okArg x y
  | .load t x, .loadF ag n y => okPart P t ag n && okArg x y
  | .store t x y, .storeF n x' y' => decide (szOf P t = some n) && (decide (n ≠ 0) && (okArg x x' && okArg y y'))
  | .store t x y, .store n x' y' => decide (szOf P t = some n) && (decide (n ≠ 0) && (okArg x x' && okArg y y'))
  | .binOp op _ x y _, .bin op' x' y' => decide (op = op') && (okArg x x' && okArg y y')
  | .binOp op t x y _, .eq ng kt x' y' => decide (op = eqOp ng) && ((okKT P t kt || okKTN P t kt) && (okArg x x' && okArg y y'))
  | .unOp .not _ x, .not y => okArg x y
  | .unOp .neg _ x, .neg y => okArg x y
  | .convert src dst x, .conv k y => (P.underlying src).isSome && ((match P.underlying dst with | some (.int k') => decide (k = k') | _ => false) && okArg x y)
  | .makeFunc (.func f) fs cs, .mkfn f' fs' cs' => decide (f = f') && (okArgs fs.toList fs' && okArgs cs.toList cs')
  | .makeMap _ none, .mkmap => true
  | .makeSlice t l c, .mksl sz zero bytes l' c' => match okSl P t sz with
    | some el => okZero P el zero && (decide (zero.length = sz) && (decide ((P.info? el).map (·.bytes) = some bytes) && (decide (bytes ≠ 0) && (okArg l l' && okArg c c'))))
    | none => false
  | .slice t x lo hi mx, .slice sz x' lo' hi' mx' => (okSl P t sz).isSome && (okArg x x' && (okOpt lo lo' && (okOpt hi hi' && (okOpt mx mx' && (!mx.isSome || hi.isSome)))))
  | .slice t x lo hi none, .substr x' lo' hi' => (match P.underlying t with | some .string => true | _ => false) && (okArg x x' && (okOpt lo lo' && okOpt hi hi'))
  | .fieldAddr t x i, .fadr off y => fieldOK P t i off && okArg x y
  | .indexAddr t x i, .idxa sz x' i' => (okSl P t sz).isSome && (okArg x x' && okArg i i')
  | .indexAddr t x i, .idxp esz len x' i' => (match P.underlying t with | some (.array n el) => decide (n = len) && decide (szOf P el = some esz) | _ => false) && (okArg x x' && okArg i i')
  | .index t x i, .idxs x' i' => (match P.underlying t with | some .string => true | _ => false) && (okArg x x' && okArg i i')
  | .index t x i, .idxc ag esz len x' i' => (match P.underlying t with | some (.array n el) => decide (n = len) && (decide (szOf P el = some esz) && okPart P el ag esz) | _ => false) && (okArg x x' && okArg i i')
  | .field t x i, .field ag off n x' => (match P.underlying t with | some (.struct fs) => (match fs[i]? with | some f => decide (f.offset = off) && okPart P f.type ag n | none => false) | _ => false) && okArg x x'
  | .lookup t x k ok, .lookup ok' kt zero x' k' => decide (ok = ok') && ((match P.underlying t with | some (.map key el) => okKT P key kt && (match zeroOf P el with | some zv => okC zv zero | none => false) | _ => false) && (okArg x x' && okArg k k'))
  | .mapUpdate t m k x, .mapupd kt m' k' x' => (match P.underlying t with | some (.map key _) => okKT P key kt | _ => false) && (okArg m m' && (okArg k k' && okArg x x'))
  | .insert t m k x, .mapupd kt m' k' x' => (match P.underlying t with | some (.map key _) => okKT P key kt | _ => false) && (okArg m m' && (okArg k k' && okArg x x'))
  | .nilCheck x, .nilck y => okArg x y
  | .extract x i, .extract y j => decide (i = j) && okArg x y
  | .call { callee := .builtin .len, args := ⟨[x]⟩, argTypes := ⟨[t]⟩ }, .len k y => (match k, P.underlying t with | .str, some .string => true | .sli, some (.slice _) => true | .mp, some (.map _ _) => true | _, _ => false) && okArg x y
  | .call { callee := .builtin .len, args := ⟨[_]⟩, argTypes := ⟨[t]⟩ }, .lenc n => (match P.underlying t with | some (.array m _) => decide (m = n) | _ => false)
  | .call { callee := .builtin .append, args := ⟨[x, y]⟩, argTypes := ⟨[t1, t2]⟩ }, .append sz bytes x' y' => match okSl P t1 sz with
    | some el => (match P.underlying t2 with | some (.slice _) => true | some .string => true | _ => false) && ((match zeroOf P el with | some zv => decide (zv.cells.size = sz) | none => false) && (decide ((P.info? el).map (·.bytes) = some bytes) && (decide (bytes ≠ 0) && (decide (bytes ≤ 1048576) && (okArg x x' && okArg y y')))))
    | none => false
  | .call { callee := .builtin .append, args := ⟨[x, y]⟩, argTypes := ⟨[t1, t2]⟩ }, .appendH sz bytes x' y' => match okSl P t1 sz with
    | some el => (match P.underlying t2 with | some (.slice _) => true | some .string => true | _ => false) && ((match zeroOf P el with | some zv => decide (zv.cells.size = sz) | none => false) && (decide ((P.info? el).map (·.bytes) = some bytes) && (decide (bytes ≠ 0) && (decide (bytes ≤ 1048576) && (okArg x x' && okArg y y')))))
    | none => false
  | .call { callee := .builtin .max, args := xs, argTypes := _ }, .maxs ys => okArgs xs.toList ys
  | .call { callee := .builtin .min, args := xs, argTypes := _ }, .mins ys => okArgs xs.toList ys
  | .binOp op t x (.const .nilIface) _, .ifnil ng x' => decide (op = eqOp ng) && ((match P.underlying t with | some (.interface ms) => decide (ms = P.methodsAt t) | _ => false) && okArg x x')
  | .call { callee := .builtin .clear, args := ⟨[x]⟩, argTypes := ⟨[t]⟩ }, .clr sz zero x' => match okSl P t sz with
    | some el => okZero P el zero && (decide (zero.length = sz) && okArg x x')
    | none => false
  | .binOp op t x (.const (.slice none 0 0)) _, .nilS ng x' => decide (op = eqOp ng) && ((match P.underlying t with | some (.slice _) => true | _ => false) && okArg x x')
  | .call { callee := .builtin .append, args := ⟨[x, y]⟩, argTypes := ⟨[t1, t2]⟩ }, .appz sz zero bytes x' y' => match okSl P t1 sz with
    | some el => (match P.underlying t2 with | some (.int _) => true | _ => false) && (okZero P el zero && (decide (zero.length = sz) && (decide ((P.info? el).map (·.bytes) = some bytes) && (decide (bytes ≠ 0) && (decide (bytes ≤ 1048576) && (okArg x x' && okArg y y'))))))
    | none => false
  | .call { callee := .builtin .cap, args := ⟨[x]⟩, argTypes := ⟨[t]⟩ }, .capn y => (match P.underlying t with | some (.slice _) => true | _ => false) && okArg x y
  | .call { callee := .builtin .append, args := ⟨[x, y]⟩, argTypes := ⟨[t1, t2]⟩ }, .appn sz x' y' => match okSl P t1 sz with
    | some el => (match P.underlying t2 with | some (.slice _) => true | some .string => true | _ => false) && ((match zeroOf P el with | some zv => decide (zv.cells.size = sz) | none => false) && (okArg x x' && okArg y y'))
    | none => false
  | _, .bad => true
  | _, _ => false

section
variable {P : Program} {X : Ctx} {φ : Nat → Option (Nat × Nat)} {I : Nat → Prop} {S : AS} {nt : Nat} {a : Act} {w : World} {o : Oper} {dst : Option Nat} {id : Nat} {hard : Bool}

theorem okSl_spec {t el : TypeId} {sz : Nat} (H : okSl P t sz = some el) : P.underlying t = some (.slice el) ∧ szOf P el = some sz ∧ sz ≠ 0 := by
  unfold okSl at H
  split at H
  · split at H
    · rename_i h1 h2; injection H with H; subst H; exact ⟨h1, h2.1, h2.2⟩
    · cases H
  · cases H

theorem okZero_spec {t : TypeId} {zero : List AV} (H : okZero P t zero = true) : ∃ zv, zeroOf P t = some zv ∧ okCs zv.cells.toList zero = true ∧ zero.all AV.scalar = true := by
  unfold okZero at H
  split at H
  · rename_i zv h1; simp only [Bool.and_eq_true] at H; exact ⟨zv, h1, H.1, H.2⟩
  · cases H

theorem okPart_spec {t : TypeId} {ag : Bool} {n : Nat} (H : okPart P t ag n = true) : ∃ u, P.underlying t = some u ∧ ag = aggT P t ∧ (ag = true → szOf P t = some n) := by
  unfold okPart at H
  split at H
  · rename_i u h1; simp only [Bool.and_eq_true, Bool.or_eq_true, Bool.not_eq_true', decide_eq_true_eq] at H
    exact ⟨u, h1, H.1, fun h2 => H.2.resolve_left (by rw [h2]; simp)⟩
  · cases H

theorem okZero_size {zero : List AV} {zv : Value} {sz : Nat} (hok : okCs zv.cells.toList zero = true) (hl : zero.length = sz) : zv.cells.size = sz := by
  have := relL_length (okCs_rel (h := #[]) (φ := fun _ => none) (I := fun _ => False) (A := fun _ => False) _ _ hok)
  simp only [Array.length_toList] at this; omega

theorem partsI_rel (RA : RelA φ I S nt a w.heap) (sz : Nat) : ∀ {ps : List (Nat × Operand)} {qs : List (Nat × LArg)}, okPartsI ps qs = true →
    relP w.heap φ I S.A (fun i => some (i * sz, sz)) (ps.map fun p => (p.1, a.eval p.2)) (qs.map fun q => (q.1 * sz, sz, q.2.ev S.vars))
  | [], [], _ => by simp [relP]
  | (i, x) :: ps, (j, y) :: qs, H => by
    simp only [okPartsI, Bool.and_eq_true, decide_eq_true_eq] at H
    obtain ⟨h1, h2, h3⟩ := H; subst h1
    simp only [List.map_cons, relP]
    exact ⟨⟨trivial, ev_rel RA h2⟩, partsI_rel RA sz h3⟩
  | [], _ :: _, H => by simp [okPartsI] at H
  | _ :: _, [], H => by simp [okPartsI] at H

theorem run_places : ∀ (fs : List Field), (fs.all fun f => (szOf P f.type).isSome) = true → ∃ pl : List (Nat × Nat), (fs.mapM fun f => do pure (f.offset, ← sizeOf f.type) : Sem (List (Nat × Nat))).run P w = .ok pl w ∧ ∀ i, pl[i]? = placeS P fs.toArray i
  | [], _ => ⟨[], by simp, by simp [placeS]⟩
  | f :: fs, H => by
    simp only [List.all_cons, Bool.and_eq_true] at H
    obtain ⟨pl, h1, h2⟩ := run_places fs H.2
    obtain ⟨n, hn⟩ := Option.isSome_iff_exists.1 H.1
    refine ⟨(f.offset, n) :: pl, ?_, fun i => ?_⟩
    · simp only [List.mapM_cons, Sem.run_bind]
      rw [run_szOf hn]
      simp only [Result.andThen_ok, Sem.run_pure, h1]
    · cases i with
      | zero => simp [placeS, hn]
      | succ i => simpa [placeS] using h2 i

theorem opt_rel (RA : RelA φ I S nt a w.heap) {x : Option Operand} {y : Option LArg} (H : okOpt x y = true) :
    match y.map (·.ev S.vars), x.map a.eval with | none, none => True | some u, some v => relV w.heap φ I S.A u v | _, _ => False := by
  cases x <;> cases y <;> simp only [okOpt, Bool.false_eq_true] at H
  · trivial
  · exact ev_rel RA H


/-- May the append leave the old block readable? -/
def softOK (H : Heap) (vs : Vars) : LOp → Bool
  | .append _ _ x _ => match x.ev vs with
    | .sl _ b i n => match get H b with
      | some (.rows _ es) => decide (i + n = es.length)
      | _ => false
    | _ => true
  | .appendH _ _ x _ => match x.ev vs with
    | .sl _ b i n => match get H b with
      | some (.rows _ es) => decide (i + n = es.length)
      | _ => false
    | _ => true
  | _ => true

theorem y_len_map (R : RelH X φ I S w.heap) {t k el : TypeId} {ty : TypeId} {b : Nat} {l : List (AV × AV)} {v : Value} (hu : P.underlying t = some (.map k el)) (hx : relV w.heap φ I S.A (.map b) v) (hb : get S.heap b = some (.mp l)) :
    Yields P (Builtin.len_ #[t] ty #[v]) w.heap φ I S.A (.int .i64 l.length) w := by
  simp only [relV] at hx
  obtain ⟨hA, c, hφ, rfl⟩ := hx
  obtain ⟨_, hB⟩ := R.heap _ _ hb
  simp only [relB] at hB
  obtain ⟨c', es, clk, h1, h2, h3⟩ := hB
  rw [hφ] at h1; injection h1 with h1; injection h1 with h4; subst h4
  have hl : ∀ (l : List (AV × AV)) (es : List MapEntry), relE w.heap φ I S.A l es → es.length = l.length := by
    intro l
    induction l with
    | nil => intro es h; simp only [relE] at h; simp [h]
    | cons p l ih => intro es h; obtain ⟨k, v⟩ := p; simp only [relE] at h; obtain ⟨e, r, rfl, _, _, h5⟩ := h; simp [ih _ h5]
  have hl' := hl _ _ h3
  refine yields_int ?_
  have hgo : (getObj c).run P w = .ok (.map es clk) w := by simp [getObj, Sem.run, h2]
  unfold Builtin.len_
  simp only [List.getElem?_toArray, List.getElem?_cons_zero, Sem.run_bind]
  rw [run_underlying hu]
  simp only [Result.andThen_ok, Sem.run_bind, hgo, Sem.run_pure, goInt]
  simp only [Array.length_toList] at hl'
  rw [hl']

theorem exec_clear {t : TypeId} {ox : Operand} (ho : o.op = .call { callee := .builtin .clear, args := #[ox], argTypes := #[t] }) {v : Value} {w' : World}
    (H : (Builtin.clear_ #[t] o.type #[a.eval ox]).run P w = .ok v w') : (execOp a.eval o).run P w = .ok (.value v) w' := by
  simp [execOp, ho, resolve, invoke, builtin, H]

theorem stepOK_clear (R : RelH X φ I S w.heap) (RA : RelA φ I S nt a w.heap) (hd : ∀ d, dst = some d → d < nt) (hdead : ∀ b', get S.dead b' = none) {t el : TypeId} {sz b i n : Nat} {ox : Operand} {zv : Value} {zero : List AV} {es : List (List AV)}
    (ho : o.op = .call { callee := .builtin .clear, args := #[ox], argTypes := #[t] }) (hu : P.underlying t = some (.slice el)) (hz : zeroOf P el = some zv) (hok : okCs zv.cells.toList zero = true) (hzsc : zero.all AV.scalar = true) (hzs : zv.cells.size = sz) (hsz : sz ≠ 0)
    (hx : relV w.heap φ I S.A (.sl sz b i n) (a.eval ox)) (hn : n ≠ 0) (hb : get S.heap b = some (.rows sz es)) (hin : i + n ≤ es.length) :
    StepOK P X S nt a w o dst id hard { val := .tup [], upd := some (b, .rows sz (es.take i ++ (List.replicate n zero ++ es.drop (i + n)))) } := by
  have hzL : ∀ {h A φ I}, relL h φ I A zero zv.cells.toList := okCs_rel _ _ hok
  have hzl : zero.length = sz := by have := relL_length (hzL (h := w.heap) (A := S.A) (φ := φ) (I := I)); simp only [Array.length_toList] at this; omega
  simp only [relV] at hx
  obtain ⟨hA, base, cap, hev, hx⟩ := hx
  rcases hx with ⟨hx, _⟩ | ⟨c, oo, s, hφ, hbase, hcap, hs1, hs2⟩
  · exact absurd hx hn
  subst hbase
  obtain ⟨hA', hB⟩ := R.heap _ _ hb
  simp only [relB] at hB
  rcases hB with ⟨h1, _⟩ | ⟨c', o', cs, el', h1, h2, h3⟩
  · rw [hφ] at h1; cases h1
  rw [hφ] at h1; injection h1 with h1; injection h1 with h4 h5; subst h4 h5
  have hss : s = cs.size := by simp [hsize, h2] at hs1; omega
  have hzeros : ((Builtin.zeroCells zv.cells n).toList : List Value) = (List.replicate n zv.cells.toList).flatten := by
    unfold Builtin.zeroCells
    rw [hzs]
    have := zeros_eq zv.cells sz hzs hsz n
    rw [hzs] at this
    exact this
  have hlen : (List.replicate n zv.cells.toList).flatten.length = n * sz := by simp [hzs]
  have hle : oo + i * sz + n * sz ≤ cs.size := by
    have := Nat.mul_le_mul_right sz hcap
    rw [Nat.add_mul] at hs2; omega
  have hrel := relL_rep (hzL (h := w.heap) (A := S.A) (φ := φ) (I := I)) n
  have hsc := relL_scalars (rep_scalar hzsc n) hrel
  obtain ⟨h', hr, W⟩ := run_storeCells P c (oo + i * sz) _ 0 w cs el' h2 (by rw [hlen]; omega) hsc
  have hWs := W.hsize h2
  obtain ⟨R', E⟩ := R.wrote (blk' := .rows sz (es.take i ++ (List.replicate n zero ++ es.drop (i + n)))) (h' := h') (putV dst (.tup []) S.vars) hb hφ hdead W.size W.other (fun c' s h6 => by rw [hWs]; exact h6) (fun E => by
    obtain ⟨cs', k1, k2⟩ := W.here _ _ h2
    simp only [relB]
    refine .inr ⟨c, oo, cs', el', hφ, k1, ?_⟩
    have hcc : ∀ o' v, ¬ (oo + i * sz ≤ o' ∧ o' < oo + i * sz + n * sz) → hcell w.heap c o' = some v → hcell h' c o' = some v := fun o' v k3 k4 => by
      rw [W.cell, hlen, Nat.add_zero, if_neg k3]; exact k4
    have hl1 : (es.take i).length = i := by simp; omega
    have hl2 : (List.replicate n zero).length = n := by simp
    have he0 : es = es.take i ++ ((es.drop i).take n ++ es.drop (i + n)) := by
      rw [← List.drop_drop, List.take_append_drop, List.take_append_drop]
    have hl3 : ((es.drop i).take n).length = n := by simp; omega
    rw [he0, relR_append, relR_append, hl1, hl3] at h3
    obtain ⟨k5, k6, k7⟩ := h3
    rw [relR_append, relR_append, hl1, hl2]
    refine ⟨relR_congr E (fun o' v k9 k10 => hcc o' v (by rw [hl1] at k10; omega)) k5, ?_, relR_congr E (fun o' v k9 k10 => hcc o' v (by omega)) k7⟩
    rw [← hzl]
    refine relR_rep _ _ _ (relM_of_vals (relL_mono E _ _ hrel) hsc fun q hq => ?_)
    have hq' : q < n * sz := by rw [← hzl]; simpa using hq
    rw [hzl, W.cell, Nat.add_zero, hlen, if_pos (by omega), if_pos (by simp [hcell, h2, show oo + i * sz + q < cs.size by omega])]
    congr 1; omega)
  refine ⟨φ, I, .tuple #[], { w with heap := h' }, .inl (exec_clear ho ?_), R', RA.app (e := { val := .tup [], upd := some (b, .rows sz (es.take i ++ (List.replicate n zero ++ es.drop (i + n)))) }) E hd (by simp [relV, relL]), ⟨rfl, rfl, rfl⟩⟩
  rw [hev]
  unfold Builtin.clear_
  simp only [List.getElem?_toArray, List.getElem?_cons_zero, Sem.run_bind]
  rw [run_underlying hu]
  cases n with
  | zero => exact absurd rfl hn
  | succ n =>
    simp only [Result.andThen_ok, Sem.run_bind]
    rw [run_zeroOf hz]
    simp only [Result.andThen_ok, hzeros, hr, Sem.run_pure]

theorem run_slnil {t el : TypeId} (hu : P.underlying t = some (.slice el)) (d : Nat) (base : Option Addr) (n cap : Nat) : (Op.equalIn (d + 1) t (.slice base n cap) (.slice none 0 0)).run P w = .ok base.isNone w := by
  simp only [Op.equalIn, Sem.run_bind]
  rw [run_underlying hu]
  cases base <;> rfl

theorem stepOK_nxt (R : RelH X φ I S w.heap) (RA : RelA φ I S nt a w.heap) (hd : ∀ d, dst = some d → d < nt) {sz b pos : Nat} {s : ByteArray} {x : Operand} (hdead : (itEff b s pos).upd ≠ none → ∀ b', get S.dead b' = none)
    (ho : execOp a.eval o = vS (Instr.next (a.eval x) true o.type)) (hx : relV w.heap φ I S.A (.ptr sz b 0 0) (a.eval x)) (hb : get S.heap b = some (.it s pos)) : StepOK P X S nt a w o dst id hard (itEff b s pos) := by
  simp only [relV] at hx
  obtain ⟨hA, c, oo, hφ, he⟩ := hx
  obtain ⟨_, hB⟩ := R.heap _ _ hb
  simp only [relB] at hB
  obtain ⟨c', h1, h2⟩ := hB
  rw [hφ] at h1; injection h1 with h1; injection h1 with h4 h5; subst h4 h5
  simp only [Nat.zero_mul, Nat.add_zero] at he
  have hgo : (getObj c).run P w = .ok (.stringIter s pos) w := by simp [getObj, Sem.run, h2]
  have hset : ∀ ob, (setObj c ob).run P w = .ok () { w with heap := w.heap.setIfInBounds c ob } := fun ob => by simp [setObj, Sem.run, h2]
  have hcs : c < w.heap.size := (R.live _ _ _ _ hb hφ).1
  by_cases hp : pos < s.size
  · have hi : itEff b s pos = { val := .tup [.bool true, .int .i64 pos, .int .i32 (Utf8.decode s pos).1], upd := some (b, .it s (pos + (Utf8.decode s pos).2)) } := by simp only [itEff, decide_eq_true hp]
    rw [hi] at hdead ⊢
    obtain ⟨R', E⟩ := R.wrote (blk' := .it s (pos + (Utf8.decode s pos).2)) (h' := w.heap.setIfInBounds c (.stringIter s (pos + (Utf8.decode s pos).2))) (putV dst (.tup [.bool true, .int .i64 pos, .int .i32 (Utf8.decode s pos).1]) S.vars) hb hφ (hdead (by simp)) (by simp) (fun c' h7 => by rw [Array.getElem?_setIfInBounds]; rw [if_neg (Ne.symm h7)])
      (fun c' s' h7 => by
        by_cases h8 : c' = c
        · subst h8; simp [hsize, h2] at h7
        · simp only [hsize]; rw [Array.getElem?_setIfInBounds, if_neg (Ne.symm h8)]; exact h7)
      (fun E => by simp only [relB]; exact ⟨c, hφ, by simp [hcs]⟩)
    refine ⟨φ, I, .tuple #[.bool true, .int .i64 pos, .int .i32 (Utf8.decode s pos).1], { w with heap := w.heap.setIfInBounds c (.stringIter s (pos + (Utf8.decode s pos).2)) }, .inl ?_, R', RA.app (e := { val := .tup [.bool true, .int .i64 pos, .int .i32 (Utf8.decode s pos).1], upd := some (b, .it s (pos + (Utf8.decode s pos).2)) }) E hd (by simp [relV, relL]), ⟨rfl, rfl, rfl⟩⟩
    rw [ho]
    refine run_vS ?_
    rw [he]
    simp only [Instr.next, Sem.run_bind, hgo, Result.andThen_ok, hp, if_true, hset, Sem.run_pure, goInt]
  · have hi : itEff b s pos = { val := .tup [.bool false] } := by simp only [itEff, decide_eq_false hp]
    rw [hi]
    refine stepOK_val R RA hd ho ⟨.tuple #[.bool false], w, ?_, rfl, by simp [relV, relL]⟩
    rw [he]
    simp only [Instr.next, Sem.run_bind, hgo, Result.andThen_ok, hp, if_false, Sem.run_pure]

theorem ibs_find {fn : Func} (h : fn.name = "internal/bytealg.IndexByteString") (h2 : fn.origin = "") : Extern.findNext fn = none ∧ Extern.find fn = some Extern.BytealgIndexByte.indexByte := by
  refine ⟨?_, ?_⟩
  · unfold Extern.findNext
    rw [h, h2]
    kernel_rfl
  · unfold Extern.find
    rw [h, h2]
    kernel_rfl
theorem run_ibs {f : Nat} {args : Array Operand} {tys : Array TypeId} {o : Oper} {fn : Func} {s : ByteArray} {b : Int} (ho : o.op = .call { callee := .value (.func f), args := args, argTypes := tys }) (hf : P.funcs[f]? = some fn) (hb : fn.body.isNone = true) (hn : fn.name = "internal/bytealg.IndexByteString") (h2 : fn.origin = "")
    (ha : args.toList.map a.eval = [.string s, .int .u8 b]) : (execOp a.eval o).run P w = .ok (.value (.int .i64 (ibsI s b))) w := by
  obtain ⟨h3, h4⟩ := ibs_find hn h2
  have h5 : (fn.name == "runtime.NumGoroutine") = false := by rw [hn]; decide
  have ha' : args.map a.eval = #[.string s, .int .u8 b] := by
    apply Array.ext'; simp [ha]
  simp only [execOp, ho, resolve, Sem.run_bind, Act.eval, Deferred.ofValue, Sem.run_pure, Result.andThen_ok, invoke, callFunc, run_program, hf, h5, hb, Bool.false_eq_true, if_false, if_true, run_mark, h3, h4]
  have ha2 : Array.map a.eval args ++ #[] = #[.string s, .int .u8 b] := by rw [Array.append_empty]; exact ha'
  have ha3 : #[] ++ Array.map a.eval args ++ #[] = #[Value.string s, Value.int IntKind.u8 b] := by rw [Array.append_empty, Array.empty_append]; exact ha'
  rw [ha3]
  have he : Extern.BytealgIndexByte.indexByte #[Value.string s, Value.int IntKind.u8 b] = (do
      let v ← Extern.Bytes.bytesOf (.string s)
      let c ← Extern.Bytes.asByte (.int .u8 b)
      match (List.range v.size).find? fun i => v[i]! == c with
      | some i => pure (goInt i)
      | none => pure (goInt (-1))) := rfl
  rw [he]
  simp only [Extern.Bytes.bytesOf, Extern.Bytes.asByte, Sem.run_bind, Sem.run_pure, Result.andThen_ok, ibsI]
  cases (List.range s.size).find? (fun i => s[i]! == b.toNat.toUInt8) <;> simp [goInt]

theorem op_sound (R : RelH X φ I S w.heap) (RA : RelA φ I S nt a w.heap) {o : Oper} {l : LOp} {e : Eff} {dst : Option Nat} (hd : ∀ d, dst = some d → d < nt) (hid : ¬ S.A id) (hok : okOp P o.op l = true) (he : opEff S.heap S.vars id l = some e)
    (hhard : hard = true → ∀ b', get S.dead b' = none) (hdl : ∀ b', get S.dead b' ≠ none → b' < S.next) (hsoft : hard = false → softOK S.heap S.vars l = true ∧ ∀ b, e.kill = some b → b < S.next ∧ get S.dead b = none)
    (hupd : e.upd ≠ none → ∀ b', get S.dead b' = none) : StepOK P X S nt a w o dst id hard e := by
  obtain ⟨dst0, op, ty, pos, after, guard⟩ := o
  simp only at hok
  unfold okOp at hok
  split at hok
  next _ _ x y =>
    simp only [opEff, Option.some.injEq] at he; subst he
    exact stepOK_val R RA hd (s := pure (a.eval x)) (by simp [execOp, vS]) (y_pure (ev_rel RA hok))
  next _ _ x y =>
    simp only [opEff, Option.some.injEq] at he; subst he
    exact stepOK_val R RA hd (s := pure (a.eval x)) (by simp [execOp, vS]) (y_pure (ev_rel RA hok))
  next _ _ n c sz =>
    simp only [opEff, Option.some.injEq] at he; subst he
    simp only [Bool.and_eq_true, decide_eq_true_eq] at hok; obtain ⟨rfl, rfl⟩ := hok
    exact stepOK_own R RA hd hid (by simp [execOp, Act.eval])
  next _ _ n c sz =>
    simp only [opEff, Option.some.injEq] at he; subst he
    simp only [Bool.and_eq_true, decide_eq_true_eq] at hok; obtain ⟨rfl, rfl⟩ := hok
    exact stepOK_own R RA hd hid (by simp [execOp, Act.eval])
  next _ _ c x y c' x' y' =>
    simp only [Bool.and_eq_true] at hok; obtain ⟨h1, h2, h3⟩ := hok
    have hc := ev_rel RA h1
    simp only [opEff] at he
    split at he
    · rename_i t ht
      rw [ht] at hc
      have := rel_bool hc
      injection he with he; subst he
      cases t
      · exact stepOK_val R RA hd (s := pure (a.eval y)) (by simp [execOp, vS, this, asBool]) (y_pure (ev_rel RA h3))
      · exact stepOK_val R RA hd (s := pure (a.eval x)) (by simp [execOp, vS, this, asBool]) (y_pure (ev_rel RA h2))
    · cases he
  next _ _ t zero =>
    obtain ⟨zv, h1, h2, h3⟩ := okZero_spec hok
    simp only [opEff, Option.some.injEq] at he; subst he
    exact stepOK_newv R RA hd hid rfl h1 h2 h3
  next _ _ t x sz y =>
    simp only [opEff] at he
    obtain ⟨h1, h2⟩ := grd_some he
    simp only [Bool.and_eq_true, decide_eq_true_eq] at h1
    injection h2 with h2; subst h2
    exact stepOK_box R RA hd hid rfl (ev_rel RA hok) h1.1 h1.2
  next _ _ t x sz y =>
    simp only [opEff] at he
    obtain ⟨h1, h2⟩ := grd_some he
    simp only [Bool.and_eq_true, decide_eq_true_eq] at h1
    injection h2 with h2; subst h2
    exact stepOK_boxt R RA hd rfl (ev_rel RA hok) h1.2
  next _ _ t ps zero qs =>
    simp only [Bool.and_eq_true] at hok; obtain ⟨h1, h2⟩ := hok
    obtain ⟨zv, h3, h4, h5⟩ := okZero_spec h1
    simp only [opEff] at he
    split at he
    · rename_i r hr
      injection he with he; subst he
      refine stepOK_val R RA hd (s := Instr.build t (ps.toList.map fun p => (p.1, a.eval p.2)).toArray) ?_ ?_
      · simp only [execOp, vS]
        rw [show (Array.map (fun x : Nat × Operand => match x with | (i, x) => (i, a.eval x)) ps) = (ps.toList.map fun p => (p.1, a.eval p.2)).toArray by apply Array.ext'; simp]
      · split at h2
        · rename_i fs hu
          simp only [Bool.and_eq_true] at h2
          obtain ⟨pl, k1, k2⟩ := run_places (P := P) (w := w) fs.toList h2.2
          refine y_build h3 h4 (.inl ⟨fs, hu, pl.toArray, ?_, rfl⟩) ?_ hr
          · have k3 : (fs.mapM fun f => do pure (f.offset, ← sizeOf f.type) : Sem (Array (Nat × Nat))) = List.toArray <$> (fs.toList.mapM fun f => do pure (f.offset, ← sizeOf f.type) : Sem (List (Nat × Nat))) := by
              exact Array.mapM_eq_mapM_toList ..
            rw [k3, Sem.run_map, k1]; rfl
          · rw [show (fun i => pl.toArray[i]?) = placeS P fs by funext i; simpa using k2 i]
            exact parts_rel RA h2.1
        · rename_i n el hu
          split at h2
          · rename_i sz hs
            exact y_build h3 h4 (.inr ⟨n, el, sz, hu, hs, rfl⟩) (parts_rel RA h2) hr
          · cases h2
        · cases h2
    · cases he
  next _ _ t len ps sz n zero qs =>
    split at hok
    · rename_i el hel
      obtain ⟨h1, h2, h3⟩ := okSl_spec hel
      simp only [Bool.and_eq_true, decide_eq_true_eq] at hok; obtain ⟨rfl, h4, h5, h6, h7⟩ := hok
      obtain ⟨zv, h8, h9, h10⟩ := okZero_spec h4
      simp only [opEff] at he
      split at he
      · rename_i r hr
        injection he with he; subst he
        exact stepOK_bsl R RA hd hid rfl h1 h2 h8 h9 h10 (okZero_size h9 h5) h3 h6 (partsI_rel RA sz h7) hr
      · cases he
    · cases hok
  next _ _ t len ps sz n zero qs =>
    split at hok
    · rename_i el hel
      obtain ⟨h1, h2, h3⟩ := okSl_spec hel
      simp only [Bool.and_eq_true, decide_eq_true_eq] at hok; obtain ⟨rfl, h4, h5, h6, h7⟩ := hok
      obtain ⟨zv, h8, h9, h10⟩ := okZero_spec h4
      simp only [opEff] at he
      split at he
      · rename_i r hr
        injection he with he; subst he
        exact stepOK_btsl R RA hd rfl h1 h2 h8 h9 h10 (okZero_size h9 h5) h3 h6 (partsI_rel RA sz h7) hr
      · cases he
    · cases hok
  next _ _ f args tys x c =>
    simp only [Bool.and_eq_true] at hok; obtain ⟨h1, h2⟩ := hok
    split at h1
    · rename_i fn hfn
      simp only [Bool.and_eq_true, beq_iff_eq] at h1
      obtain ⟨k1, k2, k3⟩ := h1
      have hr := evs_rel RA h2
      simp only [opEff] at he
      split at he
      · rename_i s hs
        split at he
        · rename_i k b hb
          obtain ⟨h6, h7⟩ := grd_some he
          simp only [decide_eq_true_eq] at h6; subst h6
          injection h7 with h7; subst h7
          simp only [List.map_cons, List.map_nil, relL, hs, hb] at hr
          obtain ⟨v, r, e1, r1, v2, r2, e2, r3, e3⟩ := hr
          subst e3 e2
          rw [rel_str r1, rel_int r3] at e1
          exact ⟨φ, I, .int .i64 (ibsI s b), w, .inl (run_ibs rfl hfn k1 k2 k3 e1), R.vars _, RA.app (id := id) (hard := hard) (e := { val := .int .i64 (ibsI s b) }) (Ext.refl' fun _ h => h) hd (by simp only [relV]), Keep.refl _⟩
        · cases he
      · cases he
    · cases h1
  next _ _ t x y =>
    simp only [Bool.and_eq_true] at hok; obtain ⟨h1, h2⟩ := hok
    have h1 : P.underlying t = some .string := by
      split at h1
      · rename_i hu; exact hu
      · cases h1
    have hx := ev_rel RA h2
    simp only [opEff] at he
    split at he
    · rename_i s hs
      injection he with he; subst he
      rw [hs] at hx
      have hx := rel_str hx
      refine stepOK_new R RA hd hid (cv := .pointer (some ⟨w.heap.size, 0, none⟩)) (w' := w.iter s 0) (ob := .stringIter s 0) ?_ rfl ⟨rfl, rfl, rfl⟩ (fun A' hA E => ?_) (fun A' hA E => ?_)
      · simp only [execOp, hx]
        rw [Sem.run_bind, run_range_string w t s h1]; rfl
      · simp only [relB]; exact ⟨w.heap.size, by simp [upφ], push_last⟩
      · simp only [relV]; exact ⟨hA, w.heap.size, 0, by simp [upφ], by simp⟩
    · cases he
  next _ _ x q y =>
    simp only [Bool.and_eq_true] at hok; obtain ⟨h1, h2⟩ := hok
    subst h1
    have hx := ev_rel RA h2
    simp only [opEff] at he
    split at he
    · rename_i sz b i j hev
      rw [hev] at hx
      split at he
      · rename_i s pos hb
        obtain ⟨h6, h7⟩ := grd_some he
        simp only [Bool.and_eq_true, decide_eq_true_eq] at h6; obtain ⟨rfl, rfl⟩ := h6
        injection h7 with h7; subst h7
        exact stepOK_nxt R RA hd (fun h => hupd h) (by simp only [execOp]; rfl) hx hb
      · cases he
    · cases he
  next _ _ t x ag n y =>
    simp only [Bool.and_eq_true] at hok; obtain ⟨h1, h2⟩ := hok
    obtain ⟨u, h3, h4, h5⟩ := okPart_spec h1
    have hx := ev_rel RA h2
    simp only [opEff] at he
    split at he
    · rename_i sz b i j hev
      rw [hev] at hx
      split at he
      · rename_i sz' es hb
        obtain ⟨h6, h7⟩ := grd_some he
        simp only [Bool.and_eq_true, decide_eq_true_eq] at h6; obtain ⟨rfl, h8⟩ := h6
        split at h7
        · rename_i v hv
          injection h7 with h7; subst h7
          simp only [relV] at hx
          obtain ⟨hA, c, oo, hφ, hx⟩ := hx
          obtain ⟨_, hB⟩ := R.heap _ _ hb
          simp only [relB] at hB
          rcases hB with ⟨k1, _⟩ | ⟨c', o', cs, el, k1, k2, k3⟩
          · rw [hφ] at k1; cases k1
          rw [hφ] at k1; injection k1 with k1; injection k1 with k4 k5; subst k4 k5
          have k6 := relM_drop j (relR_get k3 h8).2
          refine stepOK_val R RA hd (s := loadVar t ⟨c, oo + i * sz' + j, none⟩) ?_ (y_load h3 h4 h5 k6 hv)
          simp [execOp, vS, hx, Instr.loadAt, Instr.sureAddr]
        · cases h7
      · cases he
    · rename_i cs hev
      rw [hev] at hx
      split at he
      · rename_i v hv
        injection he with he; subst he
        simp only [relV] at hx
        obtain ⟨c, oo, hx, _, k3⟩ := hx
        refine stepOK_val R RA hd (s := loadVar t ⟨c, oo, none⟩) ?_ (y_load h3 h4 h5 k3 hv)
        simp [execOp, vS, hx, Instr.loadAt, Instr.sureAddr]
      · cases he
    · cases he
  next _ _ t x ag n y =>
    simp only [Bool.and_eq_true] at hok; obtain ⟨h1, h2⟩ := hok
    obtain ⟨u, h3, h4, h5⟩ := okPart_spec h1
    have hx := ev_rel RA h2
    simp only [opEff] at he
    split at he
    · rename_i sz b i j hev
      rw [hev] at hx
      split at he
      · rename_i sz' es hb
        obtain ⟨h6, h7⟩ := grd_some he
        simp only [Bool.and_eq_true, decide_eq_true_eq] at h6; obtain ⟨rfl, h8, _⟩ := h6
        split at h7
        · rename_i v hv
          injection h7 with h7; subst h7
          simp only [relV] at hx
          obtain ⟨hA, c, oo, hφ, hx⟩ := hx
          obtain ⟨_, hB⟩ := R.heap _ _ hb
          simp only [relB] at hB
          rcases hB with ⟨k1, _⟩ | ⟨c', o', cs, el, k1, k2, k3⟩
          · rw [hφ] at k1; cases k1
          rw [hφ] at k1; injection k1 with k1; injection k1 with k4 k5; subst k4 k5
          have k6 := relM_drop j (relR_get k3 h8).2
          refine stepOK_val R RA hd (s := loadVar t ⟨c, oo + i * sz' + j, none⟩) ?_ (y_load h3 h4 h5 k6 hv)
          simp [execOp, vS, hx, Instr.loadAt, Instr.sureAddr]
        · cases h7
      · cases he
    · rename_i cs hev
      rw [hev] at hx
      split at he
      · rename_i v hv
        injection he with he; subst he
        simp only [relV] at hx
        obtain ⟨c, oo, hx, _, k3⟩ := hx
        refine stepOK_val R RA hd (s := loadVar t ⟨c, oo, none⟩) ?_ (y_load h3 h4 h5 k3 hv)
        simp [execOp, vS, hx, Instr.loadAt, Instr.sureAddr]
      · cases he
    · cases he
  next _ _ t x y n x' y' =>
    simp only [Bool.and_eq_true, decide_eq_true_eq] at hok; obtain ⟨h1, h2, h3, h4⟩ := hok
    have hx := ev_rel RA h3
    simp only [opEff] at he
    split at he
    · rename_i sz b i j hev
      rw [hev] at hx
      split at he
      · rename_i sz' es hb
        obtain ⟨h6, h7⟩ := grd_some he
        simp only [Bool.and_eq_true, decide_eq_true_eq] at h6; obtain ⟨rfl, h8, h9, h10, h11, _⟩ := h6
        injection h7 with h7; subst h7
        exact stepOK_store R RA hd (hupd (by simp)) rfl h1 hx (ev_rel RA h4) hb h8 h9 h2 h10 h11
      · cases he
    · cases he
  next _ _ t x y n x' y' =>
    simp only [Bool.and_eq_true, decide_eq_true_eq] at hok; obtain ⟨h1, h2, h3, h4⟩ := hok
    have hx := ev_rel RA h3
    simp only [opEff] at he
    split at he
    · rename_i sz b i j hev
      rw [hev] at hx
      split at he
      · rename_i sz' es hb
        obtain ⟨h6, h7⟩ := grd_some he
        simp only [Bool.and_eq_true, decide_eq_true_eq] at h6; obtain ⟨rfl, h8, h9, h10, h11⟩ := h6
        injection h7 with h7; subst h7
        exact stepOK_store R RA hd (hupd (by simp)) rfl h1 hx (ev_rel RA h4) hb h8 h9 h2 h10 h11
      · cases he
    · cases he
  next _ _ op t x y t2 op' x' y' =>
    simp only [Bool.and_eq_true, decide_eq_true_eq] at hok; obtain ⟨rfl, h2, h3⟩ := hok
    simp only [opEff] at he
    split at he
    · rename_i v hv
      injection he with he; subst he
      exact stepOK_val R RA hd (s := do eqGuard op t x y (a.eval x) (a.eval y); binOp op t (a.eval x) (a.eval y)) rfl (y_bin (ev_rel RA h2) (ev_rel RA h3) hv)
    · cases he
  next _ _ op t x y t2 ng kt x' y' =>
    simp only [Bool.and_eq_true, decide_eq_true_eq] at hok; obtain ⟨rfl, h1, h2, h3⟩ := hok
    simp only [opEff] at he
    split at he
    · rename_i b hb
      injection he with he; subst he
      simp only [Bool.or_eq_true] at h1
      exact stepOK_val R RA hd (s := do eqGuard (eqOp ng) t x y (a.eval x) (a.eval y); binOp (eqOp ng) t (a.eval x) (a.eval y)) rfl (h1.elim (fun h1 => y_eq h1 (ev_rel RA h2) (ev_rel RA h3) hb) fun h1 => y_eqN h1 (ev_rel RA h2) (ev_rel RA h3) hb)
    · cases he
  next _ _ t x y =>
    have hx := ev_rel RA hok
    simp only [opEff] at he
    split at he
    · rename_i b hb
      rw [hb] at hx
      injection he with he; subst he
      exact stepOK_val R RA hd (s := Op.unary .not (a.eval x)) rfl (y_not hx)
    · cases he
  next _ _ t x y =>
    have hx := ev_rel RA hok
    simp only [opEff] at he
    split at he
    · rename_i k n hb
      rw [hb] at hx
      injection he with he; subst he
      exact stepOK_val R RA hd (s := Op.unary .neg (a.eval x)) rfl (y_neg hx)
    · cases he
  next _ _ src dt x k y =>
    simp only [Bool.and_eq_true] at hok; obtain ⟨h1, h2, h3⟩ := hok
    obtain ⟨u, hu⟩ := Option.isSome_iff_exists.1 h1
    have hx := ev_rel RA h3
    split at h2
    · rename_i k' hk'
      simp only [decide_eq_true_eq] at h2; subst h2
      simp only [opEff] at he
      split at he
      · rename_i k n hb
        rw [hb] at hx
        injection he with he; subst he
        exact stepOK_val R RA hd (s := convert src dt (a.eval x)) rfl (y_conv hu hk' hx)
      · cases he
    · cases h2
  next _ _ f fs cs f' fs' cs' =>
    simp only [Bool.and_eq_true, decide_eq_true_eq] at hok; obtain ⟨rfl, h2, h3⟩ := hok
    simp only [opEff, Option.some.injEq] at he; subst he
    refine stepOK_val R RA hd (s := Instr.makeFunc (.func f) (fs.toList.map a.eval).toArray (cs.toList.map a.eval).toArray) ?_ (y_mkfn (evs_rel RA h2) (evs_rel RA h3))
    simp only [execOp, vS]
    rw [show (fs.toList.map a.eval).toArray = fs.map a.eval by apply Array.ext'; simp, show (cs.toList.map a.eval).toArray = cs.map a.eval by apply Array.ext'; simp]
  next _ _ t =>
    simp only [opEff, Option.some.injEq] at he; subst he
    exact stepOK_mkmap R RA hd hid rfl
  next _ _ t l c sz zero bytes l' c' =>
    split at hok
    · rename_i el hel
      obtain ⟨h1, h2, h3⟩ := okSl_spec hel
      simp only [Bool.and_eq_true, decide_eq_true_eq] at hok; obtain ⟨h4, h5, h6, h7, h8, h9⟩ := hok
      obtain ⟨zv, h10, h11, h12⟩ := okZero_spec h4
      have hl := ev_rel RA h8
      have hc := ev_rel RA h9
      simp only [opEff] at he
      split at he
      · rename_i k l k' c e1 e2
        rw [e1] at hl; rw [e2] at hc
        obtain ⟨h13, h14⟩ := grd_some he
        simp only [Bool.and_eq_true, decide_eq_true_eq] at h13
        injection h14 with h14; subst h14
        exact stepOK_mksl R RA hd hid rfl h1 h2 h10 h6 h7 h11 h12 (okZero_size h11 h5) h3 (rel_int hl) (rel_int hc) h13.1 h13.2.1 h13.2.2
      · cases he
    · cases hok
  next _ _ t x lo hi mx sz x' lo' hi' mx' =>
    simp only [Bool.and_eq_true, Bool.or_eq_true, Bool.not_eq_true'] at hok; obtain ⟨h1, h2, h3, h4, h5, h6⟩ := hok
    obtain ⟨el, hel⟩ := Option.isSome_iff_exists.1 h1
    obtain ⟨hu, hs, hsz⟩ := okSl_spec hel
    have hx := ev_rel RA h2
    have hmh : (mx.map a.eval).isSome = true → (hi.map a.eval).isSome = true := by
      intro h7; simp only [Option.isSome_map] at h7 ⊢
      rcases h6 with h6 | h6
      · rw [h7] at h6; cases h6
      · exact h6
    have hex : execOp a.eval ⟨dst0, .slice t x lo hi mx, ty, pos, after, guard⟩ = vS (Instr.sliceAt t (a.eval x) (lo.map a.eval) (hi.map a.eval) (mx.map a.eval)) := rfl
    have hsl : ∀ {v : AV}, Yields P (Instr.slice t (a.eval x) (lo.map a.eval) (hi.map a.eval) (mx.map a.eval)) w.heap φ I S.A v w → Yields P (Instr.sliceAt t (a.eval x) (lo.map a.eval) (hi.map a.eval) (mx.map a.eval)) w.heap φ I S.A v w := fun {v} ⟨r, w', k1, k2, k3⟩ => by
      refine ⟨r, w', ?_, k2, k3⟩
      unfold Instr.sliceAt
      rw [Sem.run_bind, run_underlying hu]
      exact k1
    simp only [opEff] at he
    split at he
    · rename_i sz' b i n hev
      rw [hev] at hx
      split at he
      · rename_i l h m e1 e2 e3
        obtain ⟨h7, h8⟩ := grd_some he
        simp only [Bool.and_eq_true, decide_eq_true_eq] at h7; obtain ⟨rfl, k1, k2, k3, k4⟩ := h7
        injection h8 with h8; subst h8
        exact stepOK_val R RA hd hex (hsl (y_slice_sl hu hs hx (bnd_rel (opt_rel RA h3) e1) (bnd_rel (opt_rel RA h4) e2) (bnd_rel (opt_rel RA h5) e3) k1 k2 k3 k4 hmh))
      · cases he
    · rename_i sz' es hev
      rw [hev] at hx
      split at he
      · rename_i l h m e1 e2 e3
        obtain ⟨h7, h8⟩ := grd_some he
        simp only [Bool.and_eq_true, decide_eq_true_eq] at h7; obtain ⟨rfl, k1, k2, k3, k4⟩ := h7
        injection h8 with h8; subst h8
        exact stepOK_val R RA hd hex (hsl (y_slice_tsl hu hs hx (bnd_rel (opt_rel RA h3) e1) (bnd_rel (opt_rel RA h4) e2) (bnd_rel (opt_rel RA h5) e3) k1 k2 k3 k4 hmh))
      · cases he
    · rename_i hev
      rw [hev] at hx
      split at he
      · rename_i l h m e1 e2 e3
        obtain ⟨h7, h8⟩ := grd_some he
        simp only [Bool.and_eq_true, decide_eq_true_eq] at h7; obtain ⟨rfl, rfl, rfl⟩ := h7
        injection h8 with h8; subst h8
        exact stepOK_val R RA hd hex (hsl (y_slice_nils hu hs hx (bnd_rel (opt_rel RA h3) e1) (bnd_rel (opt_rel RA h4) e2) (bnd_rel (opt_rel RA h5) e3) hmh))
      · cases he
    · cases he
  next _ _ t x lo hi x' lo' hi' =>
    simp only [Bool.and_eq_true] at hok; obtain ⟨h1, h2, h3, h4⟩ := hok
    split at h1
    · rename_i hu
      have hx := ev_rel RA h2
      simp only [opEff] at he
      split at he
      · rename_i s hev
        rw [hev] at hx
        split at he
        · rename_i l h e1 e2
          obtain ⟨h7, h8⟩ := grd_some he
          simp only [Bool.and_eq_true, decide_eq_true_eq] at h7; obtain ⟨k1, k2, k3⟩ := h7
          injection h8 with h8; subst h8
          obtain ⟨r, w', q1, q2, q3⟩ := y_substr (P := P) (w := w) hu hx (bnd_rel (opt_rel RA h3) e1) (bnd_rel (opt_rel RA h4) e2) k1 k2 k3
          refine stepOK_val R RA hd (s := Instr.sliceAt t (a.eval x) (lo.map a.eval) (hi.map a.eval) none) rfl ⟨r, w', ?_, q2, q3⟩
          unfold Instr.sliceAt
          rw [Sem.run_bind, run_underlying hu]
          exact q1
        · cases he
      · cases he
    · cases h1
  next _ _ t x i off y =>
    simp only [Bool.and_eq_true] at hok; obtain ⟨h1, h2⟩ := hok
    have hx := ev_rel RA h2
    simp only [opEff] at he
    split at he
    · rename_i sz b i' j hev
      rw [hev] at hx
      injection he with he; subst he
      exact stepOK_val R RA hd (s := Instr.fieldAt t (a.eval x) i) rfl (y_fadr h1 hx rfl)
    · rename_i cs hev
      rw [hev] at hx
      injection he with he; subst he
      exact stepOK_val R RA hd (s := Instr.fieldAt t (a.eval x) i) rfl (y_fadr h1 hx rfl)
    · cases he
  next _ _ t x i sz x' i' =>
    simp only [Bool.and_eq_true] at hok; obtain ⟨h1, h2, h3⟩ := hok
    obtain ⟨el, hel⟩ := Option.isSome_iff_exists.1 h1
    obtain ⟨hu, hs, hsz⟩ := okSl_spec hel
    have hx := ev_rel RA h2
    have hi := ev_rel RA h3
    simp only [opEff] at he
    split at he
    · rename_i k m hi'
      rw [hi'] at hi
      split at he
      · rename_i sz' b oo n hev
        rw [hev] at hx
        obtain ⟨h7, h8⟩ := grd_some he
        simp only [Bool.and_eq_true, decide_eq_true_eq] at h7; obtain ⟨rfl, k1, k2⟩ := h7
        injection h8 with h8; subst h8
        exact stepOK_val R RA hd (s := Instr.indexAt t (a.eval x) (a.eval i)) rfl (y_idxa_sl hu hs hx hi k1 k2)
      · rename_i sz' es hev
        rw [hev] at hx
        obtain ⟨h7, h8⟩ := grd_some he
        simp only [Bool.and_eq_true, decide_eq_true_eq] at h7; obtain ⟨rfl, k1, k2⟩ := h7
        injection h8 with h8; subst h8
        exact stepOK_val R RA hd (s := Instr.indexAt t (a.eval x) (a.eval i)) rfl (y_idxa_tsl hu hs hx hi k1 k2)
      · cases he
    · cases he
  next _ _ t x i esz len x' i' =>
    simp only [Bool.and_eq_true] at hok; obtain ⟨h1, h2, h3⟩ := hok
    split at h1
    · rename_i n el hu
      simp only [Bool.and_eq_true, decide_eq_true_eq] at h1; obtain ⟨rfl, hs⟩ := h1
      have hx := ev_rel RA h2
      have hi := ev_rel RA h3
      simp only [opEff] at he
      split at he
      · rename_i k m hi'
        rw [hi'] at hi
        obtain ⟨h7, h8⟩ := grd_some he
        simp only [Bool.and_eq_true, decide_eq_true_eq] at h7
        split at h8
        · rename_i sz b oo j hev
          rw [hev] at hx
          injection h8 with h8; subst h8
          exact stepOK_val R RA hd (s := Instr.indexAt t (a.eval x) (a.eval i)) rfl (y_idxp hu hs hx hi h7.1 h7.2 rfl)
        · rename_i cs hev
          rw [hev] at hx
          injection h8 with h8; subst h8
          exact stepOK_val R RA hd (s := Instr.indexAt t (a.eval x) (a.eval i)) rfl (y_idxp hu hs hx hi h7.1 h7.2 rfl)
        · cases h8
      · cases he
    · cases h1
  next _ _ t x i x' i' =>
    simp only [Bool.and_eq_true] at hok; obtain ⟨h1, h2, h3⟩ := hok
    split at h1
    · rename_i hu
      have hx := ev_rel RA h2
      have hi := ev_rel RA h3
      simp only [opEff] at he
      split at he
      · rename_i k m hi'
        rw [hi'] at hi
        split at he
        · rename_i s hev
          rw [hev] at hx
          obtain ⟨h7, h8⟩ := grd_some he
          simp only [Bool.and_eq_true, decide_eq_true_eq] at h7
          injection h8 with h8; subst h8
          exact stepOK_val R RA hd (s := Instr.index t (a.eval x) (a.eval i)) rfl (y_idxs hu hx hi h7.1 h7.2)
        · cases he
      · cases he
    · cases h1
  next _ _ t x i ag esz len x' i' =>
    simp only [Bool.and_eq_true] at hok; obtain ⟨h1, h2, h3⟩ := hok
    split at h1
    · rename_i n el hu
      simp only [Bool.and_eq_true, decide_eq_true_eq] at h1; obtain ⟨rfl, hs, hp⟩ := h1
      obtain ⟨u, k1, k2, k3⟩ := okPart_spec hp
      have hx := ev_rel RA h2
      have hi := ev_rel RA h3
      simp only [opEff] at he
      split at he
      · rename_i k m hi'
        rw [hi'] at hi
        obtain ⟨h7, h8⟩ := grd_some he
        simp only [Bool.and_eq_true, decide_eq_true_eq] at h7
        split at h8
        · rename_i cs hev
          rw [hev] at hx
          split at h8
          · rename_i v hv
            injection h8 with h8; subst h8
            exact stepOK_val R RA hd (s := Instr.index t (a.eval x) (a.eval i)) rfl (y_idxc hu hs k1 k2 hx hi h7.1 h7.2 hv)
          · cases h8
        · cases h8
      · cases he
    · cases h1
  next _ _ t x i ag off n x' =>
    simp only [Bool.and_eq_true] at hok; obtain ⟨h1, h2⟩ := hok
    split at h1
    · rename_i fs hu
      split at h1
      · rename_i f hf
        simp only [Bool.and_eq_true, decide_eq_true_eq] at h1; obtain ⟨ho, hp⟩ := h1
        obtain ⟨u, k1, k2, k3⟩ := okPart_spec hp
        have hx := ev_rel RA h2
        simp only [opEff] at he
        split at he
        · rename_i cs hev
          rw [hev] at hx
          split at he
          · rename_i v hv
            injection he with he; subst he
            exact stepOK_val R RA hd (s := Instr.field t (a.eval x) i) rfl (y_field hu hf ho k1 k2 k3 hx hv)
          · cases he
        · cases he
      · cases h1
    · cases h1
  next _ _ t x k ok ok' kt zero x' k' =>
    simp only [Bool.and_eq_true, decide_eq_true_eq] at hok; obtain ⟨rfl, h1, h2, h3⟩ := hok
    split at h1
    · rename_i key el hu
      simp only [Bool.and_eq_true] at h1; obtain ⟨hT, hz⟩ := h1
      split at hz
      · rename_i zv hzv
        have hx := ev_rel RA h2
        have hk := ev_rel RA h3
        simp only [opEff] at he
        obtain ⟨hko, he⟩ := grd_some he
        split at he
        · rename_i b hev
          rw [hev] at hx
          split at he
          · rename_i es hb
            split at he
            · rename_i r hr
              injection he with he; subst he
              exact stepOK_val R RA hd (s := Instr.lookup t (a.eval x) (a.eval k) ok) rfl (y_lookup_map R hu hT hzv hz hx hk hko hb hr rfl)
            · cases he
          · cases he
        · rename_i hev
          rw [hev] at hx
          injection he with he; subst he
          exact stepOK_val R RA hd (s := Instr.lookup t (a.eval x) (a.eval k) ok) rfl (y_lookup_nil hu hT hzv hz hx hk hko rfl)
        · cases he
      · cases hz
    · cases h1
  next _ _ t m k x kt m' k' x' =>
    simp only [Bool.and_eq_true] at hok; obtain ⟨h1, h2, h3, h4⟩ := hok
    split at h1
    · rename_i key el hu
      have hx := ev_rel RA h2
      simp only [opEff] at he
      obtain ⟨hko, he⟩ := grd_some he
      split at he
      · rename_i b hev
        rw [hev] at hx
        split at he
        · rename_i es hb
          split at he
          · rename_i r hr
            injection he with he; subst he
            exact stepOK_mapupd R RA hd (hupd (by simp)) (om := m) (ok := k) (ov := x) rfl hu h1 hx (ev_rel RA h3) hko (ev_rel RA h4) hb hr
          · cases he
        · cases he
      · cases he
    · cases h1
  next _ _ t m k x kt m' k' x' =>
    simp only [Bool.and_eq_true] at hok; obtain ⟨h1, h2, h3, h4⟩ := hok
    split at h1
    · rename_i key el hu
      have hx := ev_rel RA h2
      simp only [opEff] at he
      obtain ⟨hko, he⟩ := grd_some he
      split at he
      · rename_i b hev
        rw [hev] at hx
        split at he
        · rename_i es hb
          split at he
          · rename_i r hr
            injection he with he; subst he
            exact stepOK_mapupd R RA hd (hupd (by simp)) (om := m) (ok := k) (ov := x) rfl hu h1 hx (ev_rel RA h3) hko (ev_rel RA h4) hb hr
          · cases he
        · cases he
      · cases he
    · cases h1
  next _ _ x y =>
    have hx := ev_rel RA hok
    have key : ∀ v, a.eval x = v → (∀ n f c, v ≠ .func (.method n) f c) → v ≠ .pointer none → v ≠ .nilIface → v ≠ .nilFunc → execOp a.eval ⟨dst0, .nilCheck x, ty, pos, after, guard⟩ = vS (pure v) := by
      intro v hv h1 h2 h3 h4
      simp only [execOp, hv, vS]
      rfl
    simp only [opEff] at he
    split at he
    · rename_i sz b i j hev
      rw [hev] at hx
      injection he with he; subst he
      have hx0 := hx
      simp only [relV] at hx
      obtain ⟨_, c, oo, _, hv⟩ := hx
      exact stepOK_val R RA hd (key _ rfl (by rw [hv]; simp) (by rw [hv]; simp) (by rw [hv]; simp) (by rw [hv]; simp)) (y_pure hx0)
    · rename_i cs hev
      rw [hev] at hx
      injection he with he; subst he
      have hx0 := hx
      simp only [relV] at hx
      obtain ⟨c, oo, hv, _⟩ := hx
      exact stepOK_val R RA hd (key _ rfl (by rw [hv]; simp) (by rw [hv]; simp) (by rw [hv]; simp) (by rw [hv]; simp)) (y_pure hx0)
    · rename_i f fs cs hev
      rw [hev] at hx
      injection he with he; subst he
      have hx0 := hx
      simp only [relV] at hx
      obtain ⟨fs', cs', hv, _⟩ := hx
      exact stepOK_val R RA hd (key _ rfl (by rw [hv]; simp) (by rw [hv]; simp) (by rw [hv]; simp) (by rw [hv]; simp)) (y_pure hx0)
    · cases he
  next _ _ x i y j =>
    simp only [Bool.and_eq_true, decide_eq_true_eq] at hok; obtain ⟨rfl, h2⟩ := hok
    have hx := ev_rel RA h2
    simp only [opEff] at he
    split at he
    · rename_i l hev
      rw [hev] at hx
      split at he
      · rename_i v hv
        injection he with he; subst he
        exact stepOK_val R RA hd (s := Instr.extract (a.eval x) i) rfl (y_extract hx hv)
      · cases he
    · cases he
  next _ _ x t k y =>
    simp only [Bool.and_eq_true] at hok; obtain ⟨h1, h2⟩ := hok
    have hx := ev_rel RA h2
    have hex : execOp a.eval ⟨dst0, .call { callee := .builtin .len, args := #[x], argTypes := #[t] }, ty, pos, after, guard⟩ = vS (Builtin.len_ #[t] ty #[a.eval x]) := by
      simp [execOp, resolve, invoke, builtin, vS]
    simp only [opEff] at he
    split at he
    · split at h1 <;> first | (cases h1; done) | skip
      all_goals first | (rename_i hk _; cases hk; done) | skip
      rename_i hu
      split at he
      · rename_i s hev
        rw [hev] at hx
        injection he with he; subst he
        exact stepOK_val R RA hd hex (y_len_str hu hx)
      · cases he
    · split at h1 <;> first | (cases h1; done) | skip
      all_goals first | (rename_i hk _; cases hk; done) | skip
      rename_i el hu
      split at he
      · rename_i hev
        rw [hev] at hx
        injection he with he; subst he
        simp only [relV] at hx
        exact stepOK_val R RA hd hex (y_len_sl (x := .nils) (n := 0) hu ⟨none, 0, hx⟩)
      · rename_i sz b i n hev
        rw [hev] at hx
        injection he with he; subst he
        simp only [relV] at hx
        obtain ⟨_, base, cap, hx, _⟩ := hx
        exact stepOK_val R RA hd hex (y_len_sl (x := .nils) hu ⟨base, cap, hx⟩)
      · rename_i sz es hev
        rw [hev] at hx
        injection he with he; subst he
        simp only [relV] at hx
        obtain ⟨base, cap, hx, _⟩ := hx
        exact stepOK_val R RA hd hex (y_len_sl (x := .nils) hu ⟨base, cap, hx⟩)
      · cases he
    · split at h1 <;> first | (cases h1; done) | skip
      all_goals first | (rename_i hk _; cases hk; done) | skip
      rename_i kk el hu
      split at he
      · rename_i hev
        rw [hev] at hx
        injection he with he; subst he
        simp only [relV] at hx
        refine stepOK_val R RA hd hex (yields_int ?_)
        simp [Builtin.len_, run_underlying hu, hx, goInt]
      · rename_i b hev
        rw [hev] at hx
        split at he
        · rename_i es hb
          injection he with he; subst he
          exact stepOK_val R RA hd hex (y_len_map R hu hx hb)
        · cases he
      · cases he
  next _ _ x t n =>
    split at hok
    · rename_i m el hu
      simp only [decide_eq_true_eq] at hok; subst hok
      simp only [opEff, Option.some.injEq] at he; subst he
      refine stepOK_val R RA hd (s := Builtin.len_ #[t] ty #[a.eval x]) ?_ (y_lenc hu)
      simp [execOp, resolve, invoke, builtin, vS]
    · cases hok
  next _ _ x y t1 t2 sz bytes x' y' =>
    split at hok
    · rename_i el hel
      obtain ⟨hu, hs, hsz⟩ := okSl_spec hel
      simp only [Bool.and_eq_true, decide_eq_true_eq] at hok; obtain ⟨h1, h2, h3, h4, h5, h6, h7⟩ := hok
      split at h2
      · rename_i zv hzv
        simp only [decide_eq_true_eq] at h2
        have hu2 : ∃ u2, P.underlying t2 = some u2 ∧ ∀ k, u2 ≠ .int k := by
          split at h1
          · rename_i e1; exact ⟨_, e1, by simp⟩
          · rename_i e1; exact ⟨_, e1, by simp⟩
          · cases h1
        obtain ⟨u2, hu2, hni⟩ := hu2
        have T : AppT P t1 t2 el sz bytes zv u2 := ⟨hu, hu2, hni, hs, hzv, h2, h3, h4, h5⟩
        have hx := ev_rel RA h6
        have hy := ev_rel RA h7
        simp only [opEff, appEff] at he
        split at he
        · rename_i ys hys
          obtain ⟨hl, hya, hf⟩ := elems_run (P := P) R hy hys
          split at he
          · rename_i hev
            rw [hev] at hx
            obtain ⟨k1, k2⟩ := grd_some he
            simp only [decide_eq_true_eq] at k1
            injection k2 with k2; subst k2
            simp only [relV] at hx
            by_cases h0 : ys.length = 0
            · have : ys = [] := List.eq_nil_of_length_eq_zero h0
              subst this
              refine stepOK_append_none R RA hd hid (base := none) (w' := w) rfl ?_ rfl
              refine exec_append rfl ?_
              rw [hx]
              obtain ⟨vs, q1, q2, q3, _⟩ := hf 0 (Nat.le_refl _)
              exact run_append_in (n := 0) T.hu T.hu2 T.hni T.hs hl (q1 w rfl) (Nat.le_refl _) (fun b hb => by cases hb) (fun _ => rfl)
            · have := stepOK_append_new (o := ⟨dst0, .call { callee := .builtin .append, args := #[x, y], argTypes := #[t1, t2] }, ty, pos, after, guard⟩) (hard := hard) (kill := none) (xs := []) (n := 0) (cap := 0) (base := none) R RA hd hid T rfl hx rfl (by simp) ⟨[], fun _ _ => rfl, by simp [relL], by simp⟩ hy hys (by omega) (by simpa using k1)
              simpa using this
          · rename_i sz' b i n hev
            rw [hev] at hx
            split at he
            · rename_i sz'' es hb
              obtain ⟨k1, k2⟩ := grd_some he
              simp only [Bool.and_eq_true, decide_eq_true_eq] at k1; obtain ⟨rfl, rfl, k3, k4⟩ := k1
              injection k2 with k2; subst k2
              have hxe : elems S.heap sz'' (.sl sz'' b i n) = some ((es.drop i).take n) := by simp [elems, hb, grd, k3]
              obtain ⟨hl', hxa, hf'⟩ := elems_run (P := P) R hx hxe
              have hlen : ((es.drop i).take n).length = n := by simp; omega
              simp only [relV] at hx
              obtain ⟨hA, base, cap, hx, hc⟩ := hx
              have hold : ∃ old : List Value, (∀ w' : World, w'.heap = w.heap → (Builtin.firstCells sz'' n (.slice base n cap)).run P w' = .ok old.toArray w') ∧ relL w.heap φ I S.A ((es.drop i).take n).flatten old ∧ ∀ v ∈ old, Value.oneCell' v = true := by
                obtain ⟨vs, q1, q2, q3, q4⟩ := hf' n (by omega)
                rw [List.take_of_length_le (by omega)] at q2
                rw [hx] at q1
                exact ⟨vs, q1, q2, q4⟩
              by_cases hroom : cap < n + ys.length
              · exact stepOK_append_new R RA hd hid T rfl hx hlen hxa hold hy hys hroom k4
              · rcases hc with ⟨rfl, rfl⟩ | ⟨c, oo, s, q1, rfl, q2, q3, q4⟩
                · have : ys = [] := List.eq_nil_of_length_eq_zero (by omega)
                  subst this
                  have hgoal := stepOK_append_none (hard := hard) (kill := some b) (sz := sz'') R RA hd hid (base := base) (cv := .slice base 0 0) (w' := w) (o := ⟨dst0, .call { callee := .builtin .append, args := #[x, y], argTypes := #[t1, t2] }, ty, pos, after, guard⟩) (P := P) rfl (exec_append rfl (by
                    rw [hx]
                    obtain ⟨vs, p1, p2, p3, _⟩ := hf 0 (Nat.le_refl _)
                    simp only [List.take_nil, List.flatten_nil, relL] at p2
                    subst p2
                    exact run_append_in (n := 0) T.hu T.hu2 T.hni T.hs hl (p1 w rfl) (Nat.le_refl _) (fun b hb => by simp [storeCells]) (fun _ => rfl))) rfl
                  simpa using hgoal
                · have hkill := hsoft
                  refine stepOK_append_in R RA hd hid T rfl hx q1 hb k3 q3 q4 hy hys (by omega) ?_ hdl (fun hh => ?_)
                  · cases hhd : hard with
                    | true => exact .inl (hhard hhd)
                    | false => exact .inr ((hsoft hhd).2 b rfl)
                  · obtain ⟨p1, p2⟩ := hsoft hh
                    simp only [softOK, hev, hb, decide_eq_true_eq] at p1
                    exact ⟨(p2 b rfl).1, p1⟩
            · cases he
          · cases he
        · cases he
      · cases h2
    · cases hok
  next _ _ x y t1 t2 sz bytes x' y' =>
    split at hok
    · rename_i el hel
      obtain ⟨hu, hs, hsz⟩ := okSl_spec hel
      simp only [Bool.and_eq_true, decide_eq_true_eq] at hok; obtain ⟨h1, h2, h3, h4, h5, h6, h7⟩ := hok
      split at h2
      · rename_i zv hzv
        simp only [decide_eq_true_eq] at h2
        have hu2 : ∃ u2, P.underlying t2 = some u2 ∧ ∀ k, u2 ≠ .int k := by
          split at h1
          · rename_i e1; exact ⟨_, e1, by simp⟩
          · rename_i e1; exact ⟨_, e1, by simp⟩
          · cases h1
        obtain ⟨u2, hu2, hni⟩ := hu2
        have T : AppT P t1 t2 el sz bytes zv u2 := ⟨hu, hu2, hni, hs, hzv, h2, h3, h4, h5⟩
        have hx := ev_rel RA h6
        have hy := ev_rel RA h7
        simp only [opEff, appEff] at he
        split at he
        · rename_i ys hys
          obtain ⟨hl, hya, hf⟩ := elems_run (P := P) R hy hys
          split at he
          · rename_i hev
            rw [hev] at hx
            obtain ⟨k1, k2⟩ := grd_some he
            simp only [decide_eq_true_eq] at k1
            injection k2 with k2; subst k2
            simp only [relV] at hx
            by_cases h0 : ys.length = 0
            · have : ys = [] := List.eq_nil_of_length_eq_zero h0
              subst this
              refine stepOK_append_none R RA hd hid (base := none) (w' := w) rfl ?_ rfl
              refine exec_append rfl ?_
              rw [hx]
              obtain ⟨vs, q1, q2, q3, _⟩ := hf 0 (Nat.le_refl _)
              exact run_append_in (n := 0) T.hu T.hu2 T.hni T.hs hl (q1 w rfl) (Nat.le_refl _) (fun b hb => by cases hb) (fun _ => rfl)
            · have := stepOK_append_new (o := ⟨dst0, .call { callee := .builtin .append, args := #[x, y], argTypes := #[t1, t2] }, ty, pos, after, guard⟩) (hard := hard) (kill := none) (xs := []) (n := 0) (cap := 0) (base := none) R RA hd hid T rfl hx rfl (by simp) ⟨[], fun _ _ => rfl, by simp [relL], by simp⟩ hy hys (by omega) (by simpa using k1)
              simpa using this
          · rename_i sz' b i n hev
            rw [hev] at hx
            split at he
            · rename_i sz'' es hb
              obtain ⟨k1, k2⟩ := grd_some he
              simp only [Bool.and_eq_true, decide_eq_true_eq] at k1; obtain ⟨rfl, rfl, k3, k4⟩ := k1
              injection k2 with k2; subst k2
              have hxe : elems S.heap sz'' (.sl sz'' b i n) = some ((es.drop i).take n) := by simp [elems, hb, grd, k3]
              obtain ⟨hl', hxa, hf'⟩ := elems_run (P := P) R hx hxe
              have hlen : ((es.drop i).take n).length = n := by simp; omega
              simp only [relV] at hx
              obtain ⟨hA, base, cap, hx, hc⟩ := hx
              have hold : ∃ old : List Value, (∀ w' : World, w'.heap = w.heap → (Builtin.firstCells sz'' n (.slice base n cap)).run P w' = .ok old.toArray w') ∧ relL w.heap φ I S.A ((es.drop i).take n).flatten old ∧ ∀ v ∈ old, Value.oneCell' v = true := by
                obtain ⟨vs, q1, q2, q3, q4⟩ := hf' n (by omega)
                rw [List.take_of_length_le (by omega)] at q2
                rw [hx] at q1
                exact ⟨vs, q1, q2, q4⟩
              by_cases hroom : cap < n + ys.length
              · exact stepOK_append_new R RA hd hid T rfl hx hlen hxa hold hy hys hroom k4
              · rcases hc with ⟨rfl, rfl⟩ | ⟨c, oo, s, q1, rfl, q2, q3, q4⟩
                · have : ys = [] := List.eq_nil_of_length_eq_zero (by omega)
                  subst this
                  have hgoal := stepOK_append_none (hard := hard) (kill := some b) (sz := sz'') R RA hd hid (base := base) (cv := .slice base 0 0) (w' := w) (o := ⟨dst0, .call { callee := .builtin .append, args := #[x, y], argTypes := #[t1, t2] }, ty, pos, after, guard⟩) (P := P) rfl (exec_append rfl (by
                    rw [hx]
                    obtain ⟨vs, p1, p2, p3, _⟩ := hf 0 (Nat.le_refl _)
                    simp only [List.take_nil, List.flatten_nil, relL] at p2
                    subst p2
                    exact run_append_in (n := 0) T.hu T.hu2 T.hni T.hs hl (p1 w rfl) (Nat.le_refl _) (fun b hb => by simp [storeCells]) (fun _ => rfl))) rfl
                  simpa using hgoal
                · have hkill := hsoft
                  refine stepOK_append_in R RA hd hid T rfl hx q1 hb k3 q3 q4 hy hys (by omega) ?_ hdl (fun hh => ?_)
                  · cases hhd : hard with
                    | true => exact .inl (hhard hhd)
                    | false => exact .inr ((hsoft hhd).2 b rfl)
                  · obtain ⟨p1, p2⟩ := hsoft hh
                    simp only [softOK, hev, hb, decide_eq_true_eq] at p1
                    exact ⟨(p2 b rfl).1, p1⟩
            · cases he
          · cases he
        · cases he
      · cases h2
    · cases hok
  next _ _ xs tys ys =>
    simp only [opEff] at he
    have hL := evs_rel RA hok
    split at he
    · rename_i x r hxr
      rw [hxr] at hL
      simp only [relL] at hL
      obtain ⟨v, vs, h1, h2, h3⟩ := hL
      split at he
      · rename_i q hq
        injection he with he; subst he
        refine stepOK_val R RA hd (s := Builtin.max_ tys ty (xs.map a.eval)) (by simp [execOp, resolve, invoke, builtin, vS]) ?_
        obtain ⟨u, w', p1, p2, p3⟩ := y_max (P := P) (w := w) h2 h3 hq
        refine ⟨u, w', ?_, p2, p3⟩
        unfold Builtin.max_
        rw [show (xs.map a.eval).toList = v :: vs by simpa using h1]
        exact p1
      · cases he
    · cases he
  next _ _ xs tys ys =>
    simp only [opEff] at he
    have hL := evs_rel RA hok
    split at he
    · rename_i x r hxr
      rw [hxr] at hL
      simp only [relL] at hL
      obtain ⟨v, vs, h1, h2, h3⟩ := hL
      split at he
      · rename_i q hq
        injection he with he; subst he
        refine stepOK_val R RA hd (s := Builtin.min_ tys ty (xs.map a.eval)) (by simp [execOp, resolve, invoke, builtin, vS]) ?_
        obtain ⟨u, w', p1, p2, p3⟩ := y_min (P := P) (w := w) h2 h3 hq
        refine ⟨u, w', ?_, p2, p3⟩
        unfold Builtin.min_
        rw [show (xs.map a.eval).toList = v :: vs by simpa using h1]
        exact p1
      · cases he
    · cases he
  next _ _ op t x t2 ng x' =>
    simp only [Bool.and_eq_true, decide_eq_true_eq] at hok; obtain ⟨rfl, h1, h2⟩ := hok
    have hx := ev_rel RA h2
    split at h1
    · rename_i ms hu
      simp only [decide_eq_true_eq] at h1
      subst h1
      simp only [opEff] at he
      split at he
      · rename_i hev
        rw [hev] at hx
        simp only [relV] at hx
        injection he with he; subst he
        refine stepOK_val R RA hd (s := do eqGuard (eqOp ng) t x (.const .nilIface) (a.eval x) .nilIface; binOp (eqOp ng) t (a.eval x) .nilIface) rfl ⟨.bool (!ng), w, ?_, rfl, by simp [relV]⟩
        rw [hx]
        cases ng
        · simp [eqGuard, eqOp, run_eql_nil_nil w t hu]
        · simp [eqGuard, eqOp, run_neq_nil_nil w t hu]
      · rename_i u v hev
        rw [hev] at hx
        simp only [relV] at hx
        obtain ⟨y, hx, _⟩ := hx
        injection he with he; subst he
        refine stepOK_val R RA hd (s := do eqGuard (eqOp ng) t x (.const .nilIface) (a.eval x) .nilIface; binOp (eqOp ng) t (a.eval x) .nilIface) rfl ⟨.bool ng, w, ?_, rfl, by simp [relV]⟩
        rw [hx]
        cases ng
        · simp [eqGuard, eqOp, run_eql_held_nil w t _ _ hu]
        · simp [eqGuard, eqOp, run_neq_held_nil w t _ _ hu]
      · cases he
    · cases h1
  next _ _ x t sz zero x' =>
    split at hok
    · rename_i el hsl
      obtain ⟨hu, hs, hsz⟩ := okSl_spec hsl
      simp only [Bool.and_eq_true, decide_eq_true_eq] at hok; obtain ⟨h1, h2, h3⟩ := hok
      obtain ⟨zv, hz, hok', hsc⟩ := okZero_spec h1
      have hzs := okZero_size hok' h2
      have hx := ev_rel RA h3
      have triv : ∀ base cap, a.eval x = .slice base 0 cap → StepOK P X S nt a w ⟨dst0, .call { callee := .builtin .clear, args := ⟨[x]⟩, argTypes := ⟨[t]⟩ }, ty, pos, after, guard⟩ dst id hard { val := .tup [] } := fun base cap hev =>
        stepOK_val R RA hd (s := Builtin.clear_ #[t] ty #[a.eval x]) (by simp [execOp, resolve, invoke, builtin, vS]) ⟨.tuple #[], w, by
          rw [hev]
          unfold Builtin.clear_
          simp only [List.getElem?_toArray, List.getElem?_cons_zero, Sem.run_bind]
          rw [run_underlying hu]
          cases base <;> simp [Result.andThen_ok, Sem.run_pure], rfl, by simp [relV, relL]⟩
      simp only [opEff] at he
      split at he
      · rename_i hev
        rw [hev] at hx
        injection he with he; subst he
        simp only [relV] at hx
        exact triv _ _ hx
      · rename_i hev
        rw [hev] at hx
        injection he with he; subst he
        simp only [relV] at hx
        obtain ⟨base, cap, hx, _⟩ := hx
        exact triv _ _ hx
      · rename_i sz' b i n hev
        rw [hev] at hx
        split at he
        · injection he with he; subst he
          simp only [relV] at hx
          obtain ⟨_, base, cap, hx, _⟩ := hx
          exact triv _ _ hx
        · split at he
          · rename_i n sz'' es hb
            obtain ⟨k1, k2⟩ := grd_some he
            simp only [Bool.and_eq_true, decide_eq_true_eq] at k1
            obtain ⟨rfl, rfl, k3⟩ := k1
            injection k2 with k2; subst k2
            exact stepOK_clear R RA hd (hupd (by simp)) rfl hu hz hok' hsc hzs hsz hx (by omega) hb k3
          · cases he
      · cases he
    · cases hok
  next _ _ op t x t2 ng x' =>
    simp only [Bool.and_eq_true, decide_eq_true_eq] at hok; obtain ⟨rfl, h1, h2⟩ := hok
    have hx := ev_rel RA h2
    split at h1
    · rename_i el hu
      simp only [opEff] at he
      have fin : ∀ (bb : Bool) (base : Option Addr) (n cap : Nat), a.eval x = .slice base n cap → (base = none ∧ bb = !ng ∨ (∃ a0, base = some a0) ∧ bb = ng) → StepOK P X S nt a w ⟨dst0, .binOp (eqOp ng) t x (.const (.slice none 0 0)) t2, ty, pos, after, guard⟩ dst id hard { val := .bool bb } := fun bb base n cap hev hb =>
        stepOK_val R RA hd (s := do eqGuard (eqOp ng) t x (.const (.slice none 0 0)) (a.eval x) (.slice none 0 0); binOp (eqOp ng) t (a.eval x) (.slice none 0 0)) rfl ⟨.bool bb, w, by
          rw [hev, Sem.run_bind, run_eqGuard_scalar (by simp) (by simp)]
          have hrun := run_slnil (w := w) hu 9999 base n cap
          simp only [Result.andThen_ok]
          rcases hb with ⟨h4, h5⟩ | ⟨⟨a0, h4⟩, h5⟩ <;> rw [h4] at hrun <;> rw [h4, h5] <;> clear h4 h5 <;> cases ng <;> simp [eqOp, binOp, Op.equal, Op.maxDepth, hrun], rfl, by simp [relV]⟩
      split at he
      · rename_i hev
        rw [hev] at hx
        injection he with he; subst he
        simp only [relV] at hx
        exact fin _ _ _ _ hx (.inl ⟨rfl, rfl⟩)
      · rename_i sz b i n hev
        rw [hev] at hx
        split at he
        · cases he
        · injection he with he; subst he
          simp only [relV] at hx
          obtain ⟨_, base, cap, hx, h3⟩ := hx
          rcases h3 with ⟨h3, _⟩ | ⟨c, o, s, _, h3, _⟩
          · cases h3
          · exact fin _ _ _ _ hx (.inr ⟨⟨_, h3⟩, rfl⟩)
      · rename_i sz es hev
        rw [hev] at hx
        split at he
        · cases he
        · injection he with he; subst he
          simp only [relV] at hx
          obtain ⟨base, cap, hx, _, h3⟩ := hx
          rcases h3 with h3 | ⟨c, o, h3, _⟩
          · cases h3
          · exact fin _ _ _ _ hx (.inr ⟨⟨_, h3⟩, rfl⟩)
      · cases he
    · cases h1
  next _ _ x y t1 t2 sz zero bytes x' y' =>
    split at hok
    · rename_i el hel
      obtain ⟨hu, hs, hsz⟩ := okSl_spec hel
      simp only [Bool.and_eq_true, decide_eq_true_eq] at hok; obtain ⟨h1, h2, h3, h4, h5, h6, h7, h8⟩ := hok
      obtain ⟨zv, hz, hok', hsc⟩ := okZero_spec h2
      have hzs := okZero_size hok' h3
      have hx := ev_rel RA h7
      have hy := ev_rel RA h8
      split at h1
      · rename_i kk hu2
        simp only [opEff] at he
        split at he
        · rename_i hev
          rw [hev] at hx
          split at he
          · rename_i k n hev2
            rw [hev2] at hy
            obtain ⟨k1, k2⟩ := grd_some he
            simp only [Bool.and_eq_true, decide_eq_true_eq] at k1
            injection k2 with k2; subst k2
            simp only [relV] at hx
            exact stepOK_appz R RA hd hid rfl hu hu2 hs hz h4 h5 h6 hok' hsc hzs hsz hx (rel_int hy) k1.1 k1.2
          · cases he
        · cases he
      · cases h1
    · cases hok
  next _ _ x t y =>
    simp only [Bool.and_eq_true] at hok; obtain ⟨h1, h2⟩ := hok
    have hx := ev_rel RA h2
    have hex : execOp a.eval ⟨dst0, .call { callee := .builtin .cap, args := #[x], argTypes := #[t] }, ty, pos, after, guard⟩ = vS (Builtin.cap_ #[t] ty #[a.eval x]) := by
      simp [execOp, resolve, invoke, builtin, vS]
    split at h1
    · rename_i el hu
      simp only [opEff] at he
      split at he
      · rename_i hev
        rw [hev] at hx
        injection he with he; subst he
        simp only [relV] at hx
        refine stepOK_val R RA hd hex (yields_int ?_)
        rw [hx]
        simp [Builtin.cap_, run_underlying hu, goInt]
      · cases he
    · cases h1
  next _ _ x y t1 t2 sz x' y' =>
    split at hok
    · rename_i el hel
      obtain ⟨hu, hs, hsz⟩ := okSl_spec hel
      simp only [Bool.and_eq_true] at hok; obtain ⟨h1, h2, h6, h7⟩ := hok
      have hu2 : ∃ u2, P.underlying t2 = some u2 ∧ ∀ k, u2 ≠ .int k := by
        split at h1
        · rename_i e1; exact ⟨_, e1, by simp⟩
        · rename_i e1; exact ⟨_, e1, by simp⟩
        · cases h1
      obtain ⟨u2, hu2, hni⟩ := hu2
      have hx := ev_rel RA h6
      have hy := ev_rel RA h7
      have fin : ∀ (v : AV), relV w.heap φ I S.A v (a.eval y) → elems S.heap sz v = some [] → a.eval x = .slice none 0 0 → StepOK P X S nt a w ⟨dst0, .call { callee := .builtin .append, args := #[x, y], argTypes := #[t1, t2] }, ty, pos, after, guard⟩ dst id hard { val := .nils } := fun v hv hel hxe => by
        obtain ⟨hl, hya, hf⟩ := elems_run (P := P) R hv hel
        obtain ⟨vs, q1, q2, q3, _⟩ := hf 0 (Nat.le_refl _)
        refine ⟨φ, I, .slice none 0 0, w, .inl (exec_append rfl ?_), R.vars _, RA.app (e := { val := .nils }) (Ext.refl' fun _ h => h) hd (by simp [relV]), Keep.refl _⟩
        rw [hxe]
        exact run_append_in (n := 0) hu hu2 hni hs hl (q1 w rfl) (Nat.le_refl _) (fun b hb => by cases hb) (fun _ => rfl)
      simp only [opEff] at he
      split at he
      · rename_i hev
        rw [hev] at hx
        simp only [relV] at hx
        split at he
        · rename_i hev2
          injection he with he; subst he
          exact fin _ hy (by rw [hev2]; rfl) hx
        · rename_i sz' es hev2
          split at he
          · obtain ⟨k1, k2⟩ := grd_some he
            simp only [decide_eq_true_eq] at k1
            injection k2 with k2; subst k2
            exact fin _ hy (by rw [hev2]; simp [elems, grd, k1]) hx
          · cases he
        · cases he
      · cases he
    · cases hok
  · simp [opEff] at he
  · cases hok
end
end
end Go.AM

/- The effect of an operation, cut so that the kernel copies little. -/
namespace Go.AM
noncomputable section

def k_mv (H : Heap) (vs : Vars) (id : Nat) (x : LArg) : Option Eff := some { val := x.ev vs }
def k_own (H : Heap) (vs : Vars) (id : Nat) (sz : Nat) : Option Eff := some { val := .sl sz id 0 0, new := some (.rows sz []) }
def k_pick (H : Heap) (vs : Vars) (id : Nat) (c : LArg) (a : LArg) (b : LArg) : Option Eff := match c.ev vs with
    | .bool t => some { val := match t with | true => a.ev vs | false => b.ev vs }
    | _ => none
def k_newv (H : Heap) (vs : Vars) (id : Nat) (zero : List AV) : Option Eff := some { val := .ptr zero.length id 0 0, new := some (.rows zero.length [zero]) }
def k_box (H : Heap) (vs : Vars) (id : Nat) (sz : Nat) (x : LArg) : Option Eff := grd (decide ((x.ev vs).cells.length = sz) && (x.ev vs).cells.all AV.scalar) (some { val := .ptr sz id 0 0, new := some (.rows sz [(x.ev vs).cells]) })
def k_boxt (H : Heap) (vs : Vars) (id : Nat) (sz : Nat) (x : LArg) : Option Eff := grd (decide ((x.ev vs).cells.length = sz) && (x.ev vs).cells.all AV.scalar) (some { val := .cptr (x.ev vs).cells })
def k_build (H : Heap) (vs : Vars) (id : Nat) (zero : List AV) (parts : List (Nat × Nat × LArg)) : Option Eff := match fillL zero (parts.map fun p => (p.1, p.2.1, p.2.2.ev vs)) with
    | some cs => some { val := .agg cs }
    | none => none
def k_bsl (H : Heap) (vs : Vars) (id : Nat) (sz : Nat) (n : Nat) (zero : List AV) (parts : List (Nat × LArg)) : Option Eff := match fillL (List.replicate n zero).flatten (parts.map fun p => (p.1 * sz, sz, p.2.ev vs)) with
    | some cs => some { val := .sl sz id 0 n, new := some (.rows sz (chunks sz n cs)) }
    | none => none
def k_btsl (H : Heap) (vs : Vars) (id : Nat) (sz : Nat) (n : Nat) (zero : List AV) (parts : List (Nat × LArg)) : Option Eff := match fillL (List.replicate n zero).flatten (parts.map fun p => (p.1 * sz, sz, p.2.ev vs)) with
    | some cs => some { val := .tsl sz (chunks sz n cs) }
    | none => none
def k_load (H : Heap) (vs : Vars) (id : Nat) (ag : Bool) (n : Nat) (a : LArg) : Option Eff := match a.ev vs with
    | .ptr sz b i j => match get H b with
      | some (.rows sz' es) => grd (decide (sz' = sz) && decide (i < es.length)) (match ldCells ag n ((es.getD i []).drop j) with
        | some v => some { val := v }
        | none => none)
      | _ => none
    | .cptr cs => match ldCells ag n cs with
      | some v => some { val := v }
      | none => none
    | _ => none
def k_store (H : Heap) (vs : Vars) (id : Nat) (n : Nat) (a : LArg) (x : LArg) : Option Eff := match a.ev vs with
    | .ptr sz b i j => match get H b with
      | some (.rows sz' es) => grd (decide (sz' = sz) && (decide (i < es.length) && (decide ((x.ev vs).cells.length = n) && (decide (j + n ≤ sz) && (x.ev vs).cells.all AV.scalar))))
          (some { val := .any, upd := some (b, .rows sz (es.set i (setAt (es.getD i []) j (x.ev vs).cells))) })
      | _ => none
    | _ => none
def k_bin (H : Heap) (vs : Vars) (id : Nat) (op : BinOp) (x : LArg) (y : LArg) : Option Eff := match binV op (x.ev vs) (y.ev vs) with
    | some v => some { val := v }
    | none => none
def k_eq (H : Heap) (vs : Vars) (id : Nat) (ng : Bool) (t : KT) (x : LArg) (y : LArg) : Option Eff := match eqV t (x.ev vs) (y.ev vs) with
    | some b => some { val := .bool (ng ^^ b) }
    | none => none
def k_not (H : Heap) (vs : Vars) (id : Nat) (x : LArg) : Option Eff := match x.ev vs with
    | .bool b => some { val := .bool (!b) }
    | _ => none
def k_neg (H : Heap) (vs : Vars) (id : Nat) (x : LArg) : Option Eff := match x.ev vs with
    | .int k n => some { val := .int k (k.wrap (0 - n)) }
    | _ => none
def k_conv (H : Heap) (vs : Vars) (id : Nat) (k : IntKind) (x : LArg) : Option Eff := match x.ev vs with
    | .int _ n => some { val := .int k (k.wrap n) }
    | _ => none
def k_mkfn (H : Heap) (vs : Vars) (id : Nat) (f : Nat) (first : List LArg) (caps : List LArg) : Option Eff := some { val := .fn f (first.map (·.ev vs)) (caps.map (·.ev vs)) }
def k_mkmap (H : Heap) (vs : Vars) (id : Nat) : Option Eff := some { val := .map id, new := some (.mp []) }
def k_mksl (H : Heap) (vs : Vars) (id : Nat) (sz : Nat) (zero : List AV) (bytes : Nat) (l : LArg) (c : LArg) : Option Eff := match l.ev vs, c.ev vs with
    | .int _ l, .int _ c => grd (decide (0 ≤ l) && (decide (l ≤ c) && decide (c * bytes ≤ 17592186044416))) (some { val := .sl sz id 0 l.toNat, new := some (.rows sz (List.replicate l.toNat zero)) })
    | _, _ => none
def k_slice (H : Heap) (vs : Vars) (id : Nat) (sz : Nat) (x : LArg) (lo : Option LArg) (hi : Option LArg) (mx : Option LArg) : Option Eff := match x.ev vs with
    | .sl sz' b i n => match bnd 0 (lo.map (·.ev vs)), bnd n (hi.map (·.ev vs)), bnd n (mx.map (·.ev vs)) with
      | some l, some h, some m => grd (decide (sz' = sz) && (decide (0 ≤ l) && (decide (l ≤ h) && (decide (h ≤ m) && decide (m ≤ n))))) (some { val := .sl sz b (i + l.toNat) (h - l).toNat })
      | _, _, _ => none
    | .tsl sz' es => match bnd 0 (lo.map (·.ev vs)), bnd es.length (hi.map (·.ev vs)), bnd es.length (mx.map (·.ev vs)) with
      | some l, some h, some m => grd (decide (sz' = sz) && (decide (0 ≤ l) && (decide (l ≤ h) && (decide (h ≤ m) && decide (m ≤ es.length))))) (some { val := .tsl sz ((es.drop l.toNat).take (h - l).toNat) })
      | _, _, _ => none
    | .nils => match bnd 0 (lo.map (·.ev vs)), bnd 0 (hi.map (·.ev vs)), bnd 0 (mx.map (·.ev vs)) with
      | some l, some h, some m => grd (decide (l = 0) && (decide (h = 0) && decide (m = 0))) (some { val := .nils })
      | _, _, _ => none
    | _ => none
def k_substr (H : Heap) (vs : Vars) (id : Nat) (x : LArg) (lo : Option LArg) (hi : Option LArg) : Option Eff := match x.ev vs with
    | .str s => match bnd 0 (lo.map (·.ev vs)), bnd s.size (hi.map (·.ev vs)) with
      | some l, some h => grd (decide (0 ≤ l) && (decide (l ≤ h) && decide (h ≤ s.size))) (some { val := .str (s.extract l.toNat h.toNat) })
      | _, _ => none
    | _ => none
def k_fadr (H : Heap) (vs : Vars) (id : Nat) (off : Nat) (x : LArg) : Option Eff := match x.ev vs with
    | .ptr sz b i j => some { val := .ptr sz b i (j + off) }
    | .cptr cs => some { val := .cptr (cs.drop off) }
    | _ => none
def k_idxa (H : Heap) (vs : Vars) (id : Nat) (sz : Nat) (x : LArg) (i : LArg) : Option Eff := match i.ev vs with
    | .int _ k => match x.ev vs with
      | .sl sz' b o n => grd (decide (sz' = sz) && (decide (0 ≤ k) && decide (k < n))) (some { val := .ptr sz b (o + k.toNat) 0 })
      | .tsl sz' es => grd (decide (sz' = sz) && (decide (0 ≤ k) && decide (k < es.length))) (some { val := .cptr (es.getD k.toNat []) })
      | _ => none
    | _ => none
def k_idxp (H : Heap) (vs : Vars) (id : Nat) (esz : Nat) (len : Nat) (x : LArg) (i : LArg) : Option Eff := match i.ev vs with
    | .int _ k => grd (decide (0 ≤ k) && decide (k < len)) (match x.ev vs with
      | .ptr sz b o j => some { val := .ptr sz b o (j + k.toNat * esz) }
      | .cptr cs => some { val := .cptr (cs.drop (k.toNat * esz)) }
      | _ => none)
    | _ => none
def k_field (H : Heap) (vs : Vars) (id : Nat) (ag : Bool) (off : Nat) (n : Nat) (x : LArg) : Option Eff := match x.ev vs with
    | .agg cs => match ldCells ag n (cs.drop off) with
      | some v => some { val := v }
      | none => none
    | _ => none
def k_idxs (H : Heap) (vs : Vars) (id : Nat) (x : LArg) (i : LArg) : Option Eff := match i.ev vs with
    | .int _ k => match x.ev vs with
      | .str s => grd (decide (0 ≤ k) && decide (k < s.size)) (some { val := .int .u8 (s.data.toList.getD k.toNat 0).toNat })
      | _ => none
    | _ => none
def k_idxc (H : Heap) (vs : Vars) (id : Nat) (ag : Bool) (esz : Nat) (len : Nat) (x : LArg) (i : LArg) : Option Eff := match i.ev vs with
    | .int _ k => grd (decide (0 ≤ k) && decide (k < len)) (match x.ev vs with
      | .agg cs => match ldCells ag esz (cs.drop (k.toNat * esz)) with
        | some v => some { val := v }
        | none => none
      | _ => none)
    | _ => none
def k_lookup (H : Heap) (vs : Vars) (id : Nat) (ok : Bool) (t : KT) (zero : AV) (x : LArg) (k : LArg) : Option Eff := grd (keyOK t (k.ev vs)) (match x.ev vs with
    | .map b => match get H b with
      | some (.mp es) => match findKV t (k.ev vs) es 0 with
        | some r => some { val := lkV ok zero r }
        | none => none
      | _ => none
    | .nilm => some { val := lkV ok zero none }
    | _ => none)
def k_mapupd (H : Heap) (vs : Vars) (id : Nat) (t : KT) (x : LArg) (k : LArg) (v : LArg) : Option Eff := grd (keyOK t (k.ev vs)) (match x.ev vs with
    | .map b => match get H b with
      | some (.mp es) => match findKV t (k.ev vs) es 0 with
        | some r => some { val := .any, upd := some (b, .mp (updE r es (k.ev vs) (v.ev vs))) }
        | none => none
      | _ => none
    | _ => none)
def k_extract (H : Heap) (vs : Vars) (id : Nat) (x : LArg) (i : Nat) : Option Eff := match x.ev vs with
    | .tup l => match l[i]? with
      | some v => some { val := v }
      | none => none
    | _ => none
def k_len (H : Heap) (vs : Vars) (id : Nat) (k : LK) (x : LArg) : Option Eff := match k with
    | .str => match x.ev vs with
      | .str s => some { val := .int .i64 s.size }
      | _ => none
    | .sli => match x.ev vs with
      | .nils => some { val := .int .i64 0 }
      | .sl _ _ _ n => some { val := .int .i64 n }
      | .tsl _ es => some { val := .int .i64 es.length }
      | _ => none
    | .mp => match x.ev vs with
      | .nilm => some { val := .int .i64 0 }
      | .map b => match get H b with
        | some (.mp es) => some { val := .int .i64 es.length }
        | _ => none
      | _ => none
def k_lenc (H : Heap) (vs : Vars) (id : Nat) (n : Nat) : Option Eff := some { val := .int .i64 n }
def k_append (H : Heap) (vs : Vars) (id : Nat) (sz : Nat) (bytes : Nat) (x : LArg) (y : LArg) : Option Eff := appEff H vs id sz bytes x y
def k_appendH (H : Heap) (vs : Vars) (id : Nat) (sz : Nat) (bytes : Nat) (x : LArg) (y : LArg) : Option Eff := appEff H vs id sz bytes x y
def k_copy (H : Heap) (vs : Vars) (id : Nat) (sz : Nat) (x : LArg) (y : LArg) : Option Eff := match elems H sz (y.ev vs) with
    | some ys => match x.ev vs with
      | .nils => some { val := .int .i64 0 }
      | .sl sz' b i n => match get H b with
        | some (.rows sz'' es) => grd (decide (sz' = sz) && (decide (sz'' = sz) && (decide (i + n ≤ es.length))))
            (some { val := .int .i64 (min ys.length n : Nat), upd := some (b, .rows sz (splice es i (ys.take n))) })
        | _ => none
      | _ => none
    | none => none
def k_maxs (H : Heap) (vs : Vars) (id : Nat) (xs : List LArg) : Option Eff := match xs.map (·.ev vs) with
    | x :: r => match mxI x r with
      | some v => some { val := v }
      | none => none
    | [] => none
def k_mins (H : Heap) (vs : Vars) (id : Nat) (xs : List LArg) : Option Eff := match xs.map (·.ev vs) with
    | x :: r => match mnI x r with
      | some v => some { val := v }
      | none => none
    | [] => none
def k_nilS (H : Heap) (vs : Vars) (id : Nat) (ng : Bool) (x : LArg) : Option Eff := match x.ev vs with
    | .nils => some { val := .bool (!ng) }
    | .sl _ _ _ n => match n with
      | 0 => none
      | _ + 1 => some { val := .bool ng }
    | .tsl _ es => match es with
      | [] => none
      | _ :: _ => some { val := .bool ng }
    | _ => none
def k_appz (H : Heap) (vs : Vars) (id : Nat) (sz : Nat) (zero : List AV) (bytes : Nat) (x : LArg) (y : LArg) : Option Eff := match x.ev vs with
    | .nils => match y.ev vs with
      | .int _ n => grd (decide (1 ≤ n) && decide (n * bytes ≤ 17592186044416)) (some { val := .sl sz id 0 n.toNat, new := some (.rows sz (List.replicate n.toNat zero)) })
      | _ => none
    | _ => none
def k_capn (H : Heap) (vs : Vars) (id : Nat) (x : LArg) : Option Eff := match x.ev vs with
    | .nils => some { val := .int .i64 0 }
    | _ => none
def k_appn (H : Heap) (vs : Vars) (id : Nat) (sz : Nat) (x : LArg) (y : LArg) : Option Eff := match x.ev vs with
    | .nils => match y.ev vs with
      | .nils => some { val := .nils }
      | .tsl sz' es => match es with
        | [] => grd (decide (sz' = sz)) (some { val := .nils })
        | _ :: _ => none
      | _ => none
    | _ => none
def k_clr (H : Heap) (vs : Vars) (id : Nat) (sz : Nat) (zero : List AV) (x : LArg) : Option Eff := match x.ev vs with
    | .nils => some { val := .tup [] }
    | .tsl _ [] => some { val := .tup [] }
    | .sl sz' b i n => match n with
      | 0 => some { val := .tup [] }
      | n + 1 => match get H b with
        | some (.rows sz'' es) => grd (decide (sz' = sz) && (decide (sz'' = sz) && decide (i + (n + 1) ≤ es.length))) (some { val := .tup [], upd := some (b, .rows sz (es.take i ++ (List.replicate (n + 1) zero ++ es.drop (i + (n + 1))))) })
        | _ => none
    | _ => none
def k_ifnil (H : Heap) (vs : Vars) (id : Nat) (ng : Bool) (x : LArg) : Option Eff := match x.ev vs with
    | .nili => some { val := .bool (!ng) }
    | .iface _ _ => some { val := .bool ng }
    | _ => none
def k_nilck (H : Heap) (vs : Vars) (id : Nat) (x : LArg) : Option Eff := match x.ev vs with
    | .ptr sz b i j => some { val := .ptr sz b i j }
    | .cptr cs => some { val := .cptr cs }
    | .fn f fs cs => some { val := .fn f fs cs }
    | _ => none
def k_loadF (H : Heap) (vs : Vars) (id : Nat) (ag : Bool) (n : Nat) (a : LArg) : Option Eff := match a.ev vs with
    | .ptr sz b i j => match get H b with
      | some (.rows sz' es) => grd (decide (sz' = sz) && (decide (i < es.length) && decide (1 ≤ n))) (match ldCells ag n ((es.getD i []).drop j) with
        | some v => some { val := v }
        | none => none)
      | _ => none
    | .cptr cs => match ldCells ag n cs with
      | some v => some { val := v }
      | none => none
    | _ => none
def k_storeF (H : Heap) (vs : Vars) (id : Nat) (n : Nat) (a : LArg) (x : LArg) : Option Eff := match a.ev vs with
    | .ptr sz b i j => match get H b with
      | some (.rows sz' es) => grd (decide (sz' = sz) && (decide (i < es.length) && (decide ((x.ev vs).cells.length = n) && (decide (j + n ≤ sz) && ((x.ev vs).cells.all AV.scalar && decide ((es.getD i []).length = sz))))))
          (some { val := .any, upd := some (b, .rows sz (es.set i (setAt (es.getD i []) j (x.ev vs).cells))) })
      | _ => none
    | _ => none
def k_ibs (H : Heap) (vs : Vars) (id : Nat) (x : LArg) (c : LArg) : Option Eff := match x.ev vs with
    | .str s => match c.ev vs with
      | .int k b => grd (decide (k = .u8)) (some { val := .int .i64 (ibsI s b) })
      | _ => none
    | _ => none
def k_rng (H : Heap) (vs : Vars) (id : Nat) (x : LArg) : Option Eff := match x.ev vs with
    | .str s => some { val := .ptr 0 id 0 0, new := some (.it s 0) }
    | _ => none
def k_nxt (H : Heap) (vs : Vars) (id : Nat) (x : LArg) : Option Eff := match x.ev vs with
    | .ptr sz b i j => match get H b with
      | some (.it s pos) => grd (decide (i = 0) && decide (j = 0)) (some (itEff b s pos))
      | _ => none
    | _ => none
def opEffK (H : Heap) (vs : Vars) (id : Nat) : LOp → Option Eff
  | .mv x => k_mv H vs id x
  | .own sz => k_own H vs id sz
  | .pick c a b => k_pick H vs id c a b
  | .newv zero => k_newv H vs id zero
  | .box sz x => k_box H vs id sz x
  | .boxt sz x => k_boxt H vs id sz x
  | .build zero parts => k_build H vs id zero parts
  | .bsl sz n zero parts => k_bsl H vs id sz n zero parts
  | .btsl sz n zero parts => k_btsl H vs id sz n zero parts
  | .load ag n a => k_load H vs id ag n a
  | .store n a x => k_store H vs id n a x
  | .bin op x y => k_bin H vs id op x y
  | .eq ng t x y => k_eq H vs id ng t x y
  | .not x => k_not H vs id x
  | .neg x => k_neg H vs id x
  | .conv k x => k_conv H vs id k x
  | .mkfn f first caps => k_mkfn H vs id f first caps
  | .mkmap => k_mkmap H vs id
  | .mksl sz zero bytes l c => k_mksl H vs id sz zero bytes l c
  | .slice sz x lo hi mx => k_slice H vs id sz x lo hi mx
  | .substr x lo hi => k_substr H vs id x lo hi
  | .fadr off x => k_fadr H vs id off x
  | .idxa sz x i => k_idxa H vs id sz x i
  | .idxp esz len x i => k_idxp H vs id esz len x i
  | .field ag off n x => k_field H vs id ag off n x
  | .idxs x i => k_idxs H vs id x i
  | .idxc ag esz len x i => k_idxc H vs id ag esz len x i
  | .lookup ok t zero x k => k_lookup H vs id ok t zero x k
  | .mapupd t x k v => k_mapupd H vs id t x k v
  | .extract x i => k_extract H vs id x i
  | .len k x => k_len H vs id k x
  | .lenc n => k_lenc H vs id n
  | .append sz bytes x y => k_append H vs id sz bytes x y
  | .appendH sz bytes x y => k_appendH H vs id sz bytes x y
  | .copy sz x y => k_copy H vs id sz x y
  | .maxs xs => k_maxs H vs id xs
  | .mins xs => k_mins H vs id xs
  | .nilS ng x => k_nilS H vs id ng x
  | .appz sz zero bytes x y => k_appz H vs id sz zero bytes x y
  | .capn x => k_capn H vs id x
  | .appn sz x y => k_appn H vs id sz x y
  | .clr sz zero x => k_clr H vs id sz zero x
  | .bad => none
  | .ifnil ng x => k_ifnil H vs id ng x
  | .nilck x => k_nilck H vs id x
  | .loadF ag n a => k_loadF H vs id ag n a
  | .storeF n a x => k_storeF H vs id n a x
  | .ibs x c => k_ibs H vs id x c
  | .rng x => k_rng H vs id x
  | .nxt x => k_nxt H vs id x
  | .call _ _ _ => none
/-- The same, the operation first, by the recursor: the kernel copies next to nothing. -/
def opK (op : LOp) : Heap → Vars → Nat → Option Eff := LOp.rec (motive := fun _ => Heap → Vars → Nat → Option Eff)
  (fun x H vs id => k_mv H vs id x)
  (fun sz H vs id => k_own H vs id sz)
  (fun c a b H vs id => k_pick H vs id c a b)
  (fun zero H vs id => k_newv H vs id zero)
  (fun sz x H vs id => k_box H vs id sz x)
  (fun sz x H vs id => k_boxt H vs id sz x)
  (fun zero parts H vs id => k_build H vs id zero parts)
  (fun sz n zero parts H vs id => k_bsl H vs id sz n zero parts)
  (fun sz n zero parts H vs id => k_btsl H vs id sz n zero parts)
  (fun ag n a H vs id => k_load H vs id ag n a)
  (fun n a x H vs id => k_store H vs id n a x)
  (fun op x y H vs id => k_bin H vs id op x y)
  (fun ng t x y H vs id => k_eq H vs id ng t x y)
  (fun x H vs id => k_not H vs id x)
  (fun x H vs id => k_neg H vs id x)
  (fun k x H vs id => k_conv H vs id k x)
  (fun f first caps H vs id => k_mkfn H vs id f first caps)
  (fun H vs id => k_mkmap H vs id)
  (fun sz zero bytes l c H vs id => k_mksl H vs id sz zero bytes l c)
  (fun sz x lo hi mx H vs id => k_slice H vs id sz x lo hi mx)
  (fun x lo hi H vs id => k_substr H vs id x lo hi)
  (fun off x H vs id => k_fadr H vs id off x)
  (fun sz x i H vs id => k_idxa H vs id sz x i)
  (fun esz len x i H vs id => k_idxp H vs id esz len x i)
  (fun ag off n x H vs id => k_field H vs id ag off n x)
  (fun x i H vs id => k_idxs H vs id x i)
  (fun ag esz len x i H vs id => k_idxc H vs id ag esz len x i)
  (fun ok t zero x k H vs id => k_lookup H vs id ok t zero x k)
  (fun t x k v H vs id => k_mapupd H vs id t x k v)
  (fun x i H vs id => k_extract H vs id x i)
  (fun k x H vs id => k_len H vs id k x)
  (fun n H vs id => k_lenc H vs id n)
  (fun sz bytes x y H vs id => k_append H vs id sz bytes x y)
  (fun sz x y H vs id => k_copy H vs id sz x y)
  (fun xs H vs id => k_maxs H vs id xs)
  (fun xs H vs id => k_mins H vs id xs)
  (fun x H vs id => k_nilck H vs id x)
  (fun sz bytes x y H vs id => k_appendH H vs id sz bytes x y)
  (fun sz zero x H vs id => k_clr H vs id sz zero x)
  (fun ng x H vs id => k_nilS H vs id ng x)
  (fun x H vs id => k_capn H vs id x)
  (fun sz x y H vs id => k_appn H vs id sz x y)
  (fun sz zero bytes x y H vs id => k_appz H vs id sz zero bytes x y)
  (fun _ _ _ => none)
  (fun ng x H vs id => k_ifnil H vs id ng x)
  (fun ag n a H vs id => k_loadF H vs id ag n a)
  (fun n a x H vs id => k_storeF H vs id n a x)
  (fun x c H vs id => k_ibs H vs id x c)
  (fun x H vs id => k_rng H vs id x)
  (fun x H vs id => k_nxt H vs id x)
  (fun _ _ _ _ _ _ => none) op
theorem opK_eq (H : Heap) (vs : Vars) (id : Nat) (op : LOp) : opK op H vs id = opEff H vs id op := by
  cases op <;> rfl

def clsK (op : LOp) : Nat := LOp.rec (motive := fun _ => Nat)
  (fun x => 0) (fun sz => 1) (fun c a b => 0) (fun zero => 1) (fun sz x => 1) (fun sz x => 0) (fun zero parts => 0) (fun sz n zero parts => 1) (fun sz n zero parts => 0) (fun ag n a => 1) (fun n a x => 2) (fun op x y => 0) (fun ng t x y => 0) (fun x => 0) (fun x => 0) (fun k x => 0) (fun f first caps => 0) 1 (fun sz zero bytes l c => 1) (fun sz x lo hi mx => 0) (fun x lo hi => 0) (fun off x => 0) (fun sz x i => 0) (fun esz len x i => 0) (fun ag off n x => 0) (fun x i => 0) (fun ag esz len x i => 0) (fun ok t zero x k => 1) (fun t x k v => 2) (fun x i => 0) (fun k x => LK.rec (motive := fun _ => Nat) 0 0 1 k) (fun n => 0) (fun sz bytes x y => 3) (fun sz x y => 2) (fun xs => 0) (fun xs => 0) (fun x => 0) (fun sz bytes x y => 5) (fun sz zero x => 2) (fun ng x => 0) (fun x => 0) (fun sz x y => 0) (fun sz zero bytes x y => 1) 0 (fun ng x => 0) (fun ag n a => 7) (fun n a x => 6) (fun x c => 0) (fun x => 1) (fun x => 2) (fun _ _ _ => 4) op

theorem opEffK_eq (H : Heap) (vs : Vars) (id : Nat) (op : LOp) : opEffK H vs id op = opEff H vs id op := by
  cases op <;> rfl
end
end Go.AM

/- Regions in order, calls, code: what a run of the abstract code says of the program's. -/
namespace Go.AM
noncomputable section

/-- A state at rest. -/
structure ST where
  vars : Vars
  heap : Heap
  next : Nat

def ST.as (S : ST) : AS := ⟨S.vars, S.heap, S.next, [], []⟩

theorem ST.as_A (S : ST) (b : Nat) : S.as.A b ↔ b < S.next := by simp [ST.as, AS.A, get_e0, get_e1]

def ST.app (S : ST) (dst : Option Nat) (e : Eff) : ST where
  vars := putV dst e.val S.vars
  heap :=
    let h1 := match e.upd with
      | some p => ins p.1 p.2 S.heap
      | none => S.heap
    let h2 := match e.kill with
      | some b => del b h1
      | none => h1
    match e.new with
    | some blk => ins S.next blk h2
    | none => h2
  next := match e.new with
    | some _ => S.next + 1
    | none => S.next

structure RelS (X : Ctx) (φ : Nat → Option (Nat × Nat)) (I : Nat → Prop) (S : ST) (nt : Nat) (a : Act) (h : Array Obj) : Prop where
  H : RelH X φ I S.as h
  A : RelA φ I S.as nt a h

/-- The relation goes by the lists, and by which numbers are in use. -/
theorem RelH.conv {X : Ctx} {φ : Nat → Option (Nat × Nat)} {I : Nat → Prop} {S T : AS} {h : Array Obj} (R : RelH X φ I S h) (hA : S.A = T.A) (hh : S.heap = T.heap) (hd : ∀ b, get S.dead b = none) (hn : S.next ≤ T.next) : RelH X φ I T h :=
  ⟨fun b blk h1 => by rw [← hA]; exact R.heap b blk (hh ▸ h1), fun b blk c o h1 => R.live b blk c o (hh ▸ h1), fun b b' c o c' o' h1 h2 h3 _ => R.inj b b' c o c' o' (hh ▸ h1) (hh ▸ h2) h3 (.inl ⟨hd _, hd _⟩), R.idom, R.isub, R.isup, R.frame, R.size, R.sizes, R.agree, Nat.le_trans R.n0 hn⟩

theorem RelA.conv {φ : Nat → Option (Nat × Nat)} {I : Nat → Prop} {S T : AS} {nt : Nat} {a : Act} {h : Array Obj} (R : RelA φ I S nt a h) (hA : S.A = T.A) (hv : S.vars = T.vars) : RelA φ I T nt a h :=
  ⟨fun x v h1 => by rw [← hA]; exact R.vars x v (hv ▸ h1), R.nt, R.defers⟩

section
variable {P : Program} {X : Ctx} {φ : Nat → Option (Nat × Nat)} {I : Nat → Prop} {S : ST} {nt : Nat} {a : Act} {w : World}

theorem ST.app_A (S : ST) (dst : Option Nat) (e : Eff) : (S.as.app dst S.next true e).A = (S.app dst e).as.A := by
  funext b
  apply propext
  rw [ST.as_A]
  cases hn : e.new with
  | none => simp [AS.A, AS.app, ST.as, ST.app, hn, get_e0, get_e1]
  | some blk =>
    simp only [AS.A, AS.app, ST.as, ST.app, hn, get_ins, get_e0, get_e1]
    by_cases h1 : S.next = b
    · simp [h1]
    · simp [h1]; omega

theorem RelS.step {o : Oper} {l : LOp} {e : Eff} {dst : Option Nat} (R : RelS X φ I S nt a w.heap) (hd : ∀ d, dst = some d → d < nt) (hok : okOp P o.op l = true) (he : opEff S.heap S.vars S.next l = some e) :
    ∃ φ' I' cv w', ((execOp a.eval o).run P w = .ok (.value cv) w' ∨ ((execOp a.eval o).run P w = .ok .skip w' ∧ cv = undef)) ∧ RelS X φ' I' (S.app dst e) nt (a.put dst cv) w'.heap ∧ Keep w w' := by
  have hid : ¬ S.as.A S.next := by rw [ST.as_A]; omega
  obtain ⟨φ', I', cv, w', h1, h2, h3, hkp⟩ := op_sound (P := P) (o := o) (l := l) (e := e) (dst := dst) (id := S.next) (hard := true) R.H R.A hd hid hok he (fun _ _ => rfl) (fun b h => by simp [ST.as, get_e0, get_e1] at h) (fun h => by cases h) (fun _ _ => rfl)
  refine ⟨φ', I', cv, w', h1, ⟨h2.conv (S.app_A dst e) ?_ ?_ ?_, h3.conv (S.app_A dst e) ?_⟩, hkp⟩
  · cases h4 : e.kill <;> cases h5 : e.new <;> cases h6 : e.upd <;> simp [AS.app, ST.as, ST.app, khp, h4, h5, h6]
  · intro b; cases h4 : e.kill <;> simp [AS.app, ST.as, kdd, h4, get_e0, get_e1]
  · cases h5 : e.new <;> simp [AS.app, ST.as, ST.app, h5]
  · simp [AS.app, ST.as, ST.app]

/-! ### Calls -/
def okFn (P : Program) (f : Nat) : Bool := match P.funcs[f]? with
  | some fn => fn.body.isSome && (fn.name != "runtime.NumGoroutine")
  | none => false

/-- What a call does, told of its arguments and the blocks that it is handed; block numbers below 'n' are the caller's. -/
def ACalls (P : Program) (f : Nat) (args : List AV) (H : Heap) (n : Nat) (Q : AV → Heap → Nat → Prop) : Prop :=
  okFn P f = true ∧ ∀ (w : World) (F : Nat → Prop) (φ : Nat → Option (Nat × Nat)) (I : Nat → Prop) (cargs : List Value), RelH ⟨w.heap, F, φ, n, I⟩ φ I ⟨[], H, n, [], []⟩ w.heap → relL w.heap φ I (· < n) args cargs →
    Calls P f cargs.toArray w fun e w' => ∃ cv r H' n' φ' I', e = .returned cv ∧ RelH ⟨w.heap, F, φ, n, I⟩ φ' I' ⟨[], H', n', [], []⟩ w'.heap ∧ relV w'.heap φ' I' (· < n') r cv ∧ Q r H' n' ∧ Keep w w'

theorem ACalls.mono {f : Nat} {args : List AV} {H : Heap} {n : Nat} {Q Q' : AV → Heap → Nat → Prop} (h : ACalls P f args H n Q) (hq : ∀ r H' n', Q r H' n' → Q' r H' n') : ACalls P f args H n Q' :=
  ⟨h.1, fun w F φ I cargs h1 h2 => (h.2 w F φ I cargs h1 h2).mono fun e w' ⟨cv, r, H', n', φ', I', k1, k2, k3, k4, k5⟩ => ⟨cv, r, H', n', φ', I', k1, k2, k3, hq _ _ _ k4, k5⟩⟩

/-- A call seen from a state: the frame's variables stay; what is told of the rest. -/
def CallS (P : Program) (f : Nat) (args : List AV) (S : ST) (K : AV → ST → Prop) : Prop :=
  okFn P f = true ∧ ∀ (X : Ctx) (φ : Nat → Option (Nat × Nat)) (I : Nat → Prop) (w : World) (cargs : List Value), RelH X φ I S.as w.heap → relL w.heap φ I S.as.A args cargs →
    Calls P f cargs.toArray w fun e w' => ∃ cv r φ' I' S', e = .returned cv ∧ RelH X φ' I' S'.as w'.heap ∧ Ext w.heap φ I S.as.A w'.heap φ' I' S'.as.A ∧ relV w'.heap φ' I' S'.as.A r cv ∧ S'.vars = S.vars ∧ K r S' ∧ Keep w w'

theorem CallS.mono {f : Nat} {args : List AV} {K K' : AV → ST → Prop} (h : CallS P f args S K) (hq : ∀ r S', K r S' → K' r S') : CallS P f args S K' :=
  ⟨h.1, fun X φ I w cargs h1 h2 => (h.2 X φ I w cargs h1 h2).mono fun e w' ⟨cv, r, φ', I', S', k1, k2, k3, k4, k5, k6, k7⟩ => ⟨cv, r, φ', I', S', k1, k2, k3, k4, k5, hq _ _ k6, k7⟩⟩

/-! ### Regions whose order is fixed -/
def gd (vs : Vars) : Option (Nat × Bool) → Option Bool
  | none => some true
  | some (x, b) => match get vs x with
    | some (.bool t) => some (t == b)
    | some (.tup []) => some false
    | _ => none

def Option.sat {α : Type} (x : Option α) (K : α → Prop) : Prop := match x with
  | some a => K a
  | none => False

def rgnS (P : Program) : List LOper → ST → (ST → Prop) → Prop
  | [], S, K => K S
  | o :: os, S, K => Option.sat (gd S.vars o.guard) fun b => match b with
    | false => rgnS P os { S with vars := putV o.dst (.tup []) S.vars } K
    | true => match o.op with
      | .call _ f args => match f.ev S.vars with
        | .fn g first caps => CallS P g (first ++ args.map (·.ev S.vars) ++ caps) S fun r S' => rgnS P os { S' with vars := putV o.dst r S'.vars } K
        | _ => False
      | op => Option.sat (opEff S.heap S.vars S.next op) fun e => rgnS P os (S.app o.dst e) K

def okCall (op : Op) (l : LOp) : Bool := match op, l with
  | .call { callee := .value f, args := args, argTypes := _ }, .call _ f' args' => okArg f f' && okArgs args.toList args'
  | _, _ => false

def okGuard (ops : Array Oper) : Option (Nat × Bool) → Option (Nat × Bool) → Bool
  | none, none => true
  | some (j, b), some (x, b') => decide ((ops[j]?).bind (·.dst) = some x) && decide (b = b')
  | _, _ => false

def okDst (nt : Nat) : Option Nat → Option Nat → Bool
  | none, none => true
  | some d, some d' => decide (d = d') && decide (d < nt)
  | _, _ => false

def okOper (P : Program) (nt : Nat) (ops : Array Oper) (o : Oper) (l : LOper) : Bool :=
  okDst nt o.dst l.dst && (okGuard ops o.guard l.guard && (okOp P o.op l.op || okCall o.op l.op))

def okOpers (P : Program) (nt : Nat) (ops : Array Oper) : List Oper → List LOper → Bool
  | [], [] => true
  | o :: os, l :: ls => okOper P nt ops o l && okOpers P nt ops os ls
  | _, _ => false

theorem okDst_spec {d d' : Option Nat} (H : okDst nt d d' = true) : d = d' ∧ ∀ x, d' = some x → x < nt := by
  cases d <;> cases d' <;> simp only [okDst, Bool.false_eq_true] at H
  · exact ⟨rfl, by simp⟩
  · simp only [Bool.and_eq_true, decide_eq_true_eq] at H
    obtain ⟨rfl, h2⟩ := H
    exact ⟨rfl, fun x hx => by injection hx with hx; omega⟩

theorem wanted_gd {ops : Array Oper} {o : Oper} {g : Option (Nat × Bool)} {b : Bool} {h : Array Obj} {T : AS} (RA : RelA φ I T nt a h) (hg : okGuard ops o.guard g = true) (hb : gd T.vars g = some b) : Region.wanted o (yielded ops a.tmps) = b := by
  unfold Region.wanted
  cases hog : o.guard with
  | none =>
    rw [hog] at hg
    cases g with
    | none => simp only [gd, Option.some.injEq] at hb; exact hb
    | some p => simp [okGuard] at hg
  | some q =>
    obtain ⟨j, b1⟩ := q
    rw [hog] at hg
    cases g with
    | none => simp [okGuard] at hg
    | some p =>
      obtain ⟨x, b2⟩ := p
      simp only [okGuard, Bool.and_eq_true, decide_eq_true_eq] at hg
      obtain ⟨h1, rfl⟩ := hg
      simp only [gd] at hb
      split at hb
      · rename_i t ht
        injection hb with hb; subst hb
        have h2 := rel_bool (RA.vars _ _ ht)
        have h3 : a.tmps[x]? = some (.bool t) := by
          rw [Array.getD_eq_getD_getElem?] at h2
          cases h4 : a.tmps[x]? with
          | none => rw [h4] at h2; simp [undef] at h2
          | some v => rw [h4] at h2; simp at h2; rw [h2]
        have h5 : yielded ops a.tmps j = some t := by
          unfold yielded; rw [h1]; simp [h3]
        show (yielded ops a.tmps j == some b1) = (t == b1)
        rw [h5]; cases t <;> cases b1 <;> rfl
      · rename_i ht
        injection hb with hb; subst hb
        have h2 := RA.vars _ _ ht
        simp only [relV, relL] at h2
        obtain ⟨vs, h2, rfl⟩ := h2
        have h5 : yielded ops a.tmps j = none := by
          unfold yielded; rw [h1]
          rw [Array.getD_eq_getD_getElem?] at h2
          cases h4 : a.tmps[x]? with
          | none => simp [h4]
          | some v => rw [h4] at h2; simp at h2; simp [h4, h2]
        show (yielded ops a.tmps j == some b1) = false
        rw [h5]; rfl
      · cases hb

theorem RelS.any (R : RelS X φ I S nt a w.heap) {dst : Option Nat} (hd : ∀ d, dst = some d → d < nt) : RelS X φ I { S with vars := putV dst (.tup []) S.vars } nt (a.put dst undef) w.heap :=
  ⟨R.H.vars (putV dst (.tup []) S.vars), RelA.app (S := S.as) (id := 0) (hard := true) (e := { val := .tup [] }) R.A (Ext.refl' fun _ h => h) hd (by simp [relV, relL, undef])⟩

theorem RelS.put {φ' : Nat → Option (Nat × Nat)} {I' : Nat → Prop} {S' : ST} {h h' : Array Obj} {r : AV} {cv : Value} (RA : RelA φ I S.as nt a h) (R' : RelH X φ' I' S'.as h') (E : Ext h φ I S.as.A h' φ' I' S'.as.A) (hv : S'.vars = S.vars) {dst : Option Nat} (hd : ∀ d, dst = some d → d < nt)
    (hr : relV h' φ' I' S'.as.A r cv) : RelS X φ' I' { S' with vars := putV dst r S'.vars } nt (a.put dst cv) h' := by
  refine ⟨R'.vars (putV dst r S'.vars), ?_⟩
  have RA' : RelA φ' I' S'.as nt a h' := ⟨fun x v hx => relV_mono E _ _ (RA.vars x v (by simpa [ST.as, hv] using hx)), RA.nt, RA.defers⟩
  exact RelA.app (S := S'.as) (id := 0) (hard := true) (e := { val := r }) RA' (Ext.refl' fun _ h => h) hd hr

/-- A call operation enters its function. -/
theorem exec_call {o : Oper} {f : Operand} {args : Array Operand} {tys : Array TypeId} {g : Nat} {fs cs : List Value} (ho : o.op = .call { callee := .value f, args := args, argTypes := tys })
    (hf : a.eval f = .func (.func g) fs.toArray cs.toArray) (hok : okFn P g = true) : (execOp a.eval o).run P w = .ok (.enter g (fs ++ args.toList.map a.eval ++ cs).toArray) w := by
  unfold okFn at hok
  split at hok
  · rename_i fn hfn
    simp only [Bool.and_eq_true, bne_iff_ne, ne_eq] at hok
    have h1 : (fn.name == "runtime.NumGoroutine") = false := by simp [hok.2]
    have h2 : fn.body.isNone = false := by
      cases hb : fn.body with
      | none => rw [hb] at hok; simp at hok
      | some b => rfl
    simp only [execOp, ho, resolve, Sem.run_bind, hf, Deferred.ofValue, Sem.run_pure, Result.andThen_ok, invoke, callFunc, run_program, hfn, h1, h2, Bool.false_eq_true, if_false]
    congr 2
    apply Array.ext'; simp
  · cases hok

theorem rgnS_sound {ops : Array Oper} {Q : Exit → Act → World → Prop} : ∀ (os : List Oper) (ls : List LOper), okOpers P nt ops os ls = true → ∀ (S : ST) (a : Act) (w : World) (φ : Nat → Option (Nat × Nat)) (I : Nat → Prop) (K : ST → Prop), RelS X φ I S nt a w.heap → rgnS P ls S K →
    (∀ φ' I' S' a' w', K S' → RelS X φ' I' S' nt a' w'.heap → Keep w w' → Q .normal a' w') → wpList P ops Q os a w
  | [], [], _, S, a, w, φ, I, K, R, H, hQ => hQ φ I S a w H R (Keep.refl w)
  | o :: os, l :: ls, hok, S, a, w, φ, I, K, R, H, hQ => by
    simp only [okOpers, Bool.and_eq_true] at hok
    obtain ⟨h1, h2⟩ := hok
    simp only [okOper, Bool.and_eq_true, Bool.or_eq_true] at h1
    obtain ⟨h3, h4, h5⟩ := h1
    obtain ⟨h6, h7⟩ := okDst_spec h3
    simp only [rgnS] at H
    cases hg : gd S.vars l.guard with
    | none => rw [hg] at H; exact H.elim
    | some b =>
      rw [hg] at H
      simp only [Option.sat] at H
      have hw := wanted_gd (ops := ops) (o := o) R.A h4 (by simpa [ST.as] using hg)
      cases b with
      | false =>
        unfold wpList
        rw [hw]
        simp only [Bool.false_eq_true, if_false]
        rw [h6]
        exact rgnS_sound os ls h2 _ _ w φ I K (R.any h7) H hQ
      | true =>
        unfold wpList
        rw [hw]
        simp only [if_true]
        left
        have hop : okOp P o.op l.op = true → (∀ q f args, l.op ≠ .call q f args) → Option.sat (opEff S.heap S.vars S.next l.op) (fun e => rgnS P ls (S.app l.dst e) K) → o.wp P a w (wpList P ops Q os) Q := by
          intro hk _ H
          cases he : opEff S.heap S.vars S.next l.op with
          | none => rw [he] at H; exact H.elim
          | some e =>
            rw [he] at H
            obtain ⟨φ', I', cv, w', k1, k2, kp⟩ := R.step (P := P) h7 hk he
            rw [← h6] at k2
            have k3 := rgnS_sound os ls h2 _ _ w' φ' I' K (by rw [← h6]; exact k2) H (fun φ' I' S' a' w'' q1 q2 q3 => hQ φ' I' S' a' w'' q1 q2 (kp.trans q3))
            unfold Oper.wp
            rcases k1 with k1 | ⟨k1, rfl⟩
            · rw [k1]; exact k3
            · rw [k1]; exact k3
        cases hl : l.op with
        | call q f args =>
          rw [hl] at H h5
          simp only at H
          rcases h5 with h5 | h5
          · unfold okOp at h5
            split at h5 <;> first | (rename_i hh _; cases hh; done) | (cases h5; done) | skip
            all_goals first | (rename_i hh; cases hh; done) | skip
          · unfold okCall at h5
            split at h5
            · rename_i f0 args0 tys q' f' args' ho hl'
              injection hl' with e1 e2 e3
              subst e1 e2 e3
              simp only [Bool.and_eq_true] at h5
              have hf := ev_rel R.A h5.1
              have ha := evs_rel R.A h5.2
              cases hfe : f.ev S.vars with
              | fn g first caps =>
                rw [hfe] at H
                simp only [ST.as] at hf
                rw [hfe] at hf
                simp only [relV] at hf
                obtain ⟨fs, cs, k1, k2, k3⟩ := hf
                have hx := exec_call (P := P) (w := w) (o := o) (a := a) ho k1 H.1
                have hc := H.2 X φ I w _ R.H (relL_append (relL_append k2 ha) k3)
                unfold Oper.wp
                rw [hx]
                simp only [Oper.upon]
                refine hc.mono fun e w' hh => ?_
                obtain ⟨cv, r, φ', I', S', k4, k5, k6, k7, k8, k9, kp⟩ := hh
                subst k4
                simp only
                rw [h6]
                exact rgnS_sound os ls h2 _ _ w' φ' I' K (RelS.put R.A k5 k6 k8 h7 k7) k9 (fun φ' I' S' a' w'' q1 q2 q3 => hQ φ' I' S' a' w'' q1 q2 (kp.trans q3))
              | _ => rw [hfe] at H; exact H.elim
            · cases h5
        | _ =>
          rw [hl] at H h5 hop
          simp only at H
          rcases h5 with h5 | h5
          · exact hop h5 (by simp) H
          · unfold okCall at h5
            split at h5
            · rename_i hh; cases hh
            · cases h5
  | [], _ :: _, hok, _, _, _, _, _, _, _, _, _ => by simp [okOpers] at hok
  | _ :: _, [], hok, _, _, _, _, _, _, _, _, _ => by simp [okOpers] at hok
end
end
end Go.AM

/- Values as they read where the told blocks are written no more. -/
namespace Go.AM
noncomputable section

def mapO {α β : Type} (f : α → Option β) : List α → Option (List β)
  | [] => some []
  | x :: l => match f x with
    | some y => match mapO f l with
      | some m => some (y :: m)
      | none => none
    | none => none

theorem mapO_cons {α β : Type} {f : α → Option β} {x : α} {l : List α} {r : List β} (h : mapO f (x :: l) = some r) : ∃ y m, f x = some y ∧ mapO f l = some m ∧ r = y :: m := by
  simp only [mapO] at h
  cases h1 : f x with
  | none => simp [h1] at h
  | some y =>
    cases h2 : mapO f l with
    | none => simp [h1, h2] at h
    | some m => simp [h1, h2] at h; exact ⟨y, m, rfl, rfl, h.symm⟩

theorem mapO_length {α β : Type} {f : α → Option β} : ∀ {l : List α} {r : List β}, mapO f l = some r → r.length = l.length
  | [], r, h => by simp [mapO] at h; subst h; rfl
  | x :: l, r, h => by
    obtain ⟨y, m, _, h2, rfl⟩ := mapO_cons h
    simp [mapO_length h2]

/-- A value read to its ground. -/
def deepV (H : Heap) : Nat → AV → Option AV
  | 0, _ => none
  | n + 1, v => match v with
    | .ptr sz b i j => match get H b with
      | some (.rows sz' es) => grd (decide (sz' = sz) && decide (i < es.length)) ((mapO (deepV H n) ((es.getD i []).drop j)).map .cptr)
      | _ => none
    | .sl sz b i k => match get H b with
      | some (.rows sz' es) => grd (decide (sz' = sz) && decide (i + k ≤ es.length)) ((mapO (mapO (deepV H n)) ((es.drop i).take k)).map (.tsl sz))
      | _ => none
    | .map _ => none
    | .cptr cs => (mapO (deepV H n) cs).map .cptr
    | .tsl sz es => (mapO (mapO (deepV H n)) es).map (.tsl sz)
    | .fn f fs cs => (mapO (deepV H n) fs).bind fun a => (mapO (deepV H n) cs).map (.fn f a)
    | .iface t x => (deepV H n x).map (.iface t)
    | .agg cs => (mapO (deepV H n) cs).map .agg
    | .tup cs => (mapO (deepV H n) cs).map .tup
    | v => some v

theorem deepV_sl {H : Heap} {n sz b i k : Nat} {es r : List (List AV)} (hg : get H b = some (.rows sz es)) (hi : i + k ≤ es.length) (h : mapO (mapO (deepV H n)) ((es.drop i).take k) = some r) : deepV H (n + 1) (.sl sz b i k) = some (.tsl sz r) := by
  simp only [deepV, hg, h]
  simp [grd, hi]

section
variable {h : Array Obj} {φ : Nat → Option (Nat × Nat)} {I A : Nat → Prop} {H : Heap}

theorem mapO_relM {f : AV → Option AV} (hf : ∀ v u c, f v = some u → relV h φ I A v c → relV h φ I A u c) : ∀ (l r : List AV) (c o : Nat), mapO f l = some r → relM h φ I A l c o → relM h φ I A r c o
  | [], r, c, o, hr, _ => by simp [mapO] at hr; subst hr; simp [relM]
  | x :: l, r, c, o, hr, H => by
    obtain ⟨y, m, h1, h2, rfl⟩ := mapO_cons hr
    simp only [relM] at H ⊢
    obtain ⟨⟨v, k1, k2, k3⟩, k4⟩ := H
    exact ⟨⟨v, k1, k2, hf _ _ _ h1 k3⟩, mapO_relM hf l m c (o + 1) h2 k4⟩

theorem mapO_relL {f : AV → Option AV} (hf : ∀ v u c, f v = some u → relV h φ I A v c → relV h φ I A u c) : ∀ (l r : List AV) (vs : List Value), mapO f l = some r → relL h φ I A l vs → relL h φ I A r vs
  | [], r, vs, hr, H => by simp [mapO] at hr; subst hr; exact H
  | x :: l, r, vs, hr, H => by
    obtain ⟨y, m, h1, h2, rfl⟩ := mapO_cons hr
    simp only [relL] at H ⊢
    obtain ⟨v, s, e, k3, k4⟩ := H
    exact ⟨v, s, e, hf _ _ _ h1 k3, mapO_relL hf l m s h2 k4⟩

theorem mapO_relR {f : AV → Option AV} (hf : ∀ v u c, f v = some u → relV h φ I A v c → relV h φ I A u c) (sz : Nat) : ∀ (l r : List (List AV)) (c o : Nat), mapO (mapO f) l = some r → relR h φ I A sz l c o → relR h φ I A sz r c o
  | [], r, c, o, hr, _ => by simp [mapO] at hr; subst hr; simp [relR]
  | x :: l, r, c, o, hr, H => by
    obtain ⟨y, m, h1, h2, rfl⟩ := mapO_cons hr
    simp only [relR] at H ⊢
    exact ⟨by rw [mapO_length h1]; exact H.1, mapO_relM hf x y c o h1 H.2.1, mapO_relR hf sz l m c (o + sz) h2 H.2.2⟩

theorem deepV_rel (hb : ∀ b sz es, get H b = some (.rows sz es) → (φ b = none ∧ es = []) ∨ ∃ c o, φ b = some (c, o) ∧ I c ∧ relR h φ I A sz es c o) : ∀ (n : Nat) (v u : AV) (c : Value), deepV H n v = some u → relV h φ I A v c → relV h φ I A u c
  | 0, v, u, c, hd, _ => by simp [deepV] at hd
  | n + 1, v, u, c, hd, hr => by
    have ih := deepV_rel hb n
    cases v with
    | ptr sz b i j =>
      simp only [deepV] at hd
      split at hd
      · rename_i sz' es hg
        obtain ⟨h1, h2⟩ := grd_some hd
        simp only [Bool.and_eq_true, decide_eq_true_eq] at h1
        obtain ⟨rfl, hi⟩ := h1
        simp only [Option.map_eq_some_iff] at h2
        obtain ⟨r, h2, rfl⟩ := h2
        simp only [relV] at hr ⊢
        obtain ⟨_, c1, o, k1, k2⟩ := hr
        rcases hb b _ es hg with ⟨q1, _⟩ | ⟨c2, o2, q1, q2, q3⟩
        · rw [q1] at k1; cases k1
        · rw [q1] at k1; cases k1
          exact ⟨c1, _, k2, q2, mapO_relM ih _ _ _ _ h2 (relM_drop j (relR_get q3 hi).2)⟩
      · cases hd
    | sl sz b i k =>
      simp only [deepV] at hd
      split at hd
      · rename_i sz' es hg
        obtain ⟨h1, h2⟩ := grd_some hd
        simp only [Bool.and_eq_true, decide_eq_true_eq] at h1
        obtain ⟨rfl, hi⟩ := h1
        simp only [Option.map_eq_some_iff] at h2
        obtain ⟨r, h2, rfl⟩ := h2
        have hlen : r.length = k := by rw [mapO_length h2]; simp; omega
        simp only [relV, hlen] at hr ⊢
        obtain ⟨_, base, cap, k1, k2⟩ := hr
        rcases k2 with ⟨k2, k3⟩ | ⟨c1, o, s, k2, k3, k4, _, _⟩
        · subst k2
          have : r = [] := List.length_eq_zero_iff.1 hlen
          exact ⟨base, cap, k1, Nat.zero_le _, .inl this⟩
        · refine ⟨base, cap, k1, k4, ?_⟩
          rcases hb b _ es hg with ⟨q1, _⟩ | ⟨c2, o2, q1, q2, q3⟩
          · rw [q1] at k2; cases k2
          · rw [q1] at k2; cases k2
            exact .inr ⟨c1, _, k3, q2, mapO_relR ih _ _ _ _ _ h2 (relR_take k (relR_drop i q3 (by omega)))⟩
      · cases hd
    | map b => simp [deepV] at hd
    | cptr cs =>
      simp only [deepV, Option.map_eq_some_iff] at hd
      obtain ⟨r, h2, rfl⟩ := hd
      simp only [relV] at hr ⊢
      obtain ⟨c1, o, k1, k2, k3⟩ := hr
      exact ⟨c1, o, k1, k2, mapO_relM ih _ _ _ _ h2 k3⟩
    | tsl sz es =>
      simp only [deepV, Option.map_eq_some_iff] at hd
      obtain ⟨r, h2, rfl⟩ := hd
      have hlen := mapO_length h2
      simp only [relV, hlen] at hr ⊢
      obtain ⟨base, cap, k1, k2, k3⟩ := hr
      refine ⟨base, cap, k1, k2, ?_⟩
      rcases k3 with k3 | ⟨c1, o, k3, k4, k5⟩
      · subst k3; simp [mapO] at h2; exact .inl h2
      · exact .inr ⟨c1, o, k3, k4, mapO_relR ih _ _ _ _ _ h2 k5⟩
    | fn f fs cs =>
      simp only [deepV, Option.bind_eq_some_iff, Option.map_eq_some_iff] at hd
      obtain ⟨a, h1, r, h2, rfl⟩ := hd
      simp only [relV] at hr ⊢
      obtain ⟨fs', cs', k1, k2, k3⟩ := hr
      exact ⟨fs', cs', k1, mapO_relL ih _ _ _ h1 k2, mapO_relL ih _ _ _ h2 k3⟩
    | iface t x =>
      simp only [deepV, Option.map_eq_some_iff] at hd
      obtain ⟨r, h2, rfl⟩ := hd
      simp only [relV] at hr ⊢
      obtain ⟨y, k1, k2⟩ := hr
      exact ⟨y, k1, ih _ _ _ h2 k2⟩
    | agg cs =>
      simp only [deepV, Option.map_eq_some_iff] at hd
      obtain ⟨r, h2, rfl⟩ := hd
      simp only [relV] at hr ⊢
      obtain ⟨vs, k1, k2⟩ := hr
      exact ⟨vs, k1, mapO_relL ih _ _ _ h2 k2⟩
    | tup cs =>
      simp only [deepV, Option.map_eq_some_iff] at hd
      obtain ⟨r, h2, rfl⟩ := hd
      simp only [relV] at hr ⊢
      obtain ⟨vs, k1, k2⟩ := hr
      exact ⟨vs, k1, mapO_relL ih _ _ _ h2 k2⟩
    | _ => simp only [deepV, Option.some.injEq] at hd; subst hd; exact hr

end

/-! ### Part of the blocks is written no more -/
def filK (kp : Nat → Bool) (H : Heap) : Heap := H.filter fun p => !kp p.1

theorem get_filK (kp : Nat → Bool) : ∀ (H : Heap) (b : Nat), get (filK kp H) b = if kp b then none else get H b
  | [], b => by simp [filK, get_e0, get_e1]
  | (k, v) :: H, b => by
    have ih := get_filK kp H b
    simp only [filK, List.filter_cons] at ih ⊢
    cases hk : kp k with
    | true =>
      simp only [Bool.not_true, Bool.false_eq_true, if_false, ih, get_e0, get_e1]
      by_cases e : k = b
      · subst e; simp [hk]
      · simp [e]
    | false =>
      simp only [Bool.not_false, if_true, get_e0, get_e1, ih]
      by_cases e : k = b
      · subst e; simp [hk]
      · simp [e]

/-- A block that stays, its values as they then read. -/
def keptB (H0 : Heap) (m : Nat) (blk blk2 : Blk) : Prop := ∃ sz es es2, blk = .rows sz es ∧ blk2 = .rows sz es2 ∧ mapO (mapO (deepV H0 m)) es = some es2

theorem RelH.deepK {X : Ctx} {φ : Nat → Option (Nat × Nat)} {I : Nat → Prop} {H : Heap} {n : Nat} {h : Array Obj} (R : RelH X φ I ⟨[], H, n, [], []⟩ h) (kp : Nat → Bool) {H2 : Heap} {m : Nat} (hk : ∀ b blk2, get H2 b = some blk2 → kp b = true ∧ ∃ blk, get H b = some blk ∧ keptB (filK kp H) m blk blk2) :
    ∃ I', RelH X φ I' ⟨[], H2, n, [], []⟩ h ∧ ∀ v u c, deepV (filK kp H) m v = some u → relV h φ I (· < n) v c → relV h φ I' (· < n) u c := by
  have hA : (⟨[], H, n, [], []⟩ : AS).A = (· < n) := by funext b; simp [AS.A, get_e0, get_e1]
  have hA2 : (⟨[], H2, n, [], []⟩ : AS).A = (· < n) := by funext b; simp [AS.A, get_e0, get_e1]
  let I' : Nat → Prop := fun c => I c ∨ ∃ b blk o, kp b = false ∧ get H b = some blk ∧ φ b = some (c, o)
  have hI : ∀ c, I c → I' c := fun c hc => .inl hc
  have E : Ext h φ I (· < n) h φ I' (· < n) := ⟨fun _ _ _ _ h => h, fun _ _ h => h, fun _ _ => rfl, hI, fun _ h => h⟩
  have hb : ∀ b sz es, get (filK kp H) b = some (.rows sz es) → (φ b = none ∧ es = []) ∨ ∃ c o, φ b = some (c, o) ∧ I' c ∧ relR h φ I' (· < n) sz es c o := fun b sz es hg => by
    rw [get_filK] at hg
    split at hg
    · cases hg
    · rename_i hkb
      have := (R.heap b _ hg).2
      rw [hA] at this
      simp only [relB] at this
      rcases this with k | ⟨c, o, cs, el, k1, _, k3⟩
      · exact .inl k
      · exact .inr ⟨c, o, k1, .inr ⟨b, _, o, by simpa using hkb, hg, k1⟩, relR_mono E sz es c o (fun _ _ h => h) k3⟩
  have hv : ∀ v u c, deepV (filK kp H) m v = some u → relV h φ I (· < n) v c → relV h φ I' (· < n) u c := fun v u c h1 h2 => deepV_rel hb m v u c h1 (relV_mono E _ _ h2)
  have hsome : ∀ b, get H2 b ≠ none → kp b = true ∧ get H b ≠ none := fun b h1 => by
    cases h2 : get H2 b with
    | none => exact absurd h2 h1
    | some blk2 => obtain ⟨k1, blk, k2, _⟩ := hk b blk2 h2; exact ⟨k1, by rw [k2]; simp⟩
  refine ⟨I', ⟨fun b blk2 h1 => ?_, fun b blk2 c o h1 h2 => ?_, fun b b' c o c' o' h1 h2 h3 _ h5 h6 => ?_, fun c hc => ?_, fun c hc => ?_, fun c hc => hI _ (R.isup c hc), R.frame, R.size, R.sizes, R.agree, R.n0⟩, hv⟩
  · obtain ⟨k1, blk, k2, sz, es, es2, rfl, rfl, k3⟩ := hk b blk2 h1
    obtain ⟨q1, q2⟩ := R.heap b _ k2
    rw [hA] at q1 q2
    rw [hA2]
    refine ⟨q1, ?_⟩
    simp only [relB] at q2 ⊢
    rcases q2 with ⟨q2, q3⟩ | ⟨c, o, cs, el, q2, q3, q4⟩
    · subst q3; simp only [mapO, Option.some.injEq] at k3; exact .inl ⟨q2, k3.symm⟩
    · exact .inr ⟨c, o, cs, el, q2, q3, mapO_relR (fun v u c h1 h2 => deepV_rel hb m v u c h1 h2) sz es es2 c o k3 (relR_mono E sz es c o (fun _ _ h => h) q4)⟩
  · obtain ⟨k1, blk, k2, _⟩ := hk b blk2 h1
    obtain ⟨q1, q2, q3⟩ := R.live b blk c o k2 h2
    refine ⟨q1, fun hc => ?_, q3⟩
    rcases hc with hc | ⟨b', blk', o', p1, p2, p3⟩
    · exact q2 hc
    · have hne : b ≠ b' := fun e => by rw [e, p1] at k1; cases k1
      exact R.inj b b' c o c o' (by show get H b ≠ none; rw [k2]; simp) (by show get H b' ≠ none; rw [p2]; simp) hne (.inl ⟨rfl, rfl⟩) h2 p3 rfl
  · exact R.inj b b' c o c' o' (hsome b h1).2 (hsome b' h2).2 h3 (.inl ⟨rfl, rfl⟩) h5 h6
  · rcases hc with hc | ⟨b, blk, o, _, h1, h2⟩
    · exact R.idom c hc
    · exact (R.live b blk c o h1 h2).1
  · rcases hc with hc | ⟨b, blk, o, _, h1, h2⟩
    · exact R.isub c hc
    · exact .inr (R.live b blk c o h1 h2).2.2

/-- A call behind which part of the blocks is written no more. -/
theorem ACalls.deepK {P : Program} {f : Nat} {args : List AV} {H : Heap} {n : Nat} {Q Q' : AV → Heap → Nat → Prop} (h : ACalls P f args H n Q) (kp : Nat → Bool) (hq : ∀ r H' n', Q r H' n' → ∃ m r2 H2, deepV (filK kp H') m r = some r2 ∧ (∀ b blk2, get H2 b = some blk2 → kp b = true ∧ ∃ blk, get H' b = some blk ∧ keptB (filK kp H') m blk blk2) ∧ Q' r2 H2 n') : ACalls P f args H n Q' :=
  ⟨h.1, fun w F φ I cargs R ha => (h.2 w F φ I cargs R ha).mono fun e w' ⟨cv, r, H', n', φ', I', k1, k2, k3, k4, k5⟩ => by
    obtain ⟨m, r2, H2, q1, q2, q3⟩ := hq _ _ _ k4
    obtain ⟨I2, R2, hv⟩ := k2.deepK kp q2
    exact ⟨cv, r2, H2, n', φ', I2, k1, R2, hv _ _ _ q1 k3, q3, k5⟩⟩
end
end Go.AM

/- Regions that draw their order: what an operation looks at, and which ones may change places. -/
namespace Go.AM
noncomputable section

def LOp.args : LOp → List LArg
  | .mv x => [x]
  | .own _ => []
  | .pick c a b => [c, a, b]
  | .newv _ => []
  | .box _ x => [x]
  | .boxt _ x => [x]
  | .build _ ps => ps.map (·.2.2)
  | .bsl _ _ _ ps => ps.map (·.2)
  | .btsl _ _ _ ps => ps.map (·.2)
  | .load _ _ a => [a]
  | .loadF _ _ a => [a]
  | .ibs x c => [x, c]
  | .rng x => [x]
  | .nxt x => [x]
  | .store _ a x => [a, x]
  | .storeF _ a x => [a, x]
  | .clr _ _ x => [x]
  | .nilS _ x => [x]
  | .capn x => [x]
  | .appn _ x y => [x, y]
  | .appz _ _ _ x y => [x, y]
  | .bin _ x y => [x, y]
  | .eq _ _ x y => [x, y]
  | .not x => [x]
  | .neg x => [x]
  | .conv _ x => [x]
  | .mkfn _ fs cs => fs ++ cs
  | .mkmap => []
  | .mksl _ _ _ l c => [l, c]
  | .slice _ x lo hi mx => x :: (lo.toList ++ (hi.toList ++ mx.toList))
  | .substr x lo hi => x :: (lo.toList ++ hi.toList)
  | .fadr _ x => [x]
  | .idxa _ x i => [x, i]
  | .idxp _ _ x i => [x, i]
  | .field _ _ _ x => [x]
  | .idxs x i => [x, i]
  | .idxc _ _ _ x i => [x, i]
  | .lookup _ _ _ x k => [x, k]
  | .mapupd _ x k v => [x, k, v]
  | .extract x _ => [x]
  | .len _ x => [x]
  | .lenc _ => []
  | .append _ _ x y => [x, y]
  | .appendH _ _ x y => [x, y]
  | .copy _ x y => [x, y]
  | .maxs xs => xs
  | .mins xs => xs
  | .nilck x => [x]
  | .bad => []
  | .ifnil _ x => [x]
  | .call _ f xs => f :: xs

def LOp.cls : LOp → Nat
  | .nxt _ | .store _ _ _ | .mapupd _ _ _ _ | .copy _ _ _ | .clr _ _ _ => 2
  | .load _ _ _ | .lookup _ _ _ _ _ | .newv _ | .box _ _ | .bsl _ _ _ _ | .mkmap | .mksl _ _ _ _ _ | .own _ | .rng _ | .appz _ _ _ _ _ => 1
  | .append _ _ _ _ => 3
  | .appendH _ _ _ _ => 5
  | .call _ _ _ => 4
  | .storeF _ _ _ => 6
  | .loadF _ _ _ => 7
  | .len .mp _ => 1
  | _ => 0

def AV.ids : AV → List Nat
  | .ptr _ b _ _ | .sl _ b _ _ | .map b => [b]
  | _ => []

def LArg.slot : LArg → Option Nat
  | .t x => some x
  | .c _ => none

def LOper.looks (l : LOper) : List Nat := l.op.args.filterMap LArg.slot ++ (match l.guard with | some p => [p.1] | none => [])

theorem ev_same {vs vs' : Vars} {x : LArg} (h : ∀ s, x.slot = some s → get vs s = get vs' s) : x.ev vs = x.ev vs' := by
  cases x with
  | t s => simp only [LArg.ev]; rw [h s rfl]
  | c v => rfl

theorem map_ev_same {vs vs' : Vars} {xs : List LArg} (h : ∀ x ∈ xs, x.ev vs = x.ev vs') : xs.map (·.ev vs) = xs.map (·.ev vs') := List.map_congr_left h

/-- An operation goes by its arguments. -/
theorem opEff_vars {H : Heap} {vs vs' : Vars} {id : Nat} {op : LOp} (h : ∀ x ∈ op.args, x.ev vs = x.ev vs') : opEff H vs id op = opEff H vs' id op := by
  cases op <;> simp only [LOp.args, List.mem_cons, List.mem_append, List.not_mem_nil, or_false, forall_eq_or_imp, forall_eq, List.mem_map, forall_exists_index, and_imp, forall_apply_eq_imp_iff₂] at h <;> simp only [opEff]
  case mv => rw [h]
  case pick => rw [h.1, h.2.1, h.2.2]
  case box => rw [h]
  case boxt => rw [h]
  case build zero ps => rw [show (ps.map fun p => (p.1, p.2.1, p.2.2.ev vs)) = ps.map fun p => (p.1, p.2.1, p.2.2.ev vs') from List.map_congr_left fun p hp => by rw [h p hp]]
  case bsl sz n zero ps => rw [show (ps.map fun p => (p.1 * sz, sz, p.2.ev vs)) = ps.map fun p => (p.1 * sz, sz, p.2.ev vs') from List.map_congr_left fun p hp => by rw [h p hp]]
  case btsl sz n zero ps => rw [show (ps.map fun p => (p.1 * sz, sz, p.2.ev vs)) = ps.map fun p => (p.1 * sz, sz, p.2.ev vs') from List.map_congr_left fun p hp => by rw [h p hp]]
  case load => rw [h]
  case store => rw [h.1, h.2]
  case loadF => rw [h]
  case storeF => rw [h.1, h.2]
  case ibs => rw [h.1, h.2]
  case rng => rw [h]
  case nxt => rw [h]
  case bin => rw [h.1, h.2]
  case eq => rw [h.1, h.2]
  case not => rw [h]
  case neg => rw [h]
  case conv => rw [h]
  case mkfn fs cs => rw [map_ev_same (xs := fs) fun x hx => h x (.inl hx), map_ev_same (xs := cs) fun x hx => h x (.inr hx)]
  case mksl => rw [h.1, h.2]
  case slice sz x lo hi mx =>
    rw [h.1]
    have e1 : lo.map (·.ev vs) = lo.map (·.ev vs') := by cases lo with | none => rfl | some y => simp [h.2 y (.inl (by simp))]
    have e2 : hi.map (·.ev vs) = hi.map (·.ev vs') := by cases hi with | none => rfl | some y => simp [h.2 y (.inr (.inl (by simp)))]
    have e3 : mx.map (·.ev vs) = mx.map (·.ev vs') := by cases mx with | none => rfl | some y => simp [h.2 y (.inr (.inr (by simp)))]
    rw [e1, e2, e3]
  case substr x lo hi =>
    rw [h.1]
    have e1 : lo.map (·.ev vs) = lo.map (·.ev vs') := by cases lo with | none => rfl | some y => simp [h.2 y (.inl (by simp))]
    have e2 : hi.map (·.ev vs) = hi.map (·.ev vs') := by cases hi with | none => rfl | some y => simp [h.2 y (.inr (by simp))]
    rw [e1, e2]
  case fadr => rw [h]
  case idxa => rw [h.1, h.2]
  case idxp => rw [h.1, h.2]
  case field => rw [h]
  case idxs => rw [h.1, h.2]
  case idxc => rw [h.1, h.2]
  case lookup => rw [h.1, h.2]
  case mapupd => rw [h.1, h.2.1, h.2.2]
  case clr => rw [h]
  case nilS => rw [h]
  case capn => rw [h]
  case appn => rw [h.1, h.2]
  case appz => rw [h.1, h.2]
  case extract => rw [h]
  case len k x => cases k <;> simp only [h]
  case nilck => rw [h]
  case ifnil => rw [h]
  case append => simp only [appEff]; rw [h.1, h.2]
  case appendH => simp only [appEff]; rw [h.1, h.2]
  case copy => rw [h.1, h.2]
  case maxs xs => rw [map_ev_same h]
  case mins xs => rw [map_ev_same h]

theorem elems_heap {H H' : Heap} {sz : Nat} {v : AV} (h : ∀ b ∈ v.ids, get H b = get H' b) : elems H sz v = elems H' sz v := by
  cases v <;> simp only [elems]
  rw [h _ (by simp [AV.ids])]

/-- Plain operations know nothing of memory. -/
theorem opEff_plain {H H' : Heap} {vs : Vars} {id id' : Nat} {op : LOp} (hc : op.cls = 0) : opEff H vs id op = opEff H' vs id' op := by
  cases op <;> simp only [LOp.cls, Nat.succ_ne_zero, reduceCtorEq] at hc <;> simp only [opEff]
  case len k x => cases k <;> first | rfl | (simp [LOp.cls] at hc)
  all_goals (cases hc)

/-- The blocks that an operation reads. -/
def LOp.rds (vs : Vars) : LOp → List Nat
  | .load _ _ a => (a.ev vs).ids
  | .nxt x => (x.ev vs).ids
  | .loadF _ _ a => (a.ev vs).ids
  | .storeF _ a _ => (a.ev vs).ids
  | .store _ a _ => (a.ev vs).ids
  | .clr _ _ x => (x.ev vs).ids
  | .lookup _ _ _ x _ => (x.ev vs).ids
  | .mapupd _ x _ _ => (x.ev vs).ids
  | .len .mp x => (x.ev vs).ids
  | .append _ _ x y => (x.ev vs).ids ++ (y.ev vs).ids
  | .appendH _ _ x y => (x.ev vs).ids ++ (y.ev vs).ids
  | .copy _ x y => (x.ev vs).ids ++ (y.ev vs).ids
  | _ => []

theorem opEff_heap {H H' : Heap} {vs : Vars} {id : Nat} {op : LOp} (h : ∀ b ∈ op.rds vs, get H b = get H' b) : opEff H vs id op = opEff H' vs id op := by
  have hap : ∀ {x y : LArg} {sz bytes : Nat}, (∀ b ∈ (x.ev vs).ids ++ (y.ev vs).ids, get H b = get H' b) → appEff H vs id sz bytes x y = appEff H' vs id sz bytes x y := fun {x y sz bytes} h => by
    simp only [appEff]
    rw [elems_heap (H := H) (H' := H') fun b hb => h b (List.mem_append_right _ hb)]
    cases hv : x.ev vs <;> simp only
    rw [h _ (List.mem_append_left _ (by rw [hv]; simp [AV.ids]))]
  cases op <;> simp only [opEff] <;> simp only [LOp.rds] at h
  case load ag n a =>
    cases hv : a.ev vs <;> simp only
    rw [h _ (by rw [hv]; simp [AV.ids])]
  case store n a x =>
    cases hv : a.ev vs <;> simp only
    rw [h _ (by rw [hv]; simp [AV.ids])]
  case nxt x =>
    cases hv : x.ev vs <;> simp only
    rw [h _ (by rw [hv]; simp [AV.ids])]
  case loadF ag n a =>
    cases hv : a.ev vs <;> simp only
    rw [h _ (by rw [hv]; simp [AV.ids])]
  case storeF n a x =>
    cases hv : a.ev vs <;> simp only
    rw [h _ (by rw [hv]; simp [AV.ids])]
  case lookup ok t zero x k =>
    cases hv : x.ev vs <;> simp only
    rw [h _ (by rw [hv]; simp [AV.ids])]
  case clr sz zero x =>
    split
    · rfl
    · rfl
    · rename_i sz' b i n hv
      rw [h _ (by rw [hv]; simp [AV.ids])]
    · rfl
  case mapupd t x k v =>
    cases hv : x.ev vs <;> simp only
    rw [h _ (by rw [hv]; simp [AV.ids])]
  case len k x =>
    cases k <;> simp only
    cases hv : x.ev vs <;> simp only
    simp only [LOp.rds] at h
    rw [h _ (by rw [hv]; simp [AV.ids])]
  case append sz bytes x y => exact hap h
  case appendH sz bytes x y => exact hap h
  case copy sz x y =>
    rw [elems_heap (H := H) (H' := H') fun b hb => h b (List.mem_append_right _ hb)]
    cases hv : x.ev vs <;> simp only
    rw [h _ (List.mem_append_left _ (by rw [hv]; simp [AV.ids]))]

theorem rds_args {vs : Vars} {op : LOp} {b : Nat} (h : b ∈ op.rds vs) : ∃ x ∈ op.args, b ∈ (x.ev vs).ids := by
  cases op <;> simp only [LOp.rds, List.not_mem_nil, List.mem_append] at h
  case len k x => cases k <;> simp only [LOp.rds, List.not_mem_nil] at h; exact ⟨x, by simp [LOp.args], h⟩
  case append sz bytes x y => rcases h with h | h; exact ⟨x, by simp [LOp.args], h⟩; exact ⟨y, by simp [LOp.args], h⟩
  case appendH sz bytes x y => rcases h with h | h; exact ⟨x, by simp [LOp.args], h⟩; exact ⟨y, by simp [LOp.args], h⟩
  case copy sz x y => rcases h with h | h; exact ⟨x, by simp [LOp.args], h⟩; exact ⟨y, by simp [LOp.args], h⟩
  all_goals exact ⟨_, by simp [LOp.args]; try exact .inl rfl, h⟩

/-- The cells that an operation reads or writes: block, row, first cell, how many. -/
abbrev Fp := Nat × Nat × Nat × Nat
def fpV (n : Nat) : AV → Option Fp
  | .ptr _ b i j => some (b, i, j, n)
  | _ => none
def LOp.fp (vs : Vars) : LOp → Option Fp
  | .loadF _ n a => fpV n (a.ev vs)
  | .storeF n a _ => fpV n (a.ev vs)
  | _ => none
def apartF (f g : Fp) : Bool := !(decide (f.1 = g.1)) || (!(decide (f.2.1 = g.2.1)) || (decide (f.2.2.1 + f.2.2.2 ≤ g.2.2.1) || decide (g.2.2.1 + g.2.2.2 ≤ f.2.2.1)))
theorem apartF_symm {f g : Fp} (h : apartF f g = true) : apartF g f = true := by
  simp only [apartF, Bool.or_eq_true, Bool.not_eq_true', decide_eq_false_iff_not, decide_eq_true_eq] at h ⊢
  omega

/-- What is told ahead of a region that draws: blocks that its calls write, cells that its operations touch. -/
structure RW where
  w : List Nat
  ad : List (Nat × Fp)
instance : Membership Nat RW := ⟨fun r b => b ∈ r.w⟩
theorem RW.mem {b : Nat} {r : RW} : b ∈ r ↔ b ∈ r.w := Iff.rfl
def isLd (l : LOper) : Bool := match l.op with | .loadF _ _ _ => true | _ => false
def okAd1 (ls : List LOper) (k : Nat) (f : Fp) : List (Nat × Fp) → Bool
  | [] => true
  | p :: r => (decide (k = p.1) || (apartF f p.2 || ((match ls[k]? with | some l => isLd l | none => false) && (match ls[p.1]? with | some l => isLd l | none => false)))) && okAd1 ls k f r
def okAdL (ls : List LOper) (all : List (Nat × Fp)) : List (Nat × Fp) → Bool
  | [] => true
  | p :: r => okAd1 ls p.1 p.2 all && okAdL ls all r
/-- What two operations touch is apart, unless both only read. -/
def AdOK (ls : List LOper) (r : RW) : Prop := ∀ k k' f f', k ≠ k' → get r.ad k = some f → get r.ad k' = some f' → apartF f f' = true ∨ ∃ l l', ls[k]? = some l ∧ ls[k']? = some l' ∧ isLd l = true ∧ isLd l' = true
theorem get_mem {α : Type} : ∀ {l : List (Nat × α)} {x : Nat} {v : α}, get l x = some v → (x, v) ∈ l
  | [], _, _, h => by simp [get_e0] at h
  | (k, u) :: l, x, v, h => by
    rw [get_e1] at h
    split at h
    · rename_i e; subst e; injection h with h; subst h; simp
    · exact List.mem_cons_of_mem _ (get_mem h)
theorem okAd_spec {ls : List LOper} {r : RW} (h : okAdL ls r.ad r.ad = true) : AdOK ls r := by
  intro k k' f f' hk h1 h2
  have a1 : ∀ (l : List (Nat × Fp)), okAdL ls r.ad l = true → ∀ p ∈ l, okAd1 ls p.1 p.2 r.ad = true := by
    intro l; induction l with
    | nil => intro _ p hp; cases hp
    | cons q l ih =>
      intro h p hp
      simp only [okAdL, Bool.and_eq_true] at h
      rcases List.mem_cons.1 hp with rfl | hp
      · exact h.1
      · exact ih h.2 p hp
  have a2 : ∀ (l : List (Nat × Fp)), okAd1 ls k f l = true → ∀ p ∈ l, (decide (k = p.1) || (apartF f p.2 || ((match ls[k]? with | some l => isLd l | none => false) && (match ls[p.1]? with | some l => isLd l | none => false)))) = true := by
    intro l; induction l with
    | nil => intro _ p hp; cases hp
    | cons q l ih =>
      intro h p hp
      simp only [okAd1, Bool.and_eq_true] at h
      rcases List.mem_cons.1 hp with rfl | hp
      · exact h.1
      · exact ih h.2 p hp
  have h3 := a2 _ (a1 _ h _ (get_mem h1)) _ (get_mem h2)
  simp only [Bool.or_eq_true, decide_eq_true_eq, Bool.and_eq_true] at h3
  rcases h3 with h3 | h3 | ⟨h3, h4⟩
  · exact absurd h3 hk
  · exact .inl h3
  · refine .inr ?_
    split at h3
    · rename_i l hl
      split at h4
      · rename_i l' hl'; exact ⟨l, l', hl, hl', h3, h4⟩
      · cases h4
    · cases h3
theorem AdOK.nil {ls : List LOper} {w : List Nat} : AdOK ls ⟨w, []⟩ := fun _ _ _ _ _ h => by simp [get_e0] at h

theorem rds_vars {vs vs' : Vars} {op : LOp} (h : ∀ x ∈ op.args, x.ev vs = x.ev vs') : op.rds vs = op.rds vs' := by
  cases op <;> simp only [LOp.rds] <;> simp only [LOp.args, List.mem_cons, List.not_mem_nil, or_false, forall_eq_or_imp, forall_eq] at h
  case load => rw [h]
  case store => rw [h.1]
  case loadF => rw [h]
  case nxt => rw [h]
  case storeF => rw [h.1]
  case clr => rw [h]
  case lookup => rw [h.1]
  case mapupd => rw [h.1]
  case len k x => cases k <;> simp only [LOp.rds]; rw [h]
  case append => rw [h.1, h.2]
  case appendH => rw [h.1, h.2]
  case copy => rw [h.1, h.2]
end
end Go.AM

/- Regions that draw their order: one run in the text's order serves every order. -/
namespace Go.AM
noncomputable section

def updH (u : Option (Nat × Blk)) (H : Heap) : Heap := match u with
  | some p => ins p.1 p.2 H
  | none => H

/-- What a call in a region does: it reads the blocks 'H', may write one of them, and answers 'v'. -/
def QC (P : Program) (g : Nat) (args : List AV) (H : Heap) (n : Nat) (v : AV) (u : Option (Nat × Blk)) : Prop :=
  okFn P g = true ∧ ∀ (X : Ctx) (φ : Nat → Option (Nat × Nat)) (I : Nat → Prop) (T : AS) (w : World) (cargs : List Value), RelH X φ I T w.heap → T.next = n → (∀ b, get T.dead b ≠ none → b < n) → (∀ b blk, get H b = some blk → get T.heap b = some blk ∧ get T.dead b = none) → relL w.heap φ I T.A args cargs →
    Calls P g cargs.toArray w fun e w' => ∃ cv φ' I', e = .returned cv ∧ RelH X φ' I' { T with heap := updH u T.heap } w'.heap ∧ Ext w.heap φ I T.A w'.heap φ' I' T.A ∧ relV w'.heap φ' I' T.A v cv ∧ Keep w w'

def delAll (D : List (Nat × Unit)) (H : Heap) : Heap := match D with
  | [] => H
  | (b, _) :: D => delAll D (del b H)

theorem get_delAll : ∀ (D : List (Nat × Unit)) (H : Heap) (b : Nat), get (delAll D H) b = if get D b = none then get H b else none
  | [], H, b => by simp [delAll, get_e0, get_e1]
  | (k, u) :: D, H, b => by
    simp only [delAll, get_delAll D, get_del, get_e0, get_e1]
    by_cases h1 : k = b
    · simp [h1]
    · simp [h1]

def AS.flush (S : AS) : AS := { S with heap := delAll S.dead S.heap, dead := [] }

def AS.appD (S : AS) (l : LOper) (i : Nat) (e : Eff) : AS := (if l.op.cls = 2 then S.flush else S).app l.dst (S.next + i) (decide (l.op.cls = 5)) e

/-- The blocks stand in order. -/
def Srt (H : Heap) : Prop := H.Pairwise fun p q => q.1 < p.1

theorem mem_ins {α : Type} {x : Nat} {v : α} : ∀ {l : List (Nat × α)} {p : Nat × α}, p ∈ ins x v l → p = (x, v) ∨ p ∈ l
  | [], p, h => by simp [ins_e0, ins_e1] at h; exact .inl h
  | (k, u) :: l, p, h => by
    simp only [ins_e0, ins_e1] at h
    split at h
    · exact (List.mem_cons.1 h)
    · split at h
      · rcases List.mem_cons.1 h with h | h
        · exact .inl h
        · exact .inr (List.mem_cons_of_mem _ h)
      · rcases List.mem_cons.1 h with h | h
        · exact .inr (by rw [h]; simp)
        · exact (mem_ins h).imp id (List.mem_cons_of_mem _)
theorem ins_mem {α : Type} {x : Nat} {v : α} : ∀ {l : List (Nat × α)} {p : Nat × α}, p ∈ l → ∃ q ∈ ins x v l, q.1 = p.1
  | (k, u) :: l, p, h => by
    simp only [ins_e0, ins_e1]
    split
    · exact ⟨p, List.mem_cons_of_mem _ h, rfl⟩
    · split
      · rename_i e
        rcases List.mem_cons.1 h with h | h
        · exact ⟨(x, v), by simp, by rw [h]; exact e⟩
        · exact ⟨p, List.mem_cons_of_mem _ h, rfl⟩
      · rcases List.mem_cons.1 h with h | h
        · exact ⟨(k, u), by simp, by rw [h]⟩
        · obtain ⟨q, h1, h2⟩ := ins_mem (x := x) (v := v) h
          exact ⟨q, List.mem_cons_of_mem _ h1, h2⟩
theorem Srt.ins {x : Nat} {v : Blk} : ∀ {H : Heap}, Srt H → Srt (AM.ins x v H)
  | [], _ => by simp [Srt, ins_e0, ins_e1]
  | (k, u) :: l, h => by
    obtain ⟨h1, h2⟩ := List.pairwise_cons.1 h
    simp only [ins_e0, ins_e1]
    split
    · rename_i hx
      refine List.pairwise_cons.2 ⟨fun p hp => ?_, h⟩
      rcases List.mem_cons.1 hp with hp | hp
      · rw [hp]; exact hx
      · exact Nat.lt_trans (h1 p hp) hx
    · split
      · rename_i e
        exact List.pairwise_cons.2 ⟨fun p hp => by have := h1 p hp; simp only at this ⊢; omega, h2⟩
      · rename_i hx he
        refine List.pairwise_cons.2 ⟨fun p hp => ?_, Srt.ins h2⟩
        rcases mem_ins hp with hp | hp
        · rw [hp]; simp only; omega
        · exact h1 p hp
theorem Srt.of_ins {x : Nat} {v : Blk} : ∀ {H : Heap}, Srt (AM.ins x v H) → Srt H
  | [], _ => by simp [Srt]
  | (k, u) :: l, h => by
    simp only [ins_e0, ins_e1] at h
    split at h
    · exact (List.pairwise_cons.1 h).2
    · split at h
      · rename_i e
        obtain ⟨h1, h2⟩ := List.pairwise_cons.1 h
        exact List.pairwise_cons.2 ⟨fun p hp => by have := h1 p hp; simp only at this ⊢; omega, h2⟩
      · obtain ⟨h1, h2⟩ := List.pairwise_cons.1 h
        refine List.pairwise_cons.2 ⟨fun p hp => ?_, Srt.of_ins h2⟩
        obtain ⟨q, k1, k2⟩ := ins_mem (x := x) (v := v) hp
        rw [← k2]; exact h1 q k1
theorem del_none {b : Nat} : ∀ {H : Heap}, (∀ p ∈ H, p.1 ≠ b) → del b H = H
  | [], _ => rfl
  | (k, u) :: l, h => by
    simp only [del]
    rw [if_neg (h (k, u) (by simp)), del_none fun p hp => h p (List.mem_cons_of_mem _ hp)]
theorem ins_front {x : Nat} {v : Blk} : ∀ {H : Heap}, (∀ p ∈ H, p.1 < x) → AM.ins x v H = (x, v) :: H
  | [], _ => rfl
  | (k, u) :: l, h => by simp only [ins_e0, ins_e1]; rw [if_pos (h (k, u) (by simp))]
/-- Deleting one, inserting another. -/
theorem del_ins {b x : Nat} {v : Blk} (hb : b ≠ x) : ∀ {H : Heap}, Srt H → del b (AM.ins x v H) = AM.ins x v (del b H)
  | [], _ => by simp [ins_e0, ins_e1, del, Ne.symm hb]
  | (k, u) :: l, h => by
    obtain ⟨h1, h2⟩ := List.pairwise_cons.1 h
    have ih := del_ins (v := v) hb h2
    simp only [ins_e0, ins_e1]
    by_cases hx : k < x
    · rw [if_pos hx]
      simp only [del]
      rw [if_neg (Ne.symm hb)]
      by_cases hk : k = b
      · simp only [if_pos hk]
        have hd : del b l = l := del_none fun p hp => by have := h1 p hp; simp only at this; omega
        rw [hd, ins_front fun p hp => Nat.lt_trans (h1 p hp) hx]
      · simp only [if_neg hk, ins_e0, ins_e1, if_pos hx]
    · rw [if_neg hx]
      by_cases he : x = k
      · subst he
        rw [if_pos rfl]
        simp only [del]
        rw [if_neg (Ne.symm hb), if_neg (Ne.symm hb)]
        simp [ins_e0, ins_e1]
      · rw [if_neg he]
        simp only [del]
        by_cases hk : k = b
        · simp only [if_pos hk]; exact ih
        · simp only [if_neg hk, ins_e0, ins_e1, if_neg hx, if_neg he, ih]

/-- A block that was there, or that an operation has made whose variable this one looks at. -/
def okId (ls : List LOper) (n : Nat) (l : LOper) (b : Nat) : Prop := b < n ∨ ∃ k lk d, ls[k]? = some lk ∧ b = n + k ∧ lk.dst = some d ∧ d ∈ l.looks

/-- What an operation of a region may yield in a state. -/
def DEff (P : Program) (ls : List LOper) (Wr : RW) (S : AS) (l : LOper) (i : Nat) (e : Eff) : Prop :=
  (gd S.vars l.guard = some false ∧ e = { val := .tup [] }) ∨
  (gd S.vars l.guard = some true ∧ get S.used (S.next + i) = none ∧ (
    (∃ q f args v H g first caps u, l.op = .call q f args ∧ e = { val := v, upd := u } ∧ f.ev S.vars = .fn g first caps ∧ QC P g (first ++ args.map (·.ev S.vars) ++ caps) H S.next v u ∧ (∀ b blk, get H b = some blk → b < S.next ∧ get S.heap b = some blk ∧ get S.dead b = none) ∧ ∀ p, u = some p → p.1 ∈ Wr ∧ p.1 < S.next) ∨
    (l.op.cls = 0 ∧ opEff S.heap S.vars (S.next + i) l.op = some e) ∨
    ((l.op.cls = 1 ∨ l.op.cls = 3) ∧ opEff S.heap S.vars (S.next + i) l.op = some e ∧ softOK S.heap S.vars l.op = true ∧ (∀ b ∈ l.op.rds S.vars, b < S.next ∧ b ∉ Wr) ∧ (∀ b, e.kill = some b → get S.dead b = none)) ∨
    (l.op.cls = 5 ∧ opEff S.heap S.vars (S.next + i) l.op = some e ∧ (∀ b ∈ l.op.rds S.vars, okId ls S.next l b ∧ b ∉ Wr) ∧ (∀ b, get S.dead b = none) ∧ (∀ b, e.kill = some b → S.next ≤ b) ∧ Srt S.heap) ∨
    (l.op.cls = 2 ∧ opEff S.flush.heap S.vars (S.next + i) l.op = some e) ∨
    ((l.op.cls = 6 ∨ l.op.cls = 7) ∧ opEff S.heap S.vars (S.next + i) l.op = some e ∧ (∀ b ∈ l.op.rds S.vars, okId ls S.next l b) ∧ (∀ b, get S.dead b = none) ∧ (∀ f, l.op.fp S.vars = some f → get Wr.ad i = some f))))

theorem opEff_shape {H : Heap} {vs : Vars} {id : Nat} {op : LOp} {e : Eff} (he : opEff H vs id op = some e) :
    (op.cls = 0 → e = { val := e.val }) ∧ (op.cls = 1 → e.upd = none ∧ e.kill = none) ∧ ((op.cls = 3 ∨ op.cls = 5) → e.upd = none ∧ ∀ b, e.kill = some b → b ∈ op.rds vs) ∧ (op.cls = 2 → e.new = none ∧ e.kill = none) ∧ (op.cls = 6 → e.new = none ∧ e.kill = none) ∧ (op.cls = 7 → e = { val := e.val }) := by
  have fin : ∀ {α : Type} {b : Bool} {x : Option α} {y : α}, grd b x = some y → x = some y := fun h => (grd_some h).2
  cases op <;> simp only [LOp.cls] <;> simp only [opEff] at he
  case len k x =>
    cases k <;> simp only at he ⊢ <;> (repeat' split at he) <;> first | (cases he; done) | (injection he with he; subst he; simp)
  case pick c x y => (repeat' split at he) <;> first | (cases he; done) | (injection he with he; subst he; simp)
  case nxt x =>
    split at he
    · split at he
      · have := fin he; injection this with this; subst this
        refine ⟨by omega, by omega, by omega, fun _ => ?_, by omega, by omega⟩
        unfold itEff; split <;> exact ⟨rfl, rfl⟩
      · cases he
    · cases he
  case append sz bytes x y =>
    simp only [appEff] at he
    split at he
    · split at he
      · have := fin he; injection this with this; subst this; simp
      · rename_i b i n hx
        split at he
        · have := fin he; injection this with this; subst this
          simp [LOp.rds, hx, AV.ids]
        · cases he
      · cases he
    · cases he
  case appendH sz bytes x y =>
    simp only [appEff] at he
    split at he
    · split at he
      · have := fin he; injection this with this; subst this; simp
      · rename_i b i n hx
        split at he
        · have := fin he; injection this with this; subst this
          simp [LOp.rds, hx, AV.ids]
        · cases he
      · cases he
    · cases he
  all_goals
    first
      | (injection he with he; subst he; simp; done)
      | ((repeat' (first | (have he' := fin he; clear he; rename _ => he) | split at he)) <;> first | (cases he; done) | (injection he with he; subst he; simp; done) | skip)

theorem opEff_light {H : Heap} {vs : Vars} {id : Nat} {op : LOp} {e : Eff} (he : opEff H vs id op = some e) (hc : op.cls = 1 ∨ op.cls = 3) : e.upd = none ∧ ∀ b, e.kill = some b → b ∈ op.rds vs := by
  rcases hc with hc | hc
  · have := (opEff_shape he).2.1 hc; exact ⟨this.1, fun b hb => by rw [this.2] at hb; cases hb⟩
  · exact (opEff_shape he).2.2.1 (.inl hc)

theorem softOK_vars {H : Heap} {vs vs' : Vars} {op : LOp} (h : ∀ x ∈ op.args, x.ev vs = x.ev vs') : softOK H vs op = softOK H vs' op := by
  cases op <;> simp only [softOK]
  case append => rw [h _ (by simp [LOp.args])]
  case appendH => rw [h _ (by simp [LOp.args])]

theorem softOK_heap {H H' : Heap} {vs : Vars} {op : LOp} (h : ∀ b ∈ op.rds vs, get H b = get H' b) : softOK H vs op = softOK H' vs op := by
  cases op <;> simp only [softOK]
  case append sz bytes x y =>
    cases hv : x.ev vs <;> simp only
    rw [h _ (by simp [LOp.rds, hv, AV.ids])]
  case appendH sz bytes x y =>
    cases hv : x.ev vs <;> simp only
    rw [h _ (by simp [LOp.rds, hv, AV.ids])]

theorem softOK_cls {H : Heap} {vs : Vars} {op : LOp} (h : op.cls ≠ 3) (h' : op.cls ≠ 5) : softOK H vs op = true := by
  cases op <;> first | rfl | (simp [LOp.cls] at h; done) | (simp [LOp.cls] at h')

section
variable {P : Program} {ls : List LOper} {Wr : RW} {X : Ctx} {φ : Nat → Option (Nat × Nat)} {I : Nat → Prop} {S : AS} {nt : Nat} {a : Act} {w : World}

def DInv (S : AS) : Prop := ∀ b, get S.dead b ≠ none → b < S.next

theorem RelH.flush {h : Array Obj} (R : RelH X φ I S h) : RelH X φ I S.flush h := by
  refine R.sub (vs := S.vars) (fun b blk h1 => ?_) (fun b _ h1 => ?_)
  · rw [get_delAll] at h1
    split at h1
    · exact h1
    · cases h1
  · rw [get_delAll] at h1
    by_cases h2 : get S.dead b = none
    · exact h2
    · rw [if_neg h2] at h1; exact absurd rfl h1

theorem RelA.of_vars {T : AS} {h : Array Obj} (R : RelA φ I S nt a h) (hA : S.A = T.A) (hv : S.vars = T.vars) : RelA φ I T nt a h := R.conv hA hv

theorem okOp_call {op : Op} {q : Bool} {f : LArg} {args : List LArg} (h : okOp P op (.call q f args) = true) : False := by
  unfold okOp at h
  split at h <;> first | (rename_i hh _; cases hh; done) | (cases h; done) | skip
  all_goals (rename_i hh; cases hh)

theorem okCall_spec {op : Op} {l : LOp} (h : okCall op l = true) : ∃ q f args f' args' tys, l = .call q f args ∧ op = .call { callee := .value f', args := args', argTypes := tys } ∧ okArg f' f = true ∧ okArgs args'.toList args = true := by
  unfold okCall at h
  split at h
  · rename_i f' args' tys q f args
    simp only [Bool.and_eq_true] at h
    exact ⟨q, f, args, f', args', tys, rfl, rfl, h.1, h.2⟩
  · cases h

/-- One operation, in whatever order. -/
theorem DEff.step {ops : Array Oper} {o : Oper} {l : LOper} {i : Nat} {e : Eff} (R : RelH X φ I S w.heap) (RA : RelA φ I S nt a w.heap) (hD : DInv S) (hok : okOper P nt ops o l = true) (he : DEff P ls Wr S l i e)
    {K : Act → World → Prop} {Q : Exit → Act → World → Prop} (hK : ∀ φ' I' a' w', RelH X φ' I' (S.appD l i e) w'.heap → RelA φ' I' (S.appD l i e) nt a' w'.heap → Keep w w' → K a' w') :
    if Region.wanted o (yielded ops a.tmps) then o.wp P a w K Q else K (a.put o.dst undef) w := by
  simp only [okOper, Bool.and_eq_true, Bool.or_eq_true] at hok
  obtain ⟨h3, h4, h5⟩ := hok
  obtain ⟨h6, h7⟩ := okDst_spec h3
  have RAf : ∀ (b : Bool), RelH X φ I (if l.op.cls = 2 then S.flush else S) w.heap ∧ RelA φ I (if l.op.cls = 2 then S.flush else S) nt a w.heap := fun _ => by
    split
    · exact ⟨R.flush, RA.of_vars rfl rfl⟩
    · exact ⟨R, RA⟩
  rcases he with ⟨hg, rfl⟩ | ⟨hg, hu, he⟩
  · rw [wanted_gd (ops := ops) (o := o) RA h4 hg]
    simp only [Bool.false_eq_true, if_false]
    obtain ⟨R1, RA1⟩ := RAf true
    refine hK φ I _ w (R1.vars (putV l.dst (.tup []) _)) ?_ (Keep.refl w)
    rw [h6]
    exact RelA.app (id := S.next + i) (hard := false) (e := { val := .tup [] }) RA1 (Ext.refl' fun _ h => h) h7 (by simp [relV, relL, undef])
  · rw [wanted_gd (ops := ops) (o := o) RA h4 hg]
    simp only [if_true]
    have fin : ∀ {T : AS}, (∃ φ' I' cv w', ((execOp a.eval o).run P w = .ok (.value cv) w' ∨ ((execOp a.eval o).run P w = .ok .skip w' ∧ cv = undef)) ∧ RelH X φ' I' T w'.heap ∧ RelA φ' I' T nt (a.put l.dst cv) w'.heap ∧ Keep w w') →
        (∀ φ' I' a' w', RelH X φ' I' T w'.heap → RelA φ' I' T nt a' w'.heap → Keep w w' → K a' w') → o.wp P a w K Q := fun {T} ⟨φ', I', cv, w', k1, k2, k3, k4⟩ hK => by
      unfold Oper.wp
      rcases k1 with k1 | ⟨k1, rfl⟩
      · rw [k1]; simp only [Oper.upon]; rw [h6]; exact hK φ' I' _ w' k2 k3 k4
      · rw [k1]; simp only [Oper.upon]; rw [h6]; exact hK φ' I' _ w' k2 k3 k4
    have hnc : ∀ {H : Heap} {id : Nat}, opEff H S.vars id l.op = some e → okOp P o.op l.op = true := fun he => by
      rcases h5 with h5 | h5
      · exact h5
      · obtain ⟨q, f, args, _, _, _, h8, _⟩ := okCall_spec h5
        rw [h8] at he; simp [opEff] at he
    have hid : ¬ S.A (S.next + i) := fun h9 => by
      rcases h9 with h9 | h9
      · omega
      · rw [hu] at h9; cases h9
    rcases he with ⟨q, f, args, v, H, g, first, caps, u, hl, rfl, hf, hqc, hH, hu2⟩ | ⟨hc, he⟩ | ⟨hc, he, hs, hids, hkill⟩ | ⟨hc, he, hids, hdn, hkill, hsr⟩ | ⟨hc, he⟩ | ⟨hc, he, hids, hdn, _⟩
    · rw [hl] at h5
      rcases h5 with h5 | h5
      · exact (okOp_call h5).elim
      · obtain ⟨q', f0, args0, f', args', tys, k1, k2, k3, k4⟩ := okCall_spec h5
        injection k1 with k5 k6 k7; subst k5 k6 k7
        have hfe := ev_rel RA k3
        rw [hf] at hfe
        simp only [relV] at hfe
        obtain ⟨fs, cs, k8, k9, k10⟩ := hfe
        have hx := exec_call (P := P) (w := w) (o := o) (a := a) k2 k8 hqc.1
        have hcall := hqc.2 X φ I S w _ R rfl hD (fun b blk hb => (hH b blk hb).2) (relL_append (relL_append k9 (evs_rel RA k4)) k10)
        have happ : S.appD l i { val := v, upd := u } = { S with vars := putV l.dst v S.vars, heap := updH u S.heap } := by cases u <;> simp [AS.appD, hl, LOp.cls, AS.app, updH]
        rw [happ] at hK
        unfold Oper.wp
        rw [hx]
        simp only [Oper.upon]
        refine hcall.mono fun e w' hh => ?_
        obtain ⟨cv, φ', I', k11, k12, k13, k14, kp⟩ := hh
        subst k11
        simp only
        rw [h6]
        refine hK φ' I' _ w' (k12.vars (putV l.dst v S.vars)) ?_ kp
        have RA' : RelA φ' I' S nt a w'.heap := ⟨fun x v hx => relV_mono k13 _ _ (RA.vars x v hx), RA.nt, RA.defers⟩
        have RA2 := RelA.app (S := S) (id := S.next + i) (hard := false) (e := { val := v }) RA' (Ext.refl' fun _ h => h) h7 k14
        exact RA2.of_vars rfl rfl
    · have hsh := (opEff_shape he).1 hc
      have Y := op_sound (P := P) (o := o) (hard := false) R RA h7 hid (hnc he) he (fun h => by cases h) hD (fun _ => ⟨softOK_cls (by rw [hc]; decide) (by rw [hc]; decide), by rw [hsh]; simp⟩) (by rw [hsh]; simp)
      simp only [AS.appD, hc] at hK
      exact fin Y hK
    · have hsh := opEff_light he hc
      have hc2 : l.op.cls ≠ 2 := by omega
      have Y := op_sound (P := P) (o := o) (hard := false) R RA h7 hid (hnc he) he (fun h => by cases h) hD (fun _ => ⟨hs, fun b hb => ?_⟩) (fun h => absurd hsh.1 h)
      · have hc5 : ¬ l.op.cls = 5 := by omega
        simp only [AS.appD, hc2, hc5] at hK
        exact fin Y hK
      · exact ⟨(hids b (hsh.2 b hb)).1, hkill b hb⟩
    · have hsh := (opEff_shape he).2.2.1 (.inr hc)
      have Y := op_sound (P := P) (o := o) (hard := true) R RA h7 hid (hnc he) he (fun _ => hdn) hD (fun h => by cases h) (fun h => absurd hsh.1 h)
      simp only [AS.appD, hc] at hK
      exact fin Y hK
    · have hsh := (opEff_shape he).2.2.2.1 hc
      have Y := op_sound (P := P) (o := o) (hard := false) (S := S.flush) R.flush (RA.of_vars rfl rfl) h7 hid (hnc he) he (fun h => by cases h) (fun b hb => by simp [AS.flush, get_e0, get_e1] at hb) (fun _ => ⟨softOK_cls (by rw [hc]; decide) (by rw [hc]; decide), by rw [hsh.2]; simp⟩) (fun _ _ => rfl)
      simp only [AS.appD, hc, if_true] at hK
      exact fin Y hK
    · have hk0 : e.kill = none := by
        rcases hc with hc | hc
        · exact ((opEff_shape he).2.2.2.2.1 hc).2
        · rw [(opEff_shape he).2.2.2.2.2 hc]
      have Y := op_sound (P := P) (o := o) (hard := false) R RA h7 hid (hnc he) he (fun h => by cases h) hD (fun _ => ⟨softOK_cls (by rcases hc with hc | hc <;> omega) (by rcases hc with hc | hc <;> omega), by rw [hk0]; simp⟩) (fun _ => hdn)
      have hc2 : ¬ l.op.cls = 2 := by rcases hc with hc | hc <;> omega
      have hc5 : ¬ l.op.cls = 5 := by rcases hc with hc | hc <;> omega
      simp only [AS.appD, hc2, hc5] at hK
      exact fin Y hK

theorem DInv.app (hD : DInv S) {l : LOper} {i : Nat} {e : Eff} (he : DEff P ls Wr S l i e) : DInv (S.appD l i e) := by
  intro b hb
  have hd : get (S.appD l i e).dead b ≠ none → get S.dead b ≠ none ∨ (e.kill = some b ∧ l.op.cls ≠ 5) := by
    have key : ∀ (U : AS) (hd : Bool), (∀ b, get U.dead b ≠ none → get S.dead b ≠ none) → get (U.app l.dst (S.next + i) hd e).dead b ≠ none → get S.dead b ≠ none ∨ (e.kill = some b ∧ hd = false) := fun U hd hU h => by
      simp only [AS.app] at h
      cases hk : e.kill with
      | none => rw [hk] at h; exact .inl (hU b h)
      | some b' =>
        rw [hk] at h
        cases hd with
        | true => exact .inl (hU b (by simpa [kdd] using h))
        | false =>
          simp only [kdd, get_ins] at h
          split at h
          · rename_i h'; subst h'; exact .inr ⟨rfl, rfl⟩
          · exact .inl (hU b h)
    intro h
    unfold AS.appD at h
    split at h
    · rcases key S.flush _ (fun b h => by simp [AS.flush, get_e0, get_e1] at h) h with h | ⟨h, h'⟩
      · exact .inl h
      · exact .inr ⟨h, by simpa using h'⟩
    · rcases key S _ (fun _ h => h) h with h | ⟨h, h'⟩
      · exact .inl h
      · exact .inr ⟨h, by simpa using h'⟩
  have hn : (S.appD l i e).next = S.next := by unfold AS.appD; split <;> rfl
  rw [hn]
  rcases hd hb with h1 | ⟨h1, h5⟩
  · exact hD b h1
  · rcases he with ⟨_, rfl⟩ | ⟨_, _, he⟩
    · cases h1
    · rcases he with ⟨q, f, args, v, H, g, first, caps, u, hl, rfl, hf, hqc, hH, hu2⟩ | ⟨hc, he⟩ | ⟨hc, he, hs, hids, hkill⟩ | ⟨hc, he, hids, hdn, hkill, hsr⟩ | ⟨hc, he⟩ | ⟨hc, he, hids, hdn, _⟩
      · cases h1
      · rw [(opEff_shape he).1 hc] at h1; cases h1
      · exact (hids b ((opEff_light he hc).2 b h1)).1
      · exact absurd hc h5
      · rw [((opEff_shape he).2.2.2.1 hc).2] at h1; cases h1
      · rcases hc with hc | hc
        · rw [((opEff_shape he).2.2.2.2.1 hc).2] at h1; cases h1
        · rw [(opEff_shape he).2.2.2.2.2 hc] at h1; cases h1
end
end
end Go.AM

/- Operations that may change places, and the theorem on drawn orders. -/
namespace Go.AM
noncomputable section

def apartL (x y : LOper) : Bool :=
  (match x.dst with
    | some d => !(y.looks.contains d) && !(decide (y.dst = some d))
    | none => true) &&
  (match y.dst with
    | some d => !(x.looks.contains d)
    | none => true)

def clsOK0 (x y : LOper) : Bool := match x.op.cls, y.op.cls with
  | 0, _ => true
  | _, 0 => true
  | 1, 1 => true
  | 1, 3 => true
  | 3, 1 => true
  | 1, 4 => true
  | 4, 1 => true
  | 3, 3 => true
  | 1, 5 => true
  | 5, 1 => true
  | _, _ => false

/-- Makes a block, reads none. -/
def LOp.alloc : LOp → Bool
  | .newv _ | .box _ _ | .bsl _ _ _ _ | .mkmap | .mksl _ _ _ _ _ | .own _ | .appz _ _ _ _ _ => true
  | _ => false
def clsF (x y : LOper) : Bool := match x.op.cls, y.op.cls with
  | 6, 6 => true
  | 6, 7 => true
  | 7, 6 => true
  | 7, 7 => true
  | 7, 1 => true
  | 1, 7 => true
  | 6, 1 => y.op.alloc
  | 1, 6 => x.op.alloc
  | _, _ => false
def clsOK (x y : LOper) : Bool := clsOK0 x y || clsF x y

theorem apartL_spec {x y : LOper} (h : apartL x y = true) : (∀ d, x.dst = some d → d ∉ y.looks) ∧ (∀ d, x.dst = some d → y.dst ≠ some d) ∧ (∀ d, y.dst = some d → d ∉ x.looks) := by
  refine ⟨fun d hd => ?_, fun d hd => ?_, fun d hd => ?_⟩ <;> simp [apartL, hd] at h
  · exact h.1.1
  · exact h.1.2
  · exact h.2

theorem putV_get {dst : Option Nat} {v : AV} {vs : Vars} {s : Nat} (h : ∀ d, dst = some d → d ≠ s) : get (putV dst v vs) s = get vs s := by
  cases dst with
  | none => rfl
  | some d => simp only [putV, get_ins]; rw [if_neg (h d rfl)]

theorem putV_comm {d d' : Option Nat} {v v' : AV} {vs : Vars} (h : ∀ x, d = some x → d' ≠ some x) : putV d' v' (putV d v vs) = putV d v (putV d' v' vs) := by
  cases d with
  | none => rfl
  | some x =>
    cases d' with
    | none => rfl
    | some y => simp only [putV]; exact ins_comm vs v' v (fun e => h x rfl (by rw [e]))

theorem gd_same {vs vs' : Vars} {l : LOper} (h : ∀ s ∈ l.looks, get vs s = get vs' s) : gd vs l.guard = gd vs' l.guard := by
  cases hg : l.guard with
  | none => rfl
  | some p =>
    obtain ⟨x, b⟩ := p
    simp only [gd]
    rw [h x (by simp [LOper.looks, hg])]

theorem args_same {vs vs' : Vars} {l : LOper} (h : ∀ s ∈ l.looks, get vs s = get vs' s) : ∀ x ∈ l.op.args, x.ev vs = x.ev vs' := fun x hx =>
  ev_same fun s hs => h s (List.mem_append_left _ (List.mem_filterMap.2 ⟨x, hx, hs⟩))

/-- What an operation yields in one state it yields in another that it can't tell from it. -/
theorem fp_vars {vs vs' : Vars} {op : LOp} (h : ∀ x ∈ op.args, x.ev vs = x.ev vs') : op.fp vs = op.fp vs' := by
  cases op <;> simp only [LOp.fp] <;> simp only [LOp.args, List.mem_cons, List.not_mem_nil, or_false, forall_eq_or_imp, forall_eq] at h
  case loadF => rw [h]
  case storeF => rw [h.1]

theorem DEff.move {P : Program} {ls : List LOper} {Wr : RW} {S T : AS} {l : LOper} {i : Nat} {e : Eff} (he : DEff P ls Wr S l i e) (hv : ∀ s ∈ l.looks, get S.vars s = get T.vars s) (hn : T.next = S.next) (hu : get S.used (S.next + i) = none → get T.used (S.next + i) = none)
    (h4 : l.op.cls = 4 → ∀ b, b < S.next → get S.heap b = get T.heap b) (h13 : (l.op.cls = 1 ∨ l.op.cls = 3) → ∀ b ∈ l.op.rds S.vars, b < S.next → b ∉ Wr → get S.heap b = get T.heap b) (h5 : l.op.cls = 5 → ∀ b ∈ l.op.rds S.vars, okId ls S.next l b → b ∉ Wr → get S.heap b = get T.heap b)
    (hk : (l.op.cls = 1 ∨ l.op.cls = 3) → ∀ b, e.kill = some b → get S.dead b = none → get T.dead b = none) (hcall : l.op.cls = 4 → ∀ b, get S.dead b = none → get T.dead b = none) (hd5 : l.op.cls = 5 → (∀ b, get S.dead b = none) → ∀ b, get T.dead b = none) (hs5 : l.op.cls = 5 → Srt S.heap → Srt T.heap)
    (hf : l.op.cls = 2 → S.flush.heap = T.flush.heap) (h67 : (l.op.cls = 6 ∨ l.op.cls = 7) → ∀ b ∈ l.op.rds S.vars, okId ls S.next l b → get S.heap b = get T.heap b) (hd67 : (l.op.cls = 6 ∨ l.op.cls = 7) → (∀ b, get S.dead b = none) → ∀ b, get T.dead b = none) : DEff P ls Wr T l i e := by
  have hgd := gd_same hv
  have hargs := args_same hv
  have hrds := rds_vars hargs
  rcases he with ⟨hg, rfl⟩ | ⟨hg, hus, he⟩
  · exact .inl ⟨hgd ▸ hg, rfl⟩
  · refine .inr ⟨hgd ▸ hg, by rw [hn]; exact hu hus, ?_⟩
    rw [hn]
    rcases he with ⟨q, f, args, v, H, g, first, caps, u, hl, rfl, hfe, hqc, hH, hu2⟩ | ⟨hc, he⟩ | ⟨hc, he, hs, hids, hkill⟩ | ⟨hc, he, hids, hdn, hkill, hsr⟩ | ⟨hc, he⟩ | ⟨hc, he, hids, hdn, hfp⟩
    · refine .inl ⟨q, f, args, v, H, g, first, caps, u, hl, rfl, ?_, ?_, fun b blk hb => ?_, hu2⟩
      · rw [← hargs f (by rw [hl]; simp [LOp.args])]; exact hfe
      · rw [← map_ev_same (vs := S.vars) (vs' := T.vars) fun x hx => hargs x (by rw [hl]; simp [LOp.args, hx])]
        exact hqc
      · obtain ⟨h1, h2, h3⟩ := hH b blk hb
        exact ⟨h1, by rw [← h4 (by rw [hl]; rfl) b h1]; exact h2, hcall (by rw [hl]; rfl) b h3⟩
    · refine .inr (.inl ⟨hc, ?_⟩)
      rw [← opEff_vars hargs, opEff_plain hc (H' := S.heap) (id' := S.next + i)]; exact he
    · have hheap : ∀ b ∈ l.op.rds S.vars, get S.heap b = get T.heap b := fun b hb => h13 hc b hb (hids b hb).1 (hids b hb).2
      refine .inr (.inr (.inl ⟨hc, ?_, ?_, by rw [← hrds]; exact hids, fun b hb => hk hc b hb (hkill b hb)⟩))
      · rw [← opEff_vars hargs, ← opEff_heap hheap]; exact he
      · rw [← softOK_vars hargs, ← softOK_heap hheap]; exact hs
    · have hheap : ∀ b ∈ l.op.rds S.vars, get S.heap b = get T.heap b := fun b hb => h5 hc b hb (hids b hb).1 (hids b hb).2
      refine .inr (.inr (.inr (.inl ⟨hc, ?_, by rw [← hrds]; exact hids, hd5 hc hdn, hkill, hs5 hc hsr⟩)))
      rw [← opEff_vars hargs, ← opEff_heap hheap]; exact he
    · refine .inr (.inr (.inr (.inr (.inl ⟨hc, ?_⟩))))
      rw [← opEff_vars hargs, ← hf hc]; exact he
    · have hheap : ∀ b ∈ l.op.rds S.vars, get S.heap b = get T.heap b := fun b hb => h67 hc b hb (hids b hb)
      refine .inr (.inr (.inr (.inr (.inr ⟨hc, ?_, by rw [← hrds]; exact hids, hd67 hc hdn, fun f hf => hfp f (by rw [fp_vars hargs]; exact hf)⟩))))
      rw [← opEff_vars hargs, ← opEff_heap hheap]; exact he

/-! ### Stores and loads of told cells -/
def wrR (es : List (List AV)) (i j : Nat) (xs : List AV) : List (List AV) := es.set i (setAt (es.getD i []) j xs)
theorem wrR_length (es : List (List AV)) (i j : Nat) (xs : List AV) : (wrR es i j xs).length = es.length := by simp [wrR]
theorem wrR_getD (es : List (List AV)) (i j : Nat) (xs : List AV) (k : Nat) (hi : i < es.length) : (wrR es i j xs).getD k [] = if i = k then setAt (es.getD i []) j xs else es.getD k [] := by
  simp only [wrR, List.getD_eq_getElem?_getD, List.getElem?_set]
  by_cases h : i = k
  · subst h; simp [hi]
  · simp [h]
theorem setAt_len {r xs : List AV} {j : Nat} (h : j + xs.length ≤ r.length) : (setAt r j xs).length = r.length := by
  simp only [setAt, List.length_append, List.length_take, List.length_drop]; omega
theorem setAt_get {r xs : List AV} {j k : Nat} (h : j + xs.length ≤ r.length) : (setAt r j xs)[k]? = if k < j then r[k]? else if k < j + xs.length then xs[k - j]? else r[k]? := by
  simp only [setAt, List.getElem?_append, List.length_take, List.getElem?_take, List.getElem?_drop]
  have : min j r.length = j := by omega
  rw [this]
  split
  · rename_i h1; simp
  · rename_i h1
    split
    · rename_i h2; rw [if_pos (by omega)]
    · rename_i h2; rw [if_neg (by omega)]; congr 1; omega
theorem setAt_comm {r xs ys : List AV} {j k : Nat} (h1 : j + xs.length ≤ r.length) (h2 : k + ys.length ≤ r.length) (ha : j + xs.length ≤ k ∨ k + ys.length ≤ j) : setAt (setAt r j xs) k ys = setAt (setAt r k ys) j xs := by
  apply List.ext_getElem?
  intro m
  rw [setAt_get (by rw [setAt_len h1]; exact h2), setAt_get h1, setAt_get (by rw [setAt_len h2]; exact h1), setAt_get h2]
  (repeat' split) <;> first | rfl | omega
theorem setAt_read {r xs : List AV} {j k n : Nat} (h1 : j + xs.length ≤ r.length) (ha : j + xs.length ≤ k ∨ k + n ≤ j) : ((setAt r j xs).drop k).take n = (r.drop k).take n := by
  apply List.ext_getElem?
  intro m
  simp only [List.getElem?_take, List.getElem?_drop]
  by_cases hm : m < n
  · rw [if_pos hm, if_pos hm, setAt_get h1]
    (repeat' split) <;> first | rfl | omega
  · rw [if_neg hm, if_neg hm]
theorem wrR_comm {es : List (List AV)} {i j i' j' : Nat} {xs ys : List AV} (hi : i < es.length) (hi' : i' < es.length) (h1 : j + xs.length ≤ (es.getD i []).length) (h2 : j' + ys.length ≤ (es.getD i' []).length) (ha : i ≠ i' ∨ j + xs.length ≤ j' ∨ j' + ys.length ≤ j) : wrR (wrR es i j xs) i' j' ys = wrR (wrR es i' j' ys) i j xs := by
  have q1 := wrR_getD es i j xs i' hi
  have q2 := wrR_getD es i' j' ys i hi'
  by_cases h : i = i'
  · subst h
    rw [if_pos rfl] at q1 q2
    show (wrR es i j xs).set i (setAt ((wrR es i j xs).getD i []) j' ys) = (wrR es i j' ys).set i (setAt ((wrR es i j' ys).getD i []) j xs)
    rw [q1, q2, setAt_comm h1 h2 (by omega)]
    simp [wrR]
  · rw [if_neg h] at q1; rw [if_neg (Ne.symm h)] at q2
    show (wrR es i j xs).set i' (setAt ((wrR es i j xs).getD i' []) j' ys) = (wrR es i' j' ys).set i (setAt ((wrR es i' j' ys).getD i []) j xs)
    rw [q1, q2]
    simp only [wrR]
    rw [List.set_comm _ _ h]
theorem ldCells_take {ag : Bool} {n : Nat} {cs ds : List AV} (hn : 1 ≤ n) (h : cs.take n = ds.take n) : ldCells ag n cs = ldCells ag n ds := by
  cases ag with
  | true =>
    simp only [ldCells]
    have hl : n ≤ cs.length ↔ n ≤ ds.length := by
      have := congrArg List.length h
      simp only [List.length_take] at this
      omega
    by_cases h1 : n ≤ cs.length
    · rw [decide_eq_true h1, decide_eq_true (hl.1 h1), h]
    · rw [decide_eq_false h1, decide_eq_false (fun e => h1 (hl.2 e))]; rfl
  | false =>
    obtain ⟨m, rfl⟩ : ∃ m, n = m + 1 := ⟨n - 1, by omega⟩
    cases cs <;> cases ds <;> simp at h <;> simp [ldCells]
    exact h.1

theorem storeF_eff {H : Heap} {vs : Vars} {id n : Nat} {a x : LArg} {e : Eff} : opEff H vs id (.storeF n a x) = some e ↔ ∃ sz b i j es, a.ev vs = .ptr sz b i j ∧ get H b = some (.rows sz es) ∧ i < es.length ∧ (x.ev vs).cells.length = n ∧ j + n ≤ sz ∧ (x.ev vs).cells.all AV.scalar = true ∧ (es.getD i []).length = sz ∧ e = { val := .any, upd := some (b, .rows sz (wrR es i j (x.ev vs).cells)) } := by
  constructor
  · intro h
    simp only [opEff] at h
    split at h
    · rename_i sz b i j hev
      split at h
      · rename_i sz' es hb
        obtain ⟨h1, h2⟩ := grd_some h
        simp only [Bool.and_eq_true, decide_eq_true_eq] at h1
        obtain ⟨rfl, k1, k2, k3, k4, k5⟩ := h1
        injection h2 with h2
        exact ⟨sz', b, i, j, es, hev, hb, k1, k2, k3, k4, k5, h2.symm⟩
      · cases h
    · cases h
  · rintro ⟨sz, b, i, j, es, h1, h2, h3, h4, h5, h6, h7, rfl⟩
    simp only [opEff, h1, h2]
    have hg : (decide True && (decide (i < es.length) && (decide ((x.ev vs).cells.length = n) && (decide (j + n ≤ sz) && ((x.ev vs).cells.all AV.scalar && decide ((es.getD i []).length = sz)))))) = true := by
      simp only [Bool.and_eq_true, decide_eq_true_eq]
      exact ⟨trivial, h3, h4, h5, h6, h7⟩
    rw [hg]; rfl
theorem loadF_eff {H : Heap} {vs : Vars} {id n : Nat} {ag : Bool} {a : LArg} {e : Eff} : opEff H vs id (.loadF ag n a) = some e ↔ (∃ cs v, a.ev vs = .cptr cs ∧ ldCells ag n cs = some v ∧ e = { val := v }) ∨ ∃ sz b i j es v, a.ev vs = .ptr sz b i j ∧ get H b = some (.rows sz es) ∧ i < es.length ∧ 1 ≤ n ∧ ldCells ag n ((es.getD i []).drop j) = some v ∧ e = { val := v } := by
  constructor
  · intro h
    simp only [opEff] at h
    split at h
    · rename_i sz b i j hev
      split at h
      · rename_i sz' es hb
        obtain ⟨h1, h2⟩ := grd_some h
        simp only [Bool.and_eq_true, decide_eq_true_eq] at h1
        obtain ⟨rfl, k1, k2⟩ := h1
        split at h2
        · rename_i v hv
          injection h2 with h2
          exact .inr ⟨sz', b, i, j, es, v, hev, hb, k1, k2, hv, h2.symm⟩
        · cases h2
      · cases h
    · rename_i cs hev
      split at h
      · rename_i v hv
        injection h with h
        exact .inl ⟨cs, v, hev, hv, h.symm⟩
      · cases h
    · cases h
  · rintro (⟨cs, v, h1, h2, rfl⟩ | ⟨sz, b, i, j, es, v, h1, h2, h3, h4, h5, rfl⟩)
    · simp only [opEff, h1, h2]
    · simp only [opEff, h1, h2]
      have hg : (decide True && (decide (i < es.length) && decide (1 ≤ n))) = true := by
        simp only [Bool.and_eq_true, decide_eq_true_eq]
        exact ⟨trivial, h3, h4⟩
      rw [hg, h5]; rfl

theorem cls6 {op : LOp} (h : op.cls = 6) : ∃ n a x, op = .storeF n a x := by
  cases op <;> simp only [LOp.cls, reduceCtorEq, Nat.reduceEqDiff] at h <;> first | exact ⟨_, _, _, rfl⟩ | skip
  rename_i k x; cases k <;> simp [LOp.cls] at h
theorem cls7 {op : LOp} (h : op.cls = 7) : ∃ ag n a, op = .loadF ag n a := by
  cases op <;> simp only [LOp.cls, reduceCtorEq, Nat.reduceEqDiff] at h <;> first | exact ⟨_, _, _, rfl⟩ | skip
  rename_i k x; cases k <;> simp [LOp.cls] at h
theorem alloc_rds {vs : Vars} {op : LOp} (h : op.alloc = true) : op.rds vs = [] := by
  cases op <;> simp only [LOp.alloc, Bool.false_eq_true] at h <;> rfl
theorem ins_insA {α : Type} (b : Nat) (x y : α) : ∀ H : List (Nat × α), AM.ins b x (AM.ins b y H) = AM.ins b x H
  | [] => by simp [ins_e0, ins_e1]
  | (k, u) :: l => by
    simp only [ins_e1]
    by_cases h1 : k < b
    · simp [h1, ins_e1]
    · by_cases h2 : b = k
      · subst h2; simp [ins_e1]
      · simp [h1, h2, ins_e1, ins_insA b x y l]

section
variable {P : Program} {ls : List LOper} {Wr : RW} {S : AS} {li lj : LOper} {i j : Nat} {ei ej : Eff}

theorem DEff.plain (he : DEff P ls Wr S li i ei) (hc : li.op.cls = 0) : ei = { val := ei.val } := by
  rcases he with ⟨_, rfl⟩ | ⟨_, _, he⟩
  · rfl
  · rcases he with ⟨q, f, args, v, H, g, first, caps, u, hl, rfl, _⟩ | ⟨_, he⟩ | ⟨hc', _⟩ | ⟨hc', _⟩ | ⟨hc', _⟩ | ⟨hc', _⟩
    · rw [hl] at hc; cases hc
    · exact (opEff_shape he).1 hc
    · omega
    · omega
    · omega
    · omega

/-- What an effect changes, by the kind of its operation. -/
theorem DEff.what (he : DEff P ls Wr S li i ei) (hc : li.op.cls ≠ 2) (hc6 : li.op.cls ≠ 6) : (∀ p, ei.upd = some p → li.op.cls = 4 ∧ p.1 ∈ Wr ∧ p.1 < S.next) ∧
    (∀ b, ei.kill = some b → (li.op.cls = 3 ∧ b < S.next ∧ get S.dead b = none) ∨ (li.op.cls = 5 ∧ S.next ≤ b ∧ okId ls S.next li b)) := by
  rcases he with ⟨_, rfl⟩ | ⟨_, _, he⟩
  · exact ⟨fun p h => (by cases h), fun b h => (by cases h)⟩
  · rcases he with ⟨q, f, args, v, H, g, first, caps, u, hl, rfl, _, _, _, hu2⟩ | ⟨hc', he⟩ | ⟨hc', he, _, hids, hk⟩ | ⟨hc', he, hids, _, hk, _⟩ | ⟨hc', _⟩ | ⟨hc', he, _⟩
    · exact ⟨fun p h => ⟨by rw [hl]; rfl, hu2 p h⟩, fun b h => (by cases h)⟩
    · rw [(opEff_shape he).1 hc']; exact ⟨fun p h => (by cases h), fun b h => (by cases h)⟩
    · have hsh := opEff_light he hc'
      refine ⟨fun p h => (by rw [hsh.1] at h; cases h), fun b h => .inl ⟨?_, (hids b (hsh.2 b h)).1, hk b h⟩⟩
      rcases hc' with hc' | hc'
      · rw [((opEff_shape he).2.1 hc').2] at h; cases h
      · exact hc'
    · have hsh := (opEff_shape he).2.2.1 (.inr hc')
      exact ⟨fun p h => (by rw [hsh.1] at h; cases h), fun b h => .inr ⟨hc', hk b h, (hids b (hsh.2 b h)).1⟩⟩
    · omega
    · rw [(opEff_shape he).2.2.2.2.2 (by omega)]; exact ⟨fun p h => (by cases h), fun b h => (by cases h)⟩

theorem DEff.srt (he : DEff P ls Wr S li i ei) (hc : li.op.cls = 5) {b : Nat} (hk : ei.kill = some b) : Srt S.heap := by
  rcases he with ⟨_, rfl⟩ | ⟨_, _, he⟩
  · cases hk
  · rcases he with ⟨q, f, args, v, H, g, first, caps, u, hl, rfl, _⟩ | ⟨hc', _⟩ | ⟨hc', _⟩ | ⟨_, _, _, _, _, h⟩ | ⟨hc', _⟩ | ⟨hc', _⟩
    · cases hk
    · omega
    · omega
    · exact h
    · omega
    · omega

theorem appD_next : (S.appD li i ei).next = S.next := by unfold AS.appD; split <;> rfl

theorem appD_vars : (S.appD li i ei).vars = putV li.dst ei.val S.vars := by unfold AS.appD; split <;> rfl

theorem appD_plain (hp : ei = { val := ei.val }) (hc : li.op.cls ≠ 2) : S.appD li i ei = { S with vars := putV li.dst ei.val S.vars } := by
  rw [hp]; simp [AS.appD, hc, AS.app]

theorem looks_put {l l' : LOper} {v : AV} {vs : Vars} (h : ∀ d, l.dst = some d → d ∉ l'.looks) : ∀ s ∈ l'.looks, get (putV l.dst v vs) s = get vs s := fun s hs =>
  putV_get fun d hd e => h d hd (e ▸ hs)

theorem used_app (U : AS) (d : Option Nat) (id b : Nat) (hd : Bool) (e : Eff) (h : b ≠ id) : get (U.app d id hd e).used b = none ↔ get U.used b = none := by
  simp only [AS.app]
  cases e.new with
  | none => exact Iff.rfl
  | some blk => simp only [get_ins]; rw [if_neg (Ne.symm h)]

theorem used_appD (h : i ≠ j) : get (S.appD li i ei).used (S.next + j) = none ↔ get S.used (S.next + j) = none := by
  unfold AS.appD
  split
  · exact used_app S.flush _ _ _ _ _ (by show S.next + j ≠ S.next + i; omega)
  · exact used_app S _ _ _ _ _ (by omega)

/-- A plain operation changes places with any. -/
theorem DEff.swap_plain (hap : apartL li lj = true) (hc : li.op.cls = 0) (hi : DEff P ls Wr S li i ei) (hj : DEff P ls Wr (S.appD li i ei) lj j ej) (hij : i ≠ j) :
    DEff P ls Wr S lj j ej ∧ DEff P ls Wr (S.appD lj j ej) li i ei ∧ (S.appD li i ei).appD lj j ej = (S.appD lj j ej).appD li i ei := by
  obtain ⟨h1, h2, h3⟩ := apartL_spec hap
  have hpl := hi.plain hc
  have hSi := appD_plain (S := S) (li := li) (i := i) hpl (by omega)
  rw [hSi] at hj
  have hj' : DEff P ls Wr S lj j ej := hj.move (looks_put h1) rfl (fun h => h) (fun _ _ _ => rfl) (fun _ _ _ _ _ => rfl) (fun _ _ _ _ _ => rfl) (fun _ _ _ h => h) (fun _ _ h => h) (fun _ h => h) (fun _ h => h) (fun _ => rfl) (fun _ _ _ _ => rfl) (fun _ h => h)
  refine ⟨hj', ?_, ?_⟩
  · refine hi.move (fun s hs => ?_) appD_next (fun h => (used_appD (Ne.symm hij)).2 h) (fun h => by omega) (fun h => by omega) (fun h => by omega) (fun h => by omega) (fun h => by omega) (fun h => by omega) (fun h => by omega) (fun h => by omega) (fun h => by omega) (fun h => by omega)
    rw [appD_vars, looks_put h3 s hs]
  · rw [hSi, appD_plain (S := S.appD lj j ej) (li := li) (i := i) hpl (by omega)]
    unfold AS.appD
    split
    · simp only [AS.app, AS.flush]; rw [putV_comm h2]
    · simp only [AS.app]; rw [putV_comm h2]

theorem DEff.swap (hap : apartL li lj = true) (hcl : clsOK0 li lj = true) (hij : i ≠ j) (hli : ls[i]? = some li) (hlj : ls[j]? = some lj) (hi : DEff P ls Wr S li i ei) (hj : DEff P ls Wr (S.appD li i ei) lj j ej) :
    DEff P ls Wr S lj j ej ∧ DEff P ls Wr (S.appD lj j ej) li i ei ∧ (S.appD li i ei).appD lj j ej = (S.appD lj j ej).appD li i ei := by
  obtain ⟨h1, h2, h3⟩ := apartL_spec hap
  by_cases hc : li.op.cls = 0
  · exact hi.swap_plain hap hc hj hij
  by_cases hc' : lj.op.cls = 0
  · -- the other one is plain
    have hpl := hj.plain hc'
    have hSj : ∀ U : AS, U.appD lj j ej = { U with vars := putV lj.dst ej.val U.vars } := fun U => appD_plain (li := lj) hpl (by omega)
    have hj' : DEff P ls Wr S lj j ej := hj.move (fun s hs => by rw [appD_vars, looks_put h1 s hs]) appD_next.symm (fun h => by rw [appD_next] at h ⊢; exact (used_appD hij).1 h) (fun h => by omega) (fun h => by omega) (fun h => by omega) (fun h => by omega) (fun h => by omega) (fun h => by omega) (fun h => by omega) (fun h => by omega) (fun h => by omega) (fun h => by omega)
    refine ⟨hj', ?_, ?_⟩
    · rw [hSj]
      exact hi.move (fun s hs => (looks_put h3 s hs).symm) rfl (fun h => h) (fun _ _ _ => rfl) (fun _ _ _ _ _ => rfl) (fun _ _ _ _ _ => rfl) (fun _ _ _ h => h) (fun _ _ h => h) (fun _ h => h) (fun _ h => h) (fun _ => rfl) (fun _ _ _ _ => rfl) (fun _ h => h)
    · rw [hSj, hSj]
      unfold AS.appD
      split
      · simp only [AS.app, AS.flush]; rw [putV_comm h2]
      · simp only [AS.app]; rw [putV_comm h2]
  · -- both look at memory, and no store is among them
    have hl : li.op.cls ≠ 2 ∧ lj.op.cls ≠ 2 ∧ ((li.op.cls = 1 ∧ (lj.op.cls = 1 ∨ lj.op.cls = 3 ∨ lj.op.cls = 4 ∨ lj.op.cls = 5)) ∨ (lj.op.cls = 1 ∧ (li.op.cls = 3 ∨ li.op.cls = 4 ∨ li.op.cls = 5)) ∨ (li.op.cls = 3 ∧ lj.op.cls = 3)) := by
      unfold clsOK0 at hcl
      split at hcl <;> first | (cases hcl; done) | (rename_i e1 e2; omega) | (rename_i e1; omega)
    have hA : ∀ (U : AS) (l : LOper) (k : Nat) (e : Eff), l.op.cls ≠ 2 → U.appD l k e = U.app l.dst (U.next + k) (decide (l.op.cls = 5)) e := fun U l k e h => by simp [AS.appD, h]
    obtain ⟨ui, ki⟩ := hi.what hl.1 (by omega)
    have hdead : ∀ (U : AS) (d : Option Nat) (id b : Nat) (hd : Bool) (e : Eff), get (U.app d id hd e).dead b = none ↔ get U.dead b = none ∧ (hd = true ∨ e.kill ≠ some b) := fun U d id b hd e => by
      simp only [AS.app]
      cases hk : e.kill with
      | none => simp
      | some k =>
        cases hd with
        | true => simp [kdd]
        | false =>
          simp only [kdd, get_ins]
          by_cases h : k = b
          · simp [h]
          · simp [h]
    have hheap : ∀ (U : AS) (d : Option Nat) (id b : Nat) (hd : Bool) (e : Eff), (∀ p, e.upd = some p → p.1 ≠ b) → (hd = true → e.kill ≠ some b) → b ≠ id → get (U.app d id hd e).heap b = get U.heap b := fun U d id b hd e hu hk hb => by
      have hb' : ¬ id = b := Ne.symm hb
      simp only [AS.app]
      cases hue : e.upd with
      | none =>
        cases hke : e.kill with
        | none => cases e.new <;> simp [get_ins, hb']
        | some k =>
          cases hd with
          | false => cases e.new <;> simp [khp, get_ins, hb']
          | true =>
            have hkb : ¬ k = b := fun e => hk rfl (by rw [hke, e])
            cases e.new <;> simp [khp, get_ins, get_del, hb', hkb]
      | some p =>
        have hp := hu p hue
        cases hke : e.kill with
        | none => cases e.new <;> simp [get_ins, hb', hp]
        | some k =>
          cases hd with
          | false => cases e.new <;> simp [khp, get_ins, hb', hp]
          | true =>
            have hkb : ¬ k = b := fun e => hk rfl (by rw [hke, e])
            cases e.new <;> simp [khp, get_ins, get_del, hb', hkb, hp]
    rw [hA S li i ei hl.1] at hj
    obtain ⟨uj, kj⟩ := hj.what hl.2.1 (by omega)
    have hjn : (S.app li.dst (S.next + i) (decide (li.op.cls = 5)) ei).next = S.next := rfl
    simp only [hjn] at uj kj
    have nkij : ∀ b, ei.kill = some b → ej.kill = some b → li.op.cls = 3 → lj.op.cls = 3 → False := fun b hb hb' c3 c3' => by
      rcases kj b hb' with ⟨_, _, h⟩ | ⟨h, _⟩
      · rw [hdead] at h
        rcases h.2 with h | h
        · simp [c3] at h
        · exact h hb
      · omega
    -- the first one's own block is not among what the other one reads
    have own : ∀ {l l' : LOper} {k : Nat} {b : Nat}, ls[k]? = some l → (∀ d, l.dst = some d → d ∉ l'.looks) → okId ls S.next l' b → b ≠ S.next + k := fun {l l' k b} hk hlk ho e => by
      rcases ho with ho | ⟨k', lk, d, q1, q2, q3, q4⟩
      · omega
      · have : k' = k := by omega
        subst this
        rw [hk] at q1
        injection q1 with q1; subst q1
        exact hlk d q3 q4
    have srt1 : lj.op.cls = 5 → li.op.cls = 1 → Srt (S.app li.dst (S.next + i) (decide (li.op.cls = 5)) ei).heap → Srt S.heap := fun c5 c1 h => by
      have e1 : ei.upd = none := by
        cases hu : ei.upd with
        | none => rfl
        | some p => have := (ui p hu).1; omega
      have e2 : ei.kill = none := by
        cases hu : ei.kill with
        | none => rfl
        | some p => rcases ki p hu with h | h <;> omega
      simp only [AS.app, e1, e2] at h
      cases hn : ei.new with
      | none => rw [hn] at h; exact h
      | some blk => rw [hn] at h; exact Srt.of_ins h
    have hj' : DEff P ls Wr S lj j ej := by
      refine hj.move (fun s hs => ?_) rfl (fun h => (used_app _ _ _ _ _ _ (by simp only [AS.app]; omega)).1 h) (fun c4 b hb => ?_) (fun c13 b hb hlt hw => ?_) (fun c5 b hb ho hw => ?_) (fun c13 b hb h => ((hdead _ _ _ _ _ _).1 h).1) (fun c4 b h => ((hdead _ _ _ _ _ _).1 h).1) (fun c5 h b => ((hdead _ _ _ _ _ _).1 (h b)).1) (fun c5 h => srt1 c5 (by omega) h) (fun h => absurd h hl.2.1) (fun h => by omega) (fun h => by omega)
      · show get (putV li.dst ei.val S.vars) s = _
        exact looks_put h1 s hs
      · refine hheap _ _ _ _ _ _ (fun p hp => by have := (ui p hp).1; omega) (fun h5 => by simp at h5; omega) (by simp only [AS.app] at hb; omega)
      · refine hheap _ _ _ _ _ _ (fun p hp e => hw (by rw [← e]; exact (ui p hp).2.1)) (fun h5 hk => ?_) (by simp only [AS.app] at hlt; omega)
        simp only [decide_eq_true_eq] at h5
        simp only [AS.app] at hlt
        rcases ki b hk with h | h <;> omega
      · refine hheap _ _ _ _ _ _ (fun p hp => by have := (ui p hp).1; omega) (fun h5 => by simp at h5; omega) (own hli h1 ho)
    refine ⟨hj', ?_, ?_⟩
    · rw [hA S lj j ej hl.2.1]
      refine hi.move (fun s hs => ?_) rfl (fun h => (used_app _ _ _ _ _ _ (by omega)).2 h) (fun c4 b hb => ?_) (fun c13 b hb hlt hw => ?_) (fun c5 b hb ho hw => ?_) (fun c13 b hb h => (hdead _ _ _ _ _ _).2 ⟨h, ?_⟩) (fun c4 b h => (hdead _ _ _ _ _ _).2 ⟨h, ?_⟩) (fun c5 h b => (hdead _ _ _ _ _ _).2 ⟨h b, ?_⟩) (fun c5 h => ?_) (fun h => absurd h hl.1) (fun h => by omega) (fun h => by omega)
      · show _ = get (putV lj.dst ej.val S.vars) s
        exact (looks_put h3 s hs).symm
      · exact (hheap _ _ _ _ _ _ (fun p hp => by have := (uj p hp).1; omega) (fun h5 => by simp at h5; omega) (by omega)).symm
      · refine (hheap _ _ _ _ _ _ (fun p hp e => hw (by rw [← e]; exact (uj p hp).2.1)) (fun h5 hk => ?_) (by omega)).symm
        simp only [decide_eq_true_eq] at h5
        rcases kj b hk with h | h <;> omega
      · exact (hheap _ _ _ _ _ _ (fun p hp => by have := (uj p hp).1; omega) (fun h5 => by simp at h5; omega) (own hlj h3 ho)).symm
      · refine .inr fun hk => ?_
        rcases kj b hk with h | h
        · rcases ki b hb with h' | h'
          · exact nkij b hb hk h'.1 h.1
          · omega
        · rcases ki b hb with h' | h' <;> omega
      · exact .inr fun hk => by rcases kj b hk with h | h <;> omega
      · exact .inr fun hk => by rcases kj b hk with h | h <;> omega
      · have e1 : ej.upd = none := by
          cases hu : ej.upd with
          | none => rfl
          | some p => have := (uj p hu).1; omega
        have e2 : ej.kill = none := by
          cases hu : ej.kill with
          | none => rfl
          | some p => rcases kj p hu with h | h <;> omega
        simp only [AS.app, e1, e2]
        cases ej.new with
        | none => exact h
        | some blk => exact Srt.ins h
    · rw [hA S li i ei hl.1, hA S lj j ej hl.2.1, hA _ lj j ej hl.2.1, hA _ li i ei hl.1]
      show (S.app li.dst (S.next + i) _ ei).app lj.dst (S.next + j) _ ej = (S.app lj.dst (S.next + j) _ ej).app li.dst (S.next + i) _ ei
      have none_i : ∀ {α : Type} {x : Option α}, (∀ p, x = some p → False) → x = none := fun {α x} h => by
        cases x with
        | none => rfl
        | some p => exact (h p rfl).elim
      have fu : ∀ {c : Nat}, li.op.cls = c → c ≠ 4 → ei.upd = none := fun hc1 h => none_i fun p hp => by have := (ui p hp).1; omega
      have fu' : ∀ {c : Nat}, lj.op.cls = c → c ≠ 4 → ej.upd = none := fun hc1 h => none_i fun p hp => by have := (uj p hp).1; omega
      have fk : ∀ {c : Nat}, li.op.cls = c → c ≠ 3 → c ≠ 5 → ei.kill = none := fun hc1 h h' => none_i fun p hp => by rcases ki p hp with h | h <;> omega
      have fk' : ∀ {c : Nat}, lj.op.cls = c → c ≠ 3 → c ≠ 5 → ej.kill = none := fun hc1 h h' => none_i fun p hp => by rcases kj p hp with h | h <;> omega
      have hu2 : (match ej.new with | some _ => ins (S.next + j) () (match ei.new with | some _ => ins (S.next + i) () S.used | none => S.used) | none => (match ei.new with | some _ => ins (S.next + i) () S.used | none => S.used)) = (match ei.new with | some _ => ins (S.next + i) () (match ej.new with | some _ => ins (S.next + j) () S.used | none => S.used) | none => (match ej.new with | some _ => ins (S.next + j) () S.used | none => S.used)) := by
        cases ei.new <;> cases ej.new <;> first | rfl | exact ins_comm _ _ _ (by omega)
      simp only [AS.app, AS.mk.injEq, true_and]
      refine ⟨putV_comm h2, ?_, hu2, ?_⟩
      · rcases hl.2.2 with ⟨c1, c2⟩ | ⟨c2, c1⟩ | ⟨c1, c2⟩
        · have e1 := fu c1 (by omega)
          have e2 := fk c1 (by omega) (by omega)
          simp only [e1, e2]
          rcases c2 with c2 | c2 | c2 | c2
          · simp only [fu' c2 (by omega), fk' c2 (by omega) (by omega)]
            cases ei.new <;> cases ej.new <;> first | rfl | exact ins_comm _ _ _ (by omega)
          · simp only [fu' c2 (by omega)]
            have hd : (decide (lj.op.cls = 5)) = false := by simp [c2]
            rw [hd]
            cases ej.kill <;> cases ei.new <;> cases ej.new <;> simp only [khp] <;> exact ins_comm _ _ _ (by omega)
          · simp only [fk' c2 (by omega) (by omega)]
            cases hu : ej.upd with
            | none => cases ei.new <;> cases ej.new <;> first | rfl | exact ins_comm _ _ _ (by omega)
            | some p =>
              have hp := (uj p hu).2.2
              cases ei.new with
              | none => cases ej.new <;> rfl
              | some bi =>
                cases ej.new with
                | none => exact ins_comm _ _ _ (by omega)
                | some bj =>
                  simp only
                  rw [ins_comm _ _ _ (show S.next + i ≠ S.next + j by omega), ins_comm S.heap p.2 bi (show p.1 ≠ S.next + i by omega)]
          · simp only [fu' c2 (by omega)]
            have hd : (decide (lj.op.cls = 5)) = true := by simp [c2]
            rw [hd]
            cases hk : ej.kill with
            | none => cases ei.new <;> cases ej.new <;> first | rfl | exact ins_comm _ _ _ (by omega)
            | some b =>
              have hsr := hj'.srt c2 hk
              have hb : b ≠ S.next + i := by
                rcases kj b hk with h | h
                · omega
                · exact own hli h1 h.2.2
              cases ei.new with
              | none => cases ej.new <;> rfl
              | some bi =>
                simp only [khp]
                rw [del_ins hb hsr]
                cases ej.new with
                | none => rfl
                | some bj => exact ins_comm _ _ _ (by omega)
        · have e1 := fu' c2 (by omega)
          have e2 := fk' c2 (by omega) (by omega)
          simp only [e1, e2]
          rcases c1 with c1 | c1 | c1
          · simp only [fu c1 (by omega)]
            have hd : (decide (li.op.cls = 5)) = false := by simp [c1]
            rw [hd]
            cases ei.kill <;> cases ei.new <;> cases ej.new <;> simp only [khp] <;> exact ins_comm _ _ _ (by omega)
          · simp only [fk c1 (by omega) (by omega)]
            cases hu : ei.upd with
            | none => cases ei.new <;> cases ej.new <;> first | rfl | exact ins_comm _ _ _ (by omega)
            | some p =>
              have hp := (ui p hu).2.2
              cases ej.new with
              | none => cases ei.new <;> rfl
              | some bj =>
                cases ei.new with
                | none => exact ins_comm _ _ _ (by omega)
                | some bi =>
                  simp only
                  rw [ins_comm _ _ _ (show S.next + j ≠ S.next + i by omega), ins_comm S.heap bj p.2 (show S.next + j ≠ p.1 by omega)]
          · simp only [fu c1 (by omega)]
            have hd : (decide (li.op.cls = 5)) = true := by simp [c1]
            rw [hd]
            cases hk : ei.kill with
            | none => cases ei.new <;> cases ej.new <;> first | rfl | exact ins_comm _ _ _ (by omega)
            | some b =>
              have hsr := hi.srt c1 hk
              have hb : b ≠ S.next + j := by
                rcases ki b hk with h | h
                · omega
                · exact own hlj h3 h.2.2
              cases ej.new with
              | none => cases ei.new <;> rfl
              | some bj =>
                simp only [khp]
                rw [del_ins hb hsr]
                cases ei.new with
                | none => rfl
                | some bi => exact ins_comm _ _ _ (by omega)
        · simp only [fu c1 (by omega), fu' c2 (by omega)]
          have hd : (decide (li.op.cls = 5)) = false := by simp [c1]
          have hd' : (decide (lj.op.cls = 5)) = false := by simp [c2]
          rw [hd, hd']
          cases ei.kill <;> cases ej.kill <;> cases ei.new <;> cases ej.new <;> simp only [khp] <;> exact ins_comm _ _ _ (by omega)
      · cases hki : ei.kill with
        | none => cases ej.kill <;> rfl
        | some b =>
          cases hkj : ej.kill with
          | none => rfl
          | some b' =>
            have hcc : li.op.cls = 3 ∧ lj.op.cls = 3 := by
              rcases ki b hki with h | h <;> rcases kj b' hkj with h' | h' <;> omega
            have hd : (decide (li.op.cls = 5)) = false := by simp [hcc.1]
            have hd' : (decide (lj.op.cls = 5)) = false := by simp [hcc.2]
            rw [hd, hd']
            simp only [kdd]
            exact ins_comm _ _ _ (fun e => nkij b hki (by rw [hkj, e]) hcc.1 hcc.2)
/-- How an operation of a free pair goes: it is skipped, or makes a block at most, or writes one. -/
theorem DEff.swapF (hap : apartL li lj = true) (hcl : clsF li lj = true) (hij : i ≠ j) (hli : ls[i]? = some li) (hlj : ls[j]? = some lj) (hAd : AdOK ls Wr) (hi : DEff P ls Wr S li i ei) (hj : DEff P ls Wr (S.appD li i ei) lj j ej) :
    ∃ ei' ej', DEff P ls Wr S lj j ej' ∧ DEff P ls Wr (S.appD lj j ej') li i ei' ∧ (S.appD li i ei).appD lj j ej = (S.appD lj j ej').appD li i ei' := by
  obtain ⟨h1, h2, h3⟩ := apartL_spec hap
  have hc : (li.op.cls = 1 ∨ li.op.cls = 6 ∨ li.op.cls = 7) ∧ (lj.op.cls = 1 ∨ lj.op.cls = 6 ∨ lj.op.cls = 7) ∧ (li.op.cls = 6 → lj.op.cls = 1 → lj.op.alloc = true) ∧ (lj.op.cls = 6 → li.op.cls = 1 → li.op.alloc = true) ∧ (li.op.cls = 1 → lj.op.cls = 1 → False) := by
    unfold clsF at hcl
    split at hcl <;> first | (cases hcl; done) | (rename_i e1 e2; refine ⟨by omega, by omega, fun _ _ => ?_, fun _ _ => ?_, fun _ _ => ?_⟩ <;> first | exact hcl | omega)
  obtain ⟨ci, cj, al, al', c11⟩ := hc
  have hA : ∀ (U : AS) (l : LOper) (k : Nat) (e : Eff), (l.op.cls = 1 ∨ l.op.cls = 6 ∨ l.op.cls = 7) → U.appD l k e = U.app l.dst (U.next + k) false e := fun U l k e h => by
    have q1 : ¬ l.op.cls = 2 := by omega
    have q2 : ¬ l.op.cls = 5 := by omega
    simp [AS.appD, q1, q2]
  rw [hA S li i ei ci] at hj
  have own : ∀ {l l' : LOper} {k : Nat} {b : Nat}, ls[k]? = some l → (∀ d, l.dst = some d → d ∉ l'.looks) → okId ls S.next l' b → b ≠ S.next + k := fun {l l' k b} hk hlk ho e => by
    rcases ho with ho | ⟨k', lk, d, q1, q2, q3, q4⟩
    · omega
    · have : k' = k := by omega
      subst this
      rw [hk] at q1
      injection q1 with q1; subst q1
      exact hlk d q3 q4
  -- what an effect of these classes looks like
  have shape : ∀ {U : AS} {l : LOper} {k : Nat} {e : Eff}, DEff P ls Wr U l k e → (l.op.cls = 1 ∨ l.op.cls = 6 ∨ l.op.cls = 7) → e.kill = none ∧ (l.op.cls ≠ 1 → e.new = none) ∧ (e.upd = none ∨ (l.op.cls = 6 ∧ gd U.vars l.guard = some true ∧ get U.used (U.next + k) = none ∧ opEff U.heap U.vars (U.next + k) l.op = some e ∧ (∀ b ∈ l.op.rds U.vars, okId ls U.next l b) ∧ (∀ b, get U.dead b = none) ∧ (∀ f, l.op.fp U.vars = some f → get Wr.ad k = some f))) := fun {U l k e} h hc => by
    rcases h with ⟨_, rfl⟩ | ⟨hg, hu, h⟩
    · exact ⟨rfl, fun _ => rfl, .inl rfl⟩
    · rcases h with ⟨q, f, args, v, H, g, first, caps, u, hl, rfl, _⟩ | ⟨hc', he⟩ | ⟨hc', he, _⟩ | ⟨hc', _⟩ | ⟨hc', _⟩ | ⟨hc', he, hids, hdn, hfp⟩
      · rw [hl] at hc; simp [LOp.cls] at hc
      · omega
      · have h1 : l.op.cls = 1 := by omega
        have := (opEff_shape he).2.1 h1
        exact ⟨this.2, fun h => absurd h1 h, .inl this.1⟩
      · omega
      · omega
      · rcases hc' with hc' | hc'
        · have := (opEff_shape he).2.2.2.2.1 hc'
          exact ⟨this.2, fun _ => this.1, .inr ⟨hc', hg, hu, he, hids, hdn, hfp⟩⟩
        · rw [(opEff_shape he).2.2.2.2.2 hc']; exact ⟨rfl, fun _ => rfl, .inl rfl⟩
  obtain ⟨ki, ni, ui⟩ := shape hi ci
  obtain ⟨kj, nj, uj⟩ := shape hj cj
  have usedE : ∀ (U : AS) (d : Option Nat) (id : Nat) (e : Eff), e.kill = none → (U.app d id false e).dead = U.dead := fun U d id e h => by simp [AS.app, h]
  -- the heap behind an operation, at a block that is not its own
  have hheap : ∀ (U : AS) (d : Option Nat) (id b : Nat) (e : Eff), e.kill = none → e.upd = none → b ≠ id → get (U.app d id false e).heap b = get U.heap b := fun U d id b e hk hu hb => by
    have hb' : ¬ id = b := Ne.symm hb
    simp only [AS.app, hk, hu]
    cases e.new <;> simp [get_ins, hb']
  have fin : ∀ {a b : Eff}, a.val = ei.val → b.val = ej.val → a.new = ei.new → b.new = ej.new → a.kill = none → b.kill = none →
      (S.app li.dst (S.next + i) false ei |>.app lj.dst (S.next + j) false ej).heap = (S.app lj.dst (S.next + j) false b |>.app li.dst (S.next + i) false a).heap →
      (S.app li.dst (S.next + i) false ei).app lj.dst (S.next + j) false ej = (S.app lj.dst (S.next + j) false b).app li.dst (S.next + i) false a := fun {a b} e1 e2 e3 e4 e5 e6 hh => by
    refine AS.mk.injEq .. |>.mpr ⟨?_, hh, rfl, ?_, ?_⟩
    · simp only [AS.app, e1, e2]; exact putV_comm h2
    · simp only [AS.app, e3, e4]
      cases ei.new <;> cases ej.new <;> first | rfl | exact ins_comm _ _ _ (by omega)
    · simp only [AS.app, e5, e6, ki, kj]
  rcases ui with ui | ⟨c6i, gi, usi, oi, idi, di, fi⟩
  · rcases uj with uj | ⟨c6j, gj, usj, oj, idj, dj, fj⟩
    · -- neither writes
      have hj' : DEff P ls Wr S lj j ej := by
        refine hj.move (fun s hs => looks_put h1 s hs) rfl (fun h => (used_app _ _ _ _ _ _ (show S.next + j ≠ S.next + i by omega)).1 h) (fun h => by omega) (fun h13 b hb hlt hw => hheap _ _ _ _ _ ki ui (by simp only [AS.app] at hlt; omega)) (fun h => by omega) (fun _ b _ h => by rw [usedE _ _ _ _ ki] at h; exact h) (fun h => by omega) (fun h => by omega) (fun h => by omega) (fun h => by omega) (fun _ b hb ho => hheap _ _ _ _ _ ki ui (own hli h1 ho)) (fun _ h b => by have := h b; rw [usedE _ _ _ _ ki] at this; exact this)
      refine ⟨ei, ej, hj', ?_, ?_⟩
      · rw [hA S lj j ej cj]
        exact hi.move (fun s hs => (looks_put h3 s hs).symm) rfl (fun h => (used_app _ _ _ _ _ _ (show S.next + i ≠ S.next + j by omega)).2 h) (fun h => by omega) (fun h13 b hb hlt hw => (hheap _ _ _ _ _ kj uj (by omega)).symm) (fun h => by omega) (fun _ b _ h => by rw [usedE _ _ _ _ kj]; exact h) (fun h => by omega) (fun h => by omega) (fun h => by omega) (fun h => by omega) (fun _ b hb ho => (hheap _ _ _ _ _ kj uj (own hlj h3 ho)).symm) (fun _ h b => by rw [usedE _ _ _ _ kj]; exact h b)
      · rw [hA S li i ei ci, hA S lj j ej cj, hA _ lj j ej cj, hA _ li i ei ci]
        refine fin rfl rfl rfl rfl ki kj ?_
        simp only [AS.app, ki, kj, ui, uj]
        cases ei.new <;> cases ej.new <;> first | rfl | exact ins_comm _ _ _ (by omega)
    · -- the later one writes
      obtain ⟨n, a, x, hop⟩ := cls6 c6j
      have oj0 := oj
      rw [hop] at oj
      obtain ⟨sz, b, r, c, es, q1, q2, q3, q4, q5, q6, q7, rfl⟩ := storeF_eff.1 oj
      have hev : a.ev S.vars = .ptr sz b r c := by
        rw [← q1]; exact (args_same (l := lj) (fun s hs => looks_put h1 s hs) a (by rw [hop]; simp [LOp.args])).symm
      have hxv : x.ev (S.app li.dst (S.next + i) false ei).vars = x.ev S.vars := args_same (l := lj) (fun s hs => looks_put h1 s hs) x (by rw [hop]; simp [LOp.args])
      have hid : okId ls S.next lj b := idj b (by rw [hop]; simp [LOp.rds, q1, AV.ids])
      have hb0 : get S.heap b = some (.rows sz es) := by rw [← q2]; exact (hheap _ _ _ _ _ ki ui (own hli h1 hid)).symm
      have hfpj : get Wr.ad j = some (b, r, c, n) := fj _ (by rw [hop]; simp [LOp.fp, q1, fpV])
      have gj' : gd S.vars lj.guard = some true := by rw [← gj]; exact (gd_same (l := lj) (fun s hs => looks_put h1 s hs)).symm
      have hj' : DEff P ls Wr S lj j { val := .any, upd := some (b, .rows sz (wrR es r c (x.ev (S.app li.dst (S.next + i) false ei).vars).cells)) } := by
        refine .inr ⟨gj', (used_app _ _ _ _ _ _ (show S.next + j ≠ S.next + i by omega)).1 usj, .inr (.inr (.inr (.inr (.inr ⟨.inl c6j, ?_, ?_, fun b => by have := dj b; rw [usedE _ _ _ _ ki] at this; exact this, fun f hf => ?_⟩))))⟩
        · rw [hop, hxv]
          rw [hxv] at q4 q6
          exact storeF_eff.2 ⟨sz, b, r, c, es, hev, hb0, q3, q4, q5, q6, q7, rfl⟩
        · intro b' hb'
          rw [hop] at hb'; simp [LOp.rds, hev, AV.ids] at hb'; subst hb'; exact hid
        · rw [hop] at hf; simp [LOp.fp, hev, fpV] at hf; subst hf; exact hfpj
      have hni : ei.new = none ∨ li.op.cls = 1 := by
        rcases ci with h | h | h
        · exact .inr h
        · exact .inl (ni (by omega))
        · exact .inl (ni (by omega))
      have hheap2 : ∀ b', b' ≠ b → get (S.app lj.dst (S.next + j) false { val := .any, upd := some (b, .rows sz (wrR es r c (x.ev (S.app li.dst (S.next + i) false ei).vars).cells)) }).heap b' = get S.heap b' := fun b' hb' => by
        have : ¬ b = b' := Ne.symm hb'
        simp [AS.app, get_ins, this]
      refine ⟨ei, _, hj', ?_, ?_⟩
      · rw [hA S lj j _ cj]
        rcases ci with ci | ci | ci
        · exact hi.move (fun s hs => (looks_put h3 s hs).symm) rfl (fun h => (used_app _ _ _ _ _ _ (show S.next + i ≠ S.next + j by omega)).2 h) (fun h => by omega) (fun _ b' hb' => by rw [alloc_rds (al' c6j ci)] at hb'; cases hb') (fun h => by omega) (fun _ b' _ h => by rw [usedE _ _ _ _ rfl]; exact h) (fun h => by omega) (fun h => by omega) (fun h => by omega) (fun h => by omega) (fun h => by omega) (fun h => by omega)
        · -- skipped, for it does not write
          rcases hi with ⟨g1, e1⟩ | ⟨_, _, hi⟩
          · exact .inl ⟨by rw [← g1]; exact (gd_same (l := li) fun s hs => (looks_put h3 s hs).symm).symm, e1⟩
          · exfalso
            rcases hi with ⟨q, f, args, v, H, g, first, caps, u, hl, _, _⟩ | ⟨hc', _⟩ | ⟨hc', _⟩ | ⟨hc', _⟩ | ⟨hc', _⟩ | ⟨_, he, _⟩
            · rw [hl] at ci; simp [LOp.cls] at ci
            · omega
            · omega
            · omega
            · omega
            · obtain ⟨n', a', x', hop'⟩ := cls6 ci
              rw [hop'] at he
              obtain ⟨_, _, _, _, _, _, _, _, _, _, _, _, rfl⟩ := storeF_eff.1 he
              cases ui
        · rcases hi with ⟨g1, e1⟩ | ⟨g1, us1, hi⟩
          · exact .inl ⟨by rw [← g1]; exact (gd_same (l := li) fun s hs => (looks_put h3 s hs).symm).symm, e1⟩
          · rcases hi with ⟨q, f, args, v, H, g, first, caps, u, hl, _, _⟩ | ⟨hc', _⟩ | ⟨hc', _⟩ | ⟨hc', _⟩ | ⟨hc', _⟩ | ⟨_, he, hids, hdn, hfp⟩
            · rw [hl] at ci; simp [LOp.cls] at ci
            · omega
            · omega
            · omega
            · omega
            · obtain ⟨ag, n', a', hop'⟩ := cls7 ci
              have hargs := args_same (l := li) (vs := S.vars) (vs' := putV lj.dst .any S.vars) fun s hs => (looks_put h3 s hs).symm
              refine .inr ⟨by rw [← g1]; exact (gd_same (l := li) fun s hs => (looks_put h3 s hs).symm).symm, (used_app _ _ _ _ _ _ (show S.next + i ≠ S.next + j by omega)).2 us1, .inr (.inr (.inr (.inr (.inr ⟨.inr ci, ?_, ?_, fun b => by rw [usedE _ _ _ _ rfl]; exact hdn b, fun f hf => hfp f (by rw [fp_vars hargs]; exact hf)⟩))))⟩
              · have hae : a'.ev (putV lj.dst .any S.vars) = a'.ev S.vars := (hargs a' (by rw [hop']; simp [LOp.args])).symm
                rw [hop'] at he ⊢
                rcases loadF_eff.1 he with ⟨cs, v, k1, k2, k3⟩ | ⟨sz', b', r', c', es', v, k1, k2, k3, k4, k5, k6⟩
                · exact loadF_eff.2 (.inl ⟨cs, v, by show a'.ev (putV lj.dst .any S.vars) = _; rw [hae]; exact k1, k2, k3⟩)
                · have hfpi : get Wr.ad i = some (b', r', c', n') := hfp _ (by rw [hop']; simp [LOp.fp, k1, fpV])
                  have hapt : apartF (b', r', c', n') (b, r, c, n) = true := by
                    rcases hAd i j _ _ hij hfpi hfpj with h | ⟨l1, l2, g1, g2, g3, g4⟩
                    · exact h
                    · rw [hlj] at g2; injection g2 with g2; subst g2
                      simp [isLd, hop] at g4
                  simp only [apartF, Bool.or_eq_true, Bool.not_eq_true', decide_eq_false_iff_not, decide_eq_true_eq] at hapt
                  by_cases hbb : b' = b
                  · subst hbb
                    rw [hb0] at k2; injection k2 with k2; injection k2 with k2 k2'; subst k2 k2'
                    refine loadF_eff.2 (.inr ⟨sz, b', r', c', wrR es r c (x.ev (S.app li.dst (S.next + i) false ei).vars).cells, v, by show a'.ev (putV lj.dst .any S.vars) = _; rw [hae]; exact k1, by simp [AS.app, get_ins], by rw [wrR_length]; exact k3, k4, ?_, k6⟩)
                    rw [← k5, wrR_getD _ _ _ _ _ q3]
                    refine ldCells_take k4 ?_
                    split
                    · rename_i e; subst e
                      exact setAt_read (by omega) (by omega)
                    · rfl
                  · exact loadF_eff.2 (.inr ⟨sz', b', r', c', es', v, by show a'.ev (putV lj.dst .any S.vars) = _; rw [hae]; exact k1, by rw [hheap2 b' hbb]; exact k2, k3, k4, k5, k6⟩)
              · intro b' hb'
                exact hids b' (by rw [rds_vars hargs]; exact hb')
      · rw [hA S li i ei ci, hA S lj j _ cj, hA _ lj j _ cj, hA _ li i ei ci]
        refine fin rfl rfl rfl rfl ki rfl ?_
        simp only [AS.app, ki, ui]
        cases hn : ei.new with
        | none => rfl
        | some blk => exact ins_comm _ _ _ (own hli h1 hid)
  · obtain ⟨n, a, x, hop⟩ := cls6 c6i
    have oi0 := oi
    rw [hop] at oi
    obtain ⟨sz, b, r, c, es, q1, q2, q3, q4, q5, q6, q7, rfl⟩ := storeF_eff.1 oi
    have hid : okId ls S.next li b := idi b (by rw [hop]; simp [LOp.rds, q1, AV.ids])
    have hfpi : get Wr.ad i = some (b, r, c, n) := fi _ (by rw [hop]; simp [LOp.fp, q1, fpV])
    have gi' : ∀ v, gd (putV lj.dst v S.vars) li.guard = some true := fun v => by rw [← gi]; exact (gd_same (l := li) fun s hs => (looks_put h3 s hs).symm).symm
    have hargi : ∀ v, ∀ y ∈ li.op.args, y.ev (putV lj.dst v S.vars) = y.ev S.vars := fun v y hy => (args_same (l := li) (vs := S.vars) (fun s hs => (looks_put h3 s hs).symm) y hy).symm
    -- the write, done later
    have again : ∀ (T : AS) (es2 : List (List AV)) (v : AV), T.vars = putV lj.dst v S.vars → T.next = S.next → (get S.used (S.next + i) = none → get T.used (S.next + i) = none) → (∀ b, get T.dead b = none) → get T.heap b = some (.rows sz es2) → es2.length = es.length → (es2.getD r []).length = sz →
        DEff P ls Wr T li i { val := .any, upd := some (b, .rows sz (wrR es2 r c (x.ev S.vars).cells)) } := fun T es2 v t1 t2 t3 t4 t5 t6 t7 => by
      refine .inr ⟨by rw [t1]; exact gi' v, by rw [t2]; exact t3 usi, .inr (.inr (.inr (.inr (.inr ⟨.inl c6i, ?_, ?_, t4, fun f hf => ?_⟩))))⟩
      · have hxe : x.ev T.vars = x.ev S.vars := by rw [t1]; exact hargi v x (by rw [hop]; simp [LOp.args])
        rw [hop]
        refine storeF_eff.2 ⟨sz, b, r, c, es2, by rw [t1, hargi v a (by rw [hop]; simp [LOp.args])]; exact q1, t5, by omega, by rw [hxe]; exact q4, q5, by rw [hxe]; exact q6, t7, by rw [hxe]⟩
      · intro b' hb'
        rw [t2]
        have : li.op.rds T.vars = li.op.rds S.vars := by rw [t1]; exact rds_vars (hargi v)
        rw [this] at hb'
        exact idi b' hb'
      · have : li.op.fp T.vars = li.op.fp S.vars := by rw [t1]; exact fp_vars (hargi v)
        rw [this] at hf
        exact fi f hf
    have hheap1 : ∀ b', b' ≠ b → get (S.app li.dst (S.next + i) false { val := .any, upd := some (b, .rows sz (wrR es r c (x.ev S.vars).cells)) }).heap b' = get S.heap b' := fun b' hb' => by
      have : ¬ b = b' := Ne.symm hb'
      simp [AS.app, get_ins, this]
    have hown : get (S.app li.dst (S.next + i) false { val := .any, upd := some (b, .rows sz (wrR es r c (x.ev S.vars).cells)) }).heap b = some (.rows sz (wrR es r c (x.ev S.vars).cells)) := by simp [AS.app, get_ins]
    have hgj : ∀ {bo : Bool}, gd (S.app li.dst (S.next + i) false { val := .any, upd := some (b, .rows sz (wrR es r c (x.ev S.vars).cells)) }).vars lj.guard = some bo → gd S.vars lj.guard = some bo := fun {bo} h => by
      rw [← h]; exact (gd_same (l := lj) fun s hs => looks_put h1 s hs).symm
    have hargj : ∀ y ∈ lj.op.args, y.ev (putV li.dst .any S.vars) = y.ev S.vars := args_same (l := lj) fun s hs => looks_put h1 s hs
    rcases uj with uj | ⟨c6j, gj, usj, oj, idj, dj, fj⟩
    · -- the later one does not write
      have hj' : DEff P ls Wr S lj j ej := by
        rcases cj with cj | cj | cj
        · exact hj.move (fun s hs => looks_put h1 s hs) rfl (fun h => (used_app _ _ _ _ _ _ (show S.next + j ≠ S.next + i by omega)).1 h) (fun h => by omega) (fun _ b' hb' => by rw [alloc_rds (al c6i cj)] at hb'; cases hb') (fun h => by omega) (fun _ b' _ h => by rw [usedE _ _ _ _ rfl] at h; exact h) (fun h => by omega) (fun h => by omega) (fun h => by omega) (fun h => by omega) (fun h => by omega) (fun h => by omega)
        · rcases hj with ⟨g1, e1⟩ | ⟨_, _, hj⟩
          · exact .inl ⟨hgj g1, e1⟩
          · exfalso
            rcases hj with ⟨q, f, args, v, H, g, first, caps, u, hl, _, _⟩ | ⟨hc', _⟩ | ⟨hc', _⟩ | ⟨hc', _⟩ | ⟨hc', _⟩ | ⟨_, he, _⟩
            · rw [hl] at cj; simp [LOp.cls] at cj
            · omega
            · omega
            · omega
            · omega
            · obtain ⟨n', a', x', hop'⟩ := cls6 cj
              rw [hop'] at he
              obtain ⟨_, _, _, _, _, _, _, _, _, _, _, _, rfl⟩ := storeF_eff.1 he
              cases uj
        · rcases hj with ⟨g1, e1⟩ | ⟨g1, us1, hj⟩
          · exact .inl ⟨hgj g1, e1⟩
          · rcases hj with ⟨q, f, args, v, H, g, first, caps, u, hl, _, _⟩ | ⟨hc', _⟩ | ⟨hc', _⟩ | ⟨hc', _⟩ | ⟨hc', _⟩ | ⟨_, he, hids, hdn, hfp⟩
            · rw [hl] at cj; simp [LOp.cls] at cj
            · omega
            · omega
            · omega
            · omega
            · obtain ⟨ag, n', a', hop'⟩ := cls7 cj
              refine .inr ⟨hgj g1, (used_app _ _ _ _ _ _ (show S.next + j ≠ S.next + i by omega)).1 us1, .inr (.inr (.inr (.inr (.inr ⟨.inr cj, ?_, ?_, di, fun f hf => hfp f (by rw [← hf]; exact fp_vars hargj)⟩))))⟩
              · have hae : a'.ev (putV li.dst .any S.vars) = a'.ev S.vars := hargj a' (by rw [hop']; simp [LOp.args])
                rw [hop'] at he ⊢
                rcases loadF_eff.1 he with ⟨cs, v, k1, k2, k3⟩ | ⟨sz', b', r', c', es', v, k1, k2, k3, k4, k5, k6⟩
                · exact loadF_eff.2 (.inl ⟨cs, v, by rw [← hae]; exact k1, k2, k3⟩)
                · have hfpj : get Wr.ad j = some (b', r', c', n') := hfp _ (by rw [hop']; simp [LOp.fp, k1, fpV])
                  have hapt : apartF (b', r', c', n') (b, r, c, n) = true := by
                    rcases hAd j i _ _ (Ne.symm hij) hfpj hfpi with h | ⟨l1, l2, g1, g2, g3, g4⟩
                    · exact h
                    · rw [hli] at g2; injection g2 with g2; subst g2
                      simp [isLd, hop] at g4
                  simp only [apartF, Bool.or_eq_true, Bool.not_eq_true', decide_eq_false_iff_not, decide_eq_true_eq] at hapt
                  by_cases hbb : b' = b
                  · subst hbb
                    rw [hown] at k2; injection k2 with k2; injection k2 with k2 k2'; subst k2 k2'
                    refine loadF_eff.2 (.inr ⟨sz, b', r', c', es, v, by rw [← hae]; exact k1, q2, by rw [wrR_length] at k3; exact k3, k4, ?_, k6⟩)
                    rw [← k5, wrR_getD _ _ _ _ _ q3]
                    refine ldCells_take k4 ?_
                    split
                    · rename_i e; subst e
                      exact (setAt_read (by omega) (by omega)).symm
                    · rfl
                  · exact loadF_eff.2 (.inr ⟨sz', b', r', c', es', v, by rw [← hae]; exact k1, by rw [← hheap1 b' hbb]; exact k2, k3, k4, k5, k6⟩)
              · intro b' hb'
                exact hids b' (by rw [← rds_vars (vs := (S.app li.dst (S.next + i) false { val := .any, upd := some (b, .rows sz (wrR es r c (x.ev S.vars).cells)) }).vars) hargj] at hb'; exact hb')
      refine ⟨_, ej, hj', by rw [hA S lj j ej cj]; exact again _ es ej.val rfl rfl (fun h => (used_app _ _ _ _ _ _ (show S.next + i ≠ S.next + j by omega)).2 h) (fun b => by rw [usedE _ _ _ _ kj]; exact di b) (by rw [hheap _ _ _ _ _ kj uj (own hlj h3 hid)]; exact q2) rfl q7, ?_⟩
      rw [hA S li i _ ci, hA S lj j ej cj, hA _ lj j ej cj, hA _ li i _ ci]
      refine fin rfl rfl rfl rfl rfl kj ?_
      simp only [AS.app, kj, uj]
      cases hn : ej.new with
      | none => rfl
      | some blk => exact ins_comm _ _ _ (own hlj h3 hid).symm
    · -- both write
      obtain ⟨n', a', x', hop'⟩ := cls6 c6j
      rw [hop'] at oj
      obtain ⟨sz', b', r', c', es', p1, p2, p3, p4, p5, p6, p7, rfl⟩ := storeF_eff.1 oj
      have hxj : x'.ev (putV li.dst .any S.vars) = x'.ev S.vars := hargj x' (by rw [hop']; simp [LOp.args])
      have haj : a'.ev (putV li.dst .any S.vars) = a'.ev S.vars := hargj a' (by rw [hop']; simp [LOp.args])
      have hxj' : x'.ev (S.app li.dst (S.next + i) false { val := .any, upd := some (b, .rows sz (wrR es r c (x.ev S.vars).cells)) }).vars = x'.ev S.vars := hxj
      have haj' : a'.ev S.vars = .ptr sz' b' r' c' := by rw [← haj]; exact p1
      rw [hxj'] at p4 p6
      have hidj : okId ls S.next lj b' := idj b' (by rw [hop']; simp [LOp.rds, p1, AV.ids])
      have hfpj : get Wr.ad j = some (b', r', c', n') := fj _ (by rw [hop']; simp [LOp.fp, p1, fpV])
      have hapt : apartF (b, r, c, n) (b', r', c', n') = true := by
        rcases hAd i j _ _ hij hfpi hfpj with h | ⟨l1, l2, g1, g2, g3, g4⟩
        · exact h
        · rw [hli] at g1; injection g1 with g1; subst g1
          simp [isLd, hop] at g3
      simp only [apartF, Bool.or_eq_true, Bool.not_eq_true', decide_eq_false_iff_not, decide_eq_true_eq] at hapt
      have first : ∀ es0 : List (List AV), get S.heap b' = some (.rows sz' es0) → r' < es0.length → (es0.getD r' []).length = sz' → DEff P ls Wr S lj j { val := .any, upd := some (b', .rows sz' (wrR es0 r' c' (x'.ev S.vars).cells)) } := fun es0 z1 z2 z3 => by
        refine .inr ⟨hgj gj, (used_app _ _ _ _ _ _ (show S.next + j ≠ S.next + i by omega)).1 usj, .inr (.inr (.inr (.inr (.inr ⟨.inl c6j, ?_, ?_, di, fun f hf => fj f (by rw [← hf]; exact fp_vars hargj)⟩))))⟩
        · rw [hop']
          exact storeF_eff.2 ⟨sz', b', r', c', es0, haj', z1, z2, p4, p5, p6, z3, rfl⟩
        · intro b2 hb2
          rw [hop'] at hb2; simp [LOp.rds, haj', AV.ids] at hb2; subst hb2; exact hidj
      by_cases hbb : b' = b
      · subst hbb
        rw [hown] at p2; injection p2 with p2; injection p2 with p2 p2'; subst p2 p2'
        rw [wrR_length] at p3
        have hl1 : (es.getD r' []).length = sz := by
          rw [wrR_getD _ _ _ _ _ q3] at p7
          by_cases hr : r = r'
          · subst hr; exact q7
          · rw [if_neg hr] at p7; exact p7
        have hj' := first es q2 p3 hl1
        refine ⟨_, _, hj', by
          rw [hA S lj j _ cj]
          refine again _ (wrR es r' c' (x'.ev S.vars).cells) .any rfl rfl (fun h => (used_app _ _ _ _ _ _ (show S.next + i ≠ S.next + j by omega)).2 h) (fun b => by rw [usedE _ _ _ _ rfl]; exact di b) (by simp [AS.app, get_ins]) (wrR_length _ _ _ _) ?_
          rw [wrR_getD _ _ _ _ _ p3]
          split
          · rename_i e; subst e; rw [setAt_len (by omega)]; exact q7
          · exact q7, ?_⟩
        rw [hA S li i _ ci, hA S lj j _ cj, hA _ lj j _ cj, hA _ li i _ ci]
        refine fin (a := { val := .any, upd := some (b', .rows sz (wrR (wrR es r' c' (x'.ev S.vars).cells) r c (x.ev S.vars).cells)) }) (b := { val := .any, upd := some (b', .rows sz (wrR es r' c' (x'.ev S.vars).cells)) }) rfl rfl rfl rfl rfl rfl ?_
        rw [hxj']
        simp only [AS.app]
        rw [ins_insA, ins_insA, wrR_comm q3 p3 (by omega) (by omega) (by omega)]
      · have hb0 : get S.heap b' = some (.rows sz' es') := by rw [← p2]; exact (hheap1 b' hbb).symm
        have hj' := first es' hb0 p3 p7
        refine ⟨_, _, hj', by
          rw [hA S lj j _ cj]
          refine again _ es .any rfl rfl (fun h => (used_app _ _ _ _ _ _ (show S.next + i ≠ S.next + j by omega)).2 h) (fun b => by rw [usedE _ _ _ _ rfl]; exact di b) ?_ rfl q7
          simp only [AS.app]
          rw [get_ins, if_neg hbb]; exact q2, ?_⟩
        rw [hA S li i _ ci, hA S lj j _ cj, hA _ lj j _ cj, hA _ li i _ ci]
        refine fin (b := { val := .any, upd := some (b', .rows sz' (wrR es' r' c' (x'.ev S.vars).cells)) }) rfl rfl rfl rfl rfl rfl ?_
        rw [hxj']
        simp only [AS.app]
        exact ins_comm _ _ _ hbb

theorem DEff.swapX (hap : apartL li lj = true) (hcl : clsOK li lj = true) (hij : i ≠ j) (hli : ls[i]? = some li) (hlj : ls[j]? = some lj) (hAd : AdOK ls Wr) (hi : DEff P ls Wr S li i ei) (hj : DEff P ls Wr (S.appD li i ei) lj j ej) :
    ∃ ei' ej', DEff P ls Wr S lj j ej' ∧ DEff P ls Wr (S.appD lj j ej') li i ei' ∧ (S.appD li i ei).appD lj j ej = (S.appD lj j ej').appD li i ei' := by
  simp only [clsOK, Bool.or_eq_true] at hcl
  rcases hcl with hcl | hcl
  · exact ⟨ei, ej, hi.swap hap hcl hij hli hlj hj⟩
  · exact hi.swapF hap hcl hij hli hlj hAd hj
end
end
end Go.AM
