/- Literals as trees, made slices, stores, appends: their runs, and what becomes of the state. -/
import Derived.Test.YteiapnjcelnfdaaAM8
set_option linter.unusedSimpArgs false
set_option linter.unusedVariables false
namespace Go.AM

section
variable {P : Program} {X : Ctx} {φ : Nat → Option (Nat × Nat)} {I : Nat → Prop} {S : AS} {nt : Nat} {a : Act} {w : World} {o : Oper} {dst : Option Nat} {id : Nat} {hard : Bool}

/-- A new block of which nobody has charge: it stays as it is. -/
theorem RelH.tree {h : Array Obj} (R : RelH X φ I S h) (ob : Obj) (vs : Vars) : RelH X φ (fun c => I c ∨ c = h.size) { S with vars := vs } (h.push ob) ∧ Ext h φ I S.A (h.push ob) φ (fun c => I c ∨ c = h.size) S.A := by
  have E0 : Ext h φ I S.A (h.push ob) φ I S.A := Ext.grown push_get (fun _ _ => rfl) (fun _ h => h)
  have E : Ext h φ I S.A (h.push ob) φ (fun c => I c ∨ c = h.size) S.A := ⟨E0.cells, E0.sizes, E0.agree, fun c h1 => .inl h1, E0.inA⟩
  refine ⟨⟨fun b blk h1 => ?_, fun b blk c o h1 h2 => ?_, R.inj, fun c hc => ?_, fun c hc => ?_, fun c hc => .inl (R.isup c hc), fun c h1 h2 => ?_, ?_, fun c s h1 => E.sizes c s (R.sizes c s h1), R.agree, R.n0⟩, E⟩
  · obtain ⟨h2, h3⟩ := R.heap _ _ h1
    exact ⟨h2, relB_same E h2 (fun c o h4 => push_get c (R.live _ _ _ _ h1 h4).1) h3⟩
  · obtain ⟨h3, h4, h5⟩ := R.live _ _ _ _ h1 h2
    refine ⟨by simp; omega, fun h6 => ?_, h5⟩
    rcases h6 with h6 | h6
    · exact h4 h6
    · omega
  · rcases hc with hc | hc
    · have := R.idom c hc; simp; omega
    · simp [hc]
  · rcases hc with hc | hc
    · exact R.isub c hc
    · exact .inr (.inr (by have := R.size; omega))
  · rw [push_get c (by have := R.size; omega)]; exact R.frame c h1 h2
  · have := R.size; simp; omega

theorem rep_scalar {zero : List AV} (H : zero.all AV.scalar = true) (n : Nat) : (List.replicate n zero).flatten.all AV.scalar = true := by
  simp only [List.all_eq_true] at H ⊢
  intro v hv
  obtain ⟨e, h1, h2⟩ := List.mem_flatten.1 hv
  rw [(List.mem_replicate.1 h1).2] at h2
  exact H v h2

theorem stepOK_btsl (R : RelH X φ I S w.heap) (RA : RelA φ I S nt a w.heap) (hd : ∀ d, dst = some d → d < nt) {t el : TypeId} {len sz : Nat} {zv : Value} {zero : List AV} {ps : Array (Nat × Operand)} {qs : List (Nat × Nat × AV)} {r : List AV}
    (ho : o.op = .buildSlice t len ps) (hu : P.underlying t = some (.slice el)) (hs : szOf P el = some sz) (hz : zeroOf P el = some zv)
    (hok : okCs zv.cells.toList zero = true) (hzsc : zero.all AV.scalar = true) (hzs : zv.cells.size = sz) (hsz : sz ≠ 0) (hle : len * sz ≤ 2 ^ 24) (hps : relP w.heap φ I S.A (fun i => some (i * sz, sz)) (ps.toList.map fun p => (p.1, a.eval p.2)) qs)
    (hf : fillL (List.replicate len zero).flatten qs = some r) : StepOK P X S nt a w o dst id hard { val := .tsl sz (chunks sz len r) } := by
  obtain ⟨us, h1, h2, h3⟩ := run_bsl (P := P) (len := len) hu hs hz hok hzs hsz hle hps hf
  obtain ⟨R', E⟩ := R.tree (.cells us.toArray el) (putV dst (.tsl sz (chunks sz len r)) S.vars)
  refine ⟨φ, fun c => I c ∨ c = w.heap.size, .slice (some ⟨w.heap.size, 0, none⟩) len len, { w with heap := w.heap.push (.cells us.toArray el) }, .inl ?_, R', ?_, ⟨rfl, rfl, rfl⟩⟩
  · simp only [execOp, ho]
    rw [show (Array.map (fun x : Nat × Operand => match x with | (i, x) => (i, a.eval x)) ps) = (ps.toList.map fun p => (p.1, a.eval p.2)).toArray by apply Array.ext'; simp]
    exact run_vS h1
  · refine RA.app (e := { val := .tsl sz (chunks sz len r) }) E hd ?_
    simp only [relV, chunks_length]
    refine ⟨_, _, rfl, Nat.le_refl _, .inr ⟨w.heap.size, 0, rfl, .inr rfl, relR_chunks len r _ 0 h3 (relM_push 0 (relL_mono E _ _ h2) (relL_scalars (fillL_scalar _ _ _ (rep_scalar hzsc len) hf) h2) (by simp))⟩⟩

theorem stepOK_bsl (R : RelH X φ I S w.heap) (RA : RelA φ I S nt a w.heap) (hd : ∀ d, dst = some d → d < nt) (hid : ¬ S.A id) {t el : TypeId} {len sz : Nat} {zv : Value} {zero : List AV} {ps : Array (Nat × Operand)} {qs : List (Nat × Nat × AV)} {r : List AV}
    (ho : o.op = .buildSlice t len ps) (hu : P.underlying t = some (.slice el)) (hs : szOf P el = some sz) (hz : zeroOf P el = some zv)
    (hok : okCs zv.cells.toList zero = true) (hzsc : zero.all AV.scalar = true) (hzs : zv.cells.size = sz) (hsz : sz ≠ 0) (hle : len * sz ≤ 2 ^ 24) (hps : relP w.heap φ I S.A (fun i => some (i * sz, sz)) (ps.toList.map fun p => (p.1, a.eval p.2)) qs)
    (hf : fillL (List.replicate len zero).flatten qs = some r) : StepOK P X S nt a w o dst id hard { val := .sl sz id 0 len, new := some (.rows sz (chunks sz len r)) } := by
  obtain ⟨us, h1, h2, h3⟩ := run_bsl (P := P) (len := len) hu hs hz hok hzs hsz hle hps hf
  have hul := relL_length h2
  refine stepOK_new R RA hd hid (cv := .slice (some ⟨w.heap.size, 0, none⟩) len len) (ob := .cells us.toArray el) (w' := { w with heap := w.heap.push (.cells us.toArray el) }) ?_ rfl ⟨rfl, rfl, rfl⟩ (fun A' hA E => relB_push_rows ?_) (fun A' hA E => relV_push_sl hA (Nat.le_refl _) (by simp; omega))
  · simp only [execOp, ho]
    rw [show (Array.map (fun x : Nat × Operand => match x with | (i, x) => (i, a.eval x)) ps) = (ps.toList.map fun p => (p.1, a.eval p.2)).toArray by apply Array.ext'; simp]
    exact run_vS h1
  · exact relR_chunks len r _ 0 h3 (relM_push 0 (relL_mono E _ _ h2) (relL_scalars (fillL_scalar _ _ _ (rep_scalar hzsc len) hf) h2) (by simp))

theorem y_build {t : TypeId} {zv : Value} {zero : List AV} {place : Nat → Option (Nat × Nat)} {ps : List (Nat × Value)} {qs : List (Nat × Nat × AV)} {r : List AV} {h : Array Obj} {A : Nat → Prop}
    (hz : zeroOf P t = some zv) (hok : okCs zv.cells.toList zero = true)
    (hplace : (∃ fs, P.underlying t = some (.struct fs) ∧ ∃ pl : Array (Nat × Nat), (fs.mapM fun f => do pure (f.offset, ← sizeOf f.type) : Sem (Array (Nat × Nat))).run P w = .ok pl w ∧ place = fun i => pl[i]?) ∨
      ∃ len el sz, P.underlying t = some (.array len el) ∧ szOf P el = some sz ∧ place = fun i => some (i * sz, sz))
    (hps : relP h φ I A place ps qs) (hf : fillL zero qs = some r) : Yields P (Instr.build t ps.toArray) h φ I A (.agg r) w := by
  obtain ⟨us, h1, h2, h3⟩ := fill_rel ps qs zero r zv.cells.toList hps (okCs_rel _ _ hok) hf
  simp only [Array.toArray_toList] at h1
  refine ⟨.agg us.toArray, w, ?_, rfl, by simp only [relV]; exact ⟨us, rfl, h2⟩⟩
  unfold Instr.build
  rw [Sem.run_bind, run_zeroOf hz]
  simp only [Result.andThen_ok, Sem.run_bind]
  rcases hplace with ⟨fs, hu, pl, h4, rfl⟩ | ⟨len, el, sz, hu, h4, rfl⟩
  · rw [run_underlying hu]
    simp only [Result.andThen_ok, Sem.run_bind, h4, h1, Sem.run_pure]
  · rw [run_underlying hu]
    simp only [Result.andThen_ok, Sem.run_bind]
    rw [run_szOf h4]
    simp only [Result.andThen_ok, h1, Sem.run_pure]

theorem stepOK_own (R : RelH X φ I S w.heap) (RA : RelA φ I S nt a w.heap) (hd : ∀ d, dst = some d → d < nt) (hid : ¬ S.A id) {sz : Nat} (ho : execOp a.eval o = pure (.value (.slice none 0 0))) :
    StepOK P X S nt a w o dst id hard { val := .sl sz id 0 0, new := some (.rows sz []) } := by
  have E : Ext w.heap φ I S.A w.heap (upφ φ id none) I (AS.mk S.vars S.heap S.next (ins id () S.used) S.dead).A := Ext.grown (fun _ _ => rfl) (upφ_agree hid) (fun b h1 => (A_used b).2 (.inr h1))
  have RN := R.new hid (p := none) (blk := .rows sz []) (h' := w.heap) (putV dst (.sl sz id 0 0) S.vars) (Nat.le_refl _) (fun _ _ => rfl) (fun c o h1 => by cases h1) (by simp [relB, upφ])
  refine ⟨upφ φ id none, I, .slice none 0 0, w, .inl (by rw [ho]; rfl), RN, RA.app (e := { val := .sl sz id 0 0, new := some (.rows sz []) }) E hd ?_, Keep.refl _⟩
  simp only [relV]
  exact ⟨(A_used id).2 (.inl rfl), none, 0, rfl, .inl (by simp)⟩

theorem wrap_id {n : Int} (h0 : 0 ≤ n) (h1 : n ≤ 9223372036854775807) : IntKind.i64.wrap n = n := by
  have e : n % (2 ^ 64 : Int) = n := Int.emod_eq_of_lt h0 (by omega)
  simp only [IntKind.wrap, IntKind.bits, IntKind.signed, e]
  rw [if_neg (by simp; omega)]

theorem relR_rep {h : Array Obj} {A : Nat → Prop} {zero : List AV} : ∀ (n : Nat) (c o : Nat), relM h φ I A (List.replicate n zero).flatten c o → relR h φ I A zero.length (List.replicate n zero) c o
  | 0, _, _, _ => by simp [relR]
  | n + 1, c, o, H => by
    simp only [List.replicate_succ, List.flatten_cons, relM_append] at H
    simp only [List.replicate_succ, relR]
    exact ⟨trivial, H.1, relR_rep n c _ H.2⟩

theorem stepOK_mksl (R : RelH X φ I S w.heap) (RA : RelA φ I S nt a w.heap) (hd : ∀ d, dst = some d → d < nt) (hid : ¬ S.A id) {t el : TypeId} {sz bytes : Nat} {zv : Value} {zero : List AV} {ol oc : Operand} {l c : Int} {k k' : IntKind}
    (ho : o.op = .makeSlice t ol oc) (hu : P.underlying t = some (.slice el)) (hs : szOf P el = some sz) (hz : zeroOf P el = some zv) (hb : (P.info? el).map (·.bytes) = some bytes) (hb0 : bytes ≠ 0)
    (hok : okCs zv.cells.toList zero = true) (hzsc : zero.all AV.scalar = true) (hzs : zv.cells.size = sz) (hsz : sz ≠ 0) (hl : a.eval ol = .int k l) (hc : a.eval oc = .int k' c) (h0 : 0 ≤ l) (h1 : l ≤ c) (h2 : c * bytes ≤ 17592186044416) :
    StepOK P X S nt a w o dst id hard { val := .sl sz id 0 l.toNat, new := some (.rows sz (List.replicate l.toNat zero)) } := by
  have hzL : ∀ {h A φ I}, relL h φ I A zero zv.cells.toList := okCs_rel _ _ hok
  have hzl : zero.length = sz := by have := relL_length (hzL (h := w.heap) (A := S.A) (φ := φ) (I := I)); simp only [Array.length_toList] at this; omega
  have hcb : c ≤ c * bytes := by
    have h3 : (1 : Int) ≤ bytes := by omega
    have := Int.mul_le_mul_of_nonneg_left h3 (show 0 ≤ c by omega)
    omega
  have hwl := wrap_id h0 (by omega)
  have hwc := wrap_id (show 0 ≤ c by omega) (by omega)
  have hlb : (bytes : Int) * c ≤ 17592186044416 := by rw [Int.mul_comm]; exact h2
  let cs : Array Value := (Array.range (c.toNat * sz)).map fun i => zv.cells[i % zv.cells.size]!
  have hcs : cs.toList = (List.replicate c.toNat zv.cells.toList).flatten := zeros_eq zv.cells sz hzs hsz c.toNat
  have hcsz : cs.size = c.toNat * sz := by simp [cs]
  refine stepOK_new R RA hd hid (cv := .slice (some ⟨w.heap.size, 0, none⟩) l.toNat c.toNat) (ob := .cells cs el) (w' := { w with heap := w.heap.push (.cells cs el) }) ?_ rfl ⟨rfl, rfl, rfl⟩ (fun A' hA E => relB_push_rows ?_) (fun A' hA E => relV_push_sl hA (by omega) (by omega))
  · cases hi : P.info? el with
    | none => simp [hi] at hb
    | some i =>
      simp [hi] at hb
      simp only [execOp, ho, hl, hc]
      refine run_vS ?_
      unfold Instr.makeSlice
      rw [Sem.run_bind, run_underlying hu]
      simp only [Result.andThen_ok, Sem.run_bind, asInt, asIntOf, Sem.run_pure, typeInfo, run_program, hi, hb, hwl, hwc]
      rw [if_neg (by simp; omega)]
      simp only [Sem.run_bind, run_askRoom, Result.andThen_ok]
      rw [run_szOf hs]
      simp only [Result.andThen_ok]
      by_cases h3 : c.toNat * sz = 0
      · have h4 : c.toNat = 0 := by
          rcases Nat.mul_eq_zero.1 h3 with h | h
          · exact h
          · exact absurd h hsz
        have e0 : ∀ f : Nat → Value, Array.map f (Array.range 0) = #[] := fun f => by apply Array.ext'; simp
        simp [h4, newRow, cs, e0]
      · rw [if_neg h3]
        simp only [Sem.run_bind]
        rw [run_zeroOf hz]
        simp [newRow, cs]
  · have h3 : c.toNat = l.toNat + (c.toNat - l.toNat) := by omega
    have h4 := hcs
    rw [h3, ← List.replicate_append_replicate, List.flatten_append] at h4
    rw [← hzl]
    refine relR_rep _ _ _ (relM_push 0 (relL_rep hzL l.toNat) (relL_scalars (rep_scalar hzsc _) (relL_rep (hzL (h := w.heap) (φ := φ) (I := I) (A := S.A)) l.toNat)) fun i hi => ?_)
    rw [← Array.getElem?_toList, h4, List.getElem?_append_left (by simpa using hi)]
    simp

/-- A store. -/
theorem stepOK_store (R : RelH X φ I S w.heap) (RA : RelA φ I S nt a w.heap) (hd : ∀ d, dst = some d → d < nt) (hdead : ∀ b', get S.dead b' = none) {t : TypeId} {n sz b i j : Nat} {oa ox : Operand} {x : AV} {es : List (List AV)}
    (ho : o.op = .store t oa ox) (hs : szOf P t = some n) (ha : relV w.heap φ I S.A (.ptr sz b i j) (a.eval oa)) (hx : relV w.heap φ I S.A x (a.eval ox)) (hb : get S.heap b = some (.rows sz es)) (hi : i < es.length)
    (hl : x.cells.length = n) (hn : n ≠ 0) (hj : j + n ≤ sz) (hsc : x.cells.all AV.scalar = true) : StepOK P X S nt a w o dst id hard { val := .any, upd := some (b, .rows sz (es.set i (setAt (es.getD i []) j x.cells))) } := by
  have hk : x.known = true := by cases x <;> first | rfl | (simp [AV.cells, AV.scalar] at hsc)
  simp only [relV] at ha
  obtain ⟨hA, c, oo, hφ, he⟩ := ha
  obtain ⟨hA', hB⟩ := R.heap _ _ hb
  simp only [relB] at hB
  rcases hB with ⟨h1, _⟩ | ⟨c', o', cs, el, h1, h2, h3⟩
  · rw [hφ] at h1; cases h1
  rw [hφ] at h1; injection h1 with h1; injection h1 with h4 h5; subst h4 h5
  have hcells := relV_cells hk hx
  have hcl : (a.eval ox).cells.toList.length = n := by rw [relL_length hcells, hl]
  have hrow := relR_get h3 hi
  -- the row's cells are within the block
  have hin : oo + i * sz + j + n ≤ cs.size := by
    have hall := relR_flat h3
    have hlen := hall.2
    have key : ∀ q, q < es.length * sz → oo + q < cs.size := fun q hq => by
      obtain ⟨vs, k1, k2, _⟩ := relM_vals hall.1
      have k3 := k2 q (by omega)
      have k4 : q < vs.length := by rw [relL_length k1]; omega
      rw [List.getElem?_eq_getElem k4] at k3
      simp only [hcell, h2] at k3
      rcases Nat.lt_or_ge (oo + q) cs.size with k5 | k5
      · exact k5
      · simp [Array.getElem?_eq_none k5] at k3
    have k6 : i * sz + sz ≤ es.length * sz := by
      have := Nat.mul_le_mul_right sz (show i + 1 ≤ es.length by omega)
      rw [Nat.add_mul] at this; omega
    have := key (i * sz + j + n - 1) (by omega)
    omega
  obtain ⟨h', hr, W⟩ := run_storeCells P c (oo + i * sz + j) (a.eval ox).cells.toList 0 w cs el h2 (by rw [hcl]; omega) (relL_scalars hsc hcells)
  have hWs := W.hsize h2
  have hes : (es.set i (setAt (es.getD i []) j x.cells)) = es.take i ++ (setAt (es.getD i []) j x.cells) :: es.drop (i + 1) := by
    rw [List.set_eq_take_append_cons_drop, if_pos hi]
  have he0 : es = es.take i ++ (es.getD i []) :: es.drop (i + 1) := by
    conv => lhs; rw [← List.take_append_drop i es]
    rw [List.drop_eq_getElem_cons hi]
    simp [List.getD_eq_getElem?_getD, hi]
  obtain ⟨R', E⟩ := R.wrote (blk' := .rows sz (es.set i (setAt (es.getD i []) j x.cells))) (h' := h') (putV dst .any S.vars) hb hφ hdead W.size W.other (fun c' s h6 => by rw [hWs]; exact h6) (fun E => by
    obtain ⟨cs', k1, k2⟩ := W.here _ _ h2
    simp only [relB]
    refine .inr ⟨c, oo, cs', el, hφ, k1, ?_⟩
    have hcc : ∀ o' v, ¬ (oo + i * sz + j ≤ o' ∧ o' < oo + i * sz + j + n) → hcell w.heap c o' = some v → hcell h' c o' = some v := fun o' v k3 k4 => by
      rw [W.cell, hcl, Nat.add_zero, if_neg k3]; exact k4
    have hle : (es.take i).length = i := by simp; omega
    have hrl := hrow.1
    rw [he0] at h3
    rw [relR_append] at h3
    simp only [relR, hle] at h3
    obtain ⟨k5, k6, k7, k8⟩ := h3
    rw [hes, relR_append]
    simp only [relR, hle]
    refine ⟨relR_congr E (fun o' v k9 k10 => hcc o' v (by rw [hle] at k10; omega)) k5, ?_, ?_, relR_congr E (fun o' v k9 k10 => hcc o' v (by omega)) k8⟩
    · rw [setAt_length (by omega), hrl]
    · unfold setAt
      rw [relM_append, relM_append]
      have k11 : ((es.getD i []).take j).length = j := by simp only [List.length_take]; omega
      rw [k11, hl]
      refine ⟨relM_congr E (fun o' v k9 k10 => hcc o' v (by omega)) (relM_take j k7), ?_, ?_⟩
      · refine relM_of_vals (relL_mono E _ _ hcells) (relL_scalars hsc hcells) fun q hq => ?_
        rw [W.cell, Nat.add_zero, hcl, if_pos (by omega), if_pos (by simp [hcell, h2, show oo + i * sz + j + q < cs.size by omega])]
        congr 1; omega
      · have := relM_drop (j + n) k7
        refine relM_congr E (fun o' v k9 k10 => hcc o' v (by omega)) ?_
        rw [show oo + i * sz + j + n = oo + i * sz + (j + n) by omega]
        exact this)
  refine ⟨φ, I, undef, { w with heap := h' }, .inr ⟨?_, rfl⟩, R', RA.app (e := { val := .any, upd := some (b, .rows sz (es.set i (setAt (es.getD i []) j x.cells))) }) E hd (by simp [relV]), ⟨rfl, rfl, rfl⟩⟩
  simp only [execOp, ho, he, Instr.storeAt, Instr.sureAddr, Sem.run_bind, Sem.run_pure, Result.andThen_ok, storeVar]
  rw [run_szOf hs]
  have hcl' : (a.eval ox).cells.size = n := by simpa using hcl
  simp only [Result.andThen_ok, hcl', ne_eq, not_true_eq_false, if_false]
  simp only [Sem.run_bind, hr, Result.andThen_ok, Sem.run_pure]
end
end Go.AM
