/- The operations that make blocks: their runs, and what becomes of the state. -/
import Derived.Test.YteiapnjcelnfdaaAM7
set_option linter.unusedSimpArgs false
set_option linter.unusedVariables false
namespace Go.AM

def StepOK (P : Program) (X : Ctx) (S : AS) (nt : Nat) (a : Act) (w : World) (o : Oper) (dst : Option Nat) (id : Nat) (hard : Bool) (e : Eff) : Prop :=
  ∃ φ' I' cv w', ((execOp a.eval o).run P w = .ok (.value cv) w' ∨ ((execOp a.eval o).run P w = .ok .skip w' ∧ cv = undef)) ∧
    RelH X φ' I' (S.app dst id hard e) w'.heap ∧ RelA φ' I' (S.app dst id hard e) nt (a.put dst cv) w'.heap ∧ Keep w w'

section
variable {P : Program} {X : Ctx} {φ : Nat → Option (Nat × Nat)} {I : Nat → Prop} {S : AS} {nt : Nat} {a : Act} {w : World} {o : Oper} {dst : Option Nat} {id : Nat} {hard : Bool}

theorem run_vS {s : Sem Value} {v : Value} {w' : World} (H : s.run P w = .ok v w') : (vS s).run P w = .ok (.value v) w' := by
  unfold vS; rw [Sem.run_bind, H]; rfl

theorem stepOK_val (R : RelH X φ I S w.heap) (RA : RelA φ I S nt a w.heap) (hd : ∀ d, dst = some d → d < nt) {s : Sem Value} {x : AV} (hex : execOp a.eval o = vS s) (Y : Yields P s w.heap φ I S.A x w) :
    StepOK P X S nt a w o dst id hard { val := x } := by
  obtain ⟨v, w', h1, h2, h3⟩ := Y
  subst h2
  exact ⟨φ, I, v, _, .inl (by rw [hex]; exact run_vS h1), R.vars _, RA.app (e := { val := x }) (Ext.refl' fun _ h => h) hd h3, Keep.refl _⟩

/-- A push onto the heap. -/
theorem push_get {h : Array Obj} {ob : Obj} : ∀ c, c < h.size → (h.push ob)[c]? = h[c]? := fun c hc => by
  rw [Array.getElem?_push]; rw [if_neg (by omega)]
theorem push_last {h : Array Obj} {ob : Obj} : (h.push ob)[h.size]? = some ob := by simp

theorem hcell_push {h : Array Obj} {cs : Array Value} {el : TypeId} {fz : Nat × Nat} (j : Nat) : hcell (h.push (.cells cs el fz)) h.size j = cs[j]? := by
  simp [hcell]

theorem relM_push {h : Array Obj} {A' : Nat → Prop} {φ' : Nat → Option (Nat × Nat)} {I' : Nat → Prop} {l : List AV} {vs : List Value} {cs : Array Value} {el : TypeId} {fz : Nat × Nat} (j : Nat) (H : relL (h.push (.cells cs el fz)) φ' I' A' l vs)
    (h1 : ∀ v ∈ vs, Value.oneCell' v = true) (hc : ∀ i, i < vs.length → cs[j + i]? = vs[i]?) : relM (h.push (.cells cs el fz)) φ' I' A' l h.size j :=
  relM_of_vals H h1 fun i hi => by rw [hcell_push]; exact hc i (by rw [relL_length H]; exact hi)

theorem relR_chunks {h : Array Obj} {A : Nat → Prop} {sz : Nat} : ∀ (n : Nat) (cs : List AV) (c o : Nat), cs.length = n * sz → relM h φ I A cs c o → relR h φ I A sz (chunks sz n cs) c o
  | 0, _, _, _, _, _ => by simp [chunks, relR]
  | n + 1, cs, c, o, hl, H => by
    simp only [chunks, relR]
    have hle : sz ≤ cs.length := by rw [hl, Nat.add_mul]; omega
    refine ⟨by simp [Nat.min_eq_left hle], relM_take _ H, relR_chunks n _ c _ (by simp [hl, Nat.add_mul]) (relM_drop _ H)⟩

theorem chunks_length {sz : Nat} : ∀ (n : Nat) (cs : List AV), (chunks sz n cs).length = n
  | 0, _ => rfl
  | n + 1, cs => by simp [chunks, chunks_length n]

/-- A new block, told by rows. -/
theorem stepOK_new (R : RelH X φ I S w.heap) (RA : RelA φ I S nt a w.heap) (hd : ∀ d, dst = some d → d < nt) (hid : ¬ S.A id) {x : AV} {blk : Blk} {ob : Obj} {cv : Value} {w' : World}
    (hrun : (execOp a.eval o).run P w = .ok (.value cv) w') (hw : w'.heap = w.heap.push ob) (hkp : Keep w w')
    (hblk : ∀ A' : Nat → Prop, A' id → Ext w.heap φ I S.A (w.heap.push ob) (upφ φ id (some (w.heap.size, 0))) I A' → relB (w.heap.push ob) (upφ φ id (some (w.heap.size, 0))) I A' id blk)
    (hv : ∀ A' : Nat → Prop, A' id → Ext w.heap φ I S.A (w.heap.push ob) (upφ φ id (some (w.heap.size, 0))) I A' → relV (w.heap.push ob) (upφ φ id (some (w.heap.size, 0))) I A' x cv) :
    StepOK P X S nt a w o dst id hard { val := x, new := some blk } := by
  have hsz : w.heap.size ≤ (w.heap.push ob).size := by simp
  have hA : ∀ b, S.A b → (AS.mk S.vars S.heap S.next (ins id () S.used) S.dead).A b := fun b h1 => (A_used b).2 (.inr h1)
  have hAid : (AS.mk S.vars S.heap S.next (ins id () S.used) S.dead).A id := (A_used id).2 (.inl rfl)
  have E : Ext w.heap φ I S.A (w.heap.push ob) (upφ φ id (some (w.heap.size, 0))) I (AS.mk S.vars S.heap S.next (ins id () S.used) S.dead).A := Ext.grown push_get (upφ_agree hid) hA
  have RN := R.new hid (p := some (w.heap.size, 0)) (blk := blk) (h' := w.heap.push ob) (putV dst x S.vars) hsz push_get (fun c o h1 => by injection h1 with h1; injection h1 with h2 h3; subst h2; simp) (hblk _ hAid E)
  refine ⟨upφ φ id (some (w.heap.size, 0)), I, cv, w', .inl hrun, ?_, ?_, hkp⟩
  · rw [hw]; exact RN
  · rw [hw]
    exact RA.app (e := { val := x, new := some blk }) E hd (hv _ hAid E)

theorem relB_push_rows {A' : Nat → Prop} {cs : Array Value} {el : TypeId} {sz : Nat} {es : List (List AV)}
    (H : relR (w.heap.push (.cells cs el)) (upφ φ id (some (w.heap.size, 0))) I A' sz es w.heap.size 0) : relB (w.heap.push (.cells cs el)) (upφ φ id (some (w.heap.size, 0))) I A' id (.rows sz es) := by
  simp only [relB]
  exact .inr ⟨w.heap.size, 0, cs, el, by simp [upφ], push_last, H⟩

theorem relV_push_ptr {A' : Nat → Prop} {ob : Obj} {sz : Nat} (hA : A' id) : relV (w.heap.push ob) (upφ φ id (some (w.heap.size, 0))) I A' (.ptr sz id 0 0) (.pointer (some ⟨w.heap.size, 0, none⟩)) := by
  simp only [relV]
  exact ⟨hA, w.heap.size, 0, by simp [upφ], by simp⟩

theorem relV_push_sl {A' : Nat → Prop} {cs : Array Value} {el : TypeId} {sz n cap : Nat} (hA : A' id) (h1 : n ≤ cap) (h2 : cap * sz ≤ cs.size) :
    relV (w.heap.push (.cells cs el)) (upφ φ id (some (w.heap.size, 0))) I A' (.sl sz id 0 n) (.slice (some ⟨w.heap.size, 0, none⟩) n cap) := by
  simp only [relV]
  exact ⟨hA, _, _, rfl, .inr ⟨w.heap.size, 0, cs.size, by simp [upφ], by simp, h1, by simp [hsize], by simpa using h2⟩⟩

theorem stepOK_newv (R : RelH X φ I S w.heap) (RA : RelA φ I S nt a w.heap) (hd : ∀ d, dst = some d → d < nt) (hid : ¬ S.A id) {t : TypeId} {zv : Value} {zero : List AV}
    (ho : o.op = .alloc t) (hz : zeroOf P t = some zv) (hok : okCs zv.cells.toList zero = true) (hzsc : zero.all AV.scalar = true) : StepOK P X S nt a w o dst id hard { val := .ptr zero.length id 0 0, new := some (.rows zero.length [zero]) } := by
  refine stepOK_new R RA hd hid (cv := .pointer (some ⟨w.heap.size, 0, none⟩)) (w' := { w with heap := w.heap.push (.cells zv.cells t) }) (ob := .cells zv.cells t) ?_ rfl ⟨rfl, rfl, rfl⟩ (fun A' hA E => ?_) (fun A' hA E => relV_push_ptr hA)
  · simp only [execOp, ho, Instr.alloc, Sem.run_bind]
    rw [run_zeroOf hz]
    simp [newVar, newRow]
  · refine relB_push_rows ?_
    simp only [relR, and_true, true_and]
    exact relM_push 0 (okCs_rel _ _ hok) (relL_scalars hzsc (okCs_rel (h := w.heap) (φ := φ) (I := I) (A := S.A) _ _ hok)) (by simp)

theorem stepOK_box (R : RelH X φ I S w.heap) (RA : RelA φ I S nt a w.heap) (hd : ∀ d, dst = some d → d < nt) (hid : ¬ S.A id) {t : TypeId} {x : Operand} {sz : Nat} {v : AV}
    (ho : o.op = .box t x) (hx : relV w.heap φ I S.A v (a.eval x)) (hl : v.cells.length = sz) (hsc : v.cells.all AV.scalar = true) : StepOK P X S nt a w o dst id hard { val := .ptr sz id 0 0, new := some (.rows sz [v.cells]) } := by
  have hk : v.known = true := by cases v <;> first | rfl | (simp [AV.cells, AV.scalar] at hsc)
  refine stepOK_new R RA hd hid (cv := .pointer (some ⟨w.heap.size, 0, none⟩)) (w' := { w with heap := w.heap.push (.cells (a.eval x).cells t) }) (ob := .cells (a.eval x).cells t) ?_ rfl ⟨rfl, rfl, rfl⟩ (fun A' hA E => ?_) (fun A' hA E => relV_push_ptr hA)
  · simp only [execOp, ho, Instr.box, Sem.run_bind]
    simp [newVar, newRow]
  · refine relB_push_rows ?_
    simp only [relR, and_true, hl, true_and]
    exact relM_push 0 (relL_mono E _ _ (relV_cells hk hx)) (relL_scalars hsc (relV_cells hk hx)) (by simp)

theorem stepOK_mkmap (R : RelH X φ I S w.heap) (RA : RelA φ I S nt a w.heap) (hd : ∀ d, dst = some d → d < nt) (hid : ¬ S.A id) {t : TypeId}
    (ho : o.op = .makeMap t none) : StepOK P X S nt a w o dst id hard { val := .map id, new := some (.mp []) } := by
  refine stepOK_new R RA hd hid (cv := .map (some w.heap.size)) (w' := { w with heap := w.heap.push (.map #[] 0) }) (ob := .map #[] 0) ?_ rfl ⟨rfl, rfl, rfl⟩ (fun A' hA E => ?_) (fun A' hA E => ?_)
  · simp [execOp, ho, Instr.makeMap]
  · simp only [relB]; exact ⟨w.heap.size, #[], 0, by simp [upφ], push_last, by simp [relE]⟩
  · simp only [relV]; exact ⟨hA, w.heap.size, by simp [upφ], rfl⟩

/-- Rows of zeros. -/
theorem zeros_eq (z : Array Value) (k : Nat) (hz : z.size = k) (hk : k ≠ 0) : ∀ n, ((Array.range (n * k)).map fun i => z[i % z.size]!).toList = (List.replicate n z.toList).flatten := by
  intro n
  induction n with
  | zero => simp
  | succ n ih =>
    rw [List.replicate_succ', List.flatten_append, ← ih]
    have : (n + 1) * k = n * k + k := by rw [Nat.add_mul]; omega
    simp only [Array.toList_map, Array.toList_range, this]
    rw [List.range_add, List.map_append]
    congr 1
    simp only [List.flatten_cons, List.flatten_nil, List.append_nil, List.map_map]
    apply List.ext_getElem
    · simp [hz]
    · intro i h1 h2
      simp only [List.length_map, List.length_range] at h1
      simp only [List.getElem_map, List.getElem_range, Function.comp]
      have h3 : (n * k + i) % z.size = i := by rw [hz, Nat.mul_comm, Nat.mul_add_mod, Nat.mod_eq_of_lt h1]
      rw [h3, getElem!_pos z i (by omega)]
      simp

theorem relL_rep {h : Array Obj} {A : Nat → Prop} {zero : List AV} {z : List Value} (H : relL h φ I A zero z) : ∀ n, relL h φ I A (List.replicate n zero).flatten (List.replicate n z).flatten
  | 0 => by simp [relL]
  | n + 1 => by simp only [List.replicate_succ, List.flatten_cons]; exact relL_append H (relL_rep H n)

theorem rep_flat_length {α : Type} (n : Nat) (z : List α) : (List.replicate n z).flatten.length = n * z.length := by
  induction n with
  | zero => simp
  | succ n ih => simp only [List.replicate_succ, List.flatten_cons, List.length_append, ih, Nat.add_mul]; omega

theorem parts_rel (RA : RelA φ I S nt a w.heap) {place : Nat → Option (Nat × Nat)} : ∀ {ps : List (Nat × Operand)} {qs : List (Nat × Nat × LArg)}, okParts P place ps qs = true →
    relP w.heap φ I S.A place (ps.map fun p => (p.1, a.eval p.2)) (qs.map fun q => (q.1, q.2.1, q.2.2.ev S.vars))
  | [], [], _ => by simp [relP]
  | (i, x) :: ps, (off, n, y) :: qs, H => by
    simp only [okParts, Bool.and_eq_true] at H
    obtain ⟨h1, h2, h3⟩ := H
    simp only [List.map_cons, relP]
    refine ⟨⟨?_, ev_rel RA h2⟩, parts_rel RA h3⟩
    split at h1
    · rename_i q k hq
      simp only [Bool.and_eq_true, decide_eq_true_eq] at h1
      rw [hq, h1.1, h1.2]
    · cases h1
  | [], _ :: _, H => by simp [okParts] at H
  | _ :: _, [], H => by simp [okParts] at H

/-- A slice literal. -/
theorem run_bsl {t el : TypeId} {len sz : Nat} {zv : Value} {zero : List AV} {ps : List (Nat × Value)} {qs : List (Nat × Nat × AV)} {r : List AV} {A : Nat → Prop} (hu : P.underlying t = some (.slice el)) (hs : szOf P el = some sz) (hz : zeroOf P el = some zv)
    (hok : okCs zv.cells.toList zero = true) (hzs : zv.cells.size = sz) (hsz : sz ≠ 0) (hle : len * sz ≤ 2 ^ 24) (hps : relP w.heap φ I A (fun i => some (i * sz, sz)) ps qs) (hf : fillL (List.replicate len zero).flatten qs = some r) :
    ∃ us : List Value, (Instr.buildSlice t len ps.toArray).run P w = .ok (.slice (some ⟨w.heap.size, 0, none⟩) len len) { w with heap := w.heap.push (.cells us.toArray el) } ∧ relL w.heap φ I A r us ∧ r.length = len * sz := by
  have hzL : relL w.heap φ I A zero zv.cells.toList := okCs_rel _ _ hok
  have hzl : zero.length = sz := by have := relL_length hzL; simp only [Array.length_toList] at this; omega
  obtain ⟨us, h1, h2, h3⟩ := fill_rel (place := fun i => some (i * sz, sz)) ps qs _ r _ hps (relL_rep hzL len) hf
  refine ⟨us, ?_, h2, by rw [h3, rep_flat_length, hzl]⟩
  unfold Instr.buildSlice
  rw [Sem.run_bind, run_underlying hu]
  simp only [Result.andThen_ok, Sem.run_bind]
  rw [run_szOf hs]
  simp only [Result.andThen_ok]
  rw [if_neg (by omega)]
  have key : ∀ (z : Array Value), ((Array.range (len * sz)).map fun x => z[x % z.size]!) = (List.replicate len zv.cells.toList).flatten.toArray →
      Instr.fill (fun i => some (i * sz, sz)) ((Array.range (len * sz)).map fun x => z[x % z.size]!) ps = some us.toArray := fun z hz' => by rw [hz', h1]
  by_cases h0 : len * sz = 0
  · rw [if_pos h0, Sem.run_bind, Sem.run_pure]
    have e := key #[] (by
      have : len = 0 := by
        rcases Nat.mul_eq_zero.1 h0 with h | h
        · exact h
        · exact absurd h hsz
      subst this; simp)
    simp only [Result.andThen_ok, e]
    simp [newRow]
  · rw [if_neg h0, Sem.run_bind, run_zeroOf hz]
    have e := key zv.cells (by
      apply Array.ext'
      rw [zeros_eq zv.cells sz hzs hsz len])
    simp only [Result.andThen_ok, Sem.run_bind, Sem.run_pure, e]
    simp [newRow]
end
end Go.AM
