/- Appends and copies: their runs, and what becomes of the state. -/
import Derived.Test.YteiapnjcelnfdaaAM9
set_option linter.unusedSimpArgs false
set_option linter.unusedVariables false
namespace Go.AM

section
variable {P : Program} {X : Ctx} {φ : Nat → Option (Nat × Nat)} {I : Nat → Prop} {S : AS} {nt : Nat} {a : Act} {w : World} {o : Oper} {dst : Option Nat} {id : Nat} {hard : Bool}

theorem flatten_length_all {sz : Nat} : ∀ {ys : List (List AV)}, (∀ e ∈ ys, e.length = sz) → ys.flatten.length = ys.length * sz
  | [], _ => by simp
  | e :: ys, H => by
    simp only [List.flatten_cons, List.length_append, H e (by simp), flatten_length_all (fun e he => H e (List.mem_cons_of_mem _ he)), List.length_cons, Nat.add_mul]; omega

theorem relR_all {h : Array Obj} {A : Nat → Prop} {sz : Nat} : ∀ {es : List (List AV)} {c o : Nat}, relR h φ I A sz es c o → ∀ e ∈ es, e.length = sz
  | [], _, _, _ => by simp
  | e :: es, c, o, H => by
    simp only [relR] at H
    intro e' he
    rcases List.mem_cons.1 he with rfl | he
    · exact H.1
    · exact relR_all H.2.2 e' he

/-- Rows that stand in memory as cells. -/
theorem relR_of_cells {h : Array Obj} {A : Nat → Prop} {sz : Nat} : ∀ {ys : List (List AV)} {c o : Nat}, (∀ e ∈ ys, e.length = sz) → relM h φ I A ys.flatten c o → relR h φ I A sz ys c o
  | [], _, _, _, _ => by simp [relR]
  | e :: ys, c, o, H, K => by
    simp only [List.flatten_cons, relM_append] at K
    have he := H e (by simp)
    rw [he] at K
    simp only [relR]
    exact ⟨he, K.1, relR_of_cells (fun e he => H e (List.mem_cons_of_mem _ he)) K.2⟩

theorem relM_runD {A : Nat → Prop} {l : List AV} {c o : Nat} (H : relM w.heap φ I A l c o) : ∃ vs : List Value, relL w.heap φ I A l vs ∧ (∀ w' : World, w'.heap = w.heap → (loadCells ⟨c, o, none⟩ l.length).run P w' = .ok vs.toArray w') ∧ ∀ v ∈ vs, Value.oneCell' v = true := by
  obtain ⟨vs, h1, h2, h3⟩ := relM_vals H
  refine ⟨vs, h1, fun w' hw => ?_, h3⟩
  rw [← relL_length h1]
  exact run_loadCells P w' c o vs (fun j hj => by rw [hw]; exact h2 j (by rw [← relL_length h1]; exact hj))

/-- A slice's elements, as the machine reads them. -/
theorem elems_run (R : RelH X φ I S w.heap) {sz : Nat} {x : AV} {v : Value} {ys : List (List AV)} (hx : relV w.heap φ I S.A x v) (he : elems S.heap sz x = some ys) :
    (Builtin.lenOf v).run P w = .ok ys.length w ∧ (∀ e ∈ ys, e.length = sz) ∧ ∀ n, n ≤ ys.length → ∃ vs : List Value, (∀ w' : World, w'.heap = w.heap → (Builtin.firstCells sz n v).run P w' = .ok vs.toArray w') ∧ relL w.heap φ I S.A (ys.take n).flatten vs ∧ vs.length = n * sz ∧ ∀ v ∈ vs, Value.oneCell' v = true := by
  unfold elems at he
  split at he
  · injection he with he; subst he
    simp only [relV] at hx; subst hx
    refine ⟨rfl, by simp, fun n hn => ⟨[], fun _ _ => rfl, by simp [relL], ?_, by simp⟩⟩
    simp at hn; subst hn; simp
  · rename_i sz' es
    obtain ⟨h1, h2⟩ := grd_some he
    simp only [decide_eq_true_eq] at h1; subst h1
    injection h2 with h2; subst h2
    simp only [relV] at hx
    obtain ⟨base, cap, rfl, hc, hc'⟩ := hx
    rcases hc' with h3 | ⟨c, oo, rfl, h4, h5⟩
    · subst h3
      refine ⟨rfl, by simp, fun n hn => ⟨[], ?_, by simp [relL], ?_, by simp⟩⟩
      · simp at hn; subst hn
        cases base with
        | none => exact fun _ _ => rfl
        | some b => exact fun _ _ => by simp [Builtin.firstCells, loadCells, loadCellsFrom]
      · simp at hn; subst hn; simp
    · have hall := relR_all h5
      refine ⟨rfl, hall, fun n hn => ?_⟩
      have h6 := relR_flat (relR_take n h5)
      have hl : (es.take n).flatten.length = n * sz' := by rw [h6.2]; simp [Nat.min_eq_left hn]
      obtain ⟨vs, h7, h8, h9⟩ := relM_runD (P := P) h6.1
      rw [hl] at h8
      exact ⟨vs, h8, h7, by rw [relL_length h7, hl], h9⟩
  · rename_i sz' b i n
    obtain ⟨h1, h2⟩ := grd_some he
    simp only [decide_eq_true_eq] at h1; subst h1
    split at h2
    · rename_i sz'' es hb
      obtain ⟨h3, h4⟩ := grd_some h2
      simp only [Bool.and_eq_true, decide_eq_true_eq] at h3
      obtain ⟨h3, h5⟩ := h3
      subst h3
      injection h4 with h4; subst h4
      have hlen : ((es.drop i).take n).length = n := by simp; omega
      simp only [relV] at hx
      obtain ⟨hA, base, cap, rfl, hc⟩ := hx
      obtain ⟨hA', hB⟩ := R.heap _ _ hb
      rcases hc with ⟨h6, h6'⟩ | ⟨c, oo, s, h6, rfl, h7, h8, h9⟩
      · subst h6
        refine ⟨by simp [Builtin.lenOf], by simp, fun n hn => ⟨[], ?_, by simp [relL], ?_, by simp⟩⟩
        · simp at hn; subst hn
          cases base with
          | none => exact fun _ _ => rfl
          | some b => exact fun _ _ => by simp [Builtin.firstCells, loadCells, loadCellsFrom]
        · simp at hn; subst hn; simp
      · simp only [relB] at hB
        rcases hB with ⟨h10, _⟩ | ⟨c', o', cs, el, h10, h11, h12⟩
        · rw [h6] at h10; cases h10
        rw [h6] at h10; injection h10 with h10; injection h10 with h13 h14; subst h13 h14
        have h15 := relR_take n (relR_drop i h12 (by omega))
        refine ⟨by simp only [Builtin.lenOf, hlen]; rfl, relR_all h15, fun m hm => ?_⟩
        have h16 := relR_flat (relR_take m h15)
        have hl : (((es.drop i).take n).take m).flatten.length = m * sz'' := by rw [h16.2]; simp only [List.length_take] at hm ⊢; congr 1; omega
        obtain ⟨vs, h17, h18, h19⟩ := relM_runD (P := P) h16.1
        rw [hl] at h18
        exact ⟨vs, h18, h17, by rw [relL_length h17, hl], h19⟩
    · cases h2
  · rename_i s
    obtain ⟨h1, h2⟩ := grd_some he
    simp only [decide_eq_true_eq] at h1; subst h1
    injection h2 with h2; subst h2
    have := rel_str hx; subst this
    have hsl : (bytesRows s).length = s.size := by simp [bytesRows]
    refine ⟨by simp only [Builtin.lenOf, hsl, Sem.run_pure], by simp [bytesRows], fun n hn => ?_⟩
    refine ⟨((s.extract 0 n).data.map fun b => (.int .u8 b.toNat : Value)).toList, fun _ _ => by simp only [Builtin.firstCells, Array.toArray_toList]; rfl, ?_, ?_, fun v hv => by obtain ⟨b, _, rfl⟩ := Array.mem_map.1 (Array.mem_toList_iff.1 hv); rfl⟩
    · have hsz : ((s.extract 0 n).data).toList = s.data.toList.take n := by
        have : (s.extract 0 n).data = s.data.extract 0 n := by simp
        rw [this]; simp
      simp only [Array.toList_map, hsz, bytesRows]
      rw [← List.map_take]
      generalize s.data.toList.take n = l
      induction l with
      | nil => simp [relL]
      | cons b l ih =>
        simp only [List.map_cons, List.flatten_cons, List.singleton_append, relL]
        exact ⟨_, _, rfl, by simp [relV], ih⟩
    · have : (s.extract 0 n).data = s.data.extract 0 n := by simp
      have h2 : s.data.size = s.size := rfl
      simp [this, h2]; omega
  · cases he

theorem growBy_le (m : Nat) : ∀ (r c : Nat), c ≤ 2 * m + 512 → Builtin.growBy m r c ≤ 2 * m + 512
  | 0, c, h => h
  | r + 1, c, h => by
    unfold Builtin.growBy
    split
    · exact h
    · exact growBy_le m r _ (by omega)

theorem nextcap_le {m c : Nat} (h : c < m) : Builtin.nextslicecap m c ≤ 2 * m + 512 := by
  unfold Builtin.nextslicecap
  split
  · omega
  · split
    · omega
    · exact growBy_le m 4 c (by omega)

/-- The bytes of a slice that may be appended to. -/
theorem room_ok {m c bytes : Nat} (h : c < m) (hm : m * bytes ≤ 17592186044416) (hb : bytes ≤ 1048576) : ¬ Builtin.nextslicecap m c * bytes > 2 ^ 48 := by
  have h1 := Nat.mul_le_mul_right bytes (nextcap_le h)
  rw [Nat.add_mul] at h1
  have h2 : 2 * m * bytes = 2 * (m * bytes) := by rw [Nat.mul_assoc]
  have h3 : 512 * bytes ≤ 512 * 1048576 := Nat.mul_le_mul_left _ hb
  omega

theorem zeroCells_size (z : Array Value) (n : Nat) : (Builtin.zeroCells z n).size = n * z.size := by simp [Builtin.zeroCells]

/-- An append for which there is no room. -/
theorem run_append_new {t1 t2 ty el : TypeId} {sz bytes : Nat} {zv : Value} {u2 : TypeDesc} {base : Option Addr} {sLen sCap : Nat} {x : Value} {old new : List Value} {n : Nat}
    (hu : P.underlying t1 = some (.slice el)) (hu2 : P.underlying t2 = some u2) (hni : ∀ k, u2 ≠ .int k) (hs : szOf P el = some sz) (hz : zeroOf P el = some zv) (hb : (P.info? el).map (·.bytes) = some bytes) (hb0 : bytes ≠ 0) (hb1 : bytes ≤ 1048576)
    (hlen : (Builtin.lenOf x).run P w = .ok n w) (hold : ∀ d, (Builtin.firstCells sz sLen (.slice base sLen sCap)).run P { w with drawn := d } = .ok old.toArray { w with drawn := d })
    (hnew : ∀ d, (Builtin.firstCells sz n x).run P { w with drawn := d } = .ok new.toArray { w with drawn := d }) (hroom : sCap < sLen + n) (hmx : (sLen + n) * bytes ≤ 17592186044416) :
    ∃ cap rest d, sLen + n ≤ cap ∧ rest.length = (cap - (sLen + n)) * zv.cells.size ∧ (Builtin.append_ #[t1, t2] ty #[.slice base sLen sCap, x]).run P w =
      .ok (.slice (some ⟨w.heap.size, 0, none⟩) (sLen + n) cap) { w with heap := w.heap.push (.cells (old ++ new ++ rest).toArray el), drawn := d } := by
  cases hi : P.info? el with
  | none => simp [hi] at hb
  | some i =>
    simp [hi] at hb
    have hmm : sLen + n ≤ (sLen + n) * bytes := Nat.le_mul_of_pos_right _ (by omega)
    let cap := (Question.appendCap (sLen + n) sCap el).cut (w.tape w.drawn (.appendCap (sLen + n) sCap el))
    have hcap : sLen + n ≤ cap := by simp [cap, Question.cut]
    refine ⟨cap, (Builtin.zeroCells zv.cells (cap - (sLen + n))).toList, w.drawn + 1, hcap, by rw [Array.length_toList, zeroCells_size], ?_⟩
    unfold Builtin.append_
    simp only [List.getElem?_toArray, List.getElem?_cons_zero, List.getElem?_cons_succ, Sem.run_bind]
    rw [run_underlying hu]
    simp only [Result.andThen_ok, Sem.run_bind]
    rw [run_szOf hs]
    simp only [Result.andThen_ok, Sem.run_bind]
    rw [run_underlying hu2]
    simp only [Result.andThen_ok, Sem.run_pure]
    have hz0 : (match u2 with | .int _ => true | _ => false) = false := by
      cases u2 <;> first | rfl | (exact absurd rfl (hni _))
    simp only [hz0, Bool.false_eq_true, if_false]
    rw [Sem.run_bind, hlen]
    simp only [Result.andThen_ok]
    rw [if_neg (by omega)]
    have hti : ∀ w', (typeInfo el).run P w' = .ok i w' := fun w' => by simp [typeInfo, hi]
    rw [Sem.run_bind, hti]
    simp only [Result.andThen_ok, hb]
    rw [if_neg (by simp [IntKind.max, IntKind.signed, IntKind.bits]; omega)]
    rw [Sem.run_bind, hti]
    simp only [Result.andThen_ok, hb]
    rw [if_neg (room_ok hroom hmx hb1)]
    rw [Sem.run_bind, run_choose]
    simp only [Question.forced, Bool.false_eq_true, if_false, Result.andThen_ok]
    rw [Sem.run_bind, hti]
    simp only [Result.andThen_ok, Sem.run_bind, run_askRoom, hold, Bool.not_false, if_true, hnew]
    rw [run_zeroOf hz]
    have e : old.toArray ++ new.toArray ++ Builtin.zeroCells zv.cells (cap - (sLen + n)) = (old ++ new ++ (Builtin.zeroCells zv.cells (cap - (sLen + n))).toList).toArray := by apply Array.ext'; simp
    simp only [newRow, Sem.run_bind, run_newObj, Result.andThen_ok, Sem.run_pure]
    rw [← e]

/-- An append for which there is room. -/
theorem run_append_in {t1 t2 ty el : TypeId} {sz : Nat} {u2 : TypeDesc} {base : Option Addr} {sLen sCap : Nat} {x : Value} {new : List Value} {n : Nat} {w' : World}
    (hu : P.underlying t1 = some (.slice el)) (hu2 : P.underlying t2 = some u2) (hni : ∀ k, u2 ≠ .int k) (hs : szOf P el = some sz)
    (hlen : (Builtin.lenOf x).run P w = .ok n w) (hnew : (Builtin.firstCells sz n x).run P w = .ok new.toArray w) (hroom : sLen + n ≤ sCap)
    (hst : ∀ b, base = some b → (storeCells (b.add (sLen * sz)) new).run P w = .ok () w') (hno : base = none → w' = w) :
    (Builtin.append_ #[t1, t2] ty #[.slice base sLen sCap, x]).run P w = .ok (.slice base (sLen + n) sCap) w' := by
  unfold Builtin.append_
  simp only [List.getElem?_toArray, List.getElem?_cons_zero, List.getElem?_cons_succ, Sem.run_bind]
  rw [run_underlying hu]
  simp only [Result.andThen_ok, Sem.run_bind]
  rw [run_szOf hs]
  simp only [Result.andThen_ok]
  rw [run_underlying hu2]
  simp only [Result.andThen_ok, Sem.run_pure]
  have hz0 : (match u2 with | .int _ => true | _ => false) = false := by
    cases u2 <;> first | rfl | (exact absurd rfl (hni _))
  simp only [hz0, Bool.false_eq_true, if_false]
  rw [Sem.run_bind, hlen]
  simp only [Result.andThen_ok]
  rw [if_pos hroom]
  simp only [Bool.not_false, if_true, Sem.run_bind, hnew, Result.andThen_ok]
  cases base with
  | none => simp only [Sem.run_pure]; rw [hno rfl]
  | some b => simp only [Sem.run_bind, List.toList_toArray, hst b rfl, Result.andThen_ok, Sem.run_pure]

theorem exec_append {t1 t2 : TypeId} {ox oy : Operand} (ho : o.op = .call { callee := .builtin .append, args := #[ox, oy], argTypes := #[t1, t2] }) {v : Value} {w' : World}
    (H : (Builtin.append_ #[t1, t2] o.type #[a.eval ox, a.eval oy]).run P w = .ok v w') : (execOp a.eval o).run P w = .ok (.value v) w' := by
  simp [execOp, ho, resolve, invoke, builtin, H]

theorem RelH.kill (R : RelH X φ I S w.heap) (b : Nat) : RelH X φ I { S with heap := khp hard b S.heap, dead := kdd hard b S.dead } w.heap := by
  refine R.sub (vs := S.vars) (fun b' blk h1 => ?_) (fun b' h1 h2 => ?_)
  · cases hard with
    | true =>
      simp only [khp, get_del] at h1
      split at h1
      · cases h1
      · exact h1
    | false => exact h1
  · cases hard with
    | true => exact h1
    | false =>
      simp only [kdd, get_ins] at h1
      split at h1
      · cases h1
      · exact h1

/-- What the seat's tables must say of an append. -/
structure AppT (P : Program) (t1 t2 el : TypeId) (sz bytes : Nat) (zv : Value) (u2 : TypeDesc) : Prop where
  hu : P.underlying t1 = some (.slice el)
  hu2 : P.underlying t2 = some u2
  hni : ∀ k, u2 ≠ .int k
  hs : szOf P el = some sz
  hz : zeroOf P el = some zv
  hzs : zv.cells.size = sz
  hb : (P.info? el).map (·.bytes) = some bytes
  hb0 : bytes ≠ 0
  hb1 : bytes ≤ 1048576

theorem relL_keep {h h' : Array Obj} {φ' : Nat → Option (Nat × Nat)} {A A' : Nat → Prop} (E : Ext h φ I A h' φ' I A') {l : List AV} {vs : List Value} (H : relL h φ I A l vs) : relL h' φ' I A' l vs := relL_mono E l vs H

/-- The new block of an append for which there is no room. -/
theorem stepOK_append_new (R : RelH X φ I S w.heap) (RA : RelA φ I S nt a w.heap) (hd : ∀ d, dst = some d → d < nt) (hid : ¬ S.A id) {t1 t2 el : TypeId} {sz bytes : Nat} {zv : Value} {u2 : TypeDesc} (T : AppT P t1 t2 el sz bytes zv u2) {ox oy : Operand}
    (ho : o.op = .call { callee := .builtin .append, args := #[ox, oy], argTypes := #[t1, t2] }) {y : AV} {xs ys : List (List AV)} {base : Option Addr} {n cap : Nat} {kill : Option Nat}
    (hx : a.eval ox = .slice base n cap) (hxs : xs.length = n) (hxa : ∀ e ∈ xs, e.length = sz) (hold : ∃ old : List Value, (∀ w' : World, w'.heap = w.heap → (Builtin.firstCells sz n (.slice base n cap)).run P w' = .ok old.toArray w') ∧ relL w.heap φ I S.A xs.flatten old ∧ ∀ v ∈ old, Value.oneCell' v = true)
    (hy : relV w.heap φ I S.A y (a.eval oy)) (he : elems S.heap sz y = some ys) (hroom : cap < n + ys.length) (hmx : (n + ys.length) * bytes ≤ 17592186044416) :
    StepOK P X S nt a w o dst id hard { val := .sl sz id 0 (n + ys.length), new := some (.rows sz (xs ++ ys)), kill := kill } := by
  obtain ⟨hl, hya, hf⟩ := elems_run (P := P) R hy he
  obtain ⟨new, hn1, hn2, hn3, hn4⟩ := hf ys.length (Nat.le_refl _)
  rw [List.take_of_length_le (Nat.le_refl _)] at hn2
  obtain ⟨old, ho1, ho2, ho3⟩ := hold
  obtain ⟨nc, rest, dd, hc1, hc2, hrun⟩ := run_append_new (P := P) (w := w) (ty := o.type) (base := base) (sLen := n) (sCap := cap) (old := old) (new := new) (x := a.eval oy) T.hu T.hu2 T.hni T.hs T.hz T.hb T.hb0 T.hb1 hl
    (fun d => ho1 _ rfl) (fun d => hn1 _ rfl) hroom hmx
  let cs : Array Value := (old ++ new ++ rest).toArray
  -- the kill first
  have R1 : ∃ S1 : AS, S1.next = S.next ∧ S1.used = S.used ∧ S1.vars = S.vars ∧ S1.heap = (match kill with | some b => khp hard b S.heap | none => S.heap) ∧ S1.dead = (match kill with | some b => kdd hard b S.dead | none => S.dead) ∧ RelH X φ I S1 w.heap := by
    cases kill with
    | none => exact ⟨S, rfl, rfl, rfl, rfl, rfl, R⟩
    | some b => exact ⟨{ S with heap := khp hard b S.heap, dead := kdd hard b S.dead }, rfl, rfl, rfl, rfl, rfl, R.kill (hard := hard) b⟩
  obtain ⟨S1, e1, e2, e3, e4, e5, R1⟩ := R1
  have hAS : S1.A = S.A := by funext b; simp only [AS.A, e1, e2]
  have hid1 : ¬ S1.A id := by rw [hAS]; exact hid
  have hA : ∀ b, S.A b → (AS.mk S1.vars S1.heap S1.next (ins id () S1.used) S1.dead).A b := fun b h1 => (A_used (S := S1) b).2 (.inr (by rw [hAS]; exact h1))
  have hAid : (AS.mk S1.vars S1.heap S1.next (ins id () S1.used) S1.dead).A id := (A_used (S := S1) id).2 (.inl rfl)
  have E : Ext w.heap φ I S.A (w.heap.push (.cells cs el)) (upφ φ id (some (w.heap.size, 0))) I (AS.mk S1.vars S1.heap S1.next (ins id () S1.used) S1.dead).A := Ext.grown push_get (upφ_agree hid) hA
  have hxy : ∀ e ∈ xs ++ ys, e.length = sz := fun e h1 => (List.mem_append.1 h1).elim (hxa e) (hya e)
  have hol : old.length = n * sz := by rw [relL_length ho2, flatten_length_all hxa, hxs]
  have hrows : relR (w.heap.push (.cells cs el)) (upφ φ id (some (w.heap.size, 0))) I (AS.mk S1.vars S1.heap S1.next (ins id () S1.used) S1.dead).A sz (xs ++ ys) w.heap.size 0 := by
    refine relR_of_cells hxy ?_
    rw [List.flatten_append]
    refine relM_push 0 (relL_append (relL_mono E _ _ ho2) (relL_mono E _ _ hn2)) (fun v hv => (List.mem_append.1 hv).elim (ho3 v) (hn4 v)) fun i hi => ?_
    simp only [cs, Nat.zero_add, List.getElem?_toArray]
    rw [List.getElem?_append_left (by simpa using hi)]
  have RN := R1.new hid1 (p := some (w.heap.size, 0)) (blk := .rows sz (xs ++ ys)) (h' := w.heap.push (.cells cs el)) (putV dst (.sl sz id 0 (n + ys.length)) S.vars) (by simp) push_get (fun c o h1 => by injection h1 with h1; injection h1 with h2 h3; subst h2; simp) (relB_push_rows hrows)
  have happ : S.app dst id hard { val := .sl sz id 0 (n + ys.length), new := some (.rows sz (xs ++ ys)), kill := kill } = { S1 with vars := putV dst (.sl sz id 0 (n + ys.length)) S.vars, heap := ins id (.rows sz (xs ++ ys)) S1.heap, used := ins id () S1.used } := by
    cases kill <;> simp only [AS.app, e1, e2, e4, e5]
  refine ⟨upφ φ id (some (w.heap.size, 0)), I, _, _, .inl (exec_append ho (by rw [hx]; exact hrun)), by rw [happ]; exact RN, ?_, ?_⟩
  rotate_left
  · exact ⟨rfl, rfl, rfl⟩
  refine RA.app (e := { val := .sl sz id 0 (n + ys.length), new := some (.rows sz (xs ++ ys)), kill := kill }) (by rw [happ]; exact E) hd ?_
  rw [happ]
  refine relV_push_sl hAid hc1 ?_
  simp only [List.size_toArray, List.length_append, hol, hn3, hc2, T.hzs]
  rw [← Nat.add_mul, ← Nat.add_mul]
  exact Nat.mul_le_mul_right _ (by omega)

/-- Nothing is appended to nothing. -/
theorem stepOK_append_none (R : RelH X φ I S w.heap) (RA : RelA φ I S nt a w.heap) (hd : ∀ d, dst = some d → d < nt) (hid : ¬ S.A id) {sz : Nat} {base : Option Addr} {kill : Option Nat} {cv : Value} {w' : World}
    (hcv : cv = .slice base 0 0) (hrun : (execOp a.eval o).run P w = .ok (.value cv) w') (hw : w' = w) :
    StepOK P X S nt a w o dst id hard { val := .sl sz id 0 0, new := some (.rows sz []), kill := kill } := by
  subst hw
  have R1 : ∃ S1 : AS, S1.next = S.next ∧ S1.used = S.used ∧ S1.vars = S.vars ∧ S1.heap = (match kill with | some b => khp hard b S.heap | none => S.heap) ∧ S1.dead = (match kill with | some b => kdd hard b S.dead | none => S.dead) ∧ RelH X φ I S1 w'.heap := by
    cases kill with
    | none => exact ⟨S, rfl, rfl, rfl, rfl, rfl, R⟩
    | some b => exact ⟨{ S with heap := khp hard b S.heap, dead := kdd hard b S.dead }, rfl, rfl, rfl, rfl, rfl, R.kill (hard := hard) b⟩
  obtain ⟨S1, e1, e2, e3, e4, e5, R1⟩ := R1
  have hAS : S1.A = S.A := by funext b; simp only [AS.A, e1, e2]
  have hid1 : ¬ S1.A id := by rw [hAS]; exact hid
  have hA : ∀ b, S.A b → (AS.mk S1.vars S1.heap S1.next (ins id () S1.used) S1.dead).A b := fun b h1 => (A_used (S := S1) b).2 (.inr (by rw [hAS]; exact h1))
  have hAid : (AS.mk S1.vars S1.heap S1.next (ins id () S1.used) S1.dead).A id := (A_used (S := S1) id).2 (.inl rfl)
  have E : Ext w'.heap φ I S.A w'.heap (upφ φ id none) I (AS.mk S1.vars S1.heap S1.next (ins id () S1.used) S1.dead).A := Ext.grown (fun _ _ => rfl) (upφ_agree hid) hA
  have RN := R1.new hid1 (p := none) (blk := .rows sz []) (h' := w'.heap) (putV dst (.sl sz id 0 0) S.vars) (Nat.le_refl _) (fun _ _ => rfl) (fun c o h1 => by cases h1) (by simp [relB, upφ])
  have happ : S.app dst id hard { val := .sl sz id 0 0, new := some (.rows sz []), kill := kill } = { S1 with vars := putV dst (.sl sz id 0 0) S.vars, heap := ins id (.rows sz []) S1.heap, used := ins id () S1.used } := by
    cases kill <;> simp only [AS.app, e1, e2, e4, e5]
  refine ⟨upφ φ id none, I, cv, w', .inl hrun, by rw [happ]; exact RN, ?_, Keep.refl _⟩
  refine RA.app (e := { val := .sl sz id 0 0, new := some (.rows sz []), kill := kill }) (by rw [happ]; exact E) hd ?_
  rw [happ]
  simp only [relV]
  exact ⟨hAid, base, 0, hcv, .inl (by simp)⟩

/-- An append in place. -/
theorem stepOK_append_in (R : RelH X φ I S w.heap) (RA : RelA φ I S nt a w.heap) (hd : ∀ d, dst = some d → d < nt) (hid : ¬ S.A id) {t1 t2 el : TypeId} {sz bytes : Nat} {zv : Value} {u2 : TypeDesc} (T : AppT P t1 t2 el sz bytes zv u2) {ox oy : Operand}
    (ho : o.op = .call { callee := .builtin .append, args := #[ox, oy], argTypes := #[t1, t2] }) {y : AV} {es ys : List (List AV)} {b i n c oo cap s : Nat}
    (hx : a.eval ox = .slice (some ⟨c, oo + i * sz, none⟩) n cap) (hφ : φ b = some (c, oo)) (hb : get S.heap b = some (.rows sz es)) (hin : i + n ≤ es.length) (hs1 : hsize w.heap c = some s) (hs2 : oo + (i + cap) * sz ≤ s)
    (hy : relV w.heap φ I S.A y (a.eval oy)) (he : elems S.heap sz y = some ys) (hroom : n + ys.length ≤ cap)
    (hdead : (∀ b', get S.dead b' = none) ∨ (b < S.next ∧ get S.dead b = none)) (hdl : ∀ b', get S.dead b' ≠ none → b' < S.next) (hsoft : hard = false → b < S.next ∧ i + n = es.length) :
    StepOK P X S nt a w o dst id hard { val := .sl sz id 0 (n + ys.length), new := some (.rows sz ((es.drop i).take n ++ ys)), kill := some b } := by
  obtain ⟨hl, hya, hf⟩ := elems_run (P := P) R hy he
  obtain ⟨new, hn1, hn2, hn3, hn4⟩ := hf ys.length (Nat.le_refl _)
  rw [List.take_of_length_le (Nat.le_refl _)] at hn2
  obtain ⟨hA', hB⟩ := R.heap _ _ hb
  simp only [relB] at hB
  rcases hB with ⟨h1, _⟩ | ⟨c', o', cs, el', h1, h2, h3⟩
  · rw [hφ] at h1; cases h1
  rw [hφ] at h1; injection h1 with h1; injection h1 with h4 h5; subst h4 h5
  have hss : s = cs.size := by simp [hsize, h2] at hs1; omega
  have hle : oo + i * sz + n * sz + new.length ≤ cs.size := by
    have := Nat.mul_le_mul_right sz (show i + (n + ys.length) ≤ i + cap by omega)
    rw [Nat.add_mul, Nat.add_mul] at this
    omega
  obtain ⟨h', hr, W⟩ := run_storeCells P c (oo + i * sz + n * sz) new 0 w cs el' h2 (by omega) hn4
  have hWs := W.hsize h2
  have hcc : ∀ o' v, o' < oo + i * sz + n * sz → hcell w.heap c o' = some v → hcell h' c o' = some v := fun o' v k3 k4 => by
    rw [W.cell, if_neg (by omega)]; exact k4
  have hrow := relR_take n (relR_drop i h3 (by omega))
  have hlen : ((es.drop i).take n).length = n := by simp; omega
  obtain ⟨RN, E⟩ := R.onto (hard := hard) (id := id) (o1 := oo + i * sz) (blk' := .rows sz ((es.drop i).take n ++ ys)) (h' := h') (putV dst (.sl sz id 0 (n + ys.length)) S.vars) hid hb hφ hdead hdl W.size W.other (fun c' s' h6 => by rw [hWs]; exact h6)
    (fun cs0 el0 h6 => by obtain ⟨cs', k1, _⟩ := W.here _ _ h6; exact ⟨cs', k1⟩)
    (fun hh => ⟨(hsoft hh).1, fun o' v h6 h7 => hcc o' v (by rw [← (hsoft hh).2, Nat.add_mul] at h6; omega) h7⟩)
    (fun E => by
      obtain ⟨cs', k1, k2⟩ := W.here _ _ h2
      simp only [relB]
      refine .inr ⟨c, oo + i * sz, cs', el', by simp [upφ], k1, ?_⟩
      rw [relR_append, hlen]
      refine ⟨relR_congr E (fun o' v k9 k10 => hcc o' v (by rw [hlen] at k10; omega)) hrow, relR_of_cells hya (relM_of_vals (relL_mono E _ _ hn2) hn4 fun q hq => ?_)⟩
      have hq' : q < new.length := by rw [relL_length hn2]; exact hq
      rw [W.cell, Nat.add_zero, if_pos (by omega), if_pos (by simp [hcell, h2, show oo + i * sz + n * sz + q < cs.size by omega])]
      congr 1; omega)
  refine ⟨upφ φ id (some (c, oo + i * sz)), I, .slice (some ⟨c, oo + i * sz, none⟩) (n + ys.length) cap, { w with heap := h' }, .inl (exec_append ho ?_), RN, ?_, ⟨rfl, rfl, rfl⟩⟩
  · rw [hx]
    exact run_append_in T.hu T.hu2 T.hni T.hs hl (hn1 w rfl) hroom (fun b hb => by injection hb with hb; subst hb; rw [addr_add]; exact hr) (fun h => by cases h)
  · refine RA.app (e := { val := .sl sz id 0 (n + ys.length), new := some (.rows sz ((es.drop i).take n ++ ys)), kill := some b }) E hd ?_
    simp only [relV]
    refine ⟨(A_used id).2 (.inl rfl), _, _, rfl, .inr ⟨c, oo + i * sz, s, by simp [upφ], by simp, by omega, by rw [hWs]; exact hs1, ?_⟩⟩
    rw [Nat.zero_add]
    rw [Nat.add_mul] at hs2; omega
end
end Go.AM
