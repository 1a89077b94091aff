/- Slices, strings, maps and composite values: their runs. -/
import Derived.Test.YteiapnjcelnfdaaAM6
set_option linter.unusedSimpArgs false
set_option linter.unusedVariables false
namespace Go.AM

section
variable {P : Program} {w : World} {h : Array Obj} {φ : Nat → Option (Nat × Nat)} {I A : Nat → Prop}

/-- A bound, as a value. -/
def bndV (d : Nat) : Option AV → Option Value → Option Int → Prop
  | none, none, some n => n = d
  | some x, some v, some n => ∃ k, x = .int k n ∧ v = .int k n
  | _, _, _ => False

theorem bnd_rel {d : Nat} {x : Option AV} {v : Option Value} {n : Int} (h1 : match x, v with | none, none => True | some x, some v => relV h φ I A x v | _, _ => False) (H : bnd d x = some n) : bndV d x v (some n) := by
  cases x with
  | none =>
    cases v with
    | none => simp only [bnd, Option.some.injEq] at H; simp [bndV, H]
    | some v => exact h1.elim
  | some x =>
    cases v with
    | none => exact h1.elim
    | some v =>
      simp only at h1
      unfold bnd at H
      split at H
      · rename_i h2; cases h2
      · rename_i k m h2
        injection h2 with h2; subst h2
        injection H with H; subst H
        exact ⟨k, rfl, rel_int h1⟩
      · cases H

theorem run_sliceBound {k : IntKind} {n : Int} {y : Nat} {code : BoundsCode} (h0 : 0 ≤ n) (h1 : n ≤ y) : (Instr.sliceBound (.int k n) y code).run P w = .ok n.toNat w := by
  simp [Instr.sliceBound, asIntOf, h0, h1]

def mxCap (vm : Option Value) (cap m : Nat) : Nat := match vm with
  | none => cap
  | some _ => m

theorem run_sliceBounds {isS : Bool} {len cap : Nat} {xl xh xm : Option AV} {vl vh vm : Option Value} {l hh m : Int} {dm : Nat} (hl : bndV 0 xl vl (some l)) (hhh : bndV len xh vh (some hh)) (hm : bndV dm xm vm (some m))
    (h0 : 0 ≤ l) (h1 : l ≤ hh) (h2 : hh ≤ m) (h3 : m ≤ cap) (hmh : vm.isSome = true → vh.isSome = true) :
    (Instr.sliceBounds isS len cap vl vh vm).run P w = .ok (l.toNat, hh.toNat, mxCap vm cap m.toNat) w := by
  unfold mxCap
  unfold Instr.sliceBounds
  cases vm with
  | none =>
    cases xm with
    | some x => simp [bndV] at hm
    | none =>
    simp only [Sem.run_bind, Sem.run_pure, Result.andThen_ok]
    cases vh with
    | none =>
      cases xh with
      | some x => simp [bndV] at hhh
      | none =>
      simp only [bndV] at hhh; subst hhh
      simp only [Sem.run_pure, Result.andThen_ok, Sem.run_bind]
      cases vl with
      | none =>
        cases xl with
        | some x => simp [bndV] at hl
        | none => simp only [bndV] at hl; subst hl; simp
      | some v =>
        cases xl with
        | none => simp [bndV] at hl
        | some x =>
          simp only [bndV] at hl; obtain ⟨k, _, rfl⟩ := hl
          simp only [Sem.run_bind, run_sliceBound h0 h1, Result.andThen_ok, Sem.run_pure]; simp
    | some v =>
      cases xh with
      | none => simp [bndV] at hhh
      | some x =>
      simp only [bndV] at hhh; obtain ⟨k, _, rfl⟩ := hhh
      simp only [run_sliceBound (show 0 ≤ hh by omega) (show hh ≤ (cap : Int) by omega), Result.andThen_ok, Sem.run_bind]
      cases vl with
      | none =>
        cases xl with
        | some x => simp [bndV] at hl
        | none => simp only [bndV] at hl; subst hl; simp
      | some v =>
        cases xl with
        | none => simp [bndV] at hl
        | some x =>
          simp only [bndV] at hl; obtain ⟨k, _, rfl⟩ := hl
          simp only [Sem.run_bind, run_sliceBound h0 (show l ≤ (hh.toNat : Int) by omega), Result.andThen_ok, Sem.run_pure]
  | some vm =>
    cases xm with
    | none => simp [bndV] at hm
    | some xm =>
    simp only [bndV] at hm; obtain ⟨km, _, rfl⟩ := hm
    simp only [Sem.run_bind, run_sliceBound (show 0 ≤ m by omega) h3, Result.andThen_ok]
    cases vh with
    | none => simp at hmh
    | some v =>
      cases xh with
      | none => simp [bndV] at hhh
      | some x =>
      simp only [bndV] at hhh; obtain ⟨k, _, rfl⟩ := hhh
      simp only [run_sliceBound (show 0 ≤ hh by omega) (show hh ≤ (m.toNat : Int) by omega), Result.andThen_ok, Sem.run_bind]
      cases vl with
      | none =>
        cases xl with
        | some x => simp [bndV] at hl
        | none => simp only [bndV] at hl; subst hl; simp
      | some v =>
        cases xl with
        | none => simp [bndV] at hl
        | some x =>
          simp only [bndV] at hl; obtain ⟨k, _, rfl⟩ := hl
          simp only [Sem.run_bind, run_sliceBound h0 (show l ≤ (hh.toNat : Int) by omega), Result.andThen_ok, Sem.run_pure]

theorem y_slice_sl {t el : TypeId} {sz b i n : Nat} {v : Value} {xl xh xm : Option AV} {vl vh vm : Option Value} {l hh m : Int} (hu : P.underlying t = some (.slice el)) (hs : szOf P el = some sz)
    (hx : relV h φ I A (.sl sz b i n) v) (hl : bndV 0 xl vl (some l)) (hhh : bndV n xh vh (some hh)) (hm : bndV n xm vm (some m))
    (h0 : 0 ≤ l) (h1 : l ≤ hh) (h2 : hh ≤ m) (h3 : m ≤ n) (hmh : vm.isSome = true → vh.isSome = true) :
    Yields P (Instr.slice t v vl vh vm) h φ I A (.sl sz b (i + l.toNat) (hh - l).toNat) w := by
  simp only [relV] at hx
  obtain ⟨hA, base, cap, rfl, hc⟩ := hx
  have hnc : n ≤ cap := by rcases hc with ⟨h4, h5⟩ | ⟨_, _, _, _, _, h4, _⟩ <;> omega
  have hb := run_sliceBounds (P := P) (w := w) (isS := true) hl hhh hm h0 h1 h2 (show m ≤ (cap : Int) by omega) hmh
  refine ⟨.slice (if mxCap vm cap m.toNat = l.toNat then base else base.map (·.add (l.toNat * sz))) (hh.toNat - l.toNat) (mxCap vm cap m.toNat - l.toNat), w, ?_, rfl, ?_⟩
  · unfold Instr.slice
    rw [Sem.run_bind, run_underlying hu]
    simp only [Result.andThen_ok, Sem.run_bind, hb]
    rw [run_szOf hs]
    simp only [Result.andThen_ok, Sem.run_pure]
  · simp only [relV]
    rw [show (hh - l).toNat = hh.toNat - l.toNat by omega]
    refine ⟨hA, _, _, rfl, ?_⟩
    generalize hmm : mxCap vm cap m.toNat = mm
    have hmm1 : hh.toNat ≤ mm ∧ mm ≤ cap := by
      cases vm <;> simp only [mxCap] at hmm <;> omega
    by_cases e : mm = l.toNat
    · left; omega
    · rw [if_neg e]
      rcases hc with ⟨h4, h5⟩ | ⟨c, o, s, h4, rfl, h5, h6, h7⟩
      · omega
      · right
        refine ⟨c, o, s, h4, by simp only [Option.map_some, addr_add, Nat.add_mul, Nat.add_assoc], by omega, h6, ?_⟩
        have : (i + l.toNat + (mm - l.toNat)) ≤ i + cap := by omega
        have := Nat.mul_le_mul_right sz this
        omega

theorem y_slice_tsl {t el : TypeId} {sz : Nat} {es : List (List AV)} {v : Value} {xl xh xm : Option AV} {vl vh vm : Option Value} {l hh m : Int} (hu : P.underlying t = some (.slice el)) (hs : szOf P el = some sz)
    (hx : relV h φ I A (.tsl sz es) v) (hl : bndV 0 xl vl (some l)) (hhh : bndV es.length xh vh (some hh)) (hm : bndV es.length xm vm (some m))
    (h0 : 0 ≤ l) (h1 : l ≤ hh) (h2 : hh ≤ m) (h3 : m ≤ es.length) (hmh : vm.isSome = true → vh.isSome = true) :
    Yields P (Instr.slice t v vl vh vm) h φ I A (.tsl sz ((es.drop l.toNat).take (hh - l).toNat)) w := by
  simp only [relV] at hx
  obtain ⟨base, cap, rfl, hnc, hc⟩ := hx
  have hb := run_sliceBounds (P := P) (w := w) (isS := true) hl hhh hm h0 h1 h2 (show m ≤ (cap : Int) by omega) hmh
  refine ⟨.slice (if mxCap vm cap m.toNat = l.toNat then base else base.map (·.add (l.toNat * sz))) (hh.toNat - l.toNat) (mxCap vm cap m.toNat - l.toNat), w, ?_, rfl, ?_⟩
  · unfold Instr.slice
    rw [Sem.run_bind, run_underlying hu]
    simp only [Result.andThen_ok, Sem.run_bind, hb]
    rw [run_szOf hs]
    simp only [Result.andThen_ok, Sem.run_pure]
  · simp only [relV]
    generalize hmm : mxCap vm cap m.toNat = mm
    have hmm1 : hh.toNat ≤ mm ∧ mm ≤ cap := by
      cases vm <;> simp only [mxCap] at hmm <;> omega
    have hlen : ((es.drop l.toNat).take (hh - l).toNat).length = hh.toNat - l.toNat := by simp; omega
    refine ⟨(if mm = l.toNat then base else base.map (·.add (l.toNat * sz))), mm - l.toNat, by rw [hlen], by rw [hlen]; omega, ?_⟩
    by_cases e : hh.toNat = l.toNat
    · left
      apply List.eq_nil_of_length_eq_zero
      rw [hlen]; omega
    · rcases hc with h4 | ⟨c, o, rfl, h5, h6⟩
      · subst h4; simp at h3; omega
      · right
        refine ⟨c, o + l.toNat * sz, by rw [if_neg (by omega)]; simp only [Option.map_some, addr_add], h5, ?_⟩
        exact relR_take _ (relR_drop _ h6 (by omega))

theorem y_slice_nils {t el : TypeId} {sz : Nat} {v : Value} {xl xh xm : Option AV} {vl vh vm : Option Value} (hu : P.underlying t = some (.slice el)) (hs : szOf P el = some sz)
    (hx : relV h φ I A .nils v) (hl : bndV 0 xl vl (some 0)) (hhh : bndV 0 xh vh (some 0)) (hm : bndV 0 xm vm (some 0)) (hmh : vm.isSome = true → vh.isSome = true) :
    Yields P (Instr.slice t v vl vh vm) h φ I A .nils w := by
  simp only [relV] at hx; subst hx
  have hb := run_sliceBounds (P := P) (w := w) (isS := true) (cap := 0) hl hhh hm (by omega) (by omega) (by omega) (by omega) hmh
  refine ⟨.slice none 0 0, w, ?_, rfl, by simp only [relV]⟩
  unfold Instr.slice
  rw [Sem.run_bind, run_underlying hu]
  simp only [Result.andThen_ok, Sem.run_bind, hb]
  rw [run_szOf hs]
  cases vm <;> simp [mxCap]

theorem y_substr {t : TypeId} {s : ByteArray} {v : Value} {xl xh : Option AV} {vl vh : Option Value} {l hh : Int} (hu : P.underlying t = some .string)
    (hx : relV h φ I A (.str s) v) (hl : bndV 0 xl vl (some l)) (hhh : bndV s.size xh vh (some hh)) (h0 : 0 ≤ l) (h1 : l ≤ hh) (h2 : hh ≤ s.size) :
    Yields P (Instr.slice t v vl vh none) h φ I A (.str (s.extract l.toNat hh.toNat)) w := by
  have := rel_str hx; subst this
  have hb := run_sliceBounds (P := P) (w := w) (isS := false) (xm := none) (vm := none) (m := (s.size : Int)) hl hhh (by simp [bndV]; rfl) h0 h1 h2 (Int.le_refl _) (by simp)
  refine yields_str ?_
  unfold Instr.slice
  rw [Sem.run_bind, run_underlying hu]
  simp only [Result.andThen_ok, Option.isSome_none, Bool.false_eq_true, if_false, Sem.run_bind, Sem.run_pure, hb]

theorem y_len_str {t : TypeId} {s : ByteArray} {v : Value} {ty : TypeId} (hu : P.underlying t = some .string) (hx : relV h φ I A (.str s) v) : Yields P (Builtin.len_ #[t] ty #[v]) h φ I A (.int .i64 s.size) w := by
  have := rel_str hx; subst this
  refine yields_int ?_
  simp [Builtin.len_, run_underlying hu, goInt]
theorem y_len_sl {t el : TypeId} {x : AV} {n : Nat} {v : Value} {ty : TypeId} (hu : P.underlying t = some (.slice el)) (hv : ∃ base cap, v = .slice base n cap) : Yields P (Builtin.len_ #[t] ty #[v]) h φ I A (.int .i64 n) w := by
  obtain ⟨base, cap, rfl⟩ := hv
  refine yields_int ?_
  simp [Builtin.len_, run_underlying hu, goInt]
theorem y_lenc {t el : TypeId} {n : Nat} {v : Value} {ty : TypeId} (hu : P.underlying t = some (.array n el)) : Yields P (Builtin.len_ #[t] ty #[v]) h φ I A (.int .i64 n) w := by
  refine yields_int ?_
  simp [Builtin.len_, run_underlying hu, goInt]

/-! ### Composite values -/
def okParts (P : Program) (place : Nat → Option (Nat × Nat)) : List (Nat × Operand) → List (Nat × Nat × LArg) → Bool
  | [], [] => true
  | (i, x) :: l, (off, n, y) :: m => (match place i with | some (o, k) => decide (o = off) && decide (k = n) | none => false) && (okArg x y && okParts P place l m)
  | _, _ => false

theorem setAt_length {cs vs : List AV} {off : Nat} (hle : off + vs.length ≤ cs.length) : (setAt cs off vs).length = cs.length := by
  simp [setAt]; omega

def setAtV (cs : List Value) (off : Nat) (vs : List Value) : List Value := cs.take off ++ (vs ++ cs.drop (off + vs.length))

theorem relL_setAt {cs vs : List AV} {us ws : List Value} {off : Nat} (h1 : relL h φ I A cs us) (h2 : relL h φ I A vs ws) : relL h φ I A (setAt cs off vs) (setAtV us off ws) := by
  unfold setAt setAtV
  rw [relL_length h2]
  exact relL_append (relL_take _ h1) (relL_append h2 (relL_drop _ h1))

theorem foldl_set : ∀ (vs : List Value) (off j : Nat) (cs : Array Value), off + j + vs.length ≤ cs.size →
    (vs.zipIdx j).foldl (fun (cs : Array Value) p => cs.setIfInBounds (off + p.2) p.1) cs = (setAtV cs.toList (off + j) vs).toArray
  | [], off, j, cs, hle => by simp [setAtV]
  | v :: vs, off, j, cs, hle => by
    simp only [List.length_cons] at hle
    simp only [List.zipIdx_cons, List.foldl_cons]
    rw [foldl_set vs off (j + 1) _ (by simp; omega)]
    congr 1
    apply List.ext_getElem?
    intro i
    simp only [setAtV, Array.toList_setIfInBounds]
    have hl : off + j < cs.toList.length := by simp; omega
    have hlt : (List.take (off + (j + 1)) (cs.toList.set (off + j) v)) = List.take (off + j) cs.toList ++ [v] := by
      rw [show off + (j + 1) = (off + j) + 1 by omega, List.take_succ_eq_append_getElem (by simpa using hl)]
      simp [List.take_set_of_le]
    have hdr : List.drop (off + (j + 1) + vs.length) (cs.toList.set (off + j) v) = List.drop (off + j + (v :: vs).length) cs.toList := by
      rw [List.drop_set_of_lt (by omega)]
      congr 1
      simp; omega
    rw [hlt, hdr]
    simp

/-- Parts, and what is told of them. -/
def relP (h : Array Obj) (φ : Nat → Option (Nat × Nat)) (I A : Nat → Prop) (place : Nat → Option (Nat × Nat)) : List (Nat × Value) → List (Nat × Nat × AV) → Prop
  | [], [] => True
  | p :: ps, q :: qs => (place p.1 = some (q.1, q.2.1) ∧ relV h φ I A q.2.2 p.2) ∧ relP h φ I A place ps qs
  | _, _ => False

theorem fill_rel {place : Nat → Option (Nat × Nat)} : ∀ (ps : List (Nat × Value)) (qs : List (Nat × Nat × AV)) (cs r : List AV) (us : List Value),
    relP h φ I A place ps qs → relL h φ I A cs us → fillL cs qs = some r →
    ∃ us', Instr.fill place us.toArray ps = some us'.toArray ∧ relL h φ I A r us' ∧ r.length = cs.length
  | [], [], cs, r, us, _, hc, H => by
    simp only [fillL, Option.some.injEq] at H; subst H
    exact ⟨us, rfl, hc, rfl⟩
  | (i, v) :: ps, (off, n, x) :: qs, cs, r, us, hps, hc, H => by
    simp only [relP] at hps
    obtain ⟨⟨h1, h2⟩, hps⟩ := hps
    simp only [fillL] at H
    obtain ⟨h3, h4⟩ := grd_some H
    simp only [Bool.and_eq_true, decide_eq_true_eq] at h3
    obtain ⟨hk, h5, h6, _⟩ := h3
    have hcells := relV_cells hk h2
    have hvl : v.cells.size = n := by have := relL_length hcells; simp only [Array.length_toList] at this; omega
    have hul := relL_length hc
    obtain ⟨us', h7, h8, h9⟩ := fill_rel ps qs (setAt cs off x.cells) r (setAtV us off v.cells.toList) hps (relL_setAt hc hcells) h4
    refine ⟨us', ?_, h8, by rw [h9, setAt_length (by omega)]⟩
    simp only [Instr.fill, h1]
    rw [if_neg (by simp [hvl]; omega)]
    rw [← h7]
    congr 1
    have := foldl_set v.cells.toList off 0 us.toArray (by simp [hvl]; omega)
    rw [← Array.foldl_toList, Array.toList_zipIdx]
    simpa using this
  | [], _ :: _, _, _, _, hps, _, _ => by simp [relP] at hps
  | _ :: _, [], _, _, _, hps, _, _ => by simp [relP] at hps

theorem fillL_scalar : ∀ (qs : List (Nat × Nat × AV)) (cs r : List AV), cs.all AV.scalar = true → fillL cs qs = some r → r.all AV.scalar = true
  | [], cs, r, hc, H => by simp only [fillL, Option.some.injEq] at H; subst H; exact hc
  | (off, n, x) :: qs, cs, r, hc, H => by
    simp only [fillL] at H
    obtain ⟨h3, h4⟩ := grd_some H
    simp only [Bool.and_eq_true, decide_eq_true_eq] at h3
    refine fillL_scalar qs _ r ?_ h4
    simp only [List.all_eq_true] at hc h3 ⊢
    intro v hv
    rcases List.mem_append.1 hv with h | h
    · exact hc v (List.mem_of_mem_take h)
    · rcases List.mem_append.1 h with h | h
      · exact h3.2.2.2 v h
      · exact hc v (List.mem_of_mem_drop h)
end
end Go.AM
