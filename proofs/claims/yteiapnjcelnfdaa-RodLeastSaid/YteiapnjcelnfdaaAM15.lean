/- Regions that draw their order: what an operation looks at, and which ones may change places. -/
import Derived.Test.YteiapnjcelnfdaaAM14
set_option linter.unusedSimpArgs false
set_option linter.unusedVariables false
namespace Go.AM

def LOp.args : LOp → List LArg
  | .mv x => [x]
  | .own _ => []
  | .pick c a b => [c, a, b]
  | .newv _ => []
  | .box _ x => [x]
  | .build _ ps => ps.map (·.2.2)
  | .bsl _ _ _ ps => ps.map (·.2)
  | .btsl _ _ _ ps => ps.map (·.2)
  | .load _ _ a => [a]
  | .store _ a x => [a, x]
  | .bin _ x y => [x, y]
  | .eq _ _ x y => [x, y]
  | .not x => [x]
  | .neg x => [x]
  | .conv _ x => [x]
  | .mkfn _ fs cs => fs ++ cs
  | .mkmap => []
  | .mksl _ _ _ l c => [l, c]
  | .slice _ x lo hi mx => x :: (lo.toList ++ (hi.toList ++ mx.toList))
  | .substr x lo hi => x :: (lo.toList ++ hi.toList)
  | .fadr _ x => [x]
  | .idxa _ x i => [x, i]
  | .idxp _ _ x i => [x, i]
  | .field _ _ _ x => [x]
  | .idxs x i => [x, i]
  | .idxc _ _ _ x i => [x, i]
  | .lookup _ _ _ x k => [x, k]
  | .mapupd _ x k v => [x, k, v]
  | .extract x _ => [x]
  | .len _ x => [x]
  | .lenc _ => []
  | .append _ _ x y => [x, y]
  | .copy _ x y => [x, y]
  | .maxs xs => xs
  | .mins xs => xs
  | .nilck x => [x]
  | .call _ f xs => f :: xs

def LOp.cls : LOp → Nat
  | .store _ _ _ | .mapupd _ _ _ _ | .copy _ _ _ => 2
  | .load _ _ _ | .lookup _ _ _ _ _ | .newv _ | .box _ _ | .bsl _ _ _ _ | .mkmap | .mksl _ _ _ _ _ | .own _ => 1
  | .append _ _ _ _ => 3
  | .call _ _ _ => 4
  | .len .mp _ => 1
  | _ => 0

def AV.ids : AV → List Nat
  | .ptr _ b _ _ | .sl _ b _ _ | .map b => [b]
  | _ => []

def LArg.slot : LArg → Option Nat
  | .t x => some x
  | .c _ => none

def LOper.looks (l : LOper) : List Nat := l.op.args.filterMap LArg.slot ++ (match l.guard with | some p => [p.1] | none => [])

theorem ev_same {vs vs' : Vars} {x : LArg} (h : ∀ s, x.slot = some s → get vs s = get vs' s) : x.ev vs = x.ev vs' := by
  cases x with
  | t s => simp only [LArg.ev]; rw [h s rfl]
  | c v => rfl

theorem map_ev_same {vs vs' : Vars} {xs : List LArg} (h : ∀ x ∈ xs, x.ev vs = x.ev vs') : xs.map (·.ev vs) = xs.map (·.ev vs') := List.map_congr_left h

/-- An operation goes by its arguments. -/
theorem opEff_vars {H : Heap} {vs vs' : Vars} {id : Nat} {op : LOp} (h : ∀ x ∈ op.args, x.ev vs = x.ev vs') : opEff H vs id op = opEff H vs' id op := by
  cases op <;> simp only [LOp.args, List.mem_cons, List.mem_append, List.not_mem_nil, or_false, forall_eq_or_imp, forall_eq, List.mem_map, forall_exists_index, and_imp, forall_apply_eq_imp_iff₂] at h <;> simp only [opEff]
  case mv => rw [h]
  case pick => rw [h.1, h.2.1, h.2.2]
  case box => rw [h]
  case build zero ps => rw [show (ps.map fun p => (p.1, p.2.1, p.2.2.ev vs)) = ps.map fun p => (p.1, p.2.1, p.2.2.ev vs') from List.map_congr_left fun p hp => by rw [h p hp]]
  case bsl sz n zero ps => rw [show (ps.map fun p => (p.1 * sz, sz, p.2.ev vs)) = ps.map fun p => (p.1 * sz, sz, p.2.ev vs') from List.map_congr_left fun p hp => by rw [h p hp]]
  case btsl sz n zero ps => rw [show (ps.map fun p => (p.1 * sz, sz, p.2.ev vs)) = ps.map fun p => (p.1 * sz, sz, p.2.ev vs') from List.map_congr_left fun p hp => by rw [h p hp]]
  case load => rw [h]
  case store => rw [h.1, h.2]
  case bin => rw [h.1, h.2]
  case eq => rw [h.1, h.2]
  case not => rw [h]
  case neg => rw [h]
  case conv => rw [h]
  case mkfn fs cs => rw [map_ev_same (xs := fs) fun x hx => h x (.inl hx), map_ev_same (xs := cs) fun x hx => h x (.inr hx)]
  case mksl => rw [h.1, h.2]
  case slice sz x lo hi mx =>
    rw [h.1]
    have e1 : lo.map (·.ev vs) = lo.map (·.ev vs') := by cases lo with | none => rfl | some y => simp [h.2 y (.inl (by simp))]
    have e2 : hi.map (·.ev vs) = hi.map (·.ev vs') := by cases hi with | none => rfl | some y => simp [h.2 y (.inr (.inl (by simp)))]
    have e3 : mx.map (·.ev vs) = mx.map (·.ev vs') := by cases mx with | none => rfl | some y => simp [h.2 y (.inr (.inr (by simp)))]
    rw [e1, e2, e3]
  case substr x lo hi =>
    rw [h.1]
    have e1 : lo.map (·.ev vs) = lo.map (·.ev vs') := by cases lo with | none => rfl | some y => simp [h.2 y (.inl (by simp))]
    have e2 : hi.map (·.ev vs) = hi.map (·.ev vs') := by cases hi with | none => rfl | some y => simp [h.2 y (.inr (by simp))]
    rw [e1, e2]
  case fadr => rw [h]
  case idxa => rw [h.1, h.2]
  case idxp => rw [h.1, h.2]
  case field => rw [h]
  case idxs => rw [h.1, h.2]
  case idxc => rw [h.1, h.2]
  case lookup => rw [h.1, h.2]
  case mapupd => rw [h.1, h.2.1, h.2.2]
  case extract => rw [h]
  case len k x => cases k <;> simp only [h]
  case nilck => rw [h]
  case append => rw [h.1, h.2]
  case copy => rw [h.1, h.2]
  case maxs xs => rw [map_ev_same h]
  case mins xs => rw [map_ev_same h]

theorem elems_heap {H H' : Heap} {sz : Nat} {v : AV} (h : ∀ b ∈ v.ids, get H b = get H' b) : elems H sz v = elems H' sz v := by
  cases v <;> simp only [elems]
  rw [h _ (by simp [AV.ids])]

/-- Plain operations know nothing of memory. -/
theorem opEff_plain {H H' : Heap} {vs : Vars} {id id' : Nat} {op : LOp} (hc : op.cls = 0) : opEff H vs id op = opEff H' vs id' op := by
  cases op <;> simp only [LOp.cls, Nat.succ_ne_zero, reduceCtorEq] at hc <;> simp only [opEff]
  case len k x => cases k <;> first | rfl | (simp [LOp.cls] at hc)
  all_goals (cases hc)

theorem opEff_heap {H H' : Heap} {vs : Vars} {id : Nat} {op : LOp} (h : ∀ x ∈ op.args, ∀ b ∈ (x.ev vs).ids, get H b = get H' b) : opEff H vs id op = opEff H' vs id op := by
  have key : ∀ {x : LArg} {v : AV} {b : Nat}, x ∈ op.args → x.ev vs = v → b ∈ v.ids → get H b = get H' b := fun h1 h2 h3 => h _ h1 _ (by rw [h2]; exact h3)
  cases op <;> simp only [opEff]
  case load ag n a =>
    cases hv : a.ev vs <;> simp only
    rw [key (x := a) (by simp [LOp.args]) hv (by simp [AV.ids])]
  case store n a x =>
    cases hv : a.ev vs <;> simp only
    rw [key (x := a) (by simp [LOp.args]) hv (by simp [AV.ids])]
  case lookup ok t zero x k =>
    cases hv : x.ev vs <;> simp only
    rw [key (x := x) (by simp [LOp.args]) hv (by simp [AV.ids])]
  case mapupd t x k v =>
    cases hv : x.ev vs <;> simp only
    rw [key (x := x) (by simp [LOp.args]) hv (by simp [AV.ids])]
  case len k x =>
    cases k <;> simp only
    cases hv : x.ev vs <;> simp only
    rw [key (x := x) (by simp [LOp.args]) hv (by simp [AV.ids])]
  case append sz bytes x y =>
    rw [elems_heap (H := H) (H' := H') fun b hb => h y (by simp [LOp.args]) b hb]
    cases hv : x.ev vs <;> simp only
    rw [key (x := x) (by simp [LOp.args]) hv (by simp [AV.ids])]
  case copy sz x y =>
    rw [elems_heap (H := H) (H' := H') fun b hb => h y (by simp [LOp.args]) b hb]
    cases hv : x.ev vs <;> simp only
    rw [key (x := x) (by simp [LOp.args]) hv (by simp [AV.ids])]
end Go.AM
