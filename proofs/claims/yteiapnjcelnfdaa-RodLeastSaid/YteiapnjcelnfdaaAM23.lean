/- A law's row out of its contract: for every argument tree the call answers true. -/
import Derived.Test.YteiapnjcelnfdaaAM22
import Derived.WalkKit
import Derived.ProofKit
import Derived.OpenShut
import Derived.ChangeOld
import Derived.Below
import Derived.Carry
set_option linter.unusedSimpArgs false
set_option linter.unusedVariables false
namespace Go.AM
open Go.ChangeShapes Go.WideShapes Go.ChangeAt Go.RowKit

/-- An argument: a struct or an array comes as one value. -/
def wtA (P : Program) (n : Nat) (t : TypeId) (a : AV) : Prop := match P.underlying t with
  | some (.struct _) | some (.array _ _) => ∃ cs, a = .agg cs ∧ wtV P n t cs
  | _ => wtV P n t [a]

def wtAll (P : Program) : List TypeId → List AV → Prop
  | [], [] => True
  | t :: ts, a :: as => (∃ n, wtA P n t a) ∧ wtAll P ts as
  | _, _ => False

section
variable {H : Type} {enc : TypeId × Value → H} {P : Program} {W W' : World} {φ : Nat → Option (Nat × Nat)} {A : Nat → Prop}

theorem not_agg {t : TypeId} {base : Nat} {v : Value} {r : Reach} (h : Cell.okWide P W r base t v) : v.cells = #[v] := by
  cases v with
  | agg cs =>
    exfalso
    revert h
    unfold Cell.okWide Cell.ok
    cases P.underlying t with
    | none => simp
    | some d => cases d <;> simp
  | _ => rfl

theorem arg_reads (hL : layB P = true) {t : TypeId} (ht : t < P.types.size) {base : Nat} {v : Value} {d : DataW H} {p : List MemPlace} (hv : Value.okWide P W .any base t v) (h : DataW.Trod enc P W 0 (fun _ => true) true t v d p) :
    ∃ a, relV W.heap φ (· < W.heap.size) A a v ∧ (∃ n, wtA P n t a) ∧ a.bulk ≤ bulkD d := by
  obtain ⟨fuel, hf⟩ := h
  obtain ⟨avs, h1, h2, h3, h4⟩ := trod_reads (φ := φ) (A := A) hL _ _ _ _ ht hf
  have one : Cell.okWide P W .any base t v → ∃ a, avs = [a] ∧ relV W.heap φ (· < W.heap.size) A a v := fun hc => by
    rw [not_agg hc] at h1
    cases avs with
    | nil => simp [relL] at h1
    | cons a l =>
      cases l with
      | nil => simp only [relL] at h1; obtain ⟨v', r, e, k, e2⟩ := h1; cases e; exact ⟨a, rfl, k⟩
      | cons b l => simp only [relL] at h1; obtain ⟨v', r, e, k, v'', r', e2, _⟩ := h1; cases e; cases e2
  have agg : (∃ cs : Array Value, v = .agg cs ∧ cs.size = P.cellsOf t ∧ Row.okWide P W .any base t cs) → relV W.heap φ (· < W.heap.size) A (.agg avs) v := fun ⟨cs, hc, _⟩ => by
    subst hc
    simp only [relV]
    exact ⟨cs.toList, by simp, h1⟩
  unfold Value.okWide at hv
  unfold wtA
  split at hv
  · rename_i fs hu
    exact ⟨.agg avs, agg hv, ⟨fuel, by rw [hu]; exact ⟨avs, rfl, h2⟩⟩, by simpa [AV.bulk] using h4⟩
  · rename_i k e hu
    exact ⟨.agg avs, agg hv, ⟨fuel, by rw [hu]; exact ⟨avs, rfl, h2⟩⟩, by simpa [AV.bulk] using h4⟩
  · rename_i hn1 hn2
    obtain ⟨a, rfl, k⟩ := one hv
    refine ⟨a, k, ⟨fuel, ?_⟩, by simpa [bulkL] using h4⟩
    split
    · rename_i hu; exact absurd hu (hn1 _)
    · rename_i hu; exact absurd hu (hn2 _ _)
    · exact h2

theorem args_read (hL : layB P = true) {base : Nat} : ∀ (ts : List TypeId) (vs : List Value) (ds : List (DataW H)) (p : List MemPlace), (∀ t ∈ ts, t < P.types.size) → (∀ (j : Nat) t v, ts[j]? = some t → vs[j]? = some v → Value.okWide P W .any base t v) →
    DataW.TrodAll enc P W 0 (fun _ => true) true ts vs ds p → ∃ as, relL W.heap φ (· < W.heap.size) A as vs ∧ wtAll P ts as ∧ bulkL as ≤ bulkDs ds
  | [], vs, ds, p, _, _, h => by
    obtain ⟨rfl, rfl, rfl⟩ := trodAll_nil h
    exact ⟨[], by simp [relL], trivial, by simp [bulkL]⟩
  | t :: ts, vs, ds, p, ht, hv, h => by
    obtain ⟨v, vs', d, ds', p', q', rfl, rfl, rfl, h1, h2⟩ := trodAll_cons h
    obtain ⟨a, k1, k2, k3⟩ := arg_reads (φ := φ) (A := A) hL (ht t (by simp)) (hv 0 t v rfl rfl) h1
    obtain ⟨as, k4, k5, k6⟩ := args_read hL ts vs' ds' q' (fun x hx => ht x (List.mem_cons_of_mem _ hx)) (fun j x y hx hy => hv (j + 1) x y (by simpa using hx) (by simpa using hy)) h2
    exact ⟨a :: as, by simp only [relL]; exact ⟨v, vs', rfl, k1, k4⟩, ⟨k2, k5⟩, by simp only [bulkL, bulkDs]; omega⟩

theorem args_stay (hO : laidOutB P = true) (bel : Below W.heap.size W W') : ∀ (ts : List TypeId) (vs : List Value) (ds : List (DataW H)) (p : List MemPlace), (∀ t ∈ ts, t < P.types.size ∧ P.readableRec t = true) →
    DataW.TrodAll enc P W 0 (fun _ => true) true ts vs ds p → DataW.TrodAll enc P W' 0 (fun b => decide (b < W.heap.size)) true ts vs ds p
  | [], vs, ds, p, _, h => by
    obtain ⟨rfl, rfl, rfl⟩ := trodAll_nil h
    exact trodAll_mk0
  | t :: ts, vs, ds, p, ht, h => by
    obtain ⟨v, vs', d, ds', p', q', rfl, rfl, rfl, h1, h2⟩ := trodAll_cons h
    have lt : ∀ x ∈ p', x.block < W.heap.size := by obtain ⟨m, hm⟩ := h1; exact DataW.trod_lt m _ _ _ hm
    exact trodAll_cons_mk (Below.trod hO (ht t (by simp)).2 (ht t (by simp)).1 h1 bel lt) (args_stay hO bel ts vs' ds' q' (fun x hx => ht x (List.mem_cons_of_mem _ hx)) h2)

/-- THE ROW'S STEP. -/
theorem law_post {f : Func} {n : FuncId} {s : ChangeSpec} {tb : TypeId} (hL : layB P = true) (hO : laidOutB P = true)
    (hps : f.params.toList.all (fun t => decide (t < P.types.size) && P.readableRec t) = true) (hres : f.resultTypes = #[tb]) (htb : P.underlying tb = some .bool)
    (hvars : s.vars = []) (hfn : ∀ ds : List (DataW H), ds.length = f.params.size → s.fn H ds = { results := [.lit (.bool true)], args := ds })
    {base : Nat} {args : Array Value} {ds gs : List (DataW H)} {before : List MemPlace}
    (hc : ∀ as, wtAll P f.params.toList as → bulkL as ≤ bulkDs (ds ++ gs) → ACalls P n as [] 0 (fun r _ _ => r = .bool true))
    (hval : ∀ (j : Nat) t v, f.params[j]? = some t → args[j]? = some v → Value.okWide P W .any base t v)
    (hW : DataW.Whole enc P f.params.toList s.vars false W args.toList ds gs before) :
    Calls P n args W fun e W' => ∃ v, e = .returned v ∧ s.post enc P f false true false false W args v W' := by
  have hW' := hW
  obtain ⟨p, q, hA, hV, rfl, hfz, hnd⟩ := hW
  rw [hvars] at hV
  obtain ⟨rfl, rfl⟩ := trodVars_none hV
  simp only [List.all_eq_true, Bool.and_eq_true, decide_eq_true_eq] at hps
  have hA' : DataW.TrodAll enc P W 0 (fun _ => true) true f.params.toList args.toList ds p := hA
  obtain ⟨as, k1, k2, k3⟩ := args_read (φ := fun _ => none) (A := (· < 0)) hL _ _ _ _ (fun t ht => (hps t ht).1) (fun j t v h1 h2 => hval j t v (by simpa using h1) (by simpa using h2)) hA'
  have hlen : ds.length = f.params.size := by
    have : ∀ (ts : List TypeId) (vs : List Value) (ds : List (DataW H)) (p : List MemPlace), DataW.TrodAll enc P W 0 (fun _ => true) true ts vs ds p → ds.length = ts.length := by
      intro ts
      induction ts with
      | nil => intro vs ds p h; obtain ⟨rfl, rfl, rfl⟩ := trodAll_nil h; rfl
      | cons t ts ih => intro vs ds p h; obtain ⟨v, vs', d, ds', p', q', rfl, rfl, rfl, h1, h2⟩ := trodAll_cons h; simp [ih _ _ _ h2]
    simpa using this _ _ _ _ hA'
  obtain ⟨_, hcalls⟩ := hc as k2 (by simpa using k3)
  have R : RelH ⟨W.heap, fun _ => False, fun _ => none, 0, (· < W.heap.size)⟩ (fun _ => none) (· < W.heap.size) ⟨[], [], 0, [], []⟩ W.heap := by
    constructor
    · intro b blk h; simp [get] at h
    · intro b blk c o h; simp [get] at h
    · intro b b' c o c' o' h; simp [get] at h
    · intro c hc; exact hc
    · intro c hc; exact .inl hc
    · intro c hc; exact hc
    · intro c _ _; rfl
    · exact Nat.le_refl _
    · intro c s h; exact h
    · intro b hb; cases hb
    · exact Nat.le_refl _
  refine (hcalls W _ _ _ args.toList R k1).mono ?_
  rintro e W' ⟨cv, r, H', n', φ', I', rfl, R', hr, rfl, hk⟩
  simp only [relV] at hr
  subst hr
  have bel : Below W.heap.size W W' := ⟨hk.1, hk.2.1, hk.2.2, R'.size, fun c hc => R'.frame c hc (by simp)⟩
  refine ⟨_, rfl, ds, [], p ++ [], [], p, [], hW', ?_, ?_, ?_, bel.frame _, fun h => by cases h⟩
  · rw [List.append_nil, hfn ds hlen, hres]
    exact trodAll_mk1 (shut_bool htb _)
  · rw [List.append_nil, hfn ds hlen]
    exact args_stay hO bel _ _ _ _ hps hA'
  · rw [hvars, List.append_nil, hfn ds hlen]
    exact rfl
end
end Go.AM
