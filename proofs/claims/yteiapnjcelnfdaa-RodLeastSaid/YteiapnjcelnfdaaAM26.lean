/- Steps of a drawn region. -/
import Derived.Test.YteiapnjcelnfdaaAM25
set_option linter.unusedSimpArgs false
set_option linter.unusedVariables false
namespace Go.AM

/-- One operation of a drawn region that is no call. -/
def stepD (l : LOper) (i : Nat) (S : AS) : Option AS := (gd S.vars l.guard).bind fun b => match b with
  | false => some (S.appD l i { val := .tup [] })
  | true => (grd (get S.used (S.next + i)).isNone (dEffF S i l.op)).map (S.appD l i)
def stepsD : List LOper → Nat → AS → Option AS
  | [], _, S => some S
  | l :: ls, i, S => (stepD l i S).bind (stepsD ls (i + 1))

section
variable {P : Program} {nt n0 : Nat} {S T : AS}

theorem rgnD_step {l : LOper} {ls : List LOper} {i : Nat} {K : AS → Prop} (h : stepD l i S = some T) (k : rgnD P ls (i + 1) T K) : rgnD P (l :: ls) i S K := by
  unfold stepD at h
  simp only [Option.bind_eq_some_iff] at h
  obtain ⟨b, h1, h2⟩ := h
  simp only [rgnD, h1, Option.sat]
  cases b with
  | false => cases h2; exact k
  | true =>
    simp only [Option.map_eq_some_iff] at h2
    obtain ⟨e, h2, rfl⟩ := h2
    obtain ⟨h3, h4⟩ := grd_some h2
    refine ⟨by simpa using h3, ?_⟩
    obtain ⟨d, op, g⟩ := l
    cases op <;> first | (simp only [h4]; exact k) | (simp [dEffF, LOp.cls] at h4)

theorem rgnD_steps : ∀ {l ls : List LOper} {i : Nat} {S T : AS} {K : AS → Prop}, stepsD l i S = some T → rgnD P ls (i + l.length) T K → rgnD P (l ++ ls) i S K
  | [], _, i, S, T, K, h, k => by cases h; exact k
  | o :: l, ls, i, S, T, K, h, k => by
    simp only [stepsD, Option.bind_eq_some_iff] at h
    obtain ⟨S1, h1, h2⟩ := h
    exact rgnD_step h1 (rgnD_steps h2 (by rw [show i + 1 + l.length = i + (o :: l).length by simp; omega]; exact k))

theorem LWP_runD {S : ST} {T : AS} {U : ST} {Q : Exit → ST → Prop} {ls : List LOper} (h : stepsD ls 0 S.as = some T) (hU : T.fin ls.length = U) (k : Q .normal U) : LWP P nt n0 (.region ls true) S Q :=
  LWP_drawn (by subst hU; have := rgnD_steps (P := P) (ls := []) (K := fun S' => Q .normal (S'.fin ls.length)) h k; rwa [List.append_nil] at this)

theorem rgnD_pre (n : Nat) {ls : List LOper} {i : Nat} {K : AS → Prop} (h : stepsD (ls.take n) i S = some T) (k : rgnD P (ls.drop n) (i + (ls.take n).length) T K) : rgnD P ls i S K := by
  have := rgnD_steps h k
  rwa [List.take_append_drop] at this

theorem appD_val (l : LOper) (i : Nat) (v : AV) : S.appD l i { val := v } = bif l.op.cls == 2 then ⟨putV l.dst v S.vars, delAll S.dead S.heap, S.next, S.used, []⟩ else ⟨putV l.dst v S.vars, S.heap, S.next, S.used, S.dead⟩ := by
  simp only [AS.appD]; by_cases h : l.op.cls = 2
  · simp [h, AS.app, AS.flush]
  · rw [beq_false_of_ne h]; simp [h, AS.app]
theorem appD_new (l : LOper) (i : Nat) (v : AV) (b : Blk) : S.appD l i { val := v, new := some b } = bif l.op.cls == 2 then ⟨putV l.dst v S.vars, ins (S.next + i) b (delAll S.dead S.heap), S.next, ins (S.next + i) () S.used, []⟩ else ⟨putV l.dst v S.vars, ins (S.next + i) b S.heap, S.next, ins (S.next + i) () S.used, S.dead⟩ := by
  simp only [AS.appD]; by_cases h : l.op.cls = 2
  · simp [h, AS.app, AS.flush]
  · rw [beq_false_of_ne h]; simp [h, AS.app]
theorem appD_kill (l : LOper) (i : Nat) (v : AV) (b : Blk) (x : Nat) : S.appD l i { val := v, new := some b, kill := some x } = bif l.op.cls == 2 then ⟨putV l.dst v S.vars, ins (S.next + i) b (delAll S.dead S.heap), S.next, ins (S.next + i) () S.used, ins x () []⟩ else ⟨putV l.dst v S.vars, ins (S.next + i) b S.heap, S.next, ins (S.next + i) () S.used, ins x () S.dead⟩ := by
  simp only [AS.appD]; by_cases h : l.op.cls = 2
  · simp [h, AS.app, AS.flush, khp, kdd]
  · rw [beq_false_of_ne h]; simp [h, AS.app, khp, kdd]
theorem appD_upd (l : LOper) (i : Nat) (v : AV) (b : Nat × Blk) : S.appD l i { val := v, upd := some b } = bif l.op.cls == 2 then ⟨putV l.dst v S.vars, ins b.1 b.2 (delAll S.dead S.heap), S.next, S.used, []⟩ else ⟨putV l.dst v S.vars, ins b.1 b.2 S.heap, S.next, S.used, S.dead⟩ := by
  simp only [AS.appD]; by_cases h : l.op.cls = 2
  · simp [h, AS.app, AS.flush]
  · rw [beq_false_of_ne h]; simp [h, AS.app]

theorem rgnD_call {i : Nat} {d : Option Nat} {q : Bool} {f : LArg} {xs : List LArg} {os : List LOper} {K : AS → Prop} {g : Nat} {first caps args : List AV} {v : AV} (hc : ACalls P g args [] 0 (fun r _ _ => r = v)) (hf : f.ev S.vars = .fn g first caps) (ha : first ++ xs.map (·.ev S.vars) ++ caps = args)
    (hp : pureL args = true) (hv : v.pure = true) {gg : Option (Nat × Bool)} (hg : gd S.vars gg = some true) (hu : get S.used (S.next + i) = none) (k : rgnD P os (i + 1) ⟨putV d v S.vars, S.heap, S.next, S.used, S.dead⟩ K) : rgnD P (⟨d, .call q f xs, gg⟩ :: os) i S K := by
  simp only [rgnD, hg, Option.sat, hf]
  rw [ha]
  exact ⟨hu, v, [], QC.of_pure hc hp hv, fun b blk h => by simp [get] at h, by rw [appD_val]; exact k⟩

end
end Go.AM
