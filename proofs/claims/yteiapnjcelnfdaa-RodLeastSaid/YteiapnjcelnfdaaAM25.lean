/- Steps of a walk over told states. -/
import Derived.Test.YteiapnjcelnfdaaAM24
import Derived.Test.YteiapnjcelnfdaaAM20
set_option linter.unusedSimpArgs false
set_option linter.unusedVariables false
namespace Go.AM
section
variable {P : Program} {nt n0 : Nat} {S T : ST} {Q : Exit → ST → Prop}

/-- One operation that is no call. -/
def stepS (o : LOper) (S : ST) : Option ST := (gd S.vars o.guard).bind fun b => match b with
  | false => some { S with vars := putV o.dst (.tup []) S.vars }
  | true => (opEff S.heap S.vars S.next o.op).map (S.app o.dst)
def stepsS : List LOper → ST → Option ST
  | [], S => some S
  | o :: os, S => (stepS o S).bind (stepsS os)

theorem rgnS_step {o : LOper} {os : List LOper} {S' : ST} {K : ST → Prop} (h : stepS o S = some S') (k : rgnS P os S' K) : rgnS P (o :: os) S K := by
  unfold stepS at h
  simp only [Option.bind_eq_some_iff] at h
  obtain ⟨b, h1, h2⟩ := h
  simp only [rgnS, h1, Option.sat]
  cases b with
  | false => cases h2; exact k
  | true =>
    simp only [Option.map_eq_some_iff] at h2
    obtain ⟨e, h2, rfl⟩ := h2
    obtain ⟨d, op, g⟩ := o
    cases op <;> first | (simp only [h2]; exact k) | (simp [opEff] at h2)

theorem rgnS_steps : ∀ {l os : List LOper} {S S' : ST} {K : ST → Prop}, stepsS l S = some S' → rgnS P os S' K → rgnS P (l ++ os) S K
  | [], _, S, S', K, h, k => by cases h; exact k
  | o :: l, os, S, S', K, h, k => by
    simp only [stepsS, Option.bind_eq_some_iff] at h
    obtain ⟨S1, h1, h2⟩ := h
    exact rgnS_step h1 (rgnS_steps h2 k)

theorem LWP_run {ls : List LOper} (h : stepsS ls S = some T) (k : Q .normal T) : LWP P nt n0 (.region ls false) S Q :=
  LWP_region (by have := rgnS_steps (P := P) (os := []) (K := fun S' => Q .normal S') h k; rwa [List.append_nil] at this)

/-- The operations in front of a call. -/
theorem rgnS_pre (n : Nat) {ls : List LOper} {K : ST → Prop} (h : stepsS (ls.take n) S = some T) (k : rgnS P (ls.drop n) T K) : rgnS P ls S K := by
  have := rgnS_steps h k
  rwa [List.take_append_drop] at this

/-- A call with trees, its answer a tree. -/
theorem rgnS_call {d : Option Nat} {q : Bool} {f : LArg} {xs : List LArg} {os : List LOper} {K : ST → Prop} {g : Nat} {first caps args : List AV} {v : AV} (hc : ACalls P g args [] 0 (fun r _ _ => r = v)) (hf : f.ev S.vars = .fn g first caps) (ha : first ++ xs.map (·.ev S.vars) ++ caps = args)
    (hp : pureL args = true) (hv : v.pure = true) {gg : Option (Nat × Bool)} (hg : gd S.vars gg = some true) (k : rgnS P os ⟨putV d v S.vars, S.heap, S.next⟩ K) : rgnS P (⟨d, .call q f xs, gg⟩ :: os) S K := by
  simp only [rgnS, hg, Option.sat, hf]
  rw [ha]
  refine CallS.of_pure hc hp fun r H' n' hr => ?_
  subst hr
  exact ⟨hv, k⟩

theorem LWP_reg {ls : List LOper} (h : ∀ K : ST → Prop, (∀ S', Q .normal S' → K S') → rgnS P ls S K) : LWP P nt n0 (.region ls false) S Q :=
  LWP_region (h _ fun _ h => h)

theorem LWP_regD {ls : List LOper} (h : ∀ K : AS → Prop, (∀ S' : AS, Q .normal (S'.fin ls.length) → K S') → rgnD P ls 0 S.as K) : LWP P nt n0 (.region ls true) S Q :=
  LWP_drawn (h _ fun _ h => h)

theorem app_val (d : Option Nat) (v : AV) : S.app d { val := v } = ⟨putV d v S.vars, S.heap, S.next⟩ := rfl
theorem app_new (d : Option Nat) (v : AV) (b : Blk) : S.app d { val := v, new := some b } = ⟨putV d v S.vars, ins S.next b S.heap, S.next + 1⟩ := rfl
theorem app_upd (d : Option Nat) (v : AV) (b : Nat × Blk) : S.app d { val := v, upd := some b } = ⟨putV d v S.vars, ins b.1 b.2 S.heap, S.next⟩ := rfl
theorem app_kill (d : Option Nat) (v : AV) (b : Blk) (x : Nat) : S.app d { val := v, new := some b, kill := some x } = ⟨putV d v S.vars, ins S.next b (del x S.heap), S.next + 1⟩ := rfl

/-- What a body's end says. -/
def retQ (res : List LRes) (v : AV) : Exit → ST → Prop
  | .normal, S => ∃ vs, resV S res = some vs ∧ wkV (retV vs) v
  | .ret, S => ∃ vs, resV S res = some vs ∧ wkV (retV vs) v
  | _, _ => False

/-- A call of a body, its answer a tree. -/
theorem pure_body {f : Nat} {lf : LFunc} {args : List AV} {v : AV} (hf : okFunc P f lf = true) (hn : args.length = lf.np) (h : LWP P lf.nt 0 lf.body ⟨parV 0 args, [], 0⟩ (retQ lf.res v)) : ACalls P f args [] 0 (fun r _ _ => r = v) := by
  have H : ACalls P f args [] 0 (fun r _ _ => wkV r v) := by
    refine ACalls_of_body hf hn (LWP.mono h fun e S' he => ?_)
    cases e with
    | normal => obtain ⟨vs, h1, h2⟩ := he; simp only [bodyQ, h1]; exact h2
    | ret => obtain ⟨vs, h1, h2⟩ := he; simp only [bodyQ, h1]; exact h2
    | _ => exact he.elim
  refine ⟨H.1, fun w F φ I cargs R ha => (H.2 w F φ I cargs R ha).mono ?_⟩
  rintro e w' ⟨cv, r, H', n', φ', I', k1, k2, k3, k4, k5⟩
  exact ⟨cv, v, H', n', φ', I', k1, k2, k4 _ _ _ _ _ k3, rfl, k5⟩

theorem retQ_ret {res : List LRes} {v : AV} (vs : List AV) (h : resV S res = some vs) (hv : wkV (retV vs) v) : LWP P nt n0 .ret S (retQ res v) := LWP_ret ⟨vs, h, hv⟩

end

def leH : Heap → Heap → Prop
  | [], _ => True
  | (x, v) :: l, m => get m x = some v ∧ leH l m
theorem leH_spec : ∀ {l m : Heap}, leH l m → ∀ x v, get l x = some v → get m x = some v
  | [], _, _, x, v, h => by simp [get] at h
  | (k, w) :: l, m, H, x, v, h => by
    simp only [get] at h
    split at h
    · rename_i e; subst e; cases h; exact H.1
    · exact leH_spec H.2 x v h
theorem ST.le.mk2 {T S : ST} (hv : leV T.vars S.vars) (hh : leH T.heap S.heap) (hn : S.next = T.next) : T.le S := ⟨leV_spec hv, leH_spec hh, hn⟩

theorem nlt_self (n k : Nat) : (n + k < n) = False := by simp
theorem nne_self (n k : Nat) : (n + (k + 1) = n) = False := by simp
theorem nne_self' (n k : Nat) : (n = n + (k + 1)) = False := by simp
theorem wrap_i64 {n : Int} (h1 : -9223372036854775808 ≤ n) (h2 : n ≤ 9223372036854775807) : IntKind.i64.wrap n = n := by
  unfold IntKind.wrap
  simp [IntKind.signed, IntKind.bits]
  omega

theorem wrap_nat {n : Nat} (h : n ≤ 9223372036854775807) : IntKind.i64.wrap (n : Int) = n := wrap_i64 (by omega) (by omega)
theorem wrap_succ {n : Nat} (h : n < 9223372036854775807) : IntKind.i64.wrap ((n : Int) + 1) = ((n + 1 : Nat) : Int) := by rw [wrap_i64 (by omega) (by omega)]; omega
end Go.AM
