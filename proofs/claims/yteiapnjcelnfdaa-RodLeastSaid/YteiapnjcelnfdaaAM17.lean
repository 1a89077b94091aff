/- Operations that may change places, and the theorem on drawn orders. -/
import Derived.Test.YteiapnjcelnfdaaAM16
set_option linter.unusedSimpArgs false
set_option linter.unusedVariables false
namespace Go.AM

def apartL (x y : LOper) : Bool :=
  (match x.dst with
    | some d => !(y.looks.contains d) && !(decide (y.dst = some d))
    | none => true) &&
  (match y.dst with
    | some d => !(x.looks.contains d)
    | none => true)

def clsOK (x y : LOper) : Bool := match x.op.cls, y.op.cls with
  | 0, _ => true
  | _, 0 => true
  | 1, 1 => true
  | 1, 3 => true
  | 3, 1 => true
  | 1, 4 => true
  | 4, 1 => true
  | 3, 3 => true
  | 4, 4 => true
  | _, _ => false

theorem apartL_spec {x y : LOper} (h : apartL x y = true) : (∀ d, x.dst = some d → d ∉ y.looks) ∧ (∀ d, x.dst = some d → y.dst ≠ some d) ∧ (∀ d, y.dst = some d → d ∉ x.looks) := by
  refine ⟨fun d hd => ?_, fun d hd => ?_, fun d hd => ?_⟩ <;> simp [apartL, hd] at h
  · exact h.1.1
  · exact h.1.2
  · exact h.2

theorem putV_get {dst : Option Nat} {v : AV} {vs : Vars} {s : Nat} (h : ∀ d, dst = some d → d ≠ s) : get (putV dst v vs) s = get vs s := by
  cases dst with
  | none => rfl
  | some d => simp only [putV, get_ins]; rw [if_neg (h d rfl)]

theorem putV_comm {d d' : Option Nat} {v v' : AV} {vs : Vars} (h : ∀ x, d = some x → d' ≠ some x) : putV d' v' (putV d v vs) = putV d v (putV d' v' vs) := by
  cases d with
  | none => rfl
  | some x =>
    cases d' with
    | none => rfl
    | some y => simp only [putV]; exact ins_comm vs v' v (fun e => h x rfl (by rw [e]))

theorem gd_same {vs vs' : Vars} {l : LOper} (h : ∀ s ∈ l.looks, get vs s = get vs' s) : gd vs l.guard = gd vs' l.guard := by
  cases hg : l.guard with
  | none => rfl
  | some p =>
    obtain ⟨x, b⟩ := p
    simp only [gd]
    rw [h x (by simp [LOper.looks, hg])]

theorem args_same {vs vs' : Vars} {l : LOper} (h : ∀ s ∈ l.looks, get vs s = get vs' s) : ∀ x ∈ l.op.args, x.ev vs = x.ev vs' := fun x hx =>
  ev_same fun s hs => h s (List.mem_append_left _ (List.mem_filterMap.2 ⟨x, hx, hs⟩))

/-- What an operation yields in one state it yields in another that it can't tell from it. -/
theorem DEff.move {P : Program} {S T : AS} {l : LOper} {i : Nat} {e : Eff} (he : DEff P S l i e) (hv : ∀ s ∈ l.looks, get S.vars s = get T.vars s) (hn : T.next = S.next) (hu : get S.used (S.next + i) = none → get T.used (S.next + i) = none)
    (hh : l.op.cls ≠ 0 → ∀ b, b < S.next → get S.heap b = get T.heap b) (hk : ∀ b, e.kill = some b → get S.dead b = none → get T.dead b = none) (hcall : l.op.cls = 4 → ∀ b, get S.dead b = none → get T.dead b = none)
    (hf : l.op.cls = 2 → S.flush.heap = T.flush.heap) : DEff P T l i e := by
  have hgd := gd_same hv
  have hargs := args_same hv
  rcases he with ⟨hg, rfl⟩ | ⟨hg, hus, he⟩
  · exact .inl ⟨hgd ▸ hg, rfl⟩
  · refine .inr ⟨hgd ▸ hg, by rw [hn]; exact hu hus, ?_⟩
    rw [hn]
    rcases he with ⟨q, f, args, v, H, g, first, caps, hl, rfl, hfe, hqc, hH⟩ | ⟨hc, he⟩ | ⟨hc, he, hs, hids, hkill⟩ | ⟨hc, he⟩
    · refine .inl ⟨q, f, args, v, H, g, first, caps, hl, rfl, ?_, ?_, fun b blk hb => ?_⟩
      · rw [← hargs f (by rw [hl]; simp [LOp.args])]; exact hfe
      · rw [← map_ev_same (vs := S.vars) (vs' := T.vars) fun x hx => hargs x (by rw [hl]; simp [LOp.args, hx])]
        exact hqc
      · obtain ⟨h1, h2, h3⟩ := hH b blk hb
        exact ⟨h1, by rw [← hh (by rw [hl]; simp [LOp.cls]) b h1]; exact h2, hcall (by rw [hl]; rfl) b h3⟩
    · refine .inr (.inl ⟨hc, ?_⟩)
      rw [← opEff_vars hargs, opEff_plain hc (H' := S.heap) (id' := S.next + i)]; exact he
    · have hids' : ∀ x ∈ l.op.args, ∀ b ∈ (x.ev T.vars).ids, b < S.next := fun x hx b hb => hids x hx b (by rw [hargs x hx]; exact hb)
      have hheap : ∀ x ∈ l.op.args, ∀ b ∈ (x.ev S.vars).ids, get S.heap b = get T.heap b := fun x hx b hb => hh (by omega) b (hids x hx b hb)
      refine .inr (.inr (.inl ⟨hc, ?_, ?_, hids', fun b hb => hk b hb (hkill b hb)⟩))
      · rw [← opEff_vars hargs, ← opEff_heap hheap]; exact he
      · rw [← softOK_vars hargs, ← softOK_heap hheap]; exact hs
    · refine .inr (.inr (.inr ⟨hc, ?_⟩))
      rw [← opEff_vars hargs, ← hf hc]; exact he

section
variable {P : Program} {S : AS} {li lj : LOper} {i j : Nat} {ei ej : Eff}

theorem DEff.plain (he : DEff P S li i ei) (hc : li.op.cls = 0) : ei = { val := ei.val } := by
  rcases he with ⟨_, rfl⟩ | ⟨_, _, he⟩
  · rfl
  · rcases he with ⟨q, f, args, v, H, g, first, caps, hl, rfl, _⟩ | ⟨_, he⟩ | ⟨hc', _⟩ | ⟨hc', _⟩
    · rfl
    · exact (opEff_shape he).1 hc
    · omega
    · omega

theorem DEff.noupd (he : DEff P S li i ei) (hc : li.op.cls ≠ 2) : ei.upd = none := by
  rcases he with ⟨_, rfl⟩ | ⟨_, _, he⟩
  · rfl
  · rcases he with ⟨q, f, args, v, H, g, first, caps, hl, rfl, _⟩ | ⟨hc', he⟩ | ⟨hc', he, _⟩ | ⟨hc', _⟩
    · rfl
    · rw [(opEff_shape he).1 hc']
    · exact (opEff_light he hc').1
    · omega

theorem appD_next : (S.appD li i ei).next = S.next := by unfold AS.appD; split <;> rfl

theorem appD_vars : (S.appD li i ei).vars = putV li.dst ei.val S.vars := by unfold AS.appD; split <;> rfl

theorem appD_plain (hp : ei = { val := ei.val }) (hc : li.op.cls ≠ 2) : S.appD li i ei = { S with vars := putV li.dst ei.val S.vars } := by
  rw [hp]; simp [AS.appD, hc, AS.app]

theorem looks_put {l l' : LOper} {v : AV} {vs : Vars} (h : ∀ d, l.dst = some d → d ∉ l'.looks) : ∀ s ∈ l'.looks, get (putV l.dst v vs) s = get vs s := fun s hs =>
  putV_get fun d hd e => h d hd (e ▸ hs)

/-- A plain operation changes places with any. -/
theorem DEff.swap_plain (hap : apartL li lj = true) (hc : li.op.cls = 0) (hi : DEff P S li i ei) (hj : DEff P (S.appD li i ei) lj j ej) (hij : i ≠ j) :
    DEff P S lj j ej ∧ DEff P (S.appD lj j ej) li i ei ∧ (S.appD li i ei).appD lj j ej = (S.appD lj j ej).appD li i ei := by
  obtain ⟨h1, h2, h3⟩ := apartL_spec hap
  have hpl := hi.plain hc
  have hSi := appD_plain (S := S) (li := li) (i := i) hpl (by omega)
  rw [hSi] at hj
  have hj' : DEff P S lj j ej := hj.move (looks_put h1) rfl (fun h => h) (fun _ _ _ => rfl) (fun _ _ h => h) (fun _ _ h => h) (fun _ => rfl)
  refine ⟨hj', ?_, ?_⟩
  · refine hi.move (fun s hs => ?_) appD_next (fun h => ?_) (fun h => absurd hc h) (fun b hb => by rw [hpl] at hb; cases hb) (fun h => by omega) (fun h => by omega)
    · rw [appD_vars, looks_put h3 s hs]
    · have : ∀ U : AS, U.used = S.used → U.next = S.next → get (U.app lj.dst (S.next + j) false ej).used (S.next + i) = none := fun U hU _ => by
        simp only [AS.app]
        cases ej.new with
        | none => simp only [hU]; exact h
        | some blk => simp only [get_ins]; rw [if_neg (by omega), hU]; exact h
      unfold AS.appD
      split
      · exact this S.flush rfl rfl
      · exact this S rfl rfl
  · rw [hSi, appD_plain (S := S.appD lj j ej) (li := li) (i := i) hpl (by omega)]
    unfold AS.appD
    split
    · simp only [AS.app, AS.flush]; rw [putV_comm h2]
    · simp only [AS.app]; rw [putV_comm h2]

theorem DEff.swap (hap : apartL li lj = true) (hcl : clsOK li lj = true) (hij : i ≠ j) (hi : DEff P S li i ei) (hj : DEff P (S.appD li i ei) lj j ej) :
    DEff P S lj j ej ∧ DEff P (S.appD lj j ej) li i ei ∧ (S.appD li i ei).appD lj j ej = (S.appD lj j ej).appD li i ei := by
  obtain ⟨h1, h2, h3⟩ := apartL_spec hap
  by_cases hc : li.op.cls = 0
  · exact hi.swap_plain hap hc hj hij
  by_cases hc' : lj.op.cls = 0
  · -- the other one is plain
    have hpl := hj.plain hc'
    have hSj : ∀ U : AS, U.appD lj j ej = { U with vars := putV lj.dst ej.val U.vars } := fun U => appD_plain (li := lj) hpl (by omega)
    have hused : get (S.appD li i ei).used (S.next + j) = none → get S.used (S.next + j) = none := by
      have : ∀ U : AS, U.used = S.used → get (U.app li.dst (S.next + i) false ei).used (S.next + j) = none → get S.used (S.next + j) = none := fun U hU h => by
        simp only [AS.app] at h
        cases hn : ei.new with
        | none => rw [hn] at h; simp only [hU] at h; exact h
        | some blk => rw [hn] at h; simp only [get_ins] at h; rw [if_neg (by omega), hU] at h; exact h
      unfold AS.appD
      split
      · exact this S.flush rfl
      · exact this S rfl
    have hj' : DEff P S lj j ej := hj.move (fun s hs => by rw [appD_vars, looks_put h1 s hs]) appD_next.symm (fun h => by rw [appD_next] at h ⊢; exact hused h) (fun h => absurd hc' h) (fun b hb => by rw [hpl] at hb; cases hb) (fun h => by omega) (fun h => by omega)
    refine ⟨hj', ?_, ?_⟩
    · rw [hSj]
      exact hi.move (fun s hs => (looks_put h3 s hs).symm) rfl (fun h => h) (fun _ _ _ => rfl) (fun _ _ h => h) (fun _ _ h => h) (fun _ => rfl)
    · rw [hSj, hSj]
      unfold AS.appD
      split
      · simp only [AS.app, AS.flush]; rw [putV_comm h2]
      · simp only [AS.app]; rw [putV_comm h2]
  · -- both look at memory, and neither writes
    have hl : li.op.cls ≠ 2 ∧ lj.op.cls ≠ 2 ∧ (li.op.cls = 4 → lj.op.cls ≠ 3) ∧ (lj.op.cls = 4 → li.op.cls ≠ 3) := by
      unfold clsOK at hcl
      split at hcl <;> first | (cases hcl; done) | (rename_i e1 e2; omega) | (rename_i e1; omega)
    have hA : ∀ (U : AS) (l : LOper) (k : Nat) (e : Eff), l.op.cls ≠ 2 → U.appD l k e = U.app l.dst (U.next + k) false e := fun U l k e h => by simp [AS.appD, h]
    have ui := hi.noupd hl.1
    have uj := hj.noupd hl.2.1
    -- kills
    have kcls : ∀ {U : AS} {l : LOper} {k : Nat} {e : Eff} {b : Nat}, DEff P U l k e → e.kill = some b → l.op.cls ≠ 2 → l.op.cls = 3 ∧ get U.dead b = none := by
      intro U l k e b he hb hc2
      rcases he with ⟨_, rfl⟩ | ⟨_, _, he⟩
      · cases hb
      · rcases he with ⟨q, f, args, v, H, g, first, caps, hl, rfl, _⟩ | ⟨hc', he⟩ | ⟨hc', he, _, _, hk⟩ | ⟨hc', _⟩
        · cases hb
        · rw [(opEff_shape he).1 hc'] at hb; cases hb
        · rcases hc' with hc' | hc'
          · rw [((opEff_shape he).2.1 hc').2] at hb; cases hb
          · exact ⟨hc', hk b hb⟩
        · omega
    have hdead : ∀ (U : AS) (d : Option Nat) (id b : Nat) (e : Eff), get (U.app d id false e).dead b = none ↔ get U.dead b = none ∧ e.kill ≠ some b := fun U d id b e => by
      simp only [AS.app]
      cases hk : e.kill with
      | none => simp
      | some k =>
        simp only [kdd, get_ins]
        by_cases h : k = b
        · simp [h]
        · simp [h]
    have hheap : ∀ (U : AS) (d : Option Nat) (id b : Nat) (e : Eff), e.upd = none → b ≠ id → get (U.app d id false e).heap b = get U.heap b := fun U d id b e hu hb => by
      simp only [AS.app, hu]
      cases e.kill <;> cases e.new <;> simp only [khp, get_ins] <;> rw [if_neg (Ne.symm hb)]
    have hused : ∀ (U : AS) (d : Option Nat) (id b : Nat) (e : Eff), b ≠ id → (get (U.app d id false e).used b = none ↔ get U.used b = none) := fun U d id b e hb => by
      simp only [AS.app]
      cases e.new with
      | none => exact Iff.rfl
      | some blk => simp only [get_ins]; rw [if_neg (Ne.symm hb)]
    rw [hA S li i ei hl.1] at hj
    have nkij : ∀ b, ei.kill = some b → ej.kill ≠ some b := fun b hb hb' => by
      have := (kcls hj hb' hl.2.1).2
      rw [hdead] at this
      exact this.2 hb
    have hj' : DEff P S lj j ej := by
      refine hj.move (fun s hs => ?_) rfl (fun h => (hused _ _ _ _ _ (by simp only [AS.app]; omega)).1 h) (fun _ b hb => hheap _ _ _ _ _ ui (by simp only [AS.app] at hb; omega)) (fun b _ h => ((hdead _ _ _ _ _).1 h).1) (fun _ b h => ((hdead _ _ _ _ _).1 h).1) (fun h => absurd h hl.2.1)
      show get (putV li.dst ei.val S.vars) s = _
      exact looks_put h1 s hs
    refine ⟨hj', ?_, ?_⟩
    · rw [hA S lj j ej hl.2.1]
      refine hi.move (fun s hs => ?_) rfl (fun h => (hused _ _ _ _ _ (by omega)).2 h) (fun _ b hb => (hheap _ _ _ _ _ uj (by omega)).symm) (fun b hb h => (hdead _ _ _ _ _).2 ⟨h, fun h' => nkij b hb h'⟩) (fun hc4 b h => (hdead _ _ _ _ _).2 ⟨h, fun h' => ?_⟩) (fun h => absurd h hl.1)
      · show _ = get (putV lj.dst ej.val S.vars) s
        exact (looks_put h3 s hs).symm
      · exact absurd (kcls hj' h' hl.2.1).1 (hl.2.2.1 hc4)
    · rw [hA S li i ei hl.1, hA S lj j ej hl.2.1, hA _ lj j ej hl.2.1, hA _ li i ei hl.1]
      show (S.app li.dst (S.next + i) false ei).app lj.dst (S.next + j) false ej = (S.app lj.dst (S.next + j) false ej).app li.dst (S.next + i) false ei
      simp only [AS.app, ui, uj, AS.mk.injEq, true_and]
      refine ⟨putV_comm h2, ?_, ?_, ?_⟩
      · cases ei.kill <;> cases ej.kill <;> cases ei.new <;> cases ej.new <;> simp only [khp] <;> exact ins_comm _ _ _ (by omega)
      · cases ei.new <;> cases ej.new <;> first | rfl | exact ins_comm _ _ _ (by omega)
      · cases hki : ei.kill with
        | none => cases ej.kill <;> rfl
        | some b =>
          cases hkj : ej.kill with
          | none => rfl
          | some b' =>
            simp only [kdd]
            exact ins_comm _ _ _ (fun e => nkij b hki (by rw [hkj, e]))
end
end Go.AM
