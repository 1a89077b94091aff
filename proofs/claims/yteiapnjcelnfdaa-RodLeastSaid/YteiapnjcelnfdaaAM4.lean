/- What an operation's effect makes of a state, and that the relation to memory is kept. -/
import Derived.Test.YteiapnjcelnfdaaAM3
set_option linter.unusedSimpArgs false
set_option linter.unusedVariables false
namespace Go.AM

def khp (hard : Bool) (b : Nat) (H : Heap) : Heap := match hard with
  | true => del b H
  | false => H
def kdd (hard : Bool) (b : Nat) (D : List (Nat × Unit)) : List (Nat × Unit) := match hard with
  | true => D
  | false => ins b () D

def putV (dst : Option Nat) (v : AV) (vs : Vars) : Vars := match dst with
  | some d => ins d v vs
  | none => vs

def AS.app (S : AS) (dst : Option Nat) (id : Nat) (hard : Bool) (e : Eff) : AS where
  vars := putV dst e.val S.vars
  heap :=
    let h1 := match e.upd with
      | some p => ins p.1 p.2 S.heap
      | none => S.heap
    let h2 := match e.kill with
      | some b => khp hard b h1
      | none => h1
    match e.new with
    | some blk => ins id blk h2
    | none => h2
  next := S.next
  used := match e.new with
    | some _ => ins id () S.used
    | none => S.used
  dead := match e.kill with
    | some b => kdd hard b S.dead
    | none => S.dead

theorem RelA.app {φ φ' : Nat → Option (Nat × Nat)} {I I' : Nat → Prop} {S : AS} {nt : Nat} {a : Act} {h h' : Array Obj} {dst : Option Nat} {id : Nat} {hard : Bool} {e : Eff} {cv : Value}
    (R : RelA φ I S nt a h) (E : Ext h φ I S.A h' φ' I' (S.app dst id hard e).A) (hd : ∀ d, dst = some d → d < nt) (hv : relV h' φ' I' (S.app dst id hard e).A e.val cv) :
    RelA φ' I' (S.app dst id hard e) nt (a.put dst cv) h' := by
  cases dst with
  | none => exact ⟨fun x v hx => relV_mono E _ _ (R.vars x v hx), R.nt, R.defers⟩
  | some d =>
    have hdn := hd d rfl
    refine ⟨fun x v hx => ?_, by simp [Act.put, R.nt], R.defers⟩
    simp only [AS.app, putV, get_ins] at hx
    simp only [Act.put, Array.getD_eq_getD_getElem?, Array.getElem?_setIfInBounds]
    by_cases h1 : d = x
    · subst h1
      simp only [if_true] at hx
      injection hx with hx
      subst hx
      simpa [R.nt, hdn] using hv
    · rw [if_neg h1] at hx
      have := relV_mono E _ _ (R.vars x v hx)
      simpa [h1, Array.getD_eq_getD_getElem?] using this

section
variable {X : Ctx} {φ : Nat → Option (Nat × Nat)} {I : Nat → Prop} {S : AS} {h h' : Array Obj}

theorem RelH.vars (R : RelH X φ I S h) (vs : Vars) : RelH X φ I { S with vars := vs } h :=
  ⟨R.heap, R.live, R.inj, R.idom, R.isub, R.isup, R.frame, R.size, R.sizes, R.agree, R.n0⟩

theorem Ext.refl' {A A' : Nat → Prop} (hA : ∀ b, A b → A' b) : Ext h φ I A h φ I A' := ⟨fun _ _ _ _ h => h, fun _ _ h => h, fun _ _ => rfl, fun _ h => h, hA⟩

/-- Memory has grown; what was there stays. -/
theorem Ext.grown {φ' : Nat → Option (Nat × Nat)} {A A' : Nat → Prop} (hs : ∀ c, c < h.size → h'[c]? = h[c]?) (hφ : ∀ b, A b → φ' b = φ b) (hA : ∀ b, A b → A' b) : Ext h φ I A h' φ' I A' := by
  have key : ∀ c x, h[c]? = some x → h'[c]? = some x := fun c x hc => by
    have : c < h.size := by
      rcases Nat.lt_or_ge c h.size with h1 | h1
      · exact h1
      · rw [Array.getElem?_eq_none h1] at hc; cases hc
    rw [hs c this, hc]
  refine ⟨fun c o v _ hc => ?_, fun c s hc => ?_, hφ, fun _ h => h, hA⟩
  · unfold hcell at hc ⊢
    cases hx : h[c]? with
    | none => simp [hx] at hc
    | some x => rw [key c x hx]; simpa [hx] using hc
  · unfold hsize at hc ⊢
    cases hx : h[c]? with
    | none => simp [hx] at hc
    | some x => rw [key c x hx]; simpa [hx] using hc

def upφ (φ : Nat → Option (Nat × Nat)) (id : Nat) (p : Option (Nat × Nat)) : Nat → Option (Nat × Nat) := fun b => if b = id then p else φ b

theorem upφ_agree {id : Nat} {p : Option (Nat × Nat)} (hid : ¬ S.A id) : ∀ b, S.A b → upφ φ id p b = φ b := fun b hb => by
  unfold upφ; split
  · rename_i h1; subst h1; exact absurd hb hid
  · rfl

theorem A_used {vs : Vars} {H : Heap} {D : List (Nat × Unit)} {id : Nat} (b : Nat) : (AS.mk vs H S.next (ins id () S.used) D).A b ↔ b = id ∨ S.A b := by
  simp only [AS.A, get_ins]
  by_cases h1 : id = b
  · simp [h1]
  · simp only [h1, if_false]
    have : ¬ b = id := fun h => h1 h.symm
    simp [this]

/-- A new block. -/
theorem RelH.new (R : RelH X φ I S h) {id : Nat} (hid : ¬ S.A id) {p : Option (Nat × Nat)} {blk : Blk} (vs : Vars) (hsz : h.size ≤ h'.size) (hs : ∀ c, c < h.size → h'[c]? = h[c]?)
    (hp : ∀ c o, p = some (c, o) → h.size ≤ c ∧ c < h'.size)
    (hb : relB h' (upφ φ id p) I (AS.mk vs S.heap S.next (ins id () S.used) S.dead).A id blk) :
    RelH X (upφ φ id p) I { S with vars := vs, heap := ins id blk S.heap, used := ins id () S.used } h' := by
  have hA : ∀ b, S.A b → (AS.mk vs S.heap S.next (ins id () S.used) S.dead).A b := fun b h1 => (A_used b).2 (.inr h1)
  have E : Ext h φ I S.A h' (upφ φ id p) I (AS.mk vs S.heap S.next (ins id () S.used) S.dead).A := Ext.grown hs (upφ_agree hid) hA
  have hne : ∀ b, S.A b → b ≠ id := fun b h1 h2 => hid (h2 ▸ h1)
  have hφ : ∀ b, b ≠ id → upφ φ id p b = φ b := fun b h1 => by unfold upφ; rw [if_neg h1]
  have hin : ∀ b, get S.heap b ≠ none → S.A b := fun b h1 => by
    cases h2 : get S.heap b with
    | none => exact absurd h2 h1
    | some blk => exact (R.heap _ _ h2).1
  have hlt : ∀ b c o, get S.heap b ≠ none → φ b = some (c, o) → c < h.size := fun b c o h1 h2 => by
    cases h3 : get S.heap b with
    | none => exact absurd h3 h1
    | some blk => exact (R.live _ _ _ _ h3 h2).1
  refine ⟨?_, ?_, ?_, fun c hc => Nat.lt_of_lt_of_le (R.idom c hc) hsz, R.isub, R.isup, fun c h1 h2 => ?_, Nat.le_trans R.size hsz, fun c s h1 => E.sizes c s (R.sizes c s h1), fun b hb => ?_, R.n0⟩
  · intro b blk' h1
    simp only [get_ins] at h1
    split at h1
    · rename_i h2; subst h2; injection h1 with h1; subst h1
      exact ⟨(A_used _).2 (.inl rfl), hb⟩
    · rename_i h2
      obtain ⟨h3, h4⟩ := R.heap _ _ h1
      refine ⟨hA _ h3, relB_same E h3 (fun c o h5 => hs c (R.live _ _ _ _ h1 h5).1) h4⟩
  · intro b blk' c o h1 h2
    simp only [get_ins] at h1
    split at h1
    · rename_i h3; subst h3
      simp only [upφ, if_true] at h2
      obtain ⟨h4, h5⟩ := hp _ _ h2
      exact ⟨h5, fun h6 => by have := R.idom c h6; omega, .inr (by have := R.size; omega)⟩
    · rename_i h3
      rw [hφ b (Ne.symm h3)] at h2
      obtain ⟨h4, h5, h6⟩ := R.live _ _ _ _ h1 h2
      exact ⟨by omega, h5, h6⟩
  · intro b b' c o c' o' h1 h2 h3 h4 h5 h6
    simp only [get_ins] at h1 h2
    by_cases e1 : id = b
    · subst e1
      have e2 : id ≠ b' := h3
      rw [if_neg e2] at h2
      simp only [upφ, if_true] at h5
      rw [hφ b' (Ne.symm e2)] at h6
      have := hlt _ _ _ h2 h6
      have := (hp _ _ h5).1
      omega
    · rw [if_neg e1] at h1
      rw [hφ b (Ne.symm e1)] at h5
      by_cases e2 : id = b'
      · subst e2
        simp only [upφ, if_true] at h6
        have := hlt _ _ _ h1 h5
        have := (hp _ _ h6).1
        omega
      · rw [if_neg e2] at h2
        rw [hφ b' (Ne.symm e2)] at h6
        exact R.inj b b' c o c' o' h1 h2 h3 h4 h5 h6
  · rw [hs c (by have := R.size; omega)]
    exact R.frame c h1 h2
  · rw [hφ b fun h1 => hid (by subst h1; exact .inl (by have := R.n0; omega))]
    exact R.agree b hb

/-- Blocks are forgotten. -/
theorem RelH.sub (R : RelH X φ I S h) {H : Heap} {D : List (Nat × Unit)} {vs : Vars} (hH : ∀ b blk, get H b = some blk → get S.heap b = some blk) (hD : ∀ b, get D b = none → get H b ≠ none → get S.dead b = none) :
    RelH X φ I { S with vars := vs, heap := H, dead := D } h := by
  have hin : ∀ b, get H b ≠ none → get S.heap b ≠ none := fun b h1 h2 => by
    cases h3 : get H b with
    | none => exact h1 h3
    | some blk => rw [hH _ _ h3] at h2; cases h2
  refine ⟨fun b blk h1 => R.heap b blk (hH _ _ h1), fun b blk c o h1 => R.live b blk c o (hH _ _ h1), fun b b' c o c' o' h1 h2 h3 h4 h5 h6 => ?_, R.idom, R.isub, R.isup, R.frame, R.size, R.sizes, R.agree, R.n0⟩
  refine R.inj b b' c o c' o' (hin _ h1) (hin _ h2) h3 ?_ h5 h6
  rcases h4 with ⟨k1, k2⟩ | h4
  · exact .inl ⟨hD _ k1 h1, hD _ k2 h2⟩
  · exact .inr h4

/-- The cells of one live block have been written: what is told of it is told anew. -/
theorem RelH.wrote (R : RelH X φ I S h) {b c o : Nat} {blk blk' : Blk} (vs : Vars) (hb : get S.heap b = some blk) (hφ : φ b = some (c, o)) (hdead : ∀ b', get S.dead b' = none)
    (hsz : h'.size = h.size) (hs : ∀ c', c' ≠ c → h'[c']? = h[c']?) (hss : ∀ c' s, hsize h c' = some s → hsize h' c' = some s)
    (hnew : Ext h φ I S.A h' φ I S.A → relB h' φ I S.A b blk') : RelH X φ I { S with vars := vs, heap := ins b blk' S.heap } h' ∧ Ext h φ I S.A h' φ I S.A := by
  obtain ⟨hc1, hc2, hc3⟩ := R.live _ _ _ _ hb hφ
  have E : Ext h φ I S.A h' φ I S.A := ⟨fun c' o' v h1 h2 => by
      have : c' ≠ c := fun h3 => hc2 (h3 ▸ h1)
      simpa [hcell, hs c' this] using h2, hss, fun _ _ => rfl, fun _ h => h, fun _ h => h⟩
  have hbn : get S.heap b ≠ none := by rw [hb]; simp
  refine ⟨⟨fun b1 blk1 h1 => ?_, fun b1 blk1 c1 o1 h1 h2 => ?_, fun b1 b2 c1 o1 c2 o2 h1 h2 h3 h4 h5 h6 => ?_, fun c' h1 => hsz ▸ R.idom c' h1, R.isub, R.isup, fun c' h1 h2 => ?_, hsz ▸ R.size, fun c' s h1 => hss _ _ (R.sizes _ _ h1), R.agree, R.n0⟩, E⟩
  · simp only [get_ins] at h1
    split at h1
    · rename_i h2; subst h2; injection h1 with h1; subst h1
      exact ⟨(R.heap _ _ hb).1, hnew E⟩
    · rename_i h2
      obtain ⟨h3, h4⟩ := R.heap _ _ h1
      refine ⟨h3, relB_same E h3 (fun c1 o1 h5 => hs c1 ?_) h4⟩
      exact fun h6 => R.inj b b1 c o c1 o1 hbn (by rw [h1]; simp) h2 (.inl ⟨hdead _, hdead _⟩) hφ h5 h6.symm
  · simp only [get_ins] at h1
    rw [hsz]
    split at h1
    · rename_i h3; subst h3; exact R.live _ _ _ _ hb h2
    · exact R.live _ _ _ _ h1 h2
  · simp only [get_ins] at h1 h2
    refine R.inj b1 b2 c1 o1 c2 o2 ?_ ?_ h3 h4 h5 h6
    · split at h1
      · rename_i h7; subst h7; exact hbn
      · exact h1
    · split at h2
      · rename_i h7; subst h7; exact hbn
      · exact h2
  · rw [hs c' ?_, R.frame c' h1 h2]
    intro h3; subst h3
    rcases hc3 with h4 | h4
    · exact h2 h4
    · omega

/-- A block has been appended to in place: the new one starts within it, the old one is used up. -/
theorem RelH.onto (R : RelH X φ I S h) {b id c o o1 sz : Nat} {es : List (List AV)} {blk' : Blk} {hard : Bool} (vs : Vars) (hid : ¬ S.A id) (hb : get S.heap b = some (.rows sz es)) (hφ : φ b = some (c, o))
    (hdead : (∀ b', get S.dead b' = none) ∨ (b < S.next ∧ get S.dead b = none)) (hdl : ∀ b', get S.dead b' ≠ none → b' < S.next)
    (hsz : h'.size = h.size) (hs : ∀ c', c' ≠ c → h'[c']? = h[c']?) (hss : ∀ c' s, hsize h c' = some s → hsize h' c' = some s)
    (hhere : ∀ cs el, h[c]? = some (.cells cs el (0, 0)) → ∃ cs', h'[c]? = some (.cells cs' el (0, 0)))
    (hcell : hard = false → b < S.next ∧ ∀ o' v, o' < o + es.length * sz → hcell h c o' = some v → hcell h' c o' = some v)
    (hnew : Ext h φ I S.A h' (upφ φ id (some (c, o1))) I (AS.mk vs S.heap S.next (ins id () S.used) S.dead).A → relB h' (upφ φ id (some (c, o1))) I (AS.mk vs S.heap S.next (ins id () S.used) S.dead).A id blk') :
    RelH X (upφ φ id (some (c, o1))) I { S with vars := vs, heap := ins id blk' (khp hard b S.heap), used := ins id () S.used, dead := (kdd hard b S.dead) } h' ∧
    Ext h φ I S.A h' (upφ φ id (some (c, o1))) I (AS.mk vs S.heap S.next (ins id () S.used) S.dead).A := by
  obtain ⟨hc1, hc2, hc3⟩ := R.live _ _ _ _ hb hφ
  have hA : ∀ b, S.A b → (AS.mk vs S.heap S.next (ins id () S.used) S.dead).A b := fun b h1 => (A_used b).2 (.inr h1)
  have E : Ext h φ I S.A h' (upφ φ id (some (c, o1))) I (AS.mk vs S.heap S.next (ins id () S.used) S.dead).A := ⟨fun c' o' v h1 h2 => by
      have : c' ≠ c := fun h3 => hc2 (h3 ▸ h1)
      simpa [AM.hcell, hs c' this] using h2, hss, upφ_agree hid, fun _ h => h, hA⟩
  have hbn : get S.heap b ≠ none := by rw [hb]; simp
  have hbA := (R.heap _ _ hb).1
  have hbid : b ≠ id := fun h1 => hid (h1 ▸ hbA)
  have hφ' : ∀ b, b ≠ id → upφ φ id (some (c, o1)) b = φ b := fun b h1 => by unfold upφ; rw [if_neg h1]
  have hin : ∀ b1 blk1, get (khp hard b S.heap) b1 = some blk1 → get S.heap b1 = some blk1 ∧ (hard = true → b1 ≠ b) := by
    intro b1 blk1 h1
    cases hard with
    | true =>
      simp only [khp, get_del] at h1
      split at h1
      · cases h1
      · rename_i h2; exact ⟨h1, fun _ h3 => h2 h3.symm⟩
    | false => exact ⟨h1, by simp⟩
  have hin' : ∀ b1, get (khp hard b S.heap) b1 ≠ none → get S.heap b1 ≠ none ∧ (hard = true → b1 ≠ b) := by
    intro b1 h1
    cases h2 : get (khp hard b S.heap) b1 with
    | none => exact absurd h2 h1
    | some blk1 => obtain ⟨h3, h4⟩ := hin _ _ h2; exact ⟨by rw [h3]; simp, h4⟩
  -- every other block stands elsewhere
  have apart : ∀ b1 c1 o1, get S.heap b1 ≠ none → b1 ≠ b → φ b1 = some (c1, o1) → c1 ≠ c := by
    intro b1 c1 o1 h1 h2 h3
    refine R.inj b1 b c1 o1 c o h1 hbn h2 ?_ h3 hφ
    rcases hdead with h4 | ⟨h4, h4'⟩
    · exact .inl ⟨h4 _, h4 _⟩
    · by_cases h5 : get S.dead b1 = none
      · exact .inl ⟨h5, h4'⟩
      · exact .inr ⟨hdl _ h5, h4⟩
  refine ⟨⟨fun b1 blk1 h1 => ?_, fun b1 blk1 c1 o1' h1 h2 => ?_, fun b1 b2 c1 o1' c2 o2 h1 h2 h3 h4 h5 h6 => ?_, fun c' h1 => hsz ▸ R.idom c' h1, R.isub, R.isup, fun c' h1 h2 => ?_, hsz ▸ R.size, fun c' s h1 => hss _ _ (R.sizes _ _ h1), fun b1 h1 => ?_, R.n0⟩, E⟩
  · simp only [get_ins] at h1
    split at h1
    · rename_i h2; subst h2; injection h1 with h1; subst h1
      exact ⟨(A_used _).2 (.inl rfl), hnew E⟩
    · rename_i h2
      obtain ⟨h3, h4⟩ := hin _ _ h1
      obtain ⟨h5, h6⟩ := R.heap _ _ h3
      refine ⟨hA _ h5, ?_⟩
      by_cases h7 : b1 = b
      · subst h7
        cases hard with
        | true => exact absurd rfl (h4 rfl)
        | false =>
          rw [hb] at h3
          injection h3 with h3
          subst h3
          simp only [relB] at h6 ⊢
          rw [hφ' _ hbid, hφ]
          rcases h6 with ⟨h8, _⟩ | ⟨c8, o8, cs8, el8, h8, h9, h10⟩
          · rw [hφ] at h8; cases h8
          · rw [hφ] at h8
            injection h8 with h8
            injection h8 with h11 h12
            subst h11 h12
            obtain ⟨cs', h13⟩ := hhere _ _ h9
            exact .inr ⟨_, _, cs', el8, rfl, h13, relR_congr E (fun o' v _ h14 h15 => (hcell rfl).2 o' v h14 h15) h10⟩
      · exact relB_same E h5 (fun c1 o1 h8 => hs c1 (apart b1 c1 o1 (by rw [h3]; simp) h7 h8)) h6
  · simp only [get_ins] at h1
    rw [hsz]
    split at h1
    · rename_i h3; subst h3
      simp only [upφ, if_true] at h2
      injection h2 with h2; injection h2 with h4 h5; subst h4
      exact ⟨hc1, hc2, hc3⟩
    · rename_i h3
      rw [hφ' _ (Ne.symm h3)] at h2
      exact R.live _ _ _ _ (hin _ _ h1).1 h2
  · have hdd : ∀ b1, get (kdd hard b S.dead) b1 = none → get S.dead b1 = none ∧ (hard = false → b1 ≠ b) := by
      intro b1 k1
      cases hard with
      | true => exact ⟨k1, by simp⟩
      | false =>
        simp only [kdd, get_ins] at k1
        split at k1
        · cases k1
        · rename_i k2; exact ⟨k1, fun _ k3 => k2 k3.symm⟩
    have hnb : ∀ b1, get (khp hard b S.heap) b1 ≠ none → get (kdd hard b S.dead) b1 = none → b1 ≠ b := by
      intro b1 k1 k2
      cases hhd : hard with
      | true => exact (hin' _ k1).2 hhd
      | false => exact (hdd _ k2).2 hhd
    simp only [get_ins] at h1 h2
    simp only at h4
    by_cases e1 : id = b1
    · subst e1
      have e2 : id ≠ b2 := h3
      rw [if_neg e2] at h2
      simp only [upφ, if_true] at h5
      injection h5 with h5; injection h5 with h7 h8; subst h7
      rw [hφ' _ (Ne.symm e2)] at h6
      rcases h4 with ⟨k1, k2⟩ | ⟨k1, k2⟩
      · exact Ne.symm (apart b2 c2 o2 (hin' _ h2).1 (hnb _ h2 k2) h6)
      · exact absurd (Or.inl k1) hid
    · rw [if_neg e1] at h1
      rw [hφ' _ (Ne.symm e1)] at h5
      by_cases e2 : id = b2
      · subst e2
        simp only [upφ, if_true] at h6
        injection h6 with h6; injection h6 with h7 h8; subst h7
        rcases h4 with ⟨k1, k2⟩ | ⟨k1, k2⟩
        · exact apart b1 c1 o1' (hin' _ h1).1 (hnb _ h1 k1) h5
        · exact absurd (Or.inl k2) hid
      · rw [if_neg e2] at h2
        rw [hφ' _ (Ne.symm e2)] at h6
        refine R.inj b1 b2 c1 o1' c2 o2 (hin' _ h1).1 (hin' _ h2).1 h3 ?_ h5 h6
        rcases h4 with ⟨k1, k2⟩ | h4
        · exact .inl ⟨(hdd _ k1).1, (hdd _ k2).1⟩
        · exact .inr h4
  · rw [hs c' ?_, R.frame c' h1 h2]
    intro h3; subst h3
    rcases hc3 with h4 | h4
    · exact h2 h4
    · omega
  · rw [hφ' b1 fun h2 => hid (by subst h2; exact .inl (by have := R.n0; omega))]
    exact R.agree b1 h1
end
end Go.AM
