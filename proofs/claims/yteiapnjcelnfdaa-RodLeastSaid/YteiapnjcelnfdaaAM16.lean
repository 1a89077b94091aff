/- Regions that draw their order: one run in the text's order serves every order. -/
import Derived.Test.YteiapnjcelnfdaaAM15
import Derived.Still
set_option linter.unusedSimpArgs false
set_option linter.unusedVariables false
namespace Go.AM

def QC (P : Program) (g : Nat) (args : List AV) (H : Heap) (n : Nat) (v : AV) : Prop :=
  okFn P g = true ∧ ∀ (X : Ctx) (φ : Nat → Option (Nat × Nat)) (I : Nat → Prop) (T : AS) (w : World) (cargs : List Value), RelH X φ I T w.heap → T.next = n → (∀ b blk, get H b = some blk → get T.heap b = some blk ∧ get T.dead b = none) → relL w.heap φ I T.A args cargs →
    Calls P g cargs.toArray w fun e w' => ∃ cv φ' I', e = .returned cv ∧ RelH X φ' I' T w'.heap ∧ Ext w.heap φ I T.A w'.heap φ' I' T.A ∧ relV w'.heap φ' I' T.A v cv ∧ Keep w w'

def delAll (D : List (Nat × Unit)) (H : Heap) : Heap := match D with
  | [] => H
  | (b, _) :: D => delAll D (del b H)

theorem get_delAll : ∀ (D : List (Nat × Unit)) (H : Heap) (b : Nat), get (delAll D H) b = if get D b = none then get H b else none
  | [], H, b => by simp [delAll, get]
  | (k, u) :: D, H, b => by
    simp only [delAll, get_delAll D, get_del, get]
    by_cases h1 : k = b
    · simp [h1]
    · simp [h1]

def AS.flush (S : AS) : AS := { S with heap := delAll S.dead S.heap, dead := [] }

def AS.appD (S : AS) (l : LOper) (i : Nat) (e : Eff) : AS := (if l.op.cls = 2 then S.flush else S).app l.dst (S.next + i) false e

/-- What an operation of a region may yield in a state. -/
def DEff (P : Program) (S : AS) (l : LOper) (i : Nat) (e : Eff) : Prop :=
  (gd S.vars l.guard = some false ∧ e = { val := .tup [] }) ∨
  (gd S.vars l.guard = some true ∧ get S.used (S.next + i) = none ∧ (
    (∃ q f args v H g first caps, l.op = .call q f args ∧ e = { val := v } ∧ f.ev S.vars = .fn g first caps ∧ QC P g (first ++ args.map (·.ev S.vars) ++ caps) H S.next v ∧ ∀ b blk, get H b = some blk → b < S.next ∧ get S.heap b = some blk ∧ get S.dead b = none) ∨
    (l.op.cls = 0 ∧ opEff S.heap S.vars (S.next + i) l.op = some e) ∨
    ((l.op.cls = 1 ∨ l.op.cls = 3) ∧ opEff S.heap S.vars (S.next + i) l.op = some e ∧ softOK S.heap S.vars l.op = true ∧ (∀ x ∈ l.op.args, ∀ b ∈ (x.ev S.vars).ids, b < S.next) ∧ (∀ b, e.kill = some b → get S.dead b = none)) ∨
    (l.op.cls = 2 ∧ opEff S.flush.heap S.vars (S.next + i) l.op = some e)))

theorem opEff_shape {H : Heap} {vs : Vars} {id : Nat} {op : LOp} {e : Eff} (he : opEff H vs id op = some e) :
    (op.cls = 0 → e = { val := e.val }) ∧ (op.cls = 1 → e.upd = none ∧ e.kill = none) ∧ (op.cls = 3 → e.upd = none ∧ ∀ b, e.kill = some b → ∃ x ∈ op.args, b ∈ (x.ev vs).ids) ∧ (op.cls = 2 → e.new = none ∧ e.kill = none) := by
  have fin : ∀ {α : Type} {b : Bool} {x : Option α} {y : α}, grd b x = some y → x = some y := fun h => (grd_some h).2
  cases op <;> simp only [LOp.cls] <;> simp only [opEff] at he
  case len k x =>
    cases k <;> simp only at he ⊢ <;> (repeat' split at he) <;> first | (cases he; done) | (injection he with he; subst he; simp)
  case pick c x y => (repeat' split at he) <;> first | (cases he; done) | (injection he with he; subst he; simp)
  case append sz bytes x y =>
    split at he
    · split at he
      · have := fin he; injection this with this; subst this; simp
      · rename_i b i n hx
        split at he
        · have := fin he; injection this with this; subst this
          simp [LOp.args, hx, AV.ids]
        · cases he
      · cases he
    · cases he
  all_goals
    first
      | (injection he with he; subst he; simp; done)
      | ((repeat' (first | (have he' := fin he; clear he; rename _ => he) | split at he)) <;> first | (cases he; done) | (injection he with he; subst he; simp; done) | skip)

theorem opEff_light {H : Heap} {vs : Vars} {id : Nat} {op : LOp} {e : Eff} (he : opEff H vs id op = some e) (hc : op.cls = 1 ∨ op.cls = 3) : e.upd = none ∧ ∀ b, e.kill = some b → ∃ x ∈ op.args, b ∈ (x.ev vs).ids := by
  rcases hc with hc | hc
  · have := (opEff_shape he).2.1 hc; exact ⟨this.1, fun b hb => by rw [this.2] at hb; cases hb⟩
  · exact (opEff_shape he).2.2.1 hc

theorem softOK_vars {H : Heap} {vs vs' : Vars} {op : LOp} (h : ∀ x ∈ op.args, x.ev vs = x.ev vs') : softOK H vs op = softOK H vs' op := by
  cases op <;> simp only [softOK]
  case append => rw [h _ (by simp [LOp.args])]

theorem softOK_heap {H H' : Heap} {vs : Vars} {op : LOp} (h : ∀ x ∈ op.args, ∀ b ∈ (x.ev vs).ids, get H b = get H' b) : softOK H vs op = softOK H' vs op := by
  cases op <;> simp only [softOK]
  case append sz bytes x y =>
    cases hv : x.ev vs <;> simp only
    rw [h x (by simp [LOp.args]) _ (by rw [hv]; simp [AV.ids])]

theorem softOK_cls {H : Heap} {vs : Vars} {op : LOp} (h : op.cls ≠ 3) : softOK H vs op = true := by
  cases op <;> first | rfl | (simp [LOp.cls] at h)

section
variable {P : Program} {X : Ctx} {φ : Nat → Option (Nat × Nat)} {I : Nat → Prop} {S : AS} {nt : Nat} {a : Act} {w : World}

def DInv (S : AS) : Prop := ∀ b, get S.dead b ≠ none → b < S.next

theorem RelH.flush {h : Array Obj} (R : RelH X φ I S h) : RelH X φ I S.flush h := by
  refine R.sub (vs := S.vars) (fun b blk h1 => ?_) (fun b _ h1 => ?_)
  · rw [get_delAll] at h1
    split at h1
    · exact h1
    · cases h1
  · rw [get_delAll] at h1
    by_cases h2 : get S.dead b = none
    · exact h2
    · rw [if_neg h2] at h1; exact absurd rfl h1

theorem RelA.of_vars {T : AS} {h : Array Obj} (R : RelA φ I S nt a h) (hA : S.A = T.A) (hv : S.vars = T.vars) : RelA φ I T nt a h := R.conv hA hv

theorem okOp_call {op : Op} {q : Bool} {f : LArg} {args : List LArg} (h : okOp P op (.call q f args) = true) : False := by
  unfold okOp at h
  split at h <;> first | (rename_i hh _; cases hh; done) | (cases h; done) | skip
  all_goals (rename_i hh; cases hh)

theorem okCall_spec {op : Op} {l : LOp} (h : okCall op l = true) : ∃ q f args f' args' tys, l = .call q f args ∧ op = .call { callee := .value f', args := args', argTypes := tys } ∧ okArg f' f = true ∧ okArgs args'.toList args = true := by
  unfold okCall at h
  split at h
  · rename_i f' args' tys q f args
    simp only [Bool.and_eq_true] at h
    exact ⟨q, f, args, f', args', tys, rfl, rfl, h.1, h.2⟩
  · cases h

/-- One operation, in whatever order. -/
theorem DEff.step {ops : Array Oper} {o : Oper} {l : LOper} {i : Nat} {e : Eff} (R : RelH X φ I S w.heap) (RA : RelA φ I S nt a w.heap) (hD : DInv S) (hok : okOper P nt ops o l = true) (he : DEff P S l i e)
    {K : Act → World → Prop} {Q : Exit → Act → World → Prop} (hK : ∀ φ' I' a' w', RelH X φ' I' (S.appD l i e) w'.heap → RelA φ' I' (S.appD l i e) nt a' w'.heap → Keep w w' → K a' w') :
    if Region.wanted o (yielded ops a.tmps) then o.wp P a w K Q else K (a.put o.dst undef) w := by
  simp only [okOper, Bool.and_eq_true, Bool.or_eq_true] at hok
  obtain ⟨h3, h4, h5⟩ := hok
  obtain ⟨h6, h7⟩ := okDst_spec h3
  have RAf : ∀ (b : Bool), RelH X φ I (if l.op.cls = 2 then S.flush else S) w.heap ∧ RelA φ I (if l.op.cls = 2 then S.flush else S) nt a w.heap := fun _ => by
    split
    · exact ⟨R.flush, RA.of_vars rfl rfl⟩
    · exact ⟨R, RA⟩
  rcases he with ⟨hg, rfl⟩ | ⟨hg, hu, he⟩
  · rw [wanted_gd (ops := ops) (o := o) RA h4 hg]
    simp only [Bool.false_eq_true, if_false]
    obtain ⟨R1, RA1⟩ := RAf true
    refine hK φ I _ w (R1.vars (putV l.dst (.tup []) _)) ?_ (Keep.refl w)
    rw [h6]
    exact RelA.app (id := S.next + i) (hard := false) (e := { val := .tup [] }) RA1 (Ext.refl' fun _ h => h) h7 (by simp [relV, relL, undef])
  · rw [wanted_gd (ops := ops) (o := o) RA h4 hg]
    simp only [if_true]
    have fin : ∀ {T : AS}, (∃ φ' I' cv w', ((execOp a.eval o).run P w = .ok (.value cv) w' ∨ ((execOp a.eval o).run P w = .ok .skip w' ∧ cv = undef)) ∧ RelH X φ' I' T w'.heap ∧ RelA φ' I' T nt (a.put l.dst cv) w'.heap ∧ Keep w w') →
        (∀ φ' I' a' w', RelH X φ' I' T w'.heap → RelA φ' I' T nt a' w'.heap → Keep w w' → K a' w') → o.wp P a w K Q := fun {T} ⟨φ', I', cv, w', k1, k2, k3, k4⟩ hK => by
      unfold Oper.wp
      rcases k1 with k1 | ⟨k1, rfl⟩
      · rw [k1]; simp only [Oper.upon]; rw [h6]; exact hK φ' I' _ w' k2 k3 k4
      · rw [k1]; simp only [Oper.upon]; rw [h6]; exact hK φ' I' _ w' k2 k3 k4
    have hnc : ∀ {H : Heap} {id : Nat}, opEff H S.vars id l.op = some e → okOp P o.op l.op = true := fun he => by
      rcases h5 with h5 | h5
      · exact h5
      · obtain ⟨q, f, args, _, _, _, h8, _⟩ := okCall_spec h5
        rw [h8] at he; simp [opEff] at he
    have hid : ¬ S.A (S.next + i) := fun h9 => by
      rcases h9 with h9 | h9
      · omega
      · rw [hu] at h9; cases h9
    rcases he with ⟨q, f, args, v, H, g, first, caps, hl, rfl, hf, hqc, hH⟩ | ⟨hc, he⟩ | ⟨hc, he, hs, hids, hkill⟩ | ⟨hc, he⟩
    · rw [hl] at h5
      rcases h5 with h5 | h5
      · exact (okOp_call h5).elim
      · obtain ⟨q', f0, args0, f', args', tys, k1, k2, k3, k4⟩ := okCall_spec h5
        injection k1 with k5 k6 k7; subst k5 k6 k7
        have hfe := ev_rel RA k3
        rw [hf] at hfe
        simp only [relV] at hfe
        obtain ⟨fs, cs, k8, k9, k10⟩ := hfe
        have hx := exec_call (P := P) (w := w) (o := o) (a := a) k2 k8 hqc.1
        have hcall := hqc.2 X φ I S w _ R rfl (fun b blk hb => (hH b blk hb).2) (relL_append (relL_append k9 (evs_rel RA k4)) k10)
        have happ : S.appD l i { val := v } = { S with vars := putV l.dst v S.vars } := by simp [AS.appD, hl, LOp.cls, AS.app]
        rw [happ] at hK
        unfold Oper.wp
        rw [hx]
        simp only [Oper.upon]
        refine hcall.mono fun e w' hh => ?_
        obtain ⟨cv, φ', I', k11, k12, k13, k14, kp⟩ := hh
        subst k11
        simp only
        rw [h6]
        refine hK φ' I' _ w' (k12.vars (putV l.dst v S.vars)) ?_ kp
        have RA' : RelA φ' I' S nt a w'.heap := ⟨fun x v hx => relV_mono k13 _ _ (RA.vars x v hx), RA.nt, RA.defers⟩
        exact RelA.app (S := S) (id := S.next + i) (hard := false) (e := { val := v }) RA' (Ext.refl' fun _ h => h) h7 k14
    · have hsh := (opEff_shape he).1 hc
      have Y := op_sound (P := P) (o := o) (hard := false) R RA h7 hid (hnc he) he (fun h => by cases h) hD (fun _ => ⟨softOK_cls (by rw [hc]; decide), by rw [hsh]; simp⟩) (by rw [hsh]; simp)
      simp only [AS.appD, hc] at hK
      exact fin Y hK
    · have hsh := opEff_light he hc
      have hc2 : l.op.cls ≠ 2 := by omega
      have Y := op_sound (P := P) (o := o) (hard := false) R RA h7 hid (hnc he) he (fun h => by cases h) hD (fun _ => ⟨hs, fun b hb => ?_⟩) (fun h => absurd hsh.1 h)
      · simp only [AS.appD, hc2] at hK
        exact fin Y hK
      · obtain ⟨x, k1, k2⟩ := hsh.2 b hb
        exact ⟨hids x k1 b k2, hkill b hb⟩
    · have hsh := (opEff_shape he).2.2.2 hc
      have Y := op_sound (P := P) (o := o) (hard := false) (S := S.flush) R.flush (RA.of_vars rfl rfl) h7 hid (hnc he) he (fun h => by cases h) (fun b hb => by simp [AS.flush, get] at hb) (fun _ => ⟨softOK_cls (by rw [hc]; decide), by rw [hsh.2]; simp⟩) (fun _ _ => rfl)
      simp only [AS.appD, hc, if_true] at hK
      exact fin Y hK

theorem DInv.app (hD : DInv S) {l : LOper} {i : Nat} {e : Eff} (he : DEff P S l i e) : DInv (S.appD l i e) := by
  intro b hb
  have hd : get (S.appD l i e).dead b ≠ none → get S.dead b ≠ none ∨ e.kill = some b := by
    unfold AS.appD
    split
    · simp only [AS.app, AS.flush]
      cases hk : e.kill with
      | none => simp [get]
      | some b' =>
        simp only [kdd, get_ins, get]
        intro h; split at h
        · rename_i h'; subst h'; exact .inr rfl
        · exact absurd rfl h
    · simp only [AS.app]
      cases hk : e.kill with
      | none => exact fun h => .inl h
      | some b' =>
        simp only [kdd, get_ins]
        intro h; split at h
        · rename_i h'; subst h'; exact .inr rfl
        · exact .inl h
  have hn : (S.appD l i e).next = S.next := by unfold AS.appD; split <;> rfl
  rw [hn]
  rcases hd hb with h1 | h1
  · exact hD b h1
  · rcases he with ⟨_, rfl⟩ | ⟨_, _, he⟩
    · cases h1
    · rcases he with ⟨q, f, args, v, H, g, first, caps, hl, rfl, hf, hqc, hH⟩ | ⟨hc, he⟩ | ⟨hc, he, hs, hids, hkill⟩ | ⟨hc, he⟩
      · cases h1
      · rw [(opEff_shape he).1 hc] at h1; cases h1
      · obtain ⟨x, k1, k2⟩ := (opEff_light he hc).2 b h1
        exact hids x k1 b k2
      · rw [((opEff_shape he).2.2.2 hc).2] at h1; cases h1
end
end Go.AM
