/- A part of a proof about the given program: what its name says. No premise beyond the statements'. -/
import Derived.Test.YtjmcolfdpbohpaaGreatFB
import Derived.Scope
import Derived.ScopeJumps
import GoSem.ClaimJoined
import Derived.WalkKit
import Derived.ProofKit
import Derived.OpenShut
import Derived.ChangeOld
import Derived.Below
import Derived.Carry
set_option linter.unusedSimpArgs false
set_option linter.unusedVariables false
/- The theorem on drawn orders; rules for code. -/
namespace Go.AM
noncomputable section

section
variable {P : Program} {X : Ctx} {φ : Nat → Option (Nat × Nat)} {I : Nat → Prop} {S : AS} {nt : Nat} {a : Act} {w : World} {ops : Array Oper} {ls : List LOper} {Wr : RW} {md : Region.Mode}

def aOp (P : Program) (ls : List LOper) (Wr : RW) (i : Nat) (K : AS → Prop) (S : AS) : Prop := match ls[i]? with
  | none => False
  | some l => ∃ e, DEff P ls Wr S l i e ∧ K (S.appD l i e)

theorem aOp_mono {i : Nat} {K K' : AS → Prop} (h : ∀ S, K S → K' S) (H : aOp P ls Wr i K S) : aOp P ls Wr i K' S := by
  unfold aOp at *
  split
  · rename_i h1; rw [h1] at H; exact H
  · rename_i l h1; rw [h1] at H; obtain ⟨e, h2, h3⟩ := H; exact ⟨e, h2, h _ h3⟩

def anyA (P : Program) (md : Region.Mode) (ops : Array Oper) (ls : List LOper) (Wr : RW) (Q : AS → Prop) : Nat → Array Bool → AS → Prop
  | 0, listed, S => Region.ready md ops listed = [] ∧ Q S
  | fuel + 1, listed, S => (Region.ready md ops listed = [] → Q S) ∧ ∀ i ∈ Region.ready md ops listed, aOp P ls Wr i (anyA P md ops ls Wr Q fuel (listed.setIfInBounds i true)) S

theorem okOpers_get : ∀ {os : List Oper} {ls : List LOper} {i : Nat} {l : LOper}, okOpers P nt ops os ls = true → ls[i]? = some l → ∃ o, os[i]? = some o ∧ okOper P nt ops o l = true
  | [], [], i, l, _, h => by simp at h
  | o :: os, m :: ls, i, l, hok, h => by
    simp only [okOpers, Bool.and_eq_true] at hok
    cases i with
    | zero => simp at h; subst h; exact ⟨o, by simp, hok.1⟩
    | succ i => simp at h; obtain ⟨o', h1, h2⟩ := okOpers_get hok.2 h; exact ⟨o', by simpa using h1, h2⟩
  | [], _ :: _, _, _, hok, _ => by simp [okOpers] at hok
  | _ :: _, [], _, _, hok, _ => by simp [okOpers] at hok

/-- In whatever order. -/
theorem anyA_sound {Q : AS → Prop} {Q' : Exit → Act → World → Prop} (hok : okOpers P nt ops ops.toList ls = true) {w0 : World} (hQ : ∀ φ' I' S' a' w', Q S' → RelH X φ' I' S' w'.heap → RelA φ' I' S' nt a' w'.heap → Keep w0 w' → Q' .normal a' w') :
    ∀ (fuel : Nat) (listed : Array Bool) (S : AS) (φ : Nat → Option (Nat × Nat)) (I : Nat → Prop) (a : Act) (w : World), RelH X φ I S w.heap → RelA φ I S nt a w.heap → Keep w0 w → DInv S → anyA P md ops ls Wr Q fuel listed S → wpAny P md ops Q' fuel listed a w
  | 0, _, S, φ, I, a, w, R, RA, kp, _, h => ⟨h.1, hQ φ I S a w h.2 R RA kp⟩
  | fuel + 1, listed, S, φ, I, a, w, R, RA, kp, hD, h => ⟨fun h0 => hQ φ I S a w (h.1 h0) R RA kp, fun i hi => by
    have h1 := h.2 i hi
    unfold aOp at h1
    split at h1
    · exact h1.elim
    · rename_i l hl
      obtain ⟨e, h2, h3⟩ := h1
      obtain ⟨o, h4, h5⟩ := okOpers_get hok hl
      have h6 : ops[i]? = some o := by rw [← Array.getElem?_toList]; exact h4
      have h7 := DEff.step (Q := Q') (K := wpAny P md ops Q' fuel (listed.setIfInBounds i true)) R RA hD h5 h2 (fun φ' I' a' w' k1 k2 k3 => anyA_sound hok hQ fuel _ _ φ' I' a' w' k1 k2 (kp.trans k3) (hD.app h2) h3)
      unfold wpOp
      simp only [h6]
      split
      · rename_i hw; rw [if_pos hw] at h7; exact .inl h7
      · rename_i hw; rw [if_neg hw] at h7; exact h7⟩

/-- What is listed has all ahead of it listed. -/
def Closed (md : Region.Mode) (ops : Array Oper) (listed : Array Bool) : Prop := ∀ m om, ops[m]? = some om → listed.getD m false = true → ∀ e ∈ om.after, Region.binds md e = true → listed.getD e.on false = true

theorem Closed.step {listed : Array Bool} {i : Nat} (h : Closed md ops listed) (hr : i ∈ Region.ready md ops listed) : Closed md ops (listed.setIfInBounds i true) := by
  intro m om hm hl e he hb
  obtain ⟨_, o, ho, hall⟩ := mem_ready.1 hr
  by_cases hmi : i = m
  · subst hmi
    rw [ho] at hm
    injection hm with hm; subst hm
    exact getD_set_true (hall e he hb)
  · rw [getD_set_ne false hmi] at hl
    exact getD_set_true (h m om hm hl e he hb)

/-- Operation 'j' comes behind operation 'k', by a chain. -/
def DepOK (md : Region.Mode) (ops : Array Oper) (k j : Nat) : Prop := ∀ listed, Closed md ops listed → (∀ oj, ops[j]? = some oj → ∀ e ∈ oj.after, Region.binds md e = true → listed.getD e.on false = true) → (∃ oj, ops[j]? = some oj) → listed.getD k false = true

def depB (md : Region.Mode) (k : Nat) : List Oper → Nat → Nat → Nat
  | [], _, D => D
  | o :: os, j, D => depB md k os (j + 1) (bif o.after.any fun e => Region.binds md e && (decide (e.on = k) || D.testBit e.on) then D ||| 2 ^ j else D)

theorem depB_spec {k : Nat} : ∀ (os pre : List Oper) (D : Nat), ops.toList = pre ++ os → (∀ j, D.testBit j = true → (∃ oj, ops[j]? = some oj) ∧ DepOK md ops k j) → ∀ j, (depB md k os pre.length D).testBit j = true → (∃ oj, ops[j]? = some oj) ∧ DepOK md ops k j
  | [], pre, D, _, hD, j, h => hD j h
  | o :: os, pre, D, hp, hD, j, h => by
    have ho : ops[pre.length]? = some o := by
      rw [← Array.getElem?_toList, hp]; simp
    simp only [depB] at h
    have hlen : pre.length + 1 = (pre ++ [o]).length := by simp
    rw [hlen] at h
    refine depB_spec os (pre ++ [o]) _ (by rw [hp]; simp) (fun j hj => ?_) j h
    cases hc : o.after.any fun e => Region.binds md e && (decide (e.on = k) || D.testBit e.on) with
    | false => rw [hc] at hj; exact hD j hj
    | true =>
      rw [hc] at hj
      simp only [cond_true, Nat.testBit_or, Bool.or_eq_true, Nat.testBit_two_pow, decide_eq_true_eq] at hj
      rcases hj with hj | hj
      · exact hD j hj
      · subst hj
        refine ⟨⟨o, ho⟩, fun listed hcl hall _ => ?_⟩
        simp only [Array.any_eq_true, Bool.and_eq_true, Bool.or_eq_true, decide_eq_true_eq] at hc
        obtain ⟨q, hq, h1, h2⟩ := hc
        have hl := hall o ho _ (Array.getElem_mem hq) h1
        rcases h2 with h2 | h2
        · rw [← h2]; exact hl
        · obtain ⟨⟨om, hom⟩, h3⟩ := hD _ h2
          exact h3 listed hcl (fun oj hoj e he hb => hcl _ oj hoj hl e he hb) ⟨om, hom⟩

theorem anyA_first {Q : AS → Prop} (hAd : AdOK ls Wr) {i : Nat} {li : LOper} (hi : ls[i]? = some li) (hlen : ls.length = ops.size) :
    ∀ (fuel : Nat) (listed : Array Bool) (S : AS) (ei : Eff), Closed md ops listed → (∀ j lj oj, ls[j]? = some lj → ops[j]? = some oj → j ≠ i → listed.getD j true = false → (∀ e ∈ oj.after, Region.binds md e = true → e.on ≠ i) → (apartL li lj = true ∧ clsOK li lj = true) ∨ DepOK md ops i j) →
      i ∈ Region.ready md ops listed → DEff P ls Wr S li i ei → anyA P md ops ls Wr Q fuel (listed.setIfInBounds i true) (S.appD li i ei) → anyA P md ops ls Wr Q (fuel + 1) listed S := by
  have hop : ∀ {S : AS} {K : AS → Prop} {ei : Eff}, DEff P ls Wr S li i ei → K (S.appD li i ei) → aOp P ls Wr i K S := fun h1 h2 => by unfold aOp; rw [hi]; exact ⟨_, h1, h2⟩
  intro fuel
  induction fuel with
  | zero =>
    intro listed S ei _ _ hr hy H
    refine ⟨fun h => (by rw [h] at hr; cases hr), fun j hj => ?_⟩
    by_cases hji : j = i
    · subst hji; exact hop hy H
    · have := ready_mono hj hji
      rw [H.1] at this
      cases this
  | succ fuel ih =>
    intro listed S ei hclo hfree hr hy H
    refine ⟨fun h => (by rw [h] at hr; cases hr), fun j hj => ?_⟩
    by_cases hji : j = i
    · subst hji; exact hop hy H
    · have h1 := H.2 j (ready_mono hj hji)
      obtain ⟨hjun, oj, hoj, hall⟩ := mem_ready.1 hj
      have hjl : j < ls.length := by
        rw [hlen]
        rcases Nat.lt_or_ge j ops.size with h | h
        · exact h
        · rw [Array.getElem?_eq_none h] at hoj; cases hoj
      have hlj : ls[j]? = some ls[j] := List.getElem?_eq_getElem hjl
      have hiun : listed.getD i false = false := by
        have h0 := (mem_ready.1 hr).1
        rcases Nat.lt_or_ge i listed.size with h' | h'
        · simp [h'] at h0 ⊢; exact h0
        · simp [Array.getElem?_eq_none h']
      have hnot : ∀ e ∈ oj.after, Region.binds md e = true → e.on ≠ i := fun e he hb heq => by
        have h1 := hall e he hb
        rw [heq, hiun] at h1
        cases h1
      rcases hfree j _ oj hlj hoj hji hjun hnot with ⟨hap, hcl⟩ | hdep
      · unfold aOp at h1 ⊢
        rw [hlj] at h1 ⊢
        obtain ⟨ej, h2, h3⟩ := h1
        obtain ⟨ei', ej', k1, k2, k3⟩ := hy.swapX hap hcl (Ne.symm hji) hi hlj hAd h2
        refine ⟨ej', k1, ?_⟩
        refine ih (listed.setIfInBounds j true) _ ei' (hclo.step hj) (fun k lk ok hlk hok hki hun hno => ?_) (ready_mono hr (Ne.symm hji)) k2 ?_
        · refine hfree k lk ok hlk hok hki ?_ hno
          by_cases hjk : j = k
          · subst hjk; exact hjun
          · rw [getD_set_ne true hjk] at hun; exact hun
        · rw [← k3, Array.setIfInBounds_comm _ _ hji]
          exact h3
      · have := hdep listed hclo (fun o' ho' e he hb => by rw [hoj] at ho'; injection ho' with ho'; subst ho'; exact hall e he hb) ⟨oj, hoj⟩
        rw [hiun] at this
        cases this

/-- The run in the text's order. -/
def dRun (P : Program) (ls : List LOper) (Wr : RW) : List LOper → Nat → AS → (AS → Prop) → Prop
  | [], _, S, K => K S
  | l :: os, i, S, K => ∃ e, DEff P ls Wr S l i e ∧ dRun P ls Wr os (i + 1) (S.appD l i e) K

def freeC (md : Region.Mode) (ops : Array Oper) (ls : List LOper) (listed : Array Bool) (k : Nat) : Bool :=
  match ls[k]? with
  | none => false
  | some lk => (List.range ops.size).all fun j => listed.getD j true || (decide (j = k) || ((match ops[j]? with
    | some o => o.after.any fun e => Region.binds md e && decide (e.on = k)
    | none => true) || ((match ls[j]? with
      | some lj => apartL lk lj && clsOK lk lj
      | none => false) || (depB md k ops.toList 0 0).testBit j)))

def lexC (md : Region.Mode) (ops : Array Oper) (ls : List LOper) : Nat → Nat → Array Bool → Bool
  | 0, _, listed => (Region.ready md ops listed).isEmpty
  | fuel + 1, k, listed => (Region.ready md ops listed).contains k && (freeC md ops ls listed k && lexC md ops ls fuel (k + 1) (listed.setIfInBounds k true))

theorem freeC_spec {listed : Array Bool} {k : Nat} {lk : LOper} (hk : ls[k]? = some lk) (h : freeC md ops ls listed k = true) : ∀ j lj oj, ls[j]? = some lj → ops[j]? = some oj → j ≠ k → listed.getD j true = false → (∀ e ∈ oj.after, Region.binds md e = true → e.on ≠ k) → (apartL lk lj = true ∧ clsOK lk lj = true) ∨ DepOK md ops k j := by
  intro j lj oj h1 h2 h3 h4 h5
  unfold freeC at h
  rw [hk] at h
  simp only [List.all_eq_true, List.mem_range, Bool.or_eq_true, decide_eq_true_eq] at h
  have hj : j < ops.size := by
    rcases Nat.lt_or_ge j ops.size with h' | h'
    · exact h'
    · rw [Array.getElem?_eq_none h'] at h2; cases h2
  rcases h j hj with h6 | h6 | h6 | h6 | h6
  · rw [h4] at h6; cases h6
  · exact absurd h6 h3
  · rw [h2] at h6
    simp only [Array.any_eq_true, Bool.and_eq_true, decide_eq_true_eq] at h6
    obtain ⟨q, hq, h7, h8⟩ := h6
    exact absurd h8 (h5 _ (Array.getElem_mem hq) h7)
  · rw [h1] at h6
    exact .inl (by simpa using h6)
  · exact .inr (depB_spec (md := md) (k := k) ops.toList [] 0 (by simp) (fun j hj => by simp at hj) j h6).2

theorem anyA_lex {Q : AS → Prop} (hAd : AdOK ls Wr) (hlen : ls.length = ops.size) : ∀ (l : List LOper) (k : Nat) (listed : Array Bool) (S : AS), Closed md ops listed → (∀ j, l[j]? = ls[k + j]?) → lexC md ops ls l.length k listed = true → dRun P ls Wr l k S Q → anyA P md ops ls Wr Q l.length listed S
  | [], _, _, _, _, _, hB, h => ⟨by simpa [lexC] using hB, h⟩
  | o :: l, k, listed, S, hclo, hl, hB, h => by
    have h0 : ls[k]? = some o := by simpa using (hl 0).symm
    simp only [List.length_cons, lexC, Bool.and_eq_true] at hB
    obtain ⟨hr, hf, hB'⟩ := hB
    obtain ⟨e, h1, h2⟩ := h
    have hr' : k ∈ Region.ready md ops listed := by simpa using hr
    exact anyA_first hAd h0 hlen l.length listed S e hclo (freeC_spec h0 hf) hr' h1
      (anyA_lex hAd hlen l (k + 1) _ _ (hclo.step hr') (fun j => by have := hl (j + 1); simpa [Nat.add_assoc, Nat.add_comm 1 j] using this) hB' h2)

def regC (ops : Array Oper) (ls : List LOper) : Bool := decide (ls.length = ops.size) && lexC .any ops ls ls.length 0 (Array.replicate ops.size false)

/-- The state behind a region. -/
def AS.fin (S : AS) (n : Nat) : ST := ⟨S.vars, delAll S.dead S.heap, S.next + n⟩

def UInv (S : AS) (n : Nat) : Prop := ∀ b, get S.used b ≠ none → b < S.next + n

theorem RelH.wide {T : AS} {h : Array Obj} (R : RelH X φ I S h) (hA : ∀ b, S.A b → T.A b) (hh : S.heap = T.heap) (hd : ∀ b, get S.dead b = none) (hn : S.next ≤ T.next) : RelH X φ I T h :=
  ⟨fun b blk h1 => by obtain ⟨k1, k2⟩ := R.heap b blk (hh ▸ h1); exact ⟨hA b k1, relB_same (Ext.refl' hA) k1 (fun _ _ _ => rfl) k2⟩, fun b blk c o h1 => R.live b blk c o (hh ▸ h1), fun b b' c o c' o' h1 h2 h3 _ => R.inj b b' c o c' o' (hh ▸ h1) (hh ▸ h2) h3 (.inl ⟨hd _, hd _⟩), R.idom, R.isub, R.isup, R.frame, R.size, R.sizes, R.agree, Nat.le_trans R.n0 hn⟩

theorem fin_rel {n : Nat} (R : RelH X φ I S w.heap) (RA : RelA φ I S nt a w.heap) (hU : UInv S n) : RelS X φ I (S.fin n) nt a w.heap := by
  have hA : ∀ b, S.flush.A b → (S.fin n).as.A b := fun b hb => by
    rw [ST.as_A]
    simp only [AS.fin]
    rcases hb with hb | hb
    · simp only [AS.flush] at hb; omega
    · exact hU b (by simp only [AS.flush] at hb; rw [hb]; simp)
  refine ⟨R.flush.wide hA rfl (fun b => by simp [AS.flush, get_e0, get_e1]) (by simp [AS.fin, AS.flush, ST.as]), ?_⟩
  exact ⟨fun x v hx => relV_mono (Ext.refl' hA) _ _ (RA.vars x v hx), RA.nt, RA.defers⟩

theorem UInv.app {n : Nat} (hU : UInv S n) {l : LOper} {i : Nat} {e : Eff} (hi : i < n) : UInv (S.appD l i e) n := by
  have : ∀ U : AS, U.next = S.next → U.used = S.used → UInv (U.app l.dst (S.next + i) (decide (l.op.cls = 5)) e) n := fun U h1 h2 b hb => by
    simp only [AS.app, h1] at hb ⊢
    cases hn : e.new with
    | none => rw [hn] at hb; exact hU b (by simpa [h2] using hb)
    | some blk =>
      rw [hn] at hb
      simp only [get_ins] at hb
      split at hb
      · omega
      · exact hU b (by simpa [h2] using hb)
  unfold AS.appD
  split
  · exact this S.flush rfl rfl
  · exact this S rfl rfl

theorem dRun_inv {n : Nat} {K : AS → Prop} : ∀ (l : List LOper) (i : Nat) (S : AS), i + l.length ≤ n → UInv S n → dRun P ls Wr l i S K → dRun P ls Wr l i S fun S' => K S' ∧ UInv S' n
  | [], _, _, _, hU, h => ⟨h, hU⟩
  | o :: l, i, S, hi, hU, ⟨e, h1, h2⟩ => ⟨e, h1, dRun_inv l (i + 1) _ (by simp at hi; omega) (hU.app (by simp at hi; omega)) h2⟩

/-- **A region that draws its order.** -/
theorem rgnD_sound {id : Nat} {T : ST} {K : ST → Prop} {Q : Exit → Act → World → Prop} (hm : P.follows .mixedOrders = true) (hok : okOpers P nt ops ops.toList ls = true) (hC : regC ops ls = true) (hAd : AdOK ls Wr) (R : RelS X φ I T nt a w.heap)
    (H : dRun P ls Wr ls 0 T.as fun S' => K (S'.fin ls.length)) (hQ : ∀ φ' I' S' a' w', K S' → RelS X φ' I' S' nt a' w'.heap → Keep w w' → Q .normal a' w') : (Code.region id ops true).wp P Q a w := by
  simp only [regC, Bool.and_eq_true, decide_eq_true_eq] at hC
  obtain ⟨hlen, hC⟩ := hC
  have H2 := dRun_inv (n := ls.length) ls 0 T.as (by omega) (fun b hb => by simp [ST.as, get_e0, get_e1] at hb) H
  have H3 := anyA_lex (md := .any) hAd hlen ls 0 (Array.replicate ops.size false) T.as (fun m om _ hl => by simp [Array.getElem?_replicate] at hl; split at hl <;> simp at hl) (by simp) hC H2
  rw [hlen] at H3
  refine wp_region_any hm ?_
  refine anyA_sound (X := X) (w0 := w) hok (fun φ' I' S' a' w' k1 k2 k3 k4 => ?_) _ _ T.as φ I a { w with drawn := w.drawn + 1 } R.H R.A ⟨rfl, rfl, rfl⟩ (fun b hb => by simp [ST.as, get_e0, get_e1] at hb) H3
  rw [← hlen] at k1
  exact hQ φ' I' (S'.fin ls.length) a' w' k1.1 (fin_rel k2 k3 k1.2) k4
end
end
end Go.AM

/- Drawn regions whose last operation always comes last. -/
namespace Go.AM
noncomputable section
section
variable {P : Program} {X : Ctx} {φ : Nat → Option (Nat × Nat)} {I : Nat → Prop} {S : AS} {nt : Nat} {a : Act} {w : World} {ops : Array Oper} {ls : List LOper} {Wr : RW} {md : Region.Mode}

def lexL (md : Region.Mode) (ops : Array Oper) (ls : List LOper) (last : Nat) : Nat → Nat → Array Bool → Bool
  | 0, _, listed => decide (Region.ready md ops listed = [last]) && (Region.ready md ops (listed.setIfInBounds last true)).isEmpty
  | fuel + 1, k, listed => (Region.ready md ops listed).contains k && (freeC md ops ls listed k && ((depB md k ops.toList 0 0).testBit last && lexL md ops ls last fuel (k + 1) (listed.setIfInBounds k true)))

def regL (ops : Array Oper) (ls : List LOper) : Bool := decide (ls.length = ops.size) && lexL .any ops ls (ls.length - 1) (ls.length - 1) 0 (Array.replicate ops.size false)

def anyL (P : Program) (md : Region.Mode) (ops : Array Oper) (ls : List LOper) (Wr : RW) (last : Nat) (Q : AS → Prop) : Nat → Array Bool → AS → Prop
  | 0, listed, S => (Region.ready md ops listed = [last] ∧ Region.ready md ops (listed.setIfInBounds last true) = []) ∧ Q S
  | fuel + 1, listed, S => Region.ready md ops listed ≠ [] ∧ ∀ i ∈ Region.ready md ops listed, aOp P ls Wr i (anyL P md ops ls Wr last Q fuel (listed.setIfInBounds i true)) S

theorem anyL_sound {last : Nat} {Q : AS → Prop} {Q' : Exit → Act → World → Prop} (hok : okOpers P nt ops ops.toList ls = true) {w0 : World}
    (hQ : ∀ listed φ' I' S' a' w', Region.ready md ops listed = [last] → Region.ready md ops (listed.setIfInBounds last true) = [] → Q S' → RelH X φ' I' S' w'.heap → RelA φ' I' S' nt a' w'.heap → Keep w0 w' → wpAny P md ops Q' 1 listed a' w') :
    ∀ (fuel : Nat) (listed : Array Bool) (S : AS) (φ : Nat → Option (Nat × Nat)) (I : Nat → Prop) (a : Act) (w : World), RelH X φ I S w.heap → RelA φ I S nt a w.heap → Keep w0 w → DInv S → anyL P md ops ls Wr last Q fuel listed S → wpAny P md ops Q' (fuel + 1) listed a w
  | 0, listed, S, φ, I, a, w, R, RA, kp, _, h => hQ listed φ I S a w h.1.1 h.1.2 h.2 R RA kp
  | fuel + 1, listed, S, φ, I, a, w, R, RA, kp, hD, h => ⟨fun h0 => absurd h0 h.1, fun i hi => by
    have h1 := h.2 i hi
    unfold aOp at h1
    split at h1
    · exact h1.elim
    · rename_i l hl
      obtain ⟨e, h2, h3⟩ := h1
      obtain ⟨o, h4, h5⟩ := okOpers_get hok hl
      have h6 : ops[i]? = some o := by rw [← Array.getElem?_toList]; exact h4
      have h7 := DEff.step (Q := Q') (K := wpAny P md ops Q' (fuel + 1) (listed.setIfInBounds i true)) R RA hD h5 h2 (fun φ' I' a' w' k1 k2 k3 => anyL_sound hok hQ fuel _ _ φ' I' a' w' k1 k2 (kp.trans k3) (hD.app h2) h3)
      unfold wpOp
      simp only [h6]
      split
      · rename_i hw; rw [if_pos hw] at h7; exact .inl h7
      · rename_i hw; rw [if_neg hw] at h7; exact h7⟩

theorem anyL_first {last : Nat} {Q : AS → Prop} (hAd : AdOK ls Wr) {i : Nat} {li : LOper} (hi : ls[i]? = some li) (hlen : ls.length = ops.size) (hdl : DepOK md ops i last) :
    ∀ (fuel : Nat) (listed : Array Bool) (S : AS) (ei : Eff), Closed md ops listed → (∀ j lj oj, ls[j]? = some lj → ops[j]? = some oj → j ≠ i → listed.getD j true = false → (∀ e ∈ oj.after, Region.binds md e = true → e.on ≠ i) → (apartL li lj = true ∧ clsOK li lj = true) ∨ DepOK md ops i j) →
      i ∈ Region.ready md ops listed → DEff P ls Wr S li i ei → anyL P md ops ls Wr last Q fuel (listed.setIfInBounds i true) (S.appD li i ei) → anyL P md ops ls Wr last Q (fuel + 1) listed S := by
  have hop : ∀ {S : AS} {K : AS → Prop} {ei : Eff}, DEff P ls Wr S li i ei → K (S.appD li i ei) → aOp P ls Wr i K S := fun h1 h2 => by unfold aOp; rw [hi]; exact ⟨_, h1, h2⟩
  have hun : ∀ {listed : Array Bool}, i ∈ Region.ready md ops listed → listed.getD i false = false := fun {listed} hr => by
    have h0 := (mem_ready.1 hr).1
    rcases Nat.lt_or_ge i listed.size with h' | h'
    · simp [h'] at h0 ⊢; exact h0
    · simp [Array.getElem?_eq_none h']
  intro fuel
  induction fuel with
  | zero =>
    intro listed S ei hclo _ hr hy H
    refine ⟨fun h => (by rw [h] at hr; cases hr), fun j hj => ?_⟩
    by_cases hji : j = i
    · subst hji; exact hop hy H
    · exfalso
      have h1 := ready_mono hj hji
      rw [H.1.1] at h1
      have h2 : j = last := by simpa using h1
      subst h2
      obtain ⟨_, oj, hoj, hall⟩ := mem_ready.1 hj
      have h3 := hdl listed hclo (fun o' ho' e he hb => by rw [hoj] at ho'; injection ho' with ho'; subst ho'; exact hall e he hb) ⟨oj, hoj⟩
      rw [hun hr] at h3
      cases h3
  | succ fuel ih =>
    intro listed S ei hclo hfree hr hy H
    refine ⟨fun h => (by rw [h] at hr; cases hr), fun j hj => ?_⟩
    by_cases hji : j = i
    · subst hji; exact hop hy H
    · have h1 := H.2 j (ready_mono hj hji)
      obtain ⟨hjun, oj, hoj, hall⟩ := mem_ready.1 hj
      have hjl : j < ls.length := by
        rw [hlen]
        rcases Nat.lt_or_ge j ops.size with h | h
        · exact h
        · rw [Array.getElem?_eq_none h] at hoj; cases hoj
      have hlj : ls[j]? = some ls[j] := List.getElem?_eq_getElem hjl
      have hiun := hun hr
      have hnot : ∀ e ∈ oj.after, Region.binds md e = true → e.on ≠ i := fun e he hb heq => by
        have h1 := hall e he hb
        rw [heq, hiun] at h1
        cases h1
      rcases hfree j _ oj hlj hoj hji hjun hnot with ⟨hap, hcl⟩ | hdep
      · unfold aOp at h1 ⊢
        rw [hlj] at h1 ⊢
        obtain ⟨ej, h2, h3⟩ := h1
        obtain ⟨ei', ej', k1, k2, k3⟩ := hy.swapX hap hcl (Ne.symm hji) hi hlj hAd h2
        refine ⟨ej', k1, ?_⟩
        refine ih (listed.setIfInBounds j true) _ ei' (hclo.step hj) (fun k lk ok hlk hok hki hun hno => ?_) (ready_mono hr (Ne.symm hji)) k2 ?_
        · refine hfree k lk ok hlk hok hki ?_ hno
          by_cases hjk : j = k
          · subst hjk; exact hjun
          · rw [getD_set_ne true hjk] at hun; exact hun
        · rw [← k3, Array.setIfInBounds_comm _ _ hji]
          exact h3
      · have := hdep listed hclo (fun o' ho' e he hb => by rw [hoj] at ho'; injection ho' with ho'; subst ho'; exact hall e he hb) ⟨oj, hoj⟩
        rw [hiun] at this
        cases this

theorem anyL_lex {last : Nat} {Q : AS → Prop} (hAd : AdOK ls Wr) (hlen : ls.length = ops.size) : ∀ (l : List LOper) (k : Nat) (listed : Array Bool) (S : AS), Closed md ops listed → (∀ j, j < l.length → l[j]? = ls[k + j]?) → lexL md ops ls last l.length k listed = true → dRun P ls Wr l k S Q → anyL P md ops ls Wr last Q l.length listed S
  | [], _, _, _, _, _, hB, h => by
    simp only [List.length_nil, lexL, Bool.and_eq_true, decide_eq_true_eq, List.isEmpty_iff] at hB
    exact ⟨hB, h⟩
  | o :: l, k, listed, S, hclo, hl, hB, h => by
    have h0 : ls[k]? = some o := by simpa using (hl 0 (by simp)).symm
    simp only [List.length_cons, lexL, Bool.and_eq_true] at hB
    obtain ⟨hr, hf, hd, hB'⟩ := hB
    obtain ⟨e, h1, h2⟩ := h
    have hr' : k ∈ Region.ready md ops listed := by simpa using hr
    have hdl := (depB_spec (ops := ops) (md := md) (k := k) ops.toList [] 0 (by simp) (fun j hj => by simp at hj) last hd).2
    exact anyL_first hAd h0 hlen hdl l.length listed S e hclo (freeC_spec h0 hf) hr' h1
      (anyL_lex hAd hlen l (k + 1) _ _ (hclo.step hr') (fun j hj => by have := hl (j + 1) (by simpa using hj); simpa [Nat.add_assoc, Nat.add_comm 1 j] using this) hB' h2)

/-- **A region that draws its order, but for its last operation.** -/
theorem rgnL_sound {id : Nat} {T : ST} {ls1 : List LOper} {l : LOper} {K : ST → Prop} {Q : Exit → Act → World → Prop} (hm : P.follows .mixedOrders = true) (hok : okOpers P nt ops ops.toList (ls1 ++ [l]) = true) (hC : regL ops (ls1 ++ [l]) = true) (hAd : AdOK (ls1 ++ [l]) Wr) (R : RelS X φ I T nt a w.heap)
    (H : dRun P (ls1 ++ [l]) Wr ls1 0 T.as fun S' => rgnS P [l] (S'.fin ls1.length) K) (hQ : ∀ φ' I' S' a' w', K S' → RelS X φ' I' S' nt a' w'.heap → Keep w w' → Q .normal a' w') : (Code.region id ops true).wp P Q a w := by
  simp only [regL, Bool.and_eq_true, decide_eq_true_eq] at hC
  obtain ⟨hlen, hC⟩ := hC
  have hn : (ls1 ++ [l]).length - 1 = ls1.length := by simp
  have hsz : ops.size = ls1.length + 1 := by rw [← hlen]; simp
  rw [hn] at hC
  have H2 := dRun_inv (n := ls1.length) ls1 0 T.as (by omega) (fun b hb => by simp [ST.as, get_e0, get_e1] at hb) H
  have H3 := anyL_lex (md := .any) (last := ls1.length) hAd hlen ls1 0 (Array.replicate ops.size false) T.as (fun m om _ hl => by simp [Array.getElem?_replicate] at hl; split at hl <;> simp at hl) (fun j hj => by rw [Nat.zero_add, List.getElem?_append_left hj]) hC H2
  have hl : (ls1 ++ [l])[ls1.length]? = some l := by simp
  obtain ⟨o, ho1, ho2⟩ := okOpers_get hok hl
  have ho3 : ops[ls1.length]? = some o := by rw [← Array.getElem?_toList]; exact ho1
  refine wp_region_any hm ?_
  rw [hsz]
  rw [hsz] at H3
  refine anyL_sound (X := X) (w0 := w) (last := ls1.length) hok (fun listed φ' I' S' a' w' b1 b2 k1 k2 k3 k4 => ?_) _ _ T.as φ I a { w with drawn := w.drawn + 1 } R.H R.A ⟨rfl, rfl, rfl⟩ (fun b hb => by simp [ST.as, get_e0, get_e1] at hb) H3
  have RS := fin_rel k2 k3 k1.2
  have hw := rgnS_sound (ops := ops) (Q := Q) [o] [l] (by simp [okOpers, ho2]) (S'.fin ls1.length) a' w' φ' I' K RS k1.1 (fun φ2 I2 S2 a2 w2 q1 q2 q3 => hQ φ2 I2 S2 a2 w2 q1 q2 (k4.trans q3))
  refine ⟨fun h0 => (by rw [b1] at h0; cases h0), fun i hi => ?_⟩
  rw [b1] at hi
  have hi' : i = ls1.length := by simpa using hi
  subst hi'
  unfold wpOp
  simp only [ho3]
  unfold wpList at hw
  split
  · rename_i hwt
    rw [if_pos hwt] at hw
    rcases hw with hw | hw
    · exact .inl (Oper.wp_mono (fun a2 w2 h2 => ⟨b2, h2⟩) hw)
    · exact .inr hw
  · rename_i hwt
    rw [if_neg hwt] at hw
    exact ⟨b2, hw⟩
end
end
end Go.AM

/- Drawn regions with calls that change blocks: all that touches memory stands in one order, the rest anywhere. -/
namespace Go.AM
noncomputable section

/-- A kind of an operation of such a region: 0 knows nothing of memory; 1 reads it; 2 may do anything. -/
abbrev HOp := LOper × Nat × Nat

theorem elems_pure {H : Heap} {sz : Nat} {v : AV} {es : List (List AV)} (h : elems [] sz v = some es) : elems H sz v = some es := by
  cases v <;> simp only [elems, get_e0, grd] at h ⊢ <;> first | exact h | (cases h; done) | skip
  split at h <;> cases h

/-- What an operation yields that writes nothing. -/
def onlyV : Option Eff → Option AV
  | some ⟨v, none, none, none⟩ => some v
  | _ => none
theorem onlyV_spec {e : Option Eff} {v : AV} (h : onlyV e = some v) : e = some { val := v } := by
  unfold onlyV at h
  split at h
  · injection h with h; subst h; rfl
  · cases h
theorem opEff_pure {H : Heap} {vs : Vars} {id : Nat} {op : LOp} {v : AV} (h : onlyV (opEff [] vs 0 op) = some v) : opEff H vs id op = some { val := v } := by
  have h' := onlyV_spec h
  clear h
  cases op
  case copy sz x y =>
    simp only [opEff] at h' ⊢
    split at h'
    · rename_i ys hys
      rw [elems_pure hys]
      simp only
      split at h'
      · exact h'
      · simp [get_e0] at h'
      · cases h'
    · cases h'
  case append sz b x y =>
    simp only [opEff, appEff] at h' ⊢
    split at h'
    · split at h'
      · have := (grd_some h').2; injection this with this; injection this with h1 h2; cases h2
      · simp [get_e0] at h'
      · cases h'
    · cases h'
  case appendH sz b x y =>
    simp only [opEff, appEff] at h' ⊢
    split at h'
    · split at h'
      · have := (grd_some h').2; injection this with this; injection this with h1 h2; cases h2
      · simp [get_e0] at h'
      · cases h'
    · cases h'
  case len k x =>
    cases k <;> simp only [opEff] at h' ⊢ <;> first | exact h' | skip
    split at h' <;> first | exact h' | (simp [get_e0] at h'; done) | (cases h'; done)
  case load ag n a =>
    simp only [opEff] at h' ⊢
    split at h' <;> first | exact h' | (simp [get_e0] at h'; done) | (cases h'; done)
  case loadF ag n a =>
    simp only [opEff] at h' ⊢
    split at h' <;> first | exact h' | (simp [get_e0] at h'; done) | (cases h'; done)
  case store n a x =>
    simp only [opEff] at h' ⊢
    split at h' <;> first | exact h' | (simp [get_e0] at h'; done) | (cases h'; done)
  case storeF n a x =>
    simp only [opEff] at h' ⊢
    split at h' <;> first | exact h' | (simp [get_e0] at h'; done) | (cases h'; done)
  case lookup ok t z x k =>
    simp only [opEff] at h' ⊢
    obtain ⟨h1, h2⟩ := grd_some h'
    rw [h1]
    simp only [grd]
    split at h2 <;> first | exact h2 | (simp [get_e0] at h2; done) | (cases h2; done)
  case mapupd t x k v =>
    simp only [opEff] at h' ⊢
    obtain ⟨h1, h2⟩ := grd_some h'
    split at h2 <;> first | (simp [get_e0] at h2; done) | (cases h2; done)
  case nxt x =>
    simp only [opEff] at h' ⊢
    split at h' <;> first | (simp [get_e0] at h'; done) | (cases h'; done)
  case clr sz z x =>
    simp only [opEff] at h' ⊢
    split at h'
    · exact h'
    · exact h'
    · split at h'
      · exact h'
      · simp [get_e0] at h'
    · cases h'
  all_goals first | exact h' | (simp only [opEff] at h' ⊢; exact h') | skip
  all_goals
    exfalso
    simp only [opEff] at h'
    (repeat' split at h') <;> first | (cases h'; done) | (have := (grd_some h').2; injection this with this; injection this with h1 h2; cases h2; done) | (injection h' with h'; injection h' with h1 h2; cases h2; done)

section
variable {P : Program} {X : Ctx} {φ : Nat → Option (Nat × Nat)} {I : Nat → Prop} {S : ST} {nt : Nat} {a : Act} {w : World} {ops : Array Oper} {os : List HOp} {md : Region.Mode}

/-- The value of an operation of kind 0 or 1. -/
def litV (k : Nat) (S : ST) (l : LOper) : Option AV := (gd S.vars l.guard).bind fun b => match b with
  | false => some (.tup [])
  | true => match k with
    | 0 => onlyV (opEff [] S.vars 0 l.op)
    | _ => onlyV (opEff S.heap S.vars S.next l.op)
def hOp1 (P : Program) (o : HOp) (K : ST → Prop) (S : ST) : Prop := match decide (o.2.1 ≤ 1) with
  | true => ∃ v, litV o.2.1 S o.1 = some v ∧ K { S with vars := putV o.1.dst v S.vars }
  | false => rgnS P [o.1] S K
theorem hOp1_mono {o : HOp} {K K' : ST → Prop} (h : ∀ S, K S → K' S) (H : hOp1 P o K S) : hOp1 P o K' S := by
  unfold hOp1 at *
  split
  · rename_i hk
    rw [hk] at H
    obtain ⟨v, h1, h2⟩ := H
    exact ⟨v, h1, h _ h2⟩
  · rename_i hk
    rw [hk] at H
    simp only [rgnS] at H ⊢
    cases hg : gd S.vars o.1.guard with
    | none => rw [hg] at H; exact H.elim
    | some b =>
      rw [hg] at H
      simp only [Option.sat] at H ⊢
      cases b with
      | false => exact h _ H
      | true =>
        cases hl : o.1.op with
        | call q f args =>
          rw [hl] at H
          simp only at H ⊢
          split at H
          · rename_i g fs cs hf
            exact H.mono fun r S' hr => h _ hr
          · exact H.elim
        | _ =>
          rw [hl] at H
          simp only at H ⊢
          revert H
          generalize opEff _ _ _ _ = e
          intro H
          cases e with
          | none => exact H.elim
          | some e => exact h _ H

/-- One operation, in whatever order. -/
theorem hOp1_sound {o : Oper} {h : HOp} (R : RelS X φ I S nt a w.heap) (hok : okOper P nt ops o h.1 = true) {K : ST → Prop} (H : hOp1 P h K S) {K' : Act → World → Prop} {Q : Exit → Act → World → Prop} (hK : ∀ φ' I' S' a' w', K S' → RelS X φ' I' S' nt a' w'.heap → Keep w w' → K' a' w') :
    if Region.wanted o (yielded ops a.tmps) then o.wp P a w K' Q else K' (a.put o.dst undef) w := by
  obtain ⟨l, k, idx⟩ := h
  simp only at hok
  have hok0 := hok
  simp only [okOper, Bool.and_eq_true, Bool.or_eq_true] at hok
  obtain ⟨h3, h4, h5⟩ := hok
  obtain ⟨h6, h7⟩ := okDst_spec h3
  -- an operation that is no call
  have hop : ∀ {e : Eff}, opEff S.heap S.vars S.next l.op = some e → K (S.app l.dst e) → o.wp P a w K' Q := fun {e} he hKe => by
    have hk : okOp P o.op l.op = true := by
      rcases h5 with h5 | h5
      · exact h5
      · obtain ⟨q, f, args, _, _, _, h8, _⟩ := okCall_spec h5
        rw [h8] at he; simp [opEff] at he
    obtain ⟨φ', I', cv, w', k1, k2, kp⟩ := R.step (P := P) h7 hk he
    rw [← h6] at k2
    unfold Oper.wp
    rcases k1 with k1 | ⟨k1, rfl⟩
    · rw [k1]; exact hK φ' I' _ _ w' (by rw [h6]; exact hKe) k2 kp
    · rw [k1]; exact hK φ' I' _ _ w' (by rw [h6]; exact hKe) k2 kp
  unfold hOp1 at H
  simp only at H
  split at H
  · obtain ⟨v, h1, h2⟩ := H
    unfold litV at h1
    cases hg : gd S.vars l.guard with
    | none => rw [hg] at h1; cases h1
    | some b =>
      rw [hg] at h1
      simp only [Option.bind_some] at h1
      have hw := wanted_gd (ops := ops) (o := o) R.A h4 (by simpa [ST.as] using hg)
      rw [hw]
      cases b with
      | false =>
        simp only [Bool.false_eq_true, if_false]
        injection h1 with h1; subst h1
        rw [h6]
        exact hK φ I _ _ w h2 (R.any h7) (Keep.refl w)
      | true =>
        simp only [if_true]
        have he : opEff S.heap S.vars S.next l.op = some { val := v } := by
          split at h1
          · rename_i hb; cases hb
          · split at h1
            · exact opEff_pure h1
            · exact onlyV_spec h1
        exact hop he h2
  · simp only [rgnS] at H
    cases hg : gd S.vars l.guard with
    | none => rw [hg] at H; exact H.elim
    | some b =>
      rw [hg] at H
      simp only [Option.sat] at H
      have hw := wanted_gd (ops := ops) (o := o) R.A h4 (by simpa [ST.as] using hg)
      rw [hw]
      cases b with
      | false =>
        simp only [Bool.false_eq_true, if_false]
        rw [h6]
        exact hK φ I _ _ w H (R.any h7) (Keep.refl w)
      | true =>
        simp only [if_true]
        cases hl : l.op with
        | call q f args =>
          rw [hl] at H h5
          simp only at H
          rcases h5 with h5 | h5
          · exact (okOp_call h5).elim
          · obtain ⟨q', f0, args0, f', args', tys, k1, k2, k3, k4⟩ := okCall_spec h5
            injection k1 with k5 k6 k7; subst k5 k6 k7
            have hfe := ev_rel R.A k3
            cases hf : f.ev S.vars with
            | fn g first caps =>
              rw [hf] at H
              simp only [ST.as] at hfe
              rw [hf] at hfe
              simp only [relV] at hfe
              obtain ⟨fs, cs, k8, k9, k10⟩ := hfe
              have hx := exec_call (P := P) (w := w) (o := o) (a := a) k2 k8 H.1
              have hc := H.2 X φ I w _ R.H (relL_append (relL_append k9 (evs_rel R.A k4)) k10)
              unfold Oper.wp
              rw [hx]
              simp only [Oper.upon]
              refine hc.mono fun e w' hh => ?_
              obtain ⟨cv, r, φ', I', S', q1, q2, q3, q4, q5, q6, kp⟩ := hh
              subst q1
              simp only
              rw [h6]
              exact hK φ' I' _ _ w' q6 (RelS.put R.A q2 q3 q5 h7 q4) kp
            | _ => rw [hf] at H; exact H.elim
        | _ =>
          rw [hl] at H
          simp only at H
          cases he : opEff S.heap S.vars S.next l.op with
          | none => rw [hl] at he; rw [he] at H; exact H.elim
          | some e =>
            have he' := he
            rw [hl] at he'
            rw [he'] at H
            exact hop he H

/-! ### Changing places -/
theorem litV_same {k : Nat} {S T : ST} {l : LOper} (hv : ∀ s ∈ l.looks, get S.vars s = get T.vars s) (hh : k = 0 ∨ (S.heap = T.heap ∧ S.next = T.next)) : litV k S l = litV k T l := by
  unfold litV
  rw [gd_same hv]
  have ha := args_same hv
  congr 1
  funext b
  cases b with
  | false => rfl
  | true =>
    simp only
    split
    · rw [opEff_vars ha]
    · rename_i k' hk
      rcases hh with h | ⟨h1, h2⟩
      · exact absurd h hk
      · rw [h1, h2, opEff_vars ha]

theorem CallS.move {f : Nat} {args : List AV} {S : ST} {vs : Vars} {K : AV → ST → Prop} (H : CallS P f args S K) : CallS P f args ⟨vs, S.heap, S.next⟩ fun r S' => S'.vars = vs ∧ K r ⟨S.vars, S'.heap, S'.next⟩ := by
  refine ⟨H.1, fun X φ I w cargs R ha => ?_⟩
  have hA : ∀ (vs vs' : Vars) (H : Heap) (n : Nat), (ST.as ⟨vs, H, n⟩).A = (ST.as ⟨vs', H, n⟩).A := fun _ _ _ _ => rfl
  refine (H.2 X φ I w cargs (R.vars S.vars) ha).mono fun e w' ⟨cv, r, φ', I', S', k1, k2, k3, k4, k5, k6, k7⟩ => ?_
  refine ⟨cv, r, φ', I', ⟨vs, S'.heap, S'.next⟩, k1, k2.vars vs, k3, k4, rfl, ⟨rfl, ?_⟩, k7⟩
  have e : (⟨S.vars, S'.heap, S'.next⟩ : ST) = S' := by rw [← k5]
  simp only [e]
  exact k6

def clsH (k k' : Nat) : Bool := match k, k' with
  | 0, _ => true
  | 1, 0 => true
  | 1, 1 => true
  | _, _ => false

theorem looks_putH {l : LOper} {d : Option Nat} {v : AV} {vs : Vars} (h : ∀ x, d = some x → x ∉ l.looks) : ∀ s ∈ l.looks, get (putV d v vs) s = get vs s := fun s hs => putV_get fun x hx e => h x hx (e ▸ hs)

theorem hOp1_swap {o o' : HOp} {v : AV} {K : ST → Prop} (hk : o.2.1 ≤ 1) (hap : apartL o.1 o'.1 = true) (hcl : clsH o.2.1 o'.2.1 = true) (hv : litV o.2.1 S o.1 = some v) (H : hOp1 P o' K { S with vars := putV o.1.dst v S.vars }) :
    hOp1 P o' (fun T => litV o.2.1 T o.1 = some v ∧ K { T with vars := putV o.1.dst v T.vars }) S := by
  obtain ⟨l, k, i⟩ := o
  obtain ⟨l', k', i'⟩ := o'
  simp only at hk hap hcl hv H ⊢
  obtain ⟨a1, a2, a3⟩ := apartL_spec hap
  have hl' := looks_putH (l := l') (d := l.dst) (v := v) (vs := S.vars) a1
  unfold hOp1 at H ⊢
  simp only at H ⊢
  split at H
  · obtain ⟨u, h1, h2⟩ := H
    refine ⟨u, ?_, ?_, ?_⟩
    · rw [← h1]; exact litV_same (fun s hs => (hl' s hs).symm) (.inr ⟨rfl, rfl⟩)
    · rw [← hv]; exact litV_same (looks_putH a3) (.inr ⟨rfl, rfl⟩)
    · have := putV_comm (d := l.dst) (d' := l'.dst) (v := v) (v' := u) (vs := S.vars) a2

      rw [← this]; exact h2
  · rename_i hk'
    simp only [decide_eq_false_iff_not] at hk'
    have hk0 : k = 0 := by
      unfold clsH at hcl
      split at hcl
      · rfl
      · omega
      · omega
      · cases hcl
    subst hk0
    simp only [rgnS] at H ⊢
    rw [gd_same hl'] at H
    cases hg : gd S.vars l'.guard with
    | none => rw [hg] at H; exact H.elim
    | some b =>
      rw [hg] at H
      simp only [Option.sat] at H ⊢
      cases b with
      | false =>
        simp only at H ⊢
        refine ⟨by rw [← hv]; exact litV_same (looks_putH a3) (.inl rfl), ?_⟩
        rw [← putV_comm a2]; exact H
      | true =>
        have ha := args_same hl'
        simp only at H ⊢
        cases hop : l'.op with
        | call q f args =>
          rw [hop] at H ha
          simp only at H ⊢
          rw [ha f (by simp [LOp.args])] at H
          cases hf : f.ev S.vars with
          | fn g first caps =>
            rw [hf] at H
            simp only at H ⊢
            rw [map_ev_same (xs := args) fun x hx => ha x (by simp [LOp.args, hx])] at H
            have H2 := CallS.move (vs := S.vars) H
            refine H2.mono fun r S' ⟨hs, hr⟩ => ?_
            simp only at hr ⊢
            rw [hs]
            refine ⟨by rw [← hv]; exact litV_same (looks_putH a3) (.inl rfl), ?_⟩
            rw [← putV_comm a2]; exact hr
          | _ => rw [hf] at H; exact H.elim
        | _ =>
          rw [hop] at H ha
          simp only at H ⊢
          rw [opEff_vars ha] at H
          revert H
          generalize opEff _ _ _ _ = e
          intro H
          cases e with
          | none => exact H.elim
          | some e =>
            simp only [Option.sat, ST.app] at H ⊢
            refine ⟨by rw [← hv]; exact litV_same (looks_putH a3) (.inl rfl), ?_⟩
            rw [← putV_comm a2]; exact H

/-! ### All orders -/
def tabH (os : List HOp) (i : Nat) : Option HOp := os.find? fun o => Nat.beq o.2.2 i
def anyH (P : Program) (md : Region.Mode) (ops : Array Oper) (os : List HOp) (Q : ST → Prop) : Nat → Array Bool → ST → Prop
  | 0, listed, S => Region.ready md ops listed = [] ∧ Q S
  | fuel + 1, listed, S => (Region.ready md ops listed = [] → Q S) ∧ ∀ i ∈ Region.ready md ops listed, ∃ o, tabH os i = some o ∧ hOp1 P o (anyH P md ops os Q fuel (listed.setIfInBounds i true)) S

def okHs (P : Program) (nt : Nat) (ops : Array Oper) (os : List HOp) : Bool := os.all fun o => match ops[o.2.2]? with
  | some po => okOper P nt ops po o.1
  | none => false
theorem tabH_mem {os : List HOp} {i : Nat} {o : HOp} (h : tabH os i = some o) : o ∈ os ∧ o.2.2 = i :=
  ⟨List.mem_of_find?_eq_some h, by have := List.find?_some h; exact Nat.eq_of_beq_eq_true this⟩
theorem okHs_spec {os : List HOp} (hok : okHs P nt ops os = true) {i : Nat} {o : HOp} (h : tabH os i = some o) : ∃ po, ops[i]? = some po ∧ okOper P nt ops po o.1 = true := by
  obtain ⟨h1, h2⟩ := tabH_mem h
  have := List.all_eq_true.1 hok o h1
  rw [h2] at this
  split at this
  · rename_i po hpo; exact ⟨po, hpo, this⟩
  · cases this

theorem anyH_sound {Q : ST → Prop} {Q' : Exit → Act → World → Prop} (hok : okHs P nt ops os = true) {w0 : World} (hQ : ∀ φ' I' S' a' w', Q S' → RelS X φ' I' S' nt a' w'.heap → Keep w0 w' → Q' .normal a' w') :
    ∀ (fuel : Nat) (listed : Array Bool) (S : ST) (φ : Nat → Option (Nat × Nat)) (I : Nat → Prop) (a : Act) (w : World), RelS X φ I S nt a w.heap → Keep w0 w → anyH P md ops os Q fuel listed S → wpAny P md ops Q' fuel listed a w
  | 0, _, S, φ, I, a, w, R, kp, h => ⟨h.1, hQ φ I S a w h.2 R kp⟩
  | fuel + 1, listed, S, φ, I, a, w, R, kp, h => ⟨fun h0 => hQ φ I S a w (h.1 h0) R kp, fun i hi => by
    obtain ⟨o, h1, h2⟩ := h.2 i hi
    obtain ⟨po, h3, h4⟩ := okHs_spec hok h1
    have h7 := hOp1_sound (Q := Q') (K' := wpAny P md ops Q' fuel (listed.setIfInBounds i true)) R h4 h2 (fun φ' I' S' a' w' k1 k2 k3 => anyH_sound hok hQ fuel _ _ φ' I' a' w' k2 (kp.trans k3) k1)
    unfold wpOp
    simp only [h3]
    split
    · rename_i hw; rw [if_pos hw] at h7; exact .inl h7
    · rename_i hw; rw [if_neg hw] at h7; exact h7⟩

theorem anyH_first {Q : ST → Prop} {i : Nat} {o : HOp} (hi : tabH os i = some o) (hall : ∀ j, j < ops.size → ∃ oj, tabH os j = some oj) :
    ∀ (fuel : Nat) (listed : Array Bool) (S : ST), Closed md ops listed → (∀ j lj oj, tabH os j = some lj → ops[j]? = some oj → j ≠ i → listed.getD j true = false → (∀ e ∈ oj.after, Region.binds md e = true → e.on ≠ i) → (apartL o.1 lj.1 = true ∧ clsH o.2.1 lj.2.1 = true) ∨ DepOK md ops i j) →
      i ∈ Region.ready md ops listed → hOp1 P o (anyH P md ops os Q fuel (listed.setIfInBounds i true)) S → anyH P md ops os Q (fuel + 1) listed S := by
  have hiun : ∀ listed, i ∈ Region.ready md ops listed → listed.getD i false = false := fun listed hr => by
    have h0 := (mem_ready.1 hr).1
    rcases Nat.lt_or_ge i listed.size with h' | h'
    · simp [h'] at h0 ⊢; exact h0
    · simp [Array.getElem?_eq_none h']
  -- what another one that is ready is like
  have other : ∀ (listed : Array Bool), Closed md ops listed → (∀ j lj oj, tabH os j = some lj → ops[j]? = some oj → j ≠ i → listed.getD j true = false → (∀ e ∈ oj.after, Region.binds md e = true → e.on ≠ i) → (apartL o.1 lj.1 = true ∧ clsH o.2.1 lj.2.1 = true) ∨ DepOK md ops i j) → i ∈ Region.ready md ops listed →
      ∀ j, j ∈ Region.ready md ops listed → j ≠ i → ∃ lj, tabH os j = some lj ∧ apartL o.1 lj.1 = true ∧ clsH o.2.1 lj.2.1 = true := fun listed hclo hfree hr j hj hji => by
    obtain ⟨hjun, oj, hoj, hallj⟩ := mem_ready.1 hj
    have hjl : j < ops.size := by
      rcases Nat.lt_or_ge j ops.size with h | h
      · exact h
      · rw [Array.getElem?_eq_none h] at hoj; cases hoj
    obtain ⟨lj, hlj⟩ := hall j hjl
    have hnot : ∀ e ∈ oj.after, Region.binds md e = true → e.on ≠ i := fun e he hb heq => by
      have h1 := hallj e he hb
      rw [heq, hiun listed hr] at h1
      cases h1
    rcases hfree j lj oj hlj hoj hji hjun hnot with h | hdep
    · exact ⟨lj, hlj, h⟩
    · have := hdep listed hclo (fun o' ho' e he hb => by rw [hoj] at ho'; injection ho' with ho'; subst ho'; exact hallj e he hb) ⟨oj, hoj⟩
      rw [hiun listed hr] at this
      cases this
  by_cases hk : o.2.1 ≤ 1
  · have key : ∀ (fuel : Nat) (listed : Array Bool) (S : ST) (v : AV), Closed md ops listed → (∀ j lj oj, tabH os j = some lj → ops[j]? = some oj → j ≠ i → listed.getD j true = false → (∀ e ∈ oj.after, Region.binds md e = true → e.on ≠ i) → (apartL o.1 lj.1 = true ∧ clsH o.2.1 lj.2.1 = true) ∨ DepOK md ops i j) →
        i ∈ Region.ready md ops listed → litV o.2.1 S o.1 = some v → anyH P md ops os Q fuel (listed.setIfInBounds i true) { S with vars := putV o.1.dst v S.vars } → anyH P md ops os Q (fuel + 1) listed S := by
      have hself : ∀ {K : ST → Prop} {S : ST} {v : AV}, litV o.2.1 S o.1 = some v → K { S with vars := putV o.1.dst v S.vars } → hOp1 P o K S := fun h1 h2 => by
        unfold hOp1
        rw [decide_eq_true hk]
        exact ⟨_, h1, h2⟩
      intro fuel
      induction fuel with
      | zero =>
        intro listed S v _ _ hr hv H
        refine ⟨fun h => (by rw [h] at hr; cases hr), fun j hj => ?_⟩
        by_cases hji : j = i
        · subst hji; exact ⟨o, hi, hself hv H⟩
        · have := ready_mono hj hji
          rw [H.1] at this
          cases this
      | succ fuel ih =>
        intro listed S v hclo hfree hr hv H
        refine ⟨fun h => (by rw [h] at hr; cases hr), fun j hj => ?_⟩
        by_cases hji : j = i
        · subst hji; exact ⟨o, hi, hself hv H⟩
        · obtain ⟨lj, hlj, hap, hcl⟩ := other listed hclo hfree hr j hj hji
          obtain ⟨lj', hlj', h1⟩ := H.2 j (ready_mono hj hji)
          rw [hlj] at hlj'
          injection hlj' with hlj'; subst hlj'
          refine ⟨lj, hlj, ?_⟩
          refine hOp1_mono (fun T ⟨k1, k2⟩ => ?_) (hOp1_swap hk hap hcl hv h1)
          refine ih (listed.setIfInBounds j true) T v (hclo.step hj) (fun k lk ok hlk hok hki hun hno => ?_) (ready_mono hr (Ne.symm hji)) k1 ?_
          · refine hfree k lk ok hlk hok hki ?_ hno
            by_cases hjk : j = k
            · subst hjk; exact (mem_ready.1 hj).1
            · rw [getD_set_ne true hjk] at hun; exact hun
          · rw [Array.setIfInBounds_comm _ _ hji]
            exact k2
    intro fuel listed S hclo hfree hr H
    unfold hOp1 at H
    rw [decide_eq_true hk] at H
    obtain ⟨v, h1, h2⟩ := H
    exact key fuel listed S v hclo hfree hr h1 h2
  · intro fuel listed S hclo hfree hr H
    refine ⟨fun h => (by rw [h] at hr; cases hr), fun j hj => ?_⟩
    by_cases hji : j = i
    · subst hji; exact ⟨o, hi, H⟩
    · obtain ⟨lj, hlj, hap, hcl⟩ := other listed hclo hfree hr j hj hji
      exfalso
      obtain ⟨m, hm⟩ : ∃ m, o.2.1 = m + 2 := ⟨o.2.1 - 2, by omega⟩
      rw [hm] at hcl
      simp [clsH] at hcl

/-- The run in the told order. -/
def hRun (P : Program) : List HOp → ST → (ST → Prop) → Prop
  | [], S, K => K S
  | o :: r, S, K => hOp1 P o (fun T => hRun P r T K) S

def freeH (md : Region.Mode) (ops : Array Oper) (os : List HOp) (listed : Array Bool) (o : HOp) : Bool :=
  (List.range ops.size).all fun j => listed.getD j true || (decide (j = o.2.2) || ((match ops[j]? with
    | some p => p.after.any fun e => Region.binds md e && decide (e.on = o.2.2)
    | none => true) || ((match tabH os j with
      | some lj => apartL o.1 lj.1 && clsH o.2.1 lj.2.1
      | none => false) || (depB md o.2.2 ops.toList 0 0).testBit j)))

def lexH (md : Region.Mode) (ops : Array Oper) (os : List HOp) : List HOp → Array Bool → Bool
  | [], listed => (Region.ready md ops listed).isEmpty
  | o :: r, listed => (Region.ready md ops listed).contains o.2.2 && (freeH md ops os listed o && lexH md ops os r (listed.setIfInBounds o.2.2 true))

theorem freeH_spec {listed : Array Bool} {o : HOp} (h : freeH md ops os listed o = true) : ∀ j lj oj, tabH os j = some lj → ops[j]? = some oj → j ≠ o.2.2 → listed.getD j true = false → (∀ e ∈ oj.after, Region.binds md e = true → e.on ≠ o.2.2) → (apartL o.1 lj.1 = true ∧ clsH o.2.1 lj.2.1 = true) ∨ DepOK md ops o.2.2 j := by
  intro j lj oj h1 h2 h3 h4 h5
  unfold freeH at h
  simp only [List.all_eq_true, List.mem_range, Bool.or_eq_true, decide_eq_true_eq] at h
  have hj : j < ops.size := by
    rcases Nat.lt_or_ge j ops.size with h' | h'
    · exact h'
    · rw [Array.getElem?_eq_none h'] at h2; cases h2
  rcases h j hj with h6 | h6 | h6 | h6 | h6
  · rw [h4] at h6; cases h6
  · exact absurd h6 h3
  · rw [h2] at h6
    simp only [Array.any_eq_true, Bool.and_eq_true, decide_eq_true_eq] at h6
    obtain ⟨q, hq, h7, h8⟩ := h6
    exact absurd h8 (h5 _ (Array.getElem_mem hq) h7)
  · rw [h1] at h6
    exact .inl (by simpa using h6)
  · exact .inr (depB_spec (md := md) (k := o.2.2) ops.toList [] 0 (by simp) (fun j hj => by simp at hj) j h6).2

theorem anyH_lex {Q : ST → Prop} (hall : ∀ j, j < ops.size → ∃ oj, tabH os j = some oj) : ∀ (r : List HOp) (listed : Array Bool) (S : ST), (∀ o ∈ r, tabH os o.2.2 = some o) → Closed md ops listed → lexH md ops os r listed = true → hRun P r S Q → anyH P md ops os Q r.length listed S
  | [], _, _, _, _, hB, h => ⟨by simpa [lexH] using hB, h⟩
  | o :: r, listed, S, ht, hclo, hB, h => by
    simp only [lexH, Bool.and_eq_true] at hB
    obtain ⟨hr, hf, hB'⟩ := hB
    have hr' : o.2.2 ∈ Region.ready md ops listed := by simpa using hr
    simp only [hRun] at h
    exact anyH_first (ht o (by simp)) hall r.length listed S hclo (freeH_spec hf) hr'
      (hOp1_mono (fun T hT => anyH_lex hall r _ T (fun o ho => ht o (List.mem_cons_of_mem _ ho)) (hclo.step hr') hB' hT) h)

def idxB : List HOp → Bool
  | [] => true
  | o :: r => !(r.any fun p => Nat.beq p.2.2 o.2.2) && idxB r
theorem idxB_spec : ∀ {os : List HOp}, idxB os = true → ∀ o ∈ os, tabH os o.2.2 = some o
  | p :: r, h, o, ho => by
    simp only [idxB, Bool.and_eq_true, Bool.not_eq_true'] at h
    simp only [tabH, List.find?_cons]
    rcases List.mem_cons.1 ho with rfl | ho
    · rw [Nat.beq_refl]
    · have h1 := List.any_eq_false.1 h.1 o ho
      have h2 : Nat.beq p.2.2 o.2.2 = false := by
        cases hb : Nat.beq p.2.2 o.2.2 with
        | false => rfl
        | true =>
          exfalso
          have := Nat.eq_of_beq_eq_true hb
          rw [this, Nat.beq_refl] at h1
          exact h1 rfl
      rw [h2]
      exact idxB_spec h.2 o ho
def regH (P : Program) (nt : Nat) (ops : Array Oper) (os : List HOp) : Bool := okHs P nt ops os && (decide (os.length = ops.size) && (idxB os && ((List.range ops.size).all (fun j => (tabH os j).isSome) && lexH .any ops os os (Array.replicate ops.size false))))

/-- **A region that draws its order, with calls that change blocks.** -/
theorem rgnH_sound {id : Nat} {T : ST} {K : ST → Prop} {Q : Exit → Act → World → Prop} (hm : P.follows .mixedOrders = true) (hC : regH P nt ops os = true) (R : RelS X φ I T nt a w.heap)
    (H : hRun P os T K) (hQ : ∀ φ' I' S' a' w', K S' → RelS X φ' I' S' nt a' w'.heap → Keep w w' → Q .normal a' w') : (Code.region id ops true).wp P Q a w := by
  simp only [regH, Bool.and_eq_true, decide_eq_true_eq] at hC
  obtain ⟨hok, hlen, hidx, hall, hC⟩ := hC
  have hall' : ∀ j, j < ops.size → ∃ oj, tabH os j = some oj := fun j hj => by
    have := List.all_eq_true.1 hall j (List.mem_range.2 hj)
    exact Option.isSome_iff_exists.1 this
  have H3 := anyH_lex (md := .any) (Q := K) hall' os (Array.replicate ops.size false) T (idxB_spec hidx) (fun m om _ hl => by simp [Array.getElem?_replicate] at hl; split at hl <;> simp at hl) hC H
  rw [hlen] at H3
  refine wp_region_any hm ?_
  exact anyH_sound (X := X) (w0 := w) hok (fun φ' I' S' a' w' k1 k2 k3 => hQ φ' I' S' a' w' k1 k2 k3) _ _ T φ I a { w with drawn := w.drawn + 1 } R ⟨rfl, rfl, rfl⟩ H3
end
end
end Go.AM

/- Rules for code, and for functions. -/
namespace Go.AM
noncomputable section

def okCode (P : Program) (nt : Nat) : Code → LCode → Bool
  | .skip, .skip => true
  | .region _ ops draw, .region ls d => decide (d = draw) && (okOpers P nt ops ops.toList ls && (!draw || (P.follows .mixedOrders && regC ops ls)))
  | .seq a b, .seq a' b' => okCode P nt a a' && okCode P nt b b'
  | .cond c a b, .cond c' a' b' => okArg c c' && (okCode P nt a a' && okCode P nt b b')
  | .block id c, .block id' c' => decide (id = id') && okCode P nt c c'
  | .loop c, .loop c' => okCode P nt c c'
  | .exit id, .exit id' => decide (id = id')
  | .ret, .ret => true
  | .scope c, .scope c' => okCode P nt c c'
  | .label _, .skip => true
  | .region _ ops true, .regionH os => P.follows .mixedOrders && regH P nt ops os
  | .region _ ops true, .regionL ls l => okOpers P nt ops ops.toList (ls ++ [l]) && (P.follows .mixedOrders && regL ops (ls ++ [l]))
  | .goto l, .goto l' => decide (l = l')
  | .scope c, .jump l x y => okCode P nt c x && (match findLabel c l with | some r => okCode P nt r y | none => false)
  | _, _ => false

/-- What holds of each end of a run of the code that 'lc' stands for. -/
def LWP (P : Program) (nt n0 : Nat) (lc : LCode) (S : ST) (Q : Exit → ST → Prop) : Prop :=
  ∀ c, okCode P nt c lc = true → ∀ (X : Ctx) (φ : Nat → Option (Nat × Nat)) (I : Nat → Prop) (a : Act) (w : World), X.n0 = n0 → RelS X φ I S nt a w.heap →
    c.wp P (fun e a' w' => ∃ φ' I' S', RelS X φ' I' S' nt a' w'.heap ∧ Q e S' ∧ Keep w w') a w

section
variable {P : Program} {nt n0 : Nat} {S : ST} {Q : Exit → ST → Prop}

theorem LWP.mono {lc : LCode} {Q' : Exit → ST → Prop} (h : LWP P nt n0 lc S Q) (hq : ∀ e S, Q e S → Q' e S) : LWP P nt n0 lc S Q' :=
  fun c hc X φ I a w hn R => Go.wp_mono (h c hc X φ I a w hn R) fun e a' w' ⟨φ', I', S', h1, h2, h3⟩ => ⟨φ', I', S', h1, hq _ _ h2, h3⟩

theorem LWP_skip (h : Q .normal S) : LWP P nt n0 .skip S Q := fun c hc X φ I a w _ R => by
  cases c <;> simp only [okCode, Bool.false_eq_true] at hc
  · exact wp_skip ⟨φ, I, S, R, h, Keep.refl w⟩
  · exact wp_label ⟨φ, I, S, R, h, Keep.refl w⟩

/-- No end of it is a leap. -/
def noG (Q : Exit → ST → Prop) : Exit → ST → Prop
  | .goto _, _ => False
  | e, S => Q e S

theorem LWP_scope {x : LCode} (h : LWP P nt n0 x S (noG Q)) : LWP P nt n0 (.scope x) S Q := fun c hc X φ I a w hn R => by
  cases c <;> simp only [okCode, Bool.false_eq_true] at hc
  refine wp_scope_straight (Go.wp_mono (h _ hc X φ I a w hn R) fun e a' w' ⟨φ', I', S', h1, h2, kp⟩ => ?_)
  cases e <;> first | exact h2.elim | exact ⟨φ', I', S', h1, h2, kp⟩

theorem LWP_exit {id : Nat} (h : Q (.exit id) S) : LWP P nt n0 (.exit id) S Q := fun c hc X φ I a w _ R => by
  cases c <;> simp only [okCode, Bool.false_eq_true, decide_eq_true_eq] at hc
  subst hc
  exact wp_exit ⟨φ, I, S, R, h, Keep.refl w⟩

theorem LWP_ret (h : Q .ret S) : LWP P nt n0 .ret S Q := fun c hc X φ I a w _ R => by
  cases c <;> simp only [okCode, Bool.false_eq_true] at hc
  exact wp_ret ⟨φ, I, S, R, h, Keep.refl w⟩

def seqQ (K : ST → Prop) (Q : Exit → ST → Prop) : Exit → ST → Prop
  | .normal, S => K S
  | e, S => Q e S

theorem LWP_seq {x y : LCode} (h : LWP P nt n0 x S (seqQ (fun S' => LWP P nt n0 y S' Q) Q)) : LWP P nt n0 (.seq x y) S Q := fun c hc X φ I a w hn R => by
  cases c <;> simp only [okCode, Bool.false_eq_true, Bool.and_eq_true] at hc
  refine wp_seq (Go.wp_mono (h _ hc.1 X φ I a w hn R) fun e a' w' ⟨φ', I', S', h1, h2, kp⟩ => ?_)
  cases e with
  | normal => exact Go.wp_mono (h2 _ hc.2 X φ' I' a' w' hn h1) fun e a'' w'' ⟨φ'', I'', S'', q1, q2, q3⟩ => ⟨φ'', I'', S'', q1, q2, kp.trans q3⟩
  | _ => exact ⟨φ', I', S', h1, h2, kp⟩

theorem LWP_cond {x : LArg} {t : Bool} {y z : LCode} (hx : x.ev S.vars = .bool t) (h1 : t = true → LWP P nt n0 y S Q) (h2 : t = false → LWP P nt n0 z S Q) : LWP P nt n0 (.cond x y z) S Q := fun c hc X φ I a w hn R => by
  cases c <;> simp only [okCode, Bool.false_eq_true, Bool.and_eq_true] at hc
  obtain ⟨h3, h4, h5⟩ := hc
  have h6 := ev_rel R.A h3
  simp only [ST.as] at h6
  rw [hx] at h6
  exact wp_cond_split (rel_bool h6) (fun ht => h1 ht _ h4 X φ I a w hn R) (fun ht => h2 ht _ h5 X φ I a w hn R)

def blockQ (id : Nat) (Q : Exit → ST → Prop) : Exit → ST → Prop
  | .exit id', S => if id' = id then Q .normal S else Q (.exit id') S
  | e, S => Q e S

theorem LWP_block {id : Nat} {x : LCode} (h : LWP P nt n0 x S (blockQ id Q)) : LWP P nt n0 (.block id x) S Q := fun c hc X φ I a w hn R => by
  cases c <;> simp only [okCode, Bool.false_eq_true, Bool.and_eq_true, decide_eq_true_eq] at hc
  obtain ⟨rfl, hc⟩ := hc
  refine wp_block (Go.wp_mono (h _ hc X φ I a w hn R) fun e a' w' ⟨φ', I', S', h1, h2, kp⟩ => ?_)
  cases e with
  | exit id' =>
    simp only [blockQ] at h2
    simp only [Exit.inBlock]
    split
    · rename_i h3; rw [if_pos h3] at h2; exact ⟨φ', I', S', h1, h2, kp⟩
    · rename_i h3; rw [if_neg h3] at h2; exact ⟨φ', I', S', h1, h2, kp⟩
  | _ => exact ⟨φ', I', S', h1, h2, kp⟩

theorem LWP_region {ls : List LOper} (h : rgnS P ls S fun S' => Q .normal S') : LWP P nt n0 (.region ls false) S Q := fun c hc X φ I a w _ R => by
  cases c <;> simp only [okCode, Bool.false_eq_true, Bool.and_eq_true, decide_eq_true_eq] at hc
  obtain ⟨rfl, hc, _⟩ := hc
  exact wp_region_list (rgnS_sound _ _ hc S a w φ I _ R h fun φ' I' S' a' w' k1 k2 k3 => ⟨φ', I', S', k2, k1, k3⟩)

theorem LWP_regionD {ls : List LOper} {Wr : RW} (hAd : AdOK ls Wr) (h : dRun P ls Wr ls 0 S.as fun S' => Q .normal (S'.fin ls.length)) : LWP P nt n0 (.region ls true) S Q := fun c hc X φ I a w _ R => by
  cases c <;> simp only [okCode, Bool.false_eq_true, Bool.and_eq_true, Bool.or_eq_true, Bool.not_eq_true', decide_eq_true_eq] at hc
  obtain ⟨rfl, hc, h1⟩ := hc
  rcases h1 with h1 | ⟨h1, h2⟩
  · cases h1
  · exact rgnD_sound (K := fun S' => Q .normal S') h1 hc h2 hAd R h fun φ' I' S' a' w' k1 k2 k3 => ⟨φ', I', S', k2, k1, k3⟩

theorem least {p : Nat → Prop} (h : ∃ m, p m) : ∃ m, p m ∧ ∀ k, p k → m ≤ k := by
  obtain ⟨m, hm⟩ := h
  induction m using Nat.strongRecOn with
  | _ m ih =>
    by_cases h1 : ∃ k, k < m ∧ p k
    · obtain ⟨k, h2, h3⟩ := h1; exact ih k h2 h3
    · refine ⟨m, hm, fun k hk => ?_⟩
      rcases Nat.lt_or_ge k m with h2 | h2
      · exact absurd ⟨k, h2, hk⟩ h1
      · exact h2

open Classical in
/-- A loop: what holds at each round's head, with a number that goes down. -/
theorem LWP_loop {x : LCode} (Inv : Nat → ST → Prop) {m : Nat} (h0 : Inv m S) (h : ∀ m S, Inv m S → LWP P nt n0 x S (seqQ (fun S' => ∃ m', m' < m ∧ Inv m' S') Q)) : LWP P nt n0 (.loop x) S Q := fun c hc X φ I a w hn R => by
  cases c <;> simp only [okCode, Bool.false_eq_true] at hc
  rename_i body
  let At : Act → World → Nat → Prop := fun a w' m => ∃ φ I S, RelS X φ I S nt a w'.heap ∧ Inv m S ∧ Keep w w'
  let μ : Act → World → Nat := fun a w => if hh : ∃ m, At a w m then Classical.choose (least hh) else 0
  have hμ : ∀ a w m, At a w m → μ a w ≤ m ∧ At a w (μ a w) := fun a w m hm => by
    have hh : ∃ m, At a w m := ⟨m, hm⟩
    have e : μ a w = Classical.choose (least hh) := by simp only [μ]; rw [dif_pos hh]
    rw [e]
    have hs := Classical.choose_spec (least hh)
    exact ⟨hs.2 m hm, hs.1⟩
  refine wp_loop (fun a w => ∃ m, At a w m) μ ⟨m, φ, I, S, R, h0, Keep.refl w⟩ fun a w1 ⟨m, hm⟩ => ?_
  obtain ⟨h1, φ1, I1, S1, R1, hI, kp1⟩ := hμ a w1 m hm
  refine Go.wp_mono (h _ S1 hI _ hc X φ1 I1 a w1 hn R1) fun e a' w' ⟨φ', I', S', k1, k2, kp2⟩ => ?_
  cases e with
  | normal =>
    obtain ⟨m', k3, k4⟩ := k2
    have k5 : At a' w' m' := ⟨φ', I', S', k1, k4, kp1.trans kp2⟩
    exact ⟨⟨m', k5⟩, Nat.lt_of_le_of_lt (hμ a' w' m' k5).1 k3⟩
  | _ => exact ⟨φ', I', S', k1, k2, kp1.trans kp2⟩

theorem LWP_regionH {os : List HOp} (h : hRun P os S fun S' => Q .normal S') : LWP P nt n0 (.regionH os) S Q := fun c hc X φ I a w _ R => by
  cases c <;> try simp only [okCode, Bool.false_eq_true] at hc
  rename_i id ops d
  cases d with
  | false => simp [okCode] at hc
  | true =>
    simp only [okCode, Bool.and_eq_true] at hc
    exact rgnH_sound (K := fun S' => Q .normal S') hc.1 hc.2 R h fun φ' I' S' a' w' k1 k2 k3 => ⟨φ', I', S', k2, k1, k3⟩
theorem LWP_regionL {ls : List LOper} {l : LOper} {Wr : RW} (hAd : AdOK (ls ++ [l]) Wr) (h : dRun P (ls ++ [l]) Wr ls 0 S.as fun S' => rgnS P [l] (S'.fin ls.length) fun S2 => Q .normal S2) : LWP P nt n0 (.regionL ls l) S Q := fun c hc X φ I a w _ R => by
  cases c <;> try simp only [okCode, Bool.false_eq_true] at hc
  rename_i id ops d
  cases d with
  | false => simp [okCode] at hc
  | true =>
    simp only [okCode, Bool.and_eq_true] at hc
    obtain ⟨h1, h2, h3⟩ := hc
    exact rgnL_sound (K := fun S' => Q .normal S') h2 h1 h3 hAd R h fun φ' I' S' a' w' k1 k2 k3 => ⟨φ', I', S', k2, k1, k3⟩

theorem LWP_goto {l : Nat} (h : Q (.goto l) S) : LWP P nt n0 (.goto l) S Q := fun c hc X φ I a w _ R => by
  cases c <;> simp only [okCode, Bool.false_eq_true, decide_eq_true_eq] at hc
  subst hc
  exact wp_goto ⟨φ, I, S, R, h, Keep.refl w⟩

def gotoQ (l : Nat) (K : ST → Prop) (Q : Exit → ST → Prop) : Exit → ST → Prop
  | .goto l', S => l' = l ∧ K S
  | e, S => Q e S

open Classical in
/-- A scope with leaps back to one label: what holds at each leap, with a number that goes down. -/
theorem LWP_jump {l : Nat} {x y : LCode} (Inv : Nat → ST → Prop) (h0 : LWP P nt n0 x S (gotoQ l (fun S' => ∃ m, Inv m S') Q)) (h : ∀ m S, Inv m S → LWP P nt n0 y S (gotoQ l (fun S' => ∃ m', m' < m ∧ Inv m' S') Q)) : LWP P nt n0 (.jump l x y) S Q := fun c hc X φ I a w hn R => by
  cases c <;> simp only [okCode, Bool.false_eq_true, Bool.and_eq_true] at hc
  rename_i body
  obtain ⟨hc1, hc2⟩ := hc
  split at hc2
  · rename_i rest hf
    let At : Act → World → Nat → Prop := fun a w' m => ∃ φ I S, RelS X φ I S nt a w'.heap ∧ Inv m S ∧ Keep w w'
    let μ : Act → World → Nat := fun a w => if hh : ∃ m, At a w m then Classical.choose (least hh) else 0
    have hμ : ∀ a w m, At a w m → μ a w ≤ m ∧ At a w (μ a w) := fun a w m hm => by
      have hh : ∃ m, At a w m := ⟨m, hm⟩
      have e : μ a w = Classical.choose (least hh) := by simp only [μ]; rw [dif_pos hh]
      rw [e]
      have hs := Classical.choose_spec (least hh)
      exact ⟨hs.2 m hm, hs.1⟩
    refine wp_scope_jumps l (fun a w => ∃ m, At a w m) μ hf ?_ fun a w1 ⟨m, hm⟩ => ?_
    · refine Go.wp_mono (h0 _ hc1 X φ I a w hn R) fun e a' w' ⟨φ', I', S', k1, k2, kp⟩ => ?_
      cases e with
      | goto l' => obtain ⟨rfl, m, k3⟩ := k2; exact ⟨rfl, m, φ', I', S', k1, k3, kp⟩
      | _ => exact ⟨φ', I', S', k1, k2, kp⟩
    · obtain ⟨h1, φ1, I1, S1, R1, hI, kp1⟩ := hμ a w1 m hm
      refine Go.wp_mono (h _ S1 hI _ hc2 X φ1 I1 a w1 hn R1) fun e a' w' ⟨φ', I', S', k1, k2, kp2⟩ => ?_
      cases e with
      | goto l' =>
        obtain ⟨rfl, m', k3, k4⟩ := k2
        have k5 : At a' w' m' := ⟨φ', I', S', k1, k4, kp1.trans kp2⟩
        exact ⟨rfl, ⟨m', k5⟩, Nat.lt_of_le_of_lt (hμ a' w' m' k5).1 k3⟩
      | _ => exact ⟨φ', I', S', k1, k2, kp1.trans kp2⟩
  · cases hc2

/-! ### Functions -/
inductive LRes where
  | t (x : Nat)
  | cell (ag : Bool) (n x : Nat)
  deriving Inhabited

structure LFunc where
  nt : Nat
  np : Nat
  body : LCode
  res : List LRes

def okRes (P : Program) : List ResultVar → List LRes → Bool
  | [], [] => true
  | .tmp t :: l, .t x :: m => decide (t = x) && okRes P l m
  | .cell a t :: l, .cell ag n x :: m => decide (a = x) && (okPart P t ag n && okRes P l m)
  | _, _ => false

def okFunc (P : Program) (f : Nat) (lf : LFunc) : Bool := match P.funcs[f]? with
  | some fn => match fn.body with
    | some c => (fn.name != "runtime.NumGoroutine") && (decide (fn.ntmps = lf.nt) && (decide (lf.np ≤ lf.nt) && (okRes P fn.results.toList lf.res && okCode P lf.nt c lf.body)))
    | none => false
  | none => false

def resV1 (S : ST) : LRes → Option AV
  | .t x => get S.vars x
  | .cell ag n x => match get S.vars x with
    | some (.ptr sz b i j) => match get S.heap b with
      | some (.rows sz' es) => grd (decide (sz' = sz) && decide (i < es.length)) (ldCells ag n ((es.getD i []).drop j))
      | _ => none
    | _ => none

def resV (S : ST) : List LRes → Option (List AV)
  | [] => some []
  | r :: l => match resV1 S r with
    | some v => match resV S l with
      | some vs => some (v :: vs)
      | none => none
    | none => none

def retV : List AV → AV
  | [v] => v
  | vs => .tup vs

def parV : Nat → List AV → Vars
  | _, [] => []
  | i, v :: l => (i, v) :: parV (i + 1) l

theorem get_parV : ∀ (l : List AV) (i x : Nat), get (parV i l) x = if i ≤ x then l[x - i]? else none
  | [], i, x => by simp [parV, get_e0, get_e1]
  | v :: l, i, x => by
    simp only [parV, get_e0, get_e1, get_parV l (i + 1) x]
    by_cases h1 : i = x
    · subst h1; simp
    · rw [if_neg h1]
      by_cases h2 : i + 1 ≤ x
      · rw [if_pos h2, if_pos (by omega), show x - i = (x - (i + 1)) + 1 by omega]; simp
      · rw [if_neg h2, if_neg (by omega)]

def resF (tmps : Array Value) : ResultVar → Sem Value
  | .tmp t => pure (tmps.getD t undef)
  | .cell a t => do loadVar t (← asAddr (tmps.getD a undef))

theorem results_eq (fn : Func) (tmps : Array Value) : results fn tmps = (do
    let vs ← fn.results.mapM (resF tmps)
    pure (if h : vs.size = 1 then vs[0] else .tuple vs)) := by
  unfold results
  congr 2

theorem run_results {X : Ctx} {φ : Nat → Option (Nat × Nat)} {I : Nat → Prop} {a : Act} {w : World} (R : RelS X φ I S nt a w.heap) (f : ResultVar → Sem Value) (hf1 : ∀ t, f (.tmp t) = pure (a.tmps.getD t undef)) (hf2 : ∀ x t, f (.cell x t) = do loadVar t (← asAddr (a.tmps.getD x undef))) : ∀ (rs : List ResultVar) (ls : List LRes) (vs : List AV), okRes P rs ls = true → resV S ls = some vs →
    ∃ us : List Value, (rs.mapM f).run P w = .ok us w ∧ relL w.heap φ I S.as.A vs us
  | [], [], vs, _, h => by
    simp only [resV, Option.some.injEq] at h; subst h
    exact ⟨[], by simp, by simp [relL]⟩
  | r :: rs, l :: ls, vs, hok, h => by
    simp only [resV] at h
    split at h
    · rename_i v hv
      split at h
      · rename_i vs' hvs
        injection h with h; subst h
        have key : ∃ u, (f r).run P w = .ok u w ∧ relV w.heap φ I S.as.A v u ∧ okRes P rs ls = true := by
          cases r with
          | tmp t =>
            cases l with
            | t x =>
              simp only [okRes, Bool.and_eq_true, decide_eq_true_eq] at hok
              obtain ⟨rfl, hok⟩ := hok
              exact ⟨_, by rw [hf1]; rfl, R.A.vars _ _ (by simpa [resV1, ST.as] using hv), hok⟩
            | cell ag n x => simp [okRes] at hok
          | cell x t =>
            cases l with
            | t x => simp [okRes] at hok
            | cell ag n x' =>
              simp only [okRes, Bool.and_eq_true, decide_eq_true_eq] at hok
              obtain ⟨rfl, hp, hok⟩ := hok
              obtain ⟨u, h3, h4, h5⟩ := okPart_spec hp
              simp only [resV1] at hv
              split at hv
              · rename_i sz b i j hx
                split at hv
                · rename_i sz' es hb
                  obtain ⟨h6, h7⟩ := grd_some hv
                  simp only [Bool.and_eq_true, decide_eq_true_eq] at h6; obtain ⟨rfl, h8⟩ := h6
                  have hxr := R.A.vars _ _ (by simpa [ST.as] using hx)
                  simp only [relV] at hxr
                  obtain ⟨hA, c, oo, hφ, hxe⟩ := hxr
                  obtain ⟨_, hB⟩ := R.H.heap _ _ (by simpa [ST.as] using hb)
                  simp only [relB] at hB
                  rcases hB with ⟨k1, _⟩ | ⟨c', o', cs, el, k1, k2, k3⟩
                  · rw [hφ] at k1; cases k1
                  rw [hφ] at k1; injection k1 with k1; injection k1 with k4 k5; subst k4 k5
                  have k6 := relM_drop j (relR_get k3 h8).2
                  obtain ⟨v', w', k7, k8, k9⟩ := y_load (P := P) (w := w) h3 h4 h5 k6 h7
                  have hw : w' = w := by
                    unfold loadVar at k7
                    rw [Sem.run_bind, run_isAgg' h3, ← h4] at k7
                    cases ag with
                    | false =>
                      simp only [Result.andThen_ok, Bool.false_eq_true, if_false, run_load, cell_hcell] at k7
                      unfold ldCells at h7
                      simp only at h7
                      split at h7
                      · rename_i y ys hy
                        rw [hy] at k6
                        simp only [relM] at k6
                        obtain ⟨⟨q, q1, _, _⟩, _⟩ := k6
                        rw [q1] at k7
                        simp only [Result.ok.injEq] at k7
                        exact k7.2.symm
                      · cases h7
                    | true =>
                      simp only [Result.andThen_ok, if_true, Sem.run_bind] at k7
                      rw [run_szOf (h5 rfl)] at k7
                      unfold ldCells at h7
                      simp only at h7
                      obtain ⟨q1, q2⟩ := grd_some h7
                      obtain ⟨vs, q3, q4⟩ := relM_run (P := P) k6 n (by simpa using q1)
                      simp only [Result.andThen_ok, q4, Sem.run_pure, Result.ok.injEq] at k7
                      exact k7.2.symm
                  subst hw
                  refine ⟨v', ?_, k9, hok⟩
                  rw [hf2]
                  simp only [hxe, asAddr, Sem.run_bind, Sem.run_pure, Result.andThen_ok]
                  exact k7
                · cases hv
              · cases hv
        obtain ⟨u, k1, k2, k3⟩ := key
        obtain ⟨us, k4, k5⟩ := run_results R f hf1 hf2 rs ls vs' k3 hvs
        refine ⟨u :: us, ?_, by simp only [relL]; exact ⟨u, us, rfl, k2, k5⟩⟩
        simp only [List.mapM_cons, Sem.run_bind]
        rw [k1]
        simp only [Result.andThen_ok, k4, Sem.run_pure]
      · cases h
    · cases h
  | [], _ :: _, _, hok, _ => by simp [okRes] at hok
  | r :: rs, [], _, hok, _ => by cases r <;> simp [okRes] at hok

/-- What is left to show of a function's body. -/
def bodyQ (lf : LFunc) (K : AV → ST → Prop) (e : Exit) (S : ST) : Prop :=
  match e with
  | .normal | .ret => match resV S lf.res with
    | some vs => K (retV vs) S
    | none => False
  | _ => False

/-- A call, by the body. -/
theorem body_calls {f : Nat} {lf : LFunc} {args : List AV} {K : AV → ST → Prop} (hf : okFunc P f lf = true) (hn : args.length = lf.np) (h : LWP P lf.nt n0 lf.body ⟨parV 0 args, S.heap, S.next⟩ (bodyQ lf K))
    {X : Ctx} {φ : Nat → Option (Nat × Nat)} {I : Nat → Prop} {w : World} {cargs : List Value} (hX : X.n0 = n0) (R : RelH X φ I S.as w.heap) (ha : relL w.heap φ I S.as.A args cargs) :
    Calls P f cargs.toArray w fun e w' => ∃ cv r φ' I' S', e = .returned cv ∧ RelH X φ' I' S'.as w'.heap ∧ relV w'.heap φ' I' S'.as.A r cv ∧ K r S' ∧ Keep w w' := by
  unfold okFunc at hf
  split at hf
  · rename_i fn hfn
    split at hf
    · rename_i c hc
      simp only [Bool.and_eq_true, decide_eq_true_eq] at hf
      obtain ⟨_, h1, h2, h3, h4⟩ := hf
      have hcl := relL_length ha
      refine calls_of_wp hfn hc ?_
      have R0 : RelS X φ I ⟨parV 0 args, S.heap, S.next⟩ lf.nt { tmps := cargs.toArray ++ Array.replicate (fn.ntmps - cargs.toArray.size) undef, defers := [] } w.heap := by
        refine ⟨R.conv rfl rfl (fun _ => rfl) (Nat.le_refl _), fun x v hx => ?_, ?_, rfl⟩
        · simp only [ST.as, get_parV, Nat.zero_le, if_true, Nat.sub_zero] at hx
          obtain ⟨u, k1, k2⟩ := relL_get ha hx
          have hlt : x < cargs.length := by
            rcases Nat.lt_or_ge x cargs.length with h | h
            · exact h
            · rw [List.getElem?_eq_none h] at k1; cases k1
          rw [Array.getD_eq_getD_getElem?, Array.getElem?_append_left (by simpa using hlt)]
          simp only [List.getElem?_toArray, k1, Option.getD_some]
          exact k2
        · simp; omega
      refine Go.wp_mono (h c h4 X φ I _ w hX R0) fun e a' w' ⟨φ', I', S', k1, k2, kp⟩ => ?_
      have fin : (match resV S' lf.res with | some vs => K (retV vs) S' | none => False) → a'.defers = [] ∧ ∃ v, (results fn a'.tmps).run P w' = .ok v w' ∧ ∃ cv r φ' I' S', Ending.returned v = .returned cv ∧ RelH X φ' I' S'.as w'.heap ∧ relV w'.heap φ' I' S'.as.A r cv ∧ K r S' ∧ Keep w w' := fun k2 => by
        split at k2
        · rename_i vs hvs
          have k5 : ∃ us : List Value, (results fn a'.tmps).run P w' = .ok (if h : us.toArray.size = 1 then us.toArray[0] else .tuple us.toArray) w' ∧ relL w'.heap φ' I' S'.as.A vs us := by
            rw [results_eq, Array.mapM_eq_mapM_toList, Sem.run_bind, Sem.run_map]
            obtain ⟨us, k3, k4⟩ := run_results (P := P) k1 (resF a'.tmps) (fun _ => rfl) (fun _ _ => rfl) fn.results.toList lf.res vs h3 hvs
            refine ⟨us, ?_, k4⟩
            rw [k3]
            rfl
          obtain ⟨us, k5, k4⟩ := k5
          refine ⟨k1.A.defers, _, k5, _, retV vs, φ', I', S', rfl, k1.H.vars [] |>.conv rfl rfl (fun _ => rfl) (Nat.le_refl _), ?_, k2, kp⟩
          have hl := relL_length k4
          cases us with
          | nil =>
            cases vs with
            | nil => simp only [retV, relV]; exact ⟨[], rfl, by simp [relL]⟩
            | cons v vs => simp at hl
          | cons u us =>
            cases us with
            | nil =>
              cases vs with
              | nil => simp at hl
              | cons v vs =>
                cases vs with
                | nil => simp only [relL] at k4; obtain ⟨_, _, e, k6, _⟩ := k4; injection e with e _; subst e; exact k6
                | cons v' vs => simp at hl
            | cons u' us =>
              cases vs with
              | nil => simp at hl
              | cons v vs =>
                cases vs with
                | nil => simp at hl
                | cons v' vs => simp only [retV, relV]; exact ⟨_, rfl, k4⟩
        · exact k2.elim
      cases e with
      | normal => exact fin k2
      | ret => exact fin k2
      | _ => exact k2.elim
    · cases hf
  · cases hf

theorem okFunc_okFn {f : Nat} {lf : LFunc} (hf : okFunc P f lf = true) : okFn P f = true := by
  unfold okFunc at hf
  unfold okFn
  split at hf
  · rename_i fn hfn
    split at hf
    · rename_i c hc
      simp only [Bool.and_eq_true] at hf
      rw [hfn]; simp only [hc, Option.isSome_some, Bool.true_and]; exact hf.1
    · cases hf
  · cases hf

/-- A contract, by the body. -/
theorem ACalls_of_body {f : Nat} {lf : LFunc} {args : List AV} {H : Heap} {n : Nat} {Q : AV → Heap → Nat → Prop} (hf : okFunc P f lf = true) (hn : args.length = lf.np) (h : LWP P lf.nt n lf.body ⟨parV 0 args, H, n⟩ (bodyQ lf fun r S' => Q r S'.heap S'.next)) : ACalls P f args H n Q :=
  ⟨okFunc_okFn hf, fun w F φ I cargs R ha => by
    have hA : (ST.as ⟨[], H, n⟩).A = (· < n) := by funext b; exact propext (ST.as_A _ b)
    refine (body_calls (S := ⟨[], H, n⟩) (X := ⟨w.heap, F, φ, n, I⟩) hf hn h rfl R (by rw [hA]; exact ha)).mono fun e w' ⟨cv, r, φ', I', S', k1, k2, k3, k4, k5⟩ => ⟨cv, r, S'.heap, S'.next, φ', I', k1, k2.conv rfl rfl (fun _ => rfl) (Nat.le_refl _), ?_, k4, k5⟩
    have hA' : S'.as.A = (· < S'.next) := by funext b; exact propext (ST.as_A _ b)
    rw [← hA']; exact k3⟩
end
end
end Go.AM

/- Values without owned parts; calls on such values; the executable reading of code. -/
namespace Go.AM
noncomputable section

theorem get_all {α : Type} {p : Nat → α → Prop} : ∀ {l : List (Nat × α)}, (∀ q ∈ l, p q.1 q.2) → ∀ x v, get l x = some v → p x v
  | [], _, _, _, h => by simp [get_e0, get_e1] at h
  | (k, u) :: l, H, x, v, h => by
    simp only [get_e0, get_e1] at h
    split at h
    · rename_i hk; subst hk; injection h with h; subst h; exact H (k, u) (by simp)
    · exact get_all (fun q hq => H q (List.mem_cons_of_mem _ hq)) x v h

mutual
def AV.pure : AV → Bool
  | .ptr _ _ _ _ | .sl _ _ _ _ | .map _ => false
  | .cptr cs => pureL cs
  | .tsl _ es => pureR es
  | .fn _ fs cs => pureL fs && pureL cs
  | .iface _ v => v.pure
  | .agg cs => pureL cs
  | .tup vs => pureL vs
  | _ => true
def pureL : List AV → Bool
  | [] => true
  | v :: l => v.pure && pureL l
def pureR : List (List AV) → Bool
  | [] => true
  | e :: es => pureL e && pureR es
end

section
variable {h : Array Obj} {φ φ' : Nat → Option (Nat × Nat)} {I A A' : Nat → Prop}
mutual
theorem relV_pure : ∀ (x : AV) (v : Value), x.pure = true → relV h φ I A x v → relV h φ' I A' x v
  | .any, _, _, _ => by simp [relV]
  | .bool _, _, _, H => by simpa [relV] using H
  | .int _ _, _, _, H => by simpa [relV] using H
  | .str _, _, _, H => by simpa [relV] using H
  | .nilp, _, _, H => by simpa [relV] using H
  | .nils, _, _, H => by simpa [relV] using H
  | .nilm, _, _, H => by simpa [relV] using H
  | .nilf, _, _, H => by simpa [relV] using H
  | .nili, _, _, H => by simpa [relV] using H
  | .ptr _ _ _ _, _, hp, _ => by simp [AV.pure] at hp
  | .sl _ _ _ _, _, hp, _ => by simp [AV.pure] at hp
  | .map _, _, hp, _ => by simp [AV.pure] at hp
  | .cptr cs, v, hp, H => by
    simp only [AV.pure] at hp
    simp only [relV] at H ⊢
    obtain ⟨c, o, h1, h2, h3⟩ := H
    exact ⟨c, o, h1, h2, relM_pure cs c o hp h3⟩
  | .tsl sz es, v, hp, H => by
    simp only [AV.pure] at hp
    simp only [relV] at H ⊢
    obtain ⟨base, cap, h1, h2, h3⟩ := H
    refine ⟨base, cap, h1, h2, ?_⟩
    rcases h3 with h3 | ⟨c, o, h3, h4, h5⟩
    · exact .inl h3
    · exact .inr ⟨c, o, h3, h4, relR_pure sz es c o hp h5⟩
  | .fn f fs cs, v, hp, H => by
    simp only [AV.pure, Bool.and_eq_true] at hp
    simp only [relV] at H ⊢
    obtain ⟨fs', cs', h1, h2, h3⟩ := H
    exact ⟨fs', cs', h1, relL_pure fs fs' hp.1 h2, relL_pure cs cs' hp.2 h3⟩
  | .iface t x, v, hp, H => by
    simp only [AV.pure] at hp
    simp only [relV] at H ⊢
    obtain ⟨y, h1, h2⟩ := H
    exact ⟨y, h1, relV_pure x y hp h2⟩
  | .agg cs, v, hp, H => by
    simp only [AV.pure] at hp
    simp only [relV] at H ⊢
    obtain ⟨vs, h1, h2⟩ := H
    exact ⟨vs, h1, relL_pure cs vs hp h2⟩
  | .tup cs, v, hp, H => by
    simp only [AV.pure] at hp
    simp only [relV] at H ⊢
    obtain ⟨vs, h1, h2⟩ := H
    exact ⟨vs, h1, relL_pure cs vs hp h2⟩
theorem relM_pure : ∀ (cs : List AV) (c o : Nat), pureL cs = true → relM h φ I A cs c o → relM h φ' I A' cs c o
  | [], _, _, _, _ => by simp [relM]
  | x :: cs, c, o, hp, H => by
    simp only [pureL, Bool.and_eq_true] at hp
    simp only [relM] at H ⊢
    obtain ⟨⟨v, h1, h0, h2⟩, h3⟩ := H
    exact ⟨⟨v, h1, h0, relV_pure x v hp.1 h2⟩, relM_pure cs c (o + 1) hp.2 h3⟩
theorem relR_pure (sz : Nat) : ∀ (es : List (List AV)) (c o : Nat), pureR es = true → relR h φ I A sz es c o → relR h φ' I A' sz es c o
  | [], _, _, _, _ => by simp [relR]
  | e :: es, c, o, hp, H => by
    simp only [pureR, Bool.and_eq_true] at hp
    simp only [relR] at H ⊢
    obtain ⟨h1, h2, h3⟩ := H
    exact ⟨h1, relM_pure e c o hp.1 h2, relR_pure sz es c (o + sz) hp.2 h3⟩
theorem relL_pure : ∀ (l : List AV) (vs : List Value), pureL l = true → relL h φ I A l vs → relL h φ' I A' l vs
  | [], _, _, H => by simpa [relL] using H
  | x :: l, vs, hp, H => by
    simp only [pureL, Bool.and_eq_true] at hp
    simp only [relL] at H ⊢
    obtain ⟨v, r, h1, h2, h3⟩ := H
    exact ⟨v, r, h1, relV_pure x v hp.1 h2, relL_pure l r hp.2 h3⟩
end
end

section
variable {P : Program} {X : Ctx} {φ : Nat → Option (Nat × Nat)} {I I' : Nat → Prop} {S : AS} {h h' : Array Obj}

/-- Memory has grown, and more of what is new stays as it is. -/
theorem RelH.later (R : RelH X φ I S h) (hsz : h.size ≤ h'.size) (hs : ∀ c, c < h.size → h'[c]? = h[c]?) (hI : ∀ c, I c → I' c) (hI' : ∀ c, I' c → I c ∨ h.size ≤ c) (hd : ∀ c, I' c → c < h'.size) :
    RelH X φ I' S h' ∧ Ext h φ I S.A h' φ I' S.A := by
  have E0 : Ext h φ I S.A h' φ I S.A := Ext.grown hs (fun _ _ => rfl) (fun _ h => h)
  have E : Ext h φ I S.A h' φ I' S.A := ⟨E0.cells, E0.sizes, E0.agree, hI, E0.inA⟩
  refine ⟨⟨fun b blk h1 => ?_, fun b blk c o h1 h2 => ?_, R.inj, hd, fun c hc => ?_, fun c hc => hI c (R.isup c hc), fun c h1 h2 => ?_, Nat.le_trans R.size hsz, fun c s h1 => E.sizes c s (R.sizes c s h1), R.agree, R.n0⟩, E⟩
  · obtain ⟨h2, h3⟩ := R.heap _ _ h1
    exact ⟨h2, relB_same E h2 (fun c o h4 => hs c (R.live _ _ _ _ h1 h4).1) h3⟩
  · obtain ⟨h3, h4, h5⟩ := R.live _ _ _ _ h1 h2
    refine ⟨by omega, fun h6 => ?_, h5⟩
    rcases hI' c h6 with h6 | h6
    · exact h4 h6
    · omega
  · rcases hI' c hc with hc | hc
    · exact R.isub c hc
    · exact .inr (.inr (by have := R.size; omega))
  · rw [hs c (by have := R.size; omega)]; exact R.frame c h1 h2

/-- A call on values without owned parts. -/
theorem ACalls.run {f : Nat} {args : List AV} {Q : AV → Heap → Nat → Prop} (H : ACalls P f args [] 0 Q) (hp : pureL args = true) {w : World} {cargs : List Value} (R : RelH X φ I S w.heap) (ha : relL w.heap φ I S.A args cargs) :
    Calls P f cargs.toArray w fun e w' => ∃ cv r H' n' I', e = .returned cv ∧ RelH X φ I' S w'.heap ∧ Ext w.heap φ I S.A w'.heap φ I' S.A ∧ Q r H' n' ∧ (r.pure = true → relV w'.heap φ I' S.A r cv) ∧ Keep w w' := by
  refine (H.2 w (fun _ => False) (fun _ => none) I cargs ⟨fun b blk h => by simp [get_e0, get_e1] at h, fun b blk c o h => by simp [get_e0, get_e1] at h, fun b b' c o c' o' h => by simp [get_e0, get_e1] at h, R.idom, fun c hc => .inl hc, fun c hc => hc, fun _ _ _ => rfl, Nat.le_refl _, fun _ _ h => h, fun b hb => absurd hb (Nat.not_lt_zero _), Nat.le_refl _⟩ (relL_pure _ _ hp ha)).mono ?_
  intro e w' ⟨cv, r, H', n', φ', I', h1, h2, h3, h4, h5⟩
  obtain ⟨k1, k2⟩ := R.later (h' := w'.heap) (I' := I') h2.size (fun c hc => h2.frame c hc (fun h => h)) h2.isup (fun c hc => (h2.isub c hc).imp id (fun h => h.resolve_left (fun h => h))) h2.idom
  exact ⟨cv, r, H', n', I', h1, k1, k2, h4, fun hr => relV_pure _ _ hr h3, h5⟩

theorem CallS.of_pure {f : Nat} {args : List AV} {Q : AV → Heap → Nat → Prop} {S : ST} {K : AV → ST → Prop} (H : ACalls P f args [] 0 Q) (hp : pureL args = true) (hK : ∀ r H' n', Q r H' n' → r.pure = true ∧ K r S) : CallS P f args S K :=
  ⟨H.1, fun X φ I w cargs R ha => (H.run hp R ha).mono fun e w' ⟨cv, r, H', n', I', h1, h2, h3, h4, h5, h6⟩ => ⟨cv, r, φ, I', S, h1, h2, h3, h5 (hK r H' n' h4).1, rfl, (hK r H' n' h4).2, h6⟩⟩

theorem QC.of_pure {f : Nat} {args : List AV} {n : Nat} {v : AV} (H : ACalls P f args [] 0 fun r _ _ => r = v) (hp : pureL args = true) (hv : v.pure = true) : QC P f args [] n v none :=
  ⟨H.1, fun X φ I T w cargs R _ _ _ ha => (H.run hp R ha).mono fun e w' ⟨cv, r, H', n', I', h1, h2, h3, h4, h5, h6⟩ => ⟨cv, φ, I', h1, h2, h3, by subst h4; exact h5 hv, h6⟩⟩
end

def Blk.pureB : Blk → Bool
  | .rows _ es => pureR es
  | .mp _ => false
  | .it _ _ => false

def own1 (b : Nat) (x : AV) : Bool := x.pure || (match x with
  | .ptr _ b' _ _ => decide (b' = b)
  | .sl _ b' _ _ => decide (b' = b)
  | _ => false)

theorem relL_own1 {h : Array Obj} {φ : Nat → Option (Nat × Nat)} {I A A' : Nat → Prop} {b : Nat} (hb : A' b) : ∀ (l : List AV) (vs : List Value), l.all (own1 b) = true → relL h φ I A l vs → relL h φ I A' l vs
  | [], _, _, H => by simpa [relL] using H
  | x :: l, vs, hp, H => by
    simp only [List.all_cons, Bool.and_eq_true] at hp
    simp only [relL] at H ⊢
    obtain ⟨v, r, h1, h2, h3⟩ := H
    refine ⟨v, r, h1, ?_, relL_own1 hb l r hp.2 h3⟩
    have hx := hp.1
    simp only [own1, Bool.or_eq_true] at hx
    rcases hx with hx | hx
    · exact relV_pure _ _ hx h2
    · cases x <;> simp only [decide_eq_true_eq, Bool.false_eq_true] at hx
      · subst hx
        simp only [relV] at h2 ⊢
        obtain ⟨_, h2⟩ := h2
        exact ⟨hb, h2⟩
      · subst hx
        simp only [relV] at h2 ⊢
        obtain ⟨_, h2⟩ := h2
        exact ⟨hb, h2⟩

theorem relB_pure {h : Array Obj} {φ φ' : Nat → Option (Nat × Nat)} {I A A' : Nat → Prop} {b : Nat} {blk : Blk} (hp : blk.pureB = true) (hφ : φ' b = φ b) (H : relB h φ I A b blk) : relB h φ' I A' b blk := by
  cases blk with
  | mp l => cases hp
  | it s pos => cases hp
  | rows sz es =>
    simp only [relB] at H ⊢
    rw [hφ]
    rcases H with H | ⟨c, o, cs, el, h1, h2, h3⟩
    · exact .inl H
    · exact .inr ⟨c, o, cs, el, h1, h2, relR_pure sz es c o hp h3⟩

/-- A call that is handed one owned block, and leaves it told. -/
theorem QC.of_owned1 {P : Program} {f : Nat} {args : List AV} {b n : Nat} {blk blk2 : Blk} {v : AV} (H : ACalls P f args [(b, blk)] n fun r H' _ => r = v ∧ H' = [(b, blk2)]) (hp : blk.pureB = true) (hp2 : blk2.pureB = true) (hv : v.pure = true) (hb : b < n) (ha1 : args.all (own1 b) = true) : QC P f args [(b, blk)] n v (some (b, blk2)) :=
  ⟨H.1, fun X φ I T w cargs R hn hdd hH ha => by
    obtain ⟨hTb, hdb⟩ := hH b blk (by simp [get_e0, get_e1])
    have hF : ∀ c, (∃ o, φ b = some (c, o)) → c < w.heap.size ∧ ¬ I c ∧ (X.F c ∨ X.h0.size ≤ c) := fun c ⟨o, h⟩ => R.live b blk c o hTb h
    have hA0 : (⟨[], [(b, blk)], n, [], []⟩ : AS).A = (· < n) := by funext b; simp [AS.A, get_e0, get_e1]
    have R0 : RelH ⟨w.heap, fun c => ∃ o, φ b = some (c, o), φ, n, I⟩ φ I ⟨[], [(b, blk)], n, [], []⟩ w.heap := by
      refine ⟨fun b' blk' h1 => ?_, fun b' blk' c o h1 h2 => ?_, fun b1 b2 c o c' o' h1 h2 h3 => ?_, R.idom, fun c hc => .inl hc, fun c hc => hc, fun _ _ _ => rfl, Nat.le_refl _, fun _ _ h => h, fun _ _ => rfl, Nat.le_refl _⟩
      · simp only [get_e0, get_e1] at h1
        split at h1
        · rename_i e; subst e
          injection h1 with h1; subst h1
          rw [hA0]
          exact ⟨hb, relB_pure hp rfl (R.heap _ _ hTb).2⟩
        · cases h1
      · simp only [get_e0, get_e1] at h1
        split at h1
        · rename_i e; subst e
          exact ⟨(hF c ⟨o, h2⟩).1, (hF c ⟨o, h2⟩).2.1, .inl ⟨o, h2⟩⟩
        · cases h1
      · simp only [get_e0, get_e1] at h1 h2
        split at h1
        · split at h2
          · rename_i e1 e2; exact absurd (e1.symm.trans e2) h3
          · exact absurd rfl h2
        · exact absurd rfl h1
    refine (H.2 w _ φ I cargs R0 (relL_own1 (A' := (· < n)) (b := b) hb _ _ ha1 ha)).mono fun e w' ⟨cv, r, H', n', φ', I', h1, h2, h3, ⟨h4, h4'⟩, h5⟩ => ?_
    subst h4 h4'
    have hfr : ∀ c, c < w.heap.size → (¬ ∃ o, φ b = some (c, o)) → w'.heap[c]? = w.heap[c]? := fun c k1 k2 => h2.frame c k1 k2
    have hφb : φ' b = φ b := h2.agree b hb
    have E : Ext w.heap φ I T.A w'.heap φ I' T.A := by
      refine ⟨fun c o v k1 k2 => ?_, h2.sizes, fun _ _ => rfl, h2.isup, fun _ h => h⟩
      have := hfr c (R.idom c k1) fun h => (hF c h).2.1 k1
      simpa [hcell, this] using k2
    have hoth : ∀ b' blk' c o, b' ≠ b → get T.heap b' = some blk' → φ b' = some (c, o) → ¬ ∃ o, φ b = some (c, o) := fun b' blk' c o k1 k2 k3 ⟨o', k4⟩ => by
      refine R.inj b' b c o c o' (by rw [k2]; simp) (by rw [hTb]; simp) k1 ?_ k3 k4 rfl
      cases hd : get T.dead b' with
      | none => exact .inl ⟨rfl, hdb⟩
      | some u => exact .inr ⟨by rw [hn]; exact hdd b' (by rw [hd]; simp), by rw [hn]; exact hb⟩
    refine ⟨cv, φ, I', h1, ?_, E, relV_pure _ _ hv h3, h5⟩
    simp only [updH]
    have hdom : ∀ b', get (ins b blk2 T.heap) b' ≠ none → get T.heap b' ≠ none := fun b' k => by
      rw [get_ins] at k
      split at k
      · rename_i e; subst e; rw [hTb]; simp
      · exact k
    refine ⟨fun b' blk' k1 => ?_, fun b' blk' c o k1 k2 => ?_, fun b1 b2 c o c' o' k1 k2 k3 k4 => R.inj b1 b2 c o c' o' (hdom _ k1) (hdom _ k2) k3 k4, h2.idom, fun c hc => ?_, fun c hc => h2.isup c (R.isup c hc), fun c k1 k2 => ?_, Nat.le_trans R.size h2.size, fun c s k1 => h2.sizes c s (R.sizes c s k1), R.agree, R.n0⟩
    · rw [get_ins] at k1
      split at k1
      · rename_i e; subst e
        injection k1 with k1; subst k1
        exact ⟨(R.heap _ _ hTb).1, relB_pure hp2 hφb.symm (h2.heap _ _ (by simp [get_e0, get_e1])).2⟩
      · rename_i e
        obtain ⟨q1, q2⟩ := R.heap b' blk' k1
        exact ⟨q1, relB_same E q1 (fun c o h4 => hfr c (R.live _ _ _ _ k1 h4).1 (hoth b' blk' c o (Ne.symm e) k1 h4)) q2⟩
    · rw [get_ins] at k1
      split at k1
      · rename_i e; subst e
        obtain ⟨q1, q2, _⟩ := h2.live b blk2 c o (by simp [get_e0, get_e1]) (by rw [hφb]; exact k2)
        exact ⟨q1, q2, (hF c ⟨o, k2⟩).2.2⟩
      · rename_i e
        obtain ⟨q1, q2, q3⟩ := R.live b' blk' c o k1 k2
        refine ⟨Nat.lt_of_lt_of_le q1 h2.size, fun hc => ?_, q3⟩
        rcases h2.isub c hc with p | p | p
        · exact q2 p
        · exact hoth b' blk' c o (Ne.symm e) k1 k2 p
        · simp only at p; omega
    · rcases h2.isub c hc with p | p | p
      · exact R.isub c p
      · exact .inr (hF c p).2.2
      · exact .inr (.inr (Nat.le_trans R.size p))
    · rw [hfr c (Nat.lt_of_lt_of_le k1 R.size) fun h => by
        rcases (hF c h).2.2 with p | p
        · exact k2 p
        · omega]
      exact R.frame c k1 k2⟩

mutual
/-- All the blocks it names are below a number. -/
def AV.bnd (n : Nat) : AV → Bool
  | .ptr _ b _ _ => decide (b < n)
  | .sl _ b _ _ => decide (b < n)
  | .map b => decide (b < n)
  | .cptr cs => bndL n cs
  | .tsl _ es => bndR n es
  | .fn _ fs cs => bndL n fs && bndL n cs
  | .iface _ v => v.bnd n
  | .agg cs => bndL n cs
  | .tup vs => bndL n vs
  | _ => true
def bndL (n : Nat) : List AV → Bool
  | [] => true
  | v :: l => v.bnd n && bndL n l
def bndR (n : Nat) : List (List AV) → Bool
  | [] => true
  | e :: es => bndL n e && bndR n es
end

section
variable {h : Array Obj} {φ φ' : Nat → Option (Nat × Nat)} {I A A' : Nat → Prop} {n : Nat}
mutual
theorem relV_bnd (hφ : ∀ b, b < n → φ' b = φ b) (hA : ∀ b, b < n → A' b) : ∀ (x : AV) (v : Value), x.bnd n = true → relV h φ I A x v → relV h φ' I A' x v
  | .any, _, _, _ => by simp [relV]
  | .bool _, _, _, H => by simpa [relV] using H
  | .int _ _, _, _, H => by simpa [relV] using H
  | .str _, _, _, H => by simpa [relV] using H
  | .nilp, _, _, H => by simpa [relV] using H
  | .nils, _, _, H => by simpa [relV] using H
  | .nilm, _, _, H => by simpa [relV] using H
  | .nilf, _, _, H => by simpa [relV] using H
  | .nili, _, _, H => by simpa [relV] using H
  | .ptr _ b _ _, _, hp, H => by
    simp only [AV.bnd, decide_eq_true_eq] at hp
    simp only [relV] at H ⊢
    rw [hφ b hp]; exact ⟨hA b hp, H.2⟩
  | .sl _ b _ _, _, hp, H => by
    simp only [AV.bnd, decide_eq_true_eq] at hp
    simp only [relV] at H ⊢
    rw [hφ b hp]; exact ⟨hA b hp, H.2⟩
  | .map b, _, hp, H => by
    simp only [AV.bnd, decide_eq_true_eq] at hp
    simp only [relV] at H ⊢
    rw [hφ b hp]; exact ⟨hA b hp, H.2⟩
  | .cptr cs, v, hp, H => by
    simp only [AV.bnd] at hp
    simp only [relV] at H ⊢
    obtain ⟨c, o, h1, h2, h3⟩ := H
    exact ⟨c, o, h1, h2, relM_bnd hφ hA cs c o hp h3⟩
  | .tsl sz es, v, hp, H => by
    simp only [AV.bnd] at hp
    simp only [relV] at H ⊢
    obtain ⟨base, cap, h1, h2, h3⟩ := H
    refine ⟨base, cap, h1, h2, ?_⟩
    rcases h3 with h3 | ⟨c, o, h3, h4, h5⟩
    · exact .inl h3
    · exact .inr ⟨c, o, h3, h4, relR_bnd hφ hA sz es c o hp h5⟩
  | .fn f fs cs, v, hp, H => by
    simp only [AV.bnd, Bool.and_eq_true] at hp
    simp only [relV] at H ⊢
    obtain ⟨fs', cs', h1, h2, h3⟩ := H
    exact ⟨fs', cs', h1, relL_bnd hφ hA fs fs' hp.1 h2, relL_bnd hφ hA cs cs' hp.2 h3⟩
  | .iface t x, v, hp, H => by
    simp only [AV.bnd] at hp
    simp only [relV] at H ⊢
    obtain ⟨y, h1, h2⟩ := H
    exact ⟨y, h1, relV_bnd hφ hA x y hp h2⟩
  | .agg cs, v, hp, H => by
    simp only [AV.bnd] at hp
    simp only [relV] at H ⊢
    obtain ⟨vs, h1, h2⟩ := H
    exact ⟨vs, h1, relL_bnd hφ hA cs vs hp h2⟩
  | .tup cs, v, hp, H => by
    simp only [AV.bnd] at hp
    simp only [relV] at H ⊢
    obtain ⟨vs, h1, h2⟩ := H
    exact ⟨vs, h1, relL_bnd hφ hA cs vs hp h2⟩
theorem relM_bnd (hφ : ∀ b, b < n → φ' b = φ b) (hA : ∀ b, b < n → A' b) : ∀ (cs : List AV) (c o : Nat), bndL n cs = true → relM h φ I A cs c o → relM h φ' I A' cs c o
  | [], _, _, _, _ => by simp [relM]
  | x :: cs, c, o, hp, H => by
    simp only [bndL, Bool.and_eq_true] at hp
    simp only [relM] at H ⊢
    obtain ⟨⟨v, h1, h0, h2⟩, h3⟩ := H
    exact ⟨⟨v, h1, h0, relV_bnd hφ hA x v hp.1 h2⟩, relM_bnd hφ hA cs c (o + 1) hp.2 h3⟩
theorem relR_bnd (hφ : ∀ b, b < n → φ' b = φ b) (hA : ∀ b, b < n → A' b) (sz : Nat) : ∀ (es : List (List AV)) (c o : Nat), bndR n es = true → relR h φ I A sz es c o → relR h φ' I A' sz es c o
  | [], _, _, _, _ => by simp [relR]
  | e :: es, c, o, hp, H => by
    simp only [bndR, Bool.and_eq_true] at hp
    simp only [relR] at H ⊢
    obtain ⟨h1, h2, h3⟩ := H
    exact ⟨h1, relM_bnd hφ hA e c o hp.1 h2, relR_bnd hφ hA sz es c (o + sz) hp.2 h3⟩
theorem relL_bnd (hφ : ∀ b, b < n → φ' b = φ b) (hA : ∀ b, b < n → A' b) : ∀ (l : List AV) (vs : List Value), bndL n l = true → relL h φ I A l vs → relL h φ' I A' l vs
  | [], _, _, H => by simpa [relL] using H
  | x :: l, vs, hp, H => by
    simp only [bndL, Bool.and_eq_true] at hp
    simp only [relL] at H ⊢
    obtain ⟨v, r, h1, h2, h3⟩ := H
    exact ⟨v, r, h1, relV_bnd hφ hA x v hp.1 h2, relL_bnd hφ hA l r hp.2 h3⟩
end

def bndE (n : Nat) : List (AV × AV) → Bool
  | [] => true
  | (k, v) :: l => k.bnd n && (v.bnd n && bndE n l)

def Blk.bnd (n : Nat) : Blk → Bool
  | .rows _ es => bndR n es
  | .mp l => bndE n l
  | .it _ _ => true

theorem relE_bnd (hφ : ∀ b, b < n → φ' b = φ b) (hA : ∀ b, b < n → A' b) : ∀ (l : List (AV × AV)) (es : List MapEntry), bndE n l = true → relE h φ I A l es → relE h φ' I A' l es
  | [], _, _, H => by simpa [relE] using H
  | (k, v) :: l, es, hp, H => by
    simp only [bndE, Bool.and_eq_true] at hp
    simp only [relE] at H ⊢
    obtain ⟨e, r, h1, h2, h3, h4⟩ := H
    exact ⟨e, r, h1, relV_bnd hφ hA k _ hp.1 h2, relV_bnd hφ hA v _ hp.2.1 h3, relE_bnd hφ hA l r hp.2.2 h4⟩

theorem relB_bnd (hφ : ∀ b, b < n → φ' b = φ b) (hA : ∀ b, b < n → A' b) {b : Nat} {blk : Blk} (hb : b < n) (hp : blk.bnd n = true) (H : relB h φ I A b blk) : relB h φ' I A' b blk := by
  cases blk with
  | rows sz es =>
    simp only [relB] at H ⊢
    rw [hφ b hb]
    rcases H with H | ⟨c, o, cs, el, h1, h2, h3⟩
    · exact .inl H
    · exact .inr ⟨c, o, cs, el, h1, h2, relR_bnd hφ hA sz es c o hp h3⟩
  | mp l =>
    simp only [relB] at H ⊢
    rw [hφ b hb]
    obtain ⟨c, es, clk, h1, h2, h3⟩ := H
    exact ⟨c, es, clk, h1, h2, relE_bnd hφ hA l _ hp h3⟩
  | it s pos =>
    simp only [relB] at H ⊢
    rw [hφ b hb]
    exact H
end

/-- A call that is handed owned blocks, and leaves them as they are. -/
theorem QC.of_read {P : Program} {f : Nat} {args : List AV} {H0 : Heap} {n : Nat} {v : AV} (H : ACalls P f args H0 n fun r H' _ => r = v ∧ H' = H0) (hb : ∀ b blk, get H0 b = some blk → b < n ∧ blk.bnd n = true) (hv : v.pure = true) (ha1 : bndL n args = true) : QC P f args H0 n v none :=
  ⟨H.1, fun X φ I T w cargs R hn hdd hH ha => by
    have hTA : ∀ b, b < n → T.A b := fun b h => .inl (by rw [hn]; exact h)
    have hF : ∀ c, (∃ b blk o, get H0 b = some blk ∧ φ b = some (c, o)) → c < w.heap.size ∧ ¬ I c ∧ (X.F c ∨ X.h0.size ≤ c) := fun c ⟨b, blk, o, h, h'⟩ => R.live b blk c o (hH b blk h).1 h'
    have hA0 : (⟨[], H0, n, [], []⟩ : AS).A = (· < n) := by funext b; simp [AS.A, get_e0, get_e1]
    have hsome : ∀ b, get H0 b ≠ none → get T.heap b ≠ none ∧ get T.dead b = none := fun b h => by
      cases hg : get H0 b with
      | none => exact absurd hg h
      | some blk => exact ⟨by rw [(hH b blk hg).1]; simp, (hH b blk hg).2⟩
    have R0 : RelH ⟨w.heap, fun c => ∃ b blk o, get H0 b = some blk ∧ φ b = some (c, o), φ, n, I⟩ φ I ⟨[], H0, n, [], []⟩ w.heap := by
      refine ⟨fun b' blk' h1 => ?_, fun b' blk' c o h1 h2 => ?_, fun b1 b2 c o c' o' h1 h2 h3 _ h5 h6 => ?_, R.idom, fun c hc => .inl hc, fun c hc => hc, fun _ _ _ => rfl, Nat.le_refl _, fun _ _ h => h, fun _ _ => rfl, Nat.le_refl _⟩
      · have := hb b' blk' h1
        rw [hA0]
        exact ⟨this.1, relB_bnd (fun _ _ => rfl) (fun _ h => h) this.1 this.2 (R.heap _ _ (hH b' blk' h1).1).2⟩
      · exact ⟨(hF c ⟨b', blk', o, h1, h2⟩).1, (hF c ⟨b', blk', o, h1, h2⟩).2.1, .inl ⟨b', blk', o, h1, h2⟩⟩
      · exact R.inj b1 b2 c o c' o' (hsome b1 h1).1 (hsome b2 h2).1 h3 (.inl ⟨(hsome b1 h1).2, (hsome b2 h2).2⟩) h5 h6
    refine (H.2 w _ φ I cargs R0 (relL_bnd (fun _ _ => rfl) (fun _ h => h) _ _ ha1 ha)).mono fun e w' ⟨cv, r, H', n', φ', I', h1, h2, h3, ⟨h4, h4'⟩, h5⟩ => ?_
    subst h4 h4'
    have hfr : ∀ c, c < w.heap.size → (¬ ∃ b blk o, get H' b = some blk ∧ φ b = some (c, o)) → w'.heap[c]? = w.heap[c]? := fun c k1 k2 => h2.frame c k1 k2
    have E : Ext w.heap φ I T.A w'.heap φ I' T.A := by
      refine ⟨fun c o v k1 k2 => ?_, h2.sizes, fun _ _ => rfl, h2.isup, fun _ h => h⟩
      have := hfr c (R.idom c k1) fun h => (hF c h).2.1 k1
      simpa [hcell, this] using k2
    have hoth : ∀ b' blk' c o, get H' b' = none → get T.heap b' = some blk' → φ b' = some (c, o) → ¬ ∃ b blk o, get H' b = some blk ∧ φ b = some (c, o) := fun b' blk' c o k1 k2 k3 ⟨b, blk, o', k5, k4⟩ => by
      have hne : b' ≠ b := fun e => by rw [e, k5] at k1; cases k1
      refine R.inj b' b c o c o' (by rw [k2]; simp) (by rw [(hH b blk k5).1]; simp) hne ?_ k3 k4 rfl
      cases hd : get T.dead b' with
      | none => exact .inl ⟨rfl, (hH b blk k5).2⟩
      | some u => exact .inr ⟨by rw [hn]; exact hdd b' (by rw [hd]; simp), by rw [hn]; exact (hb b blk k5).1⟩
    refine ⟨cv, φ, I', h1, ?_, E, relV_pure _ _ hv h3, h5⟩
    refine ⟨fun b' blk' k1 => ?_, fun b' blk' c o k1 k2 => ?_, R.inj, h2.idom, fun c hc => ?_, fun c hc => h2.isup c (R.isup c hc), fun c k1 k2 => ?_, Nat.le_trans R.size h2.size, fun c s k1 => h2.sizes c s (R.sizes c s k1), R.agree, R.n0⟩
    · obtain ⟨q1, q2⟩ := R.heap b' blk' k1
      refine ⟨q1, ?_⟩
      cases hg : get H' b' with
      | none => exact relB_same E q1 (fun c o h4 => hfr c (R.live _ _ _ _ k1 h4).1 (hoth b' blk' c o hg k1 h4)) q2
      | some blk =>
        have := (hH b' blk hg).1
        simp only [updH] at k1
        rw [this] at k1; injection k1 with k1; subst k1
        exact relB_bnd (fun b hb' => (h2.agree b hb').symm) hTA (hb b' _ hg).1 (hb b' _ hg).2 (h2.heap _ _ hg).2
    · obtain ⟨q1, q2, q3⟩ := R.live b' blk' c o k1 k2
      refine ⟨Nat.lt_of_lt_of_le q1 h2.size, fun hc => ?_, q3⟩
      cases hg : get H' b' with
      | none =>
        rcases h2.isub c hc with p | p | p
        · exact q2 p
        · exact hoth b' blk' c o hg k1 k2 p
        · simp only at p; omega
      | some blk => exact (h2.live b' blk c o hg (by rw [h2.agree b' (hb b' _ hg).1]; exact k2)).2.1 hc
    · rcases h2.isub c hc with p | p | p
      · exact R.isub c p
      · exact .inr (hF c p).2.2
      · exact .inr (.inr (Nat.le_trans R.size p))
    · rw [hfr c (Nat.lt_of_lt_of_le k1 R.size) fun h => by
        rcases (hF c h).2.2 with p | p
        · exact k2 p
        · omega]
      exact R.frame c k1 k2⟩

/-! ### Drawn regions, as a function -/
def dEffF (S : AS) (i : Nat) (op : LOp) : Option Eff :=
  match op.cls with
  | 0 => opEff S.heap S.vars (S.next + i) op
  | 2 => opEff S.flush.heap S.vars (S.next + i) op
  | 4 => none
  | 5 => none
  | 6 => none
  | 7 => none
  | _ => match opEff S.heap S.vars (S.next + i) op with
    | some e => grd (softOK S.heap S.vars op && ((op.rds S.vars).all (fun b => decide (b < S.next)) && (match e.kill with
      | some b => (match get S.dead b with | none => true | some _ => false)
      | none => true))) (some e)
    | none => none

def rgnD (P : Program) : List LOper → Nat → AS → (AS → Prop) → Prop
  | [], _, S, K => K S
  | l :: ls, i, S, K => Option.sat (gd S.vars l.guard) fun b => match b with
    | false => rgnD P ls (i + 1) (S.appD l i { val := .tup [] }) K
    | true => (get S.used (S.next + i) = none) ∧ match l.op with
      | .call _ f args => match f.ev S.vars with
        | .fn g first caps => ∃ v H, QC P g (first ++ args.map (·.ev S.vars) ++ caps) H S.next v none ∧ (∀ b blk, get H b = some blk → b < S.next ∧ get S.heap b = some blk ∧ get S.dead b = none) ∧ rgnD P ls (i + 1) (S.appD l i { val := v }) K
        | _ => False
      | op => Option.sat (dEffF S i op) fun e => rgnD P ls (i + 1) (S.appD l i e) K

theorem cls_le (op : LOp) : op.cls ≤ 7 := by
  cases op <;> simp only [LOp.cls] <;> first | omega | skip
  rename_i k x; cases k <;> simp [LOp.cls]

theorem dEffF_spec {P : Program} {all : List LOper} {S : AS} {i : Nat} {l : LOper} {e : Eff} (hg : gd S.vars l.guard = some true) (hu : get S.used (S.next + i) = none) (h : dEffF S i l.op = some e) : DEff P all ⟨[], []⟩ S l i e := by
  refine .inr ⟨hg, hu, ?_⟩
  unfold dEffF at h
  split at h
  · rename_i hc; exact .inr (.inl ⟨hc, h⟩)
  · rename_i hc; exact .inr (.inr (.inr (.inr (.inl ⟨hc, h⟩))))
  · cases h
  · cases h
  · cases h
  · cases h
  · rename_i h0 h2 h4 h5 h6' h7'
    split at h
    · rename_i e' he
      obtain ⟨h6, h7⟩ := grd_some h
      injection h7 with h7; subst h7
      simp only [Bool.and_eq_true, List.all_eq_true, decide_eq_true_eq] at h6
      have hc : l.op.cls = 1 ∨ l.op.cls = 3 := by
        have := cls_le l.op
        have a0 : l.op.cls ≠ 0 := fun h => h0 h
        have a2 : l.op.cls ≠ 2 := fun h => h2 h
        have a4 : l.op.cls ≠ 4 := fun h => h4 h
        have a5 : l.op.cls ≠ 5 := fun h => h5 h
        have a6 : l.op.cls ≠ 6 := fun h => h6' h
        have a7 : l.op.cls ≠ 7 := fun h => h7' h
        omega
      refine .inr (.inr (.inl ⟨hc, he, h6.1, fun b hb => ⟨h6.2.1 b hb, by simp [RW.mem]⟩, fun b hb => ?_⟩))
      have := h6.2.2
      rw [hb] at this
      simp only at this
      split at this
      · assumption
      · cases this
    · cases h

theorem rgnD_run {P : Program} {all : List LOper} : ∀ {ls : List LOper} {i : Nat} {S : AS} {K : AS → Prop}, rgnD P ls i S K → dRun P all ⟨[], []⟩ ls i S K
  | [], _, _, _, h => h
  | l :: ls, i, S, K, h => by
    simp only [rgnD] at h
    cases hg : gd S.vars l.guard with
    | none => rw [hg] at h; exact h.elim
    | some b =>
      rw [hg] at h
      simp only [Option.sat] at h
      cases b with
      | false => exact ⟨_, .inl ⟨hg, rfl⟩, rgnD_run h⟩
      | true =>
        simp only at h
        obtain ⟨hu, h⟩ := h
        cases hl : l.op with
        | call q f args =>
          rw [hl] at h
          simp only at h
          cases hf : f.ev S.vars with
          | fn g first caps =>
            rw [hf] at h
            simp only at h
            obtain ⟨v, H, h1, h2, h3⟩ := h
            exact ⟨_, .inr ⟨hg, hu, .inl ⟨q, f, args, v, H, g, first, caps, none, hl, rfl, hf, h1, h2, fun p hp => by cases hp⟩⟩, rgnD_run h3⟩
          | _ => rw [hf] at h; exact h.elim
        | _ =>
          rw [hl] at h
          simp only at h
          rw [← hl] at h
          cases he : dEffF S i l.op with
          | none => rw [he] at h; exact h.elim
          | some e => rw [he] at h; exact ⟨e, dEffF_spec hg hu he, rgnD_run h⟩

theorem LWP_drawn {P : Program} {nt n0 : Nat} {S : ST} {Q : Exit → ST → Prop} {ls : List LOper} (h : rgnD P ls 0 S.as fun S' => Q .normal (S'.fin ls.length)) : LWP P nt n0 (.region ls true) S Q := LWP_regionD AdOK.nil (rgnD_run h)

/-! ### The executable reading -/
inductive XE where
  | normal
  | exit (id : Nat)
  | goto (l : Nat)
  | ret

def XE.to : XE → Exit
  | .normal => .normal
  | .exit id => .exit id
  | .goto l => .goto l
  | .ret => .ret

def runS (call : Nat → List AV → ST → Option (AV × ST)) : List LOper → ST → Option ST
  | [], S => some S
  | o :: os, S => match gd S.vars o.guard with
    | none => none
    | some false => runS call os { S with vars := putV o.dst (.tup []) S.vars }
    | some true => match o.op with
      | .call _ f args => match f.ev S.vars with
        | .fn g first caps => match call g (first ++ args.map (·.ev S.vars) ++ caps) S with
          | some (r, S') => runS call os { S' with vars := putV o.dst r S.vars }
          | none => none
        | _ => none
      | op => match opEffK S.heap S.vars S.next op with
        | some e => runS call os (S.app o.dst e)
        | none => none

def okIdB (ls : List LOper) (n : Nat) (l : LOper) (b : Nat) : Bool := decide (b < n) || (decide (n ≤ b) && match ls[b - n]? with
  | some lk => (match lk.dst with | some d => l.looks.contains d | none => false)
  | none => false)

def srtB : Heap → Bool
  | [] => true
  | [_] => true
  | p :: q :: l => decide (q.1 < p.1) && srtB (q :: l)

def effF (all : List LOper) (Wr : RW) (S : AS) (i : Nat) (l : LOper) : Option Eff := match opEffK S.heap S.vars (S.next + i) l.op with
  | some e => grd ((l.op.rds S.vars).all (okIdB all S.next l) && (S.dead.isEmpty && (match l.op.fp S.vars with
    | none => true
    | some f => match get Wr.ad i with
      | some g => decide (f = g)
      | none => false))) (some e)
  | none => none

/-- The effect of an operation that is no call, in a region that draws. -/
def effX (all : List LOper) (Wr : RW) (S : AS) (i : Nat) (l : LOper) : Option Eff :=
  match l.op.cls with
  | 0 => opEffK S.heap S.vars (S.next + i) l.op
  | 2 => opEffK S.flush.heap S.vars (S.next + i) l.op
  | 4 => none
  | 6 => effF all Wr S i l
  | 7 => effF all Wr S i l
  | 5 => match opEffK S.heap S.vars (S.next + i) l.op with
    | some e => grd ((l.op.rds S.vars).all (fun b => okIdB all S.next l b && !(Wr.w.contains b)) && (S.dead.isEmpty && ((match e.kill with
      | some b => decide (S.next ≤ b)
      | none => true) && srtB S.heap))) (some e)
    | none => none
  | _ => match opEffK S.heap S.vars (S.next + i) l.op with
    | some e => grd (softOK S.heap S.vars l.op && ((l.op.rds S.vars).all (fun b => decide (b < S.next) && !(Wr.w.contains b)) && (match e.kill with
      | some b => (match get S.dead b with | none => true | some _ => false)
      | none => true))) (some e)
    | none => none

/-- A value as it reads when only the block 'b' is written on. -/
def fzV (H : Heap) (v : AV) : Option AV := match v.pure with
  | true => some v
  | false => deepV H 99 v

def frz1 (b : Nat) (r : AV) (H : Heap) : Option (AV × Blk) := match get H b with
  | some (.rows sz es) => match deepV (filK (fun x => decide (x = b)) H) 99 r with
    | some r2 => match mapO (mapO (deepV (filK (fun x => decide (x = b)) H) 99)) es with
      | some es2 => some (r2, .rows sz es2)
      | none => none
    | none => none
  | _ => none

def own0 : List AV → Option Nat
  | [] => none
  | .ptr _ b _ _ :: _ => some b
  | .sl _ b _ _ :: _ => some b
  | _ :: l => own0 l

mutual
def smV : AV → AV → Bool
  | .any, .any => true
  | .bool a, .bool b => decide (a = b)
  | .int w n, .int w' n' => decide (w = w') && decide (n = n')
  | .str a, .str b => decide (a = b)
  | .ptr a b c d, .ptr a' b' c' d' => decide (a = a') && (decide (b = b') && (decide (c = c') && decide (d = d')))
  | .sl a b c d, .sl a' b' c' d' => decide (a = a') && (decide (b = b') && (decide (c = c') && decide (d = d')))
  | .map a, .map a' => decide (a = a')
  | .nilp, .nilp => true
  | .nils, .nils => true
  | .nilm, .nilm => true
  | .nilf, .nilf => true
  | .nili, .nili => true
  | .cptr a, .cptr b => smL a b
  | .tsl n a, .tsl m b => decide (n = m) && smR a b
  | .fn f a c, .fn g b d => decide (f = g) && (smL a b && smL c d)
  | .iface t a, .iface u b => decide (t = u) && smV a b
  | .agg a, .agg b => smL a b
  | .tup a, .tup b => smL a b
  | _, _ => false
def smL : List AV → List AV → Bool
  | [], [] => true
  | x :: l, y :: m => smV x y && smL l m
  | _, _ => false
def smR : List (List AV) → List (List AV) → Bool
  | [], [] => true
  | x :: l, y :: m => smL x y && smR l m
  | _, _ => false
end
mutual
theorem smV_spec : ∀ (x y : AV), smV x y = true → x = y
  | .any, y, h | .nilp, y, h | .nils, y, h | .nilm, y, h | .nilf, y, h | .nili, y, h => by cases y <;> first | rfl | (simp [smV] at h)
  | .ptr _ _ _ _, y, h | .sl _ _ _ _, y, h => by cases y <;> simp [smV] at h; rw [h.1, h.2.1, h.2.2.1, h.2.2.2]
  | .map _, y, h => by cases y <;> simp [smV] at h; rw [h]
  | .bool a, y, h => by cases y <;> simp [smV] at h; rw [h]
  | .int a b, y, h => by cases y <;> simp [smV] at h; rw [h.1, h.2]
  | .str a, y, h => by cases y <;> simp [smV] at h; rw [h]
  | .cptr a, y, h => by cases y <;> simp [smV] at h; rw [smL_spec _ _ h]
  | .tsl n a, y, h => by cases y <;> simp [smV] at h; rw [h.1, smR_spec _ _ h.2]
  | .fn f a c, y, h => by cases y <;> simp [smV] at h; rw [h.1, smL_spec _ _ h.2.1, smL_spec _ _ h.2.2]
  | .iface t a, y, h => by cases y <;> simp [smV] at h; rw [h.1, smV_spec _ _ h.2]
  | .agg a, y, h => by cases y <;> simp [smV] at h; rw [smL_spec _ _ h]
  | .tup a, y, h => by cases y <;> simp [smV] at h; rw [smL_spec _ _ h]
theorem smL_spec : ∀ (x y : List AV), smL x y = true → x = y
  | [], y, h => by cases y <;> simp [smL] at h; rfl
  | x :: l, y, h => by cases y <;> simp [smL] at h; rw [smV_spec _ _ h.1, smL_spec _ _ h.2]
theorem smR_spec : ∀ (x y : List (List AV)), smR x y = true → x = y
  | [], y, h => by cases y <;> simp [smR] at h; rfl
  | x :: l, y, h => by cases y <;> simp [smR] at h; rw [smL_spec _ _ h.1, smR_spec _ _ h.2]
end

def smE : List (AV × AV) → List (AV × AV) → Bool
  | [], [] => true
  | p :: l, q :: m => smV p.1 q.1 && (smV p.2 q.2 && smE l m)
  | _, _ => false
theorem smE_spec : ∀ (x y : List (AV × AV)), smE x y = true → x = y
  | [], y, h => by cases y <;> simp [smE] at h; rfl
  | p :: l, y, h => by
    cases y with
    | nil => simp [smE] at h
    | cons q m =>
      simp only [smE, Bool.and_eq_true] at h
      rw [smE_spec l m h.2.2, show p = q from Prod.ext (smV_spec _ _ h.1) (smV_spec _ _ h.2.1)]

def smB : Blk → Blk → Bool
  | .rows n a, .rows m b => decide (n = m) && smR a b
  | .mp a, .mp b => smE a b
  | .it s p, .it s' p' => decide (s = s') && decide (p = p')
  | _, _ => false
theorem smB_spec {x y : Blk} (h : smB x y = true) : x = y := by
  cases x <;> cases y <;> simp [smB] at h
  · rw [h.1, smR_spec _ _ h.2]
  · rw [smE_spec _ _ h]
  · rw [h.1, h.2]

mutual
def AV.allIds : AV → List Nat
  | .ptr _ b _ _ => [b]
  | .sl _ b _ _ => [b]
  | .map b => [b]
  | .cptr cs => allIdsL cs
  | .tsl _ es => allIdsR es
  | .fn _ fs cs => allIdsL fs ++ allIdsL cs
  | .iface _ v => v.allIds
  | .agg cs => allIdsL cs
  | .tup vs => allIdsL vs
  | _ => []
def allIdsL : List AV → List Nat
  | [] => []
  | v :: l => v.allIds ++ allIdsL l
def allIdsR : List (List AV) → List Nat
  | [] => []
  | e :: es => allIdsL e ++ allIdsR es
end

def Blk.allIds : Blk → List Nat
  | .rows _ es => allIdsR es
  | .mp l => l.flatMap fun p => p.1.allIds ++ p.2.allIds
  | .it _ _ => []

/-- The blocks that some lead to. -/
def clo (H : Heap) : Nat → List Nat → Heap → Heap
  | 0, _, R => R
  | _ + 1, [], R => R
  | k + 1, b :: l, R => match get R b with
    | some _ => clo H k l R
    | none => match get H b with
      | some blk => clo H k (blk.allIds ++ l) (ins b blk R)
      | none => clo H k l R

/-- A call that reads blocks in a region that draws. -/
def callR (call : Nat → List AV → ST → Option (AV × ST)) (S : AS) (g : Nat) (args : List AV) : Option Eff :=
  let H0 := clo S.heap 500 (allIdsL args) []
  match bndL S.next args && H0.all (fun p => decide (p.1 < S.next) && (p.2.bnd S.next && ((match get S.heap p.1 with | some blk => smB p.2 blk | none => false) && (match get S.dead p.1 with | none => true | some _ => false)))) with
  | true => match call g args ⟨[], H0, S.next⟩ with
    | some (r, S') => grd (r.pure && H0.all fun p => (match get S'.heap p.1 with | some blk => smB p.2 blk | none => false)) (some { val := r })
    | none => none
  | false => none

/-- What a drawn call does to its block. -/
def updOf (Wr : List Nat) (b : Nat) (blk blk2 : Blk) : Option (Option (Nat × Blk)) := match Wr.contains b with
  | true => some (some (b, blk2))
  | false => grd (smB blk blk2) (some none)

/-- A call in a region that draws. -/
def callD (call : Nat → List AV → ST → Option (AV × ST)) (Wr : List Nat) (S : AS) (g : Nat) (args : List AV) : Option Eff := match pureL args with
  | true => match call g args ⟨[], [], 0⟩ with
    | some (r, S') => match deepV S'.heap 99 r with
      | some r2 => grd r2.pure (some { val := r2 })
      | none => none
    | none => none
  | false => match own0 args with
    | some b => match get S.heap b with
      | some blk => match blk.pureB with
       | false => callR call S g args
       | true => match (decide (b < S.next) && (args.all (own1 b) && (match get S.dead b with | none => true | some _ => false))) with
        | true => match call g args ⟨[], [(b, blk)], S.next⟩ with
          | some (r, S') => match frz1 b r S'.heap with
            | some (r2, blk2) => match updOf Wr b blk blk2 with
              | some u => grd (r2.pure && blk2.pureB) (some { val := r2, upd := u })
              | none => none
            | none => none
          | none => none
        | false => none
      | none => none
    | none => callR call S g args

def runD (call : Nat → List AV → ST → Option (AV × ST)) (all : List LOper) (Wr : RW) : List LOper → Nat → AS → Option AS
  | [], _, S => some S
  | l :: ls, i, S => match gd S.vars l.guard with
    | none => none
    | some false => runD call all Wr ls (i + 1) (S.appD l i { val := .tup [] })
    | some true => match get S.used (S.next + i) with
      | some _ => none
      | none => match l.op with
        | .call _ f args => match f.ev S.vars with
          | .fn g first caps => match callD call Wr.w S g (first ++ args.map (·.ev S.vars) ++ caps) with
            | some e => runD call all Wr ls (i + 1) (S.appD l i e)
            | none => none
          | _ => none
        | _ => match effX all Wr S i l with
          | some e => runD call all Wr ls (i + 1) (S.appD l i e)
          | none => none

def ptrIds : AV → List Nat
  | .ptr _ b _ _ => [b]
  | .sl _ b _ _ => [b]
  | _ => []

def argIds (vs : Vars) : List LArg → List Nat
  | [] => []
  | x :: l => ptrIds (x.ev vs) ++ argIds vs l

/-- What a region's calls are handed, what it reads itself. -/
def wrk (H : Heap) : Vars → List LOper → List Nat → List Nat → List Nat
  | _, [], A, R => A.filter fun b => !(R.contains b)
  | vs, l :: ls, A, R => match l.op with
    | .call _ f args => wrk H vs ls ((match f.ev vs with
      | .fn _ fs cs => (fs ++ cs).flatMap ptrIds
      | _ => []) ++ (argIds vs args ++ A)) R
    | .load a b c => match opEffK H vs 0 (.load a b c) with
      | some e => wrk H (putV l.dst e.val vs) ls A (ptrIds (c.ev vs) ++ R)
      | none => wrk H vs ls A R
    | op => match op.cls with
      | 0 => match opEffK H vs 0 op with
        | some e => wrk H (putV l.dst e.val vs) ls A R
        | none => wrk H vs ls A R
      | _ => wrk H vs ls A R

def isCall (l : LOper) : Bool := match l.op with | .call .. => true | _ => false

/-- The blocks that a region's calls may write (a guess: what it checks is checked elsewhere). -/
def wrOf (H : Heap) (vs : Vars) (ls : List LOper) : List Nat := match ls.any isCall with
  | true => wrk H vs ls [] []
  | false => []

def isF (l : LOper) : Bool := match l.op with | .storeF _ _ _ => true | .loadF _ _ _ => true | _ => false

/-- The cells that a region's operations touch (a guess). -/
def adk (H : Heap) : Vars → Nat → Nat → List LOper → List (Nat × Fp) → List (Nat × Fp)
  | _, _, _, [], A => A
  | vs, n, i, l :: ls, A => match gd vs l.guard with
    | some false => adk H (putV l.dst (.tup []) vs) n (i + 1) ls A
    | _ => match l.op with
      | .newv z => adk H (putV l.dst (.ptr z.length (n + i) 0 0) vs) n (i + 1) ls A
      | op => adk H (match opEffK H vs (n + i) op with
          | some e => putV l.dst e.val vs
          | none => vs) n (i + 1) ls (match op.fp vs with
          | some f => ins i f A
          | none => A)
def adOf (H : Heap) (vs : Vars) (n : Nat) (ls : List LOper) : List (Nat × Fp) := match ls.any isF with
  | true => adk H vs n 0 ls []
  | false => []

def callX (L : Nat → Option LFunc) (ex : LCode → ST → Option (XE × ST)) (f : Nat) (args : List AV) (S : ST) : Option (AV × ST) := match L f with
  | some lf => grd (decide (args.length = lf.np)) (match ex lf.body ⟨parV 0 args, S.heap, S.next⟩ with
    | some (.exit _, _) => none
    | some (.goto _, _) => none
    | some (_, S') => match resV S' lf.res with
      | some vs => some (retV vs, ⟨S.vars, S'.heap, S'.next⟩)
      | none => none
    | none => none)
  | none => none

/-- What some calls answer, known ahead. -/
def ora : List (Nat × (List AV × AV)) → Nat → List AV → Option AV
  | [], _, _ => none
  | p :: T, f, args => match Nat.beq p.1 f && smL p.2.1 args with
    | true => some p.2.2
    | false => ora T f args

/-- Some functions are run beside the state, and answer trees. -/
def callZ (Z : Nat → Bool) (T : List (Nat × (List AV × AV))) (call : Nat → List AV → ST → Option (AV × ST)) (f : Nat) (args : List AV) (S : ST) : Option (AV × ST) := match Z f && pureL args with
  | true => match ora T f args with
    | some r => some (r, S)
    | none => match call f args ⟨[], [], 0⟩ with
      | some (r, S') => match deepV S'.heap 99 r with
        | some r2 => grd r2.pure (some (r2, S))
        | none => none
      | none => none
  | false => call f args S

def exec (L : Nat → Option LFunc) (Z : Nat → Bool) (T : List (Nat × (List AV × AV))) : Nat → LCode → ST → Option (XE × ST)
  | 0, _, _ => none
  | k + 1, c, S => match c with
    | .skip => some (.normal, S)
    | .region ls false => match runS (callZ Z T (callX L (exec L Z T k))) ls S with
      | some S' => some (.normal, S')
      | none => none
    | .region ls true => match adOf S.heap S.vars S.next ls with
      | ad => match okAdL ls ad ad with
        | true => match runD (callZ Z T (callX L (exec L Z T k))) ls ⟨wrOf S.heap S.vars ls, ad⟩ ls 0 S.as with
          | some S' => some (.normal, S'.fin ls.length)
          | none => none
        | false => none
    | .seq a b => match exec L Z T k a S with
      | some (.normal, S') => exec L Z T k b S'
      | r => r
    | .cond x a b => match x.ev S.vars with
      | .bool t => match t with
        | true => exec L Z T k a S
        | false => exec L Z T k b S
      | _ => none
    | .block id a => match exec L Z T k a S with
      | some (.exit id', S') => some (match decide (id' = id) with | true => (.normal, S') | false => (.exit id', S'))
      | r => r
    | .loop a => match exec L Z T k a S with
      | some (.normal, S') => exec L Z T k (.loop a) S'
      | r => r
    | .scope a => match exec L Z T k a S with
      | some (.goto _, _) => none
      | r => r
    | .goto _ => none
    | .jump _ _ _ => none
    | .regionL _ _ => none
    | .regionH _ => none
    | .exit id => some (.exit id, S)
    | .ret => some (.ret, S)
end
end Go.AM

/- The executable reading is sound. -/
namespace Go.AM
noncomputable section

section
variable {P : Program} {L : Nat → Option LFunc}

def CallOK (P : Program) (call : Nat → List AV → ST → Option (AV × ST)) : Prop :=
  ∀ f args S r S', call f args S = some (r, S') → S'.vars = S.vars ∧ ∀ K : AV → ST → Prop, K r S' → CallS P f args S K

theorem runS_sound {call : Nat → List AV → ST → Option (AV × ST)} (hc : CallOK P call) : ∀ (ls : List LOper) (S S' : ST) (K : ST → Prop), runS call ls S = some S' → K S' → rgnS P ls S K
  | [], S, S', K, h, hK => by simp only [runS, Option.some.injEq] at h; subst h; exact hK
  | o :: os, S, S', K, h, hK => by
    simp only [runS, opEffK_eq] at h
    simp only [rgnS]
    cases hg : gd S.vars o.guard with
    | none => rw [hg] at h; cases h
    | some b =>
      rw [hg] at h
      simp only [Option.sat]
      cases b with
      | false => exact runS_sound hc os _ S' K h hK
      | true =>
        cases ho : o.op with
        | call q f args =>
          rw [ho] at h
          simp only at h ⊢
          cases hf : f.ev S.vars with
          | fn g first caps =>
            rw [hf] at h
            simp only at h ⊢
            split at h
            · rename_i r S1 hr
              obtain ⟨h1, h2⟩ := hc _ _ _ _ _ hr
              exact h2 _ (by rw [h1]; exact runS_sound hc os _ S' K h hK)
            · cases h
          | _ => rw [hf] at h; cases h
        | _ =>
          rw [ho] at h
          simp only at h ⊢
          split at h
          · rename_i e he
            rw [he]
            exact runS_sound hc os _ S' K h hK
          · cases h

theorem ACalls_of_CallS {f : Nat} {args : List AV} {H : Heap} {n : Nat} {K : AV → ST → Prop} (h : CallS P f args ⟨[], H, n⟩ K) : ACalls P f args H n fun r H' n' => ∃ S', K r S' ∧ H' = S'.heap ∧ n' = S'.next :=
  ⟨h.1, fun w F φ I cargs R ha => by
    have hA : (ST.as ⟨[], H, n⟩).A = (· < n) := by funext b; exact propext (ST.as_A _ b)
    refine (h.2 ⟨w.heap, F, φ, n, I⟩ φ I w cargs R (by rw [hA]; exact ha)).mono fun e w' ⟨cv, r, φ', I', S', k1, k2, k3, k4, k5, k6, k7⟩ => ⟨cv, r, S'.heap, S'.next, φ', I', k1, ?_, ?_, ⟨S', k6, rfl, rfl⟩, k7⟩
    · exact (k2.vars []).conv rfl rfl (fun _ => rfl) (Nat.le_refl _)
    · have hA' : S'.as.A = (· < S'.next) := by funext b; exact propext (ST.as_A _ b)
      rw [← hA']; exact k4⟩

theorem filK_none (H : Heap) : filK (fun _ => false) H = H := by simp [filK]

theorem ACalls.deep0 {f : Nat} {args : List AV} {r r2 : AV} {S' : ST} {n : Nat} (h : ACalls P f args [] n fun r' H' _ => r' = r ∧ H' = S'.heap) {m : Nat} (hd : deepV S'.heap m r = some r2) : ACalls P f args [] n fun r' _ _ => r' = r2 :=
  h.deepK (fun _ => false) fun r' H' n' ⟨h1, h2⟩ => by
    subst h1 h2
    exact ⟨m, r2, [], by rw [filK_none]; exact hd, fun b blk2 hb => by simp [get_e0, get_e1] at hb, rfl⟩

theorem ACalls.of_call {call : Nat → List AV → ST → Option (AV × ST)} (hc : CallOK P call) {f : Nat} {args : List AV} {H : Heap} {n : Nat} {r : AV} {S' : ST} (h : call f args ⟨[], H, n⟩ = some (r, S')) : ACalls P f args H n fun r' H' _ => r' = r ∧ H' = S'.heap :=
  (ACalls_of_CallS ((hc _ _ _ _ _ h).2 (fun r' S2 => r' = r ∧ S2 = S') ⟨rfl, rfl⟩)).mono fun r' H' n' ⟨S2, ⟨h1, h2⟩, h3, _⟩ => by subst h2; exact ⟨h1, h3⟩

/-- What is known ahead is so. -/
def TOK (P : Program) (T : List (Nat × (List AV × AV))) : Prop := ∀ p ∈ T, p.2.2.pure = true ∧ ACalls P p.1 p.2.1 [] 0 fun r' _ _ => r' = p.2.2

theorem ora_ok : ∀ {T : List (Nat × (List AV × AV))} {f : Nat} {args : List AV} {r : AV}, TOK P T → ora T f args = some r → r.pure = true ∧ ACalls P f args [] 0 fun r' _ _ => r' = r
  | [], _, _, _, _, h => by simp [ora] at h
  | p :: T, f, args, r, hT, h => by
    simp only [ora] at h
    split at h
    · rename_i hb
      simp only [Bool.and_eq_true] at hb
      injection h with h; subst h
      have h1 := Nat.eq_of_beq_eq_true hb.1
      have h2 := smL_spec _ _ hb.2
      have := hT p (by simp)
      rw [h1, h2] at this
      exact this
    · exact ora_ok (fun q hq => hT q (List.mem_cons_of_mem _ hq)) h

theorem callZ_ok {Z : Nat → Bool} {T : List (Nat × (List AV × AV))} (hT : TOK P T) {call : Nat → List AV → ST → Option (AV × ST)} (hc : CallOK P call) : CallOK P (callZ Z T call) := by
  intro f args S r S' h
  unfold callZ at h
  split at h
  · rename_i hz
    simp only [Bool.and_eq_true] at hz
    split at h
    · rename_i r0 h0
      simp only [Option.some.injEq, Prod.mk.injEq] at h
      obtain ⟨rfl, rfl⟩ := h
      obtain ⟨h3, h4⟩ := ora_ok hT h0
      exact ⟨rfl, fun K hK => CallS.of_pure h4 hz.2 fun r' _ _ e => by rw [e]; exact ⟨h3, hK⟩⟩
    · split at h
      · rename_i r0 S0 h0
        split at h
        · rename_i r2 h2
          obtain ⟨h3, h4⟩ := grd_some h
          simp only [Option.some.injEq, Prod.mk.injEq] at h4
          obtain ⟨rfl, rfl⟩ := h4
          exact ⟨rfl, fun K hK => CallS.of_pure ((ACalls.of_call hc h0).deep0 h2) hz.2 fun r' _ _ e => by rw [e]; exact ⟨h3, hK⟩⟩
        · cases h
      · cases h
  · exact hc _ _ _ _ _ h

theorem frz1_call {f : Nat} {args : List AV} {H : Heap} {n b : Nat} {r r2 : AV} {blk2 : Blk} {S' : ST} (h : ACalls P f args H n fun r' H' _ => r' = r ∧ H' = S'.heap) (hf : frz1 b r S'.heap = some (r2, blk2)) : ACalls P f args H n fun r' H' _ => r' = r2 ∧ H' = [(b, blk2)] := by
  unfold frz1 at hf
  split at hf
  · rename_i sz es hg
    split at hf
    · rename_i r2' h2
      split at hf
      · rename_i es2 h3
        simp only [Option.some.injEq, Prod.mk.injEq] at hf
        obtain ⟨rfl, rfl⟩ := hf
        refine h.deepK (fun x => decide (x = b)) fun r' H' n' ⟨k1, k2⟩ => ?_
        subst k1 k2
        refine ⟨99, r2', [(b, .rows sz es2)], h2, fun b' blk2 hb => ?_, rfl, rfl⟩
        simp only [get_e0, get_e1] at hb
        split at hb
        · rename_i e; subst e
          injection hb with hb; subst hb
          exact ⟨by simp, _, hg, sz, es, es2, rfl, rfl, h3⟩
        · cases hb
      · cases hf
    · cases hf
  · cases hf

theorem ins_same {b : Nat} {blk : Blk} {H : Heap} {S : AS} (h : get H b = some blk) : ∀ b', get (ins b blk H) b' = get H b' := fun b' => by
  rw [get_ins]; split
  · rename_i e; subst e; exact h.symm
  · rfl

theorem RelH.hget {X : Ctx} {φ : Nat → Option (Nat × Nat)} {I : Nat → Prop} {T : AS} {H2 : Heap} {h : Array Obj} (R : RelH X φ I { T with heap := H2 } h) (he : ∀ b, get H2 b = get T.heap b) : RelH X φ I T h :=
  ⟨fun b blk h1 => R.heap b blk (by rw [← h1]; exact he b), fun b blk c o h1 h2 => R.live b blk c o (by rw [← h1]; exact he b) h2, fun b b' c o c' o' h1 h2 h3 h4 => R.inj b b' c o c' o' (by show get H2 b ≠ none; rw [he]; exact h1) (by show get H2 b' ≠ none; rw [he]; exact h2) h3 h4, R.idom, R.isub, R.isup, R.frame, R.size, R.sizes, R.agree, R.n0⟩

theorem QC.same {g : Nat} {args : List AV} {n b : Nat} {blk : Blk} {v : AV} (h : QC P g args [(b, blk)] n v (some (b, blk))) : QC P g args [(b, blk)] n v none :=
  ⟨h.1, fun X φ I T w cargs R hn hd hH ha => (h.2 X φ I T w cargs R hn hd hH ha).mono fun e w' ⟨cv, φ', I', k1, k2, k3⟩ => ⟨cv, φ', I', k1, RelH.hget (T := T) k2 (ins_same (S := T) (hH b blk (by simp [get_e0, get_e1])).1), k3⟩⟩

theorem all_get {p : Nat × Blk → Bool} : ∀ {H : Heap} {b : Nat} {blk : Blk}, H.all p = true → get H b = some blk → p (b, blk) = true
  | (k, v) :: H, b, blk, h, hg => by
    simp only [List.all_cons, Bool.and_eq_true] at h
    simp only [get_e0, get_e1] at hg
    split at hg
    · rename_i e; subst e; injection hg with hg; subst hg; exact h.1
    · exact all_get h.2 hg

theorem callR_sound {call : Nat → List AV → ST → Option (AV × ST)} (hc : CallOK P call) {Wr : List Nat} {S : AS} {g : Nat} {args : List AV} {e : Eff} (h : callR call S g args = some e) : ∃ v u H, e = { val := v, upd := u } ∧ QC P g args H S.next v u ∧ (∀ b blk, get H b = some blk → b < S.next ∧ get S.heap b = some blk ∧ get S.dead b = none) ∧ ∀ p, u = some p → p.1 ∈ Wr ∧ p.1 < S.next := by
  unfold callR at h
  simp only at h
  generalize clo S.heap 500 (allIdsL args) [] = H0 at h
  split at h
  · rename_i hcond
    simp only [Bool.and_eq_true] at hcond
    obtain ⟨ha, hall⟩ := hcond
    split at h
    · rename_i r S' hr
      obtain ⟨h3, h4⟩ := grd_some h
      injection h4 with h4; subst h4
      simp only [Bool.and_eq_true] at h3
      have hH : ∀ b blk, get H0 b = some blk → (b < S.next ∧ blk.bnd S.next = true) ∧ get S.heap b = some blk ∧ get S.dead b = none := fun b blk hg => by
        have := all_get hall hg
        simp only [Bool.and_eq_true, decide_eq_true_eq] at this
        obtain ⟨q1, q2, q3, q4⟩ := this
        refine ⟨⟨q1, q2⟩, ?_, ?_⟩
        · split at q3
          · rename_i blk' hg'
            rw [hg', smB_spec q3]
          · cases q3
        · split at q4
          · assumption
          · cases q4
      have hA : ACalls P g args H0 S.next fun r' H' _ => r' = r ∧ H' = H0 := by
        have h0 := ACalls.of_call hc hr
        refine ⟨h0.1, fun w F φ I cargs R hx => (h0.2 w F φ I cargs R hx).mono fun e w' ⟨cv, r', H', n', φ', I', k1, k2, k3, ⟨k4, k5⟩, k6⟩ => ?_⟩
        subst k4 k5
        refine ⟨cv, r', H0, n', φ', I', k1, RelH.sub (S := ⟨[], S'.heap, n', [], []⟩) k2 (vs := []) (fun b blk hb => ?_) fun _ _ _ => rfl, k3, ⟨rfl, rfl⟩, k6⟩
        have := all_get h3.2 hb
        simp only at this
        split at this
        · rename_i blk' hg'
          rw [hg', smB_spec this]
        · cases this
      exact ⟨r, none, H0, rfl, QC.of_read hA (fun b blk hg => (hH b blk hg).1) h3.1 ha, fun b blk hg => ⟨(hH b blk hg).1.1, (hH b blk hg).2⟩, fun p hp => by cases hp⟩
    · cases h
  · cases h

theorem callD_sound {call : Nat → List AV → ST → Option (AV × ST)} (hc : CallOK P call) {Wr : List Nat} {S : AS} {g : Nat} {args : List AV} {e : Eff} (h : callD call Wr S g args = some e) : ∃ v u H, e = { val := v, upd := u } ∧ QC P g args H S.next v u ∧ (∀ b blk, get H b = some blk → b < S.next ∧ get S.heap b = some blk ∧ get S.dead b = none) ∧ ∀ p, u = some p → p.1 ∈ Wr ∧ p.1 < S.next := by
  unfold callD at h
  split at h
  · rename_i hp
    split at h
    · rename_i r S' hr
      split at h
      · rename_i r2 h2
        obtain ⟨h3, h4⟩ := grd_some h
        injection h4 with h4; subst h4
        exact ⟨r2, none, [], rfl, QC.of_pure ((ACalls.of_call hc hr).deep0 h2) hp h3, fun b blk hb => by simp [get_e0, get_e1] at hb, fun p hp => by cases hp⟩
      · cases h
    · cases h
  · split at h
    · rename_i b hb0
      split at h
      · rename_i blk hblk
        split at h
        · exact callR_sound hc h
        · rename_i q1
          split at h
          rotate_left
          · cases h
          rename_i hcond
          simp only [Bool.and_eq_true, decide_eq_true_eq] at hcond
          obtain ⟨q2, q4, q5⟩ := hcond
          split at h
          · rename_i r S' hr
            split at h
            · rename_i r2 blk2 hf
              split at h
              · rename_i u hu
                obtain ⟨h3, h4⟩ := grd_some h
                injection h4 with h4; subst h4
                simp only [Bool.and_eq_true] at h3
                have hd : get S.dead b = none := by
                  split at q5
                  · assumption
                  · cases q5
                have hqc := QC.of_owned1 (frz1_call (ACalls.of_call hc hr) hf) q1 h3.2 h3.1 q2 q4
                have hH : ∀ b' blk', get [(b, blk)] b' = some blk' → b' < S.next ∧ get S.heap b' = some blk' ∧ get S.dead b' = none := fun b' blk' hb => by
                  simp only [get_e0, get_e1] at hb
                  split at hb
                  · rename_i e; subst e
                    injection hb with hb; subst hb
                    exact ⟨q2, hblk, hd⟩
                  · cases hb
                unfold updOf at hu
                split at hu
                · rename_i q3
                  injection hu with hu; subst hu
                  exact ⟨r2, _, [(b, blk)], rfl, hqc, hH, fun p hp => by injection hp with hp; subst hp; exact ⟨by simpa using q3, q2⟩⟩
                · obtain ⟨k1, k2⟩ := grd_some hu
                  injection k2 with k2; subst k2
                  have := smB_spec k1; subst this
                  exact ⟨r2, none, [(b, blk)], rfl, hqc.same, hH, fun p hp => by cases hp⟩
              · cases h
            · cases h
          · cases h
      · cases h
    · exact callR_sound hc h

theorem srtB_spec : ∀ {H : Heap}, srtB H = true → Srt H
  | [], _ => by simp [Srt]
  | [p], _ => by simp [Srt]
  | p :: q :: l, h => by
    simp only [srtB, Bool.and_eq_true, decide_eq_true_eq] at h
    have ih := srtB_spec h.2
    have ih' := ih
    unfold Srt at ih ⊢
    refine List.pairwise_cons.2 ⟨fun x hx => ?_, ih⟩
    rcases List.mem_cons.1 hx with hx | hx
    · rw [hx]; exact h.1
    · exact Nat.lt_trans ((List.pairwise_cons.1 ih).1 x hx) h.1

theorem okIdB_spec {ls : List LOper} {n b : Nat} {l : LOper} (h : okIdB ls n l b = true) : okId ls n l b := by
  simp only [okIdB, Bool.or_eq_true, decide_eq_true_eq, Bool.and_eq_true] at h
  rcases h with h | ⟨h0, h⟩
  · exact .inl h
  · split at h
    · rename_i lk hk
      split at h
      · rename_i d hd
        exact .inr ⟨b - n, lk, d, hk, by omega, hd, by simpa using h⟩
      · cases h
    · cases h

theorem effF_spec {all : List LOper} {Wr : RW} {S : AS} {i : Nat} {l : LOper} {e : Eff} (hg : gd S.vars l.guard = some true) (hu : get S.used (S.next + i) = none) (hc : l.op.cls = 6 ∨ l.op.cls = 7) (h : effF all Wr S i l = some e) : DEff P all Wr S l i e := by
  unfold effF at h
  simp only [opEffK_eq] at h
  split at h
  · rename_i e' he
    obtain ⟨h6, h7⟩ := grd_some h
    injection h7 with h7; subst h7
    simp only [Bool.and_eq_true, List.all_eq_true] at h6
    obtain ⟨k1, k2, k3⟩ := h6
    refine .inr ⟨hg, hu, .inr (.inr (.inr (.inr (.inr ⟨hc, he, fun b hb => okIdB_spec (k1 b hb), fun b => ?_, fun f hf => ?_⟩))))⟩
    · have : S.dead = [] := by simpa using k2
      rw [this]; rfl
    · rw [hf] at k3
      simp only at k3
      split at k3
      · rename_i g hg
        rw [of_decide_eq_true k3]; exact hg
      · cases k3
  · cases h

theorem effX_spec {all : List LOper} {Wr : RW} {S : AS} {i : Nat} {l : LOper} {e : Eff} (hg : gd S.vars l.guard = some true) (hu : get S.used (S.next + i) = none) (h : effX all Wr S i l = some e) : DEff P all Wr S l i e := by
  by_cases hF : l.op.cls = 6 ∨ l.op.cls = 7
  · have h' : effF all Wr S i l = some e := by
      unfold effX at h
      rcases hF with hF | hF <;> rw [hF] at h <;> exact h
    exact effF_spec hg hu hF h'
  refine .inr ⟨hg, hu, ?_⟩
  unfold effX at h
  simp only [opEffK_eq] at h
  split at h
  · rename_i hc; exact .inr (.inl ⟨hc, h⟩)
  · rename_i hc; exact .inr (.inr (.inr (.inr (.inl ⟨hc, h⟩))))
  · cases h
  · rename_i hc; exact absurd (.inl hc) hF
  · rename_i hc; exact absurd (.inr hc) hF
  · rename_i hc
    split at h
    · rename_i e' he
      obtain ⟨h6, h7⟩ := grd_some h
      injection h7 with h7; subst h7
      simp only [Bool.and_eq_true, List.all_eq_true, Bool.not_eq_true', List.contains_eq_mem, decide_eq_false_iff_not] at h6
      obtain ⟨k1, k2, k3, k4⟩ := h6
      refine .inr (.inr (.inr (.inl ⟨hc, he, fun b hb => ⟨okIdB_spec (k1 b hb).1, (k1 b hb).2⟩, fun b => ?_, fun b hb => ?_, srtB_spec k4⟩)))
      · have : S.dead = [] := by simpa using k2
        rw [this]; rfl
      · rw [hb] at k3; simpa using k3
    · cases h
  · rename_i h0 h2 h4 h6' h7' h5
    split at h
    · rename_i e' he
      obtain ⟨h6, h7⟩ := grd_some h
      injection h7 with h7; subst h7
      simp only [Bool.and_eq_true, List.all_eq_true, decide_eq_true_eq, Bool.not_eq_true', List.contains_eq_mem, decide_eq_false_iff_not] at h6
      have hc : l.op.cls = 1 ∨ l.op.cls = 3 := by
        have := cls_le l.op
        have a0 : l.op.cls ≠ 0 := fun h => h0 h
        have a2 : l.op.cls ≠ 2 := fun h => h2 h
        have a4 : l.op.cls ≠ 4 := fun h => h4 h
        have a5 : l.op.cls ≠ 5 := fun h => h5 h
        have a6 : l.op.cls ≠ 6 := fun h => h6' h
        have a7 : l.op.cls ≠ 7 := fun h => h7' h
        omega
      refine .inr (.inr (.inl ⟨hc, he, h6.1, fun b hb => h6.2.1 b hb, fun b hb => ?_⟩))
      have := h6.2.2
      rw [hb] at this
      simp only at this
      split at this
      · assumption
      · cases this
    · cases h

theorem runD_sound {call : Nat → List AV → ST → Option (AV × ST)} (hc : CallOK P call) {all : List LOper} {Wr : RW} : ∀ (ls : List LOper) (i : Nat) (S S' : AS) (K : AS → Prop), runD call all Wr ls i S = some S' → K S' → dRun P all Wr ls i S K
  | [], i, S, S', K, h, hK => by simp only [runD, Option.some.injEq] at h; subst h; exact hK
  | o :: os, i, S, S', K, h, hK => by
    simp only [runD] at h
    cases hg : gd S.vars o.guard with
    | none => rw [hg] at h; cases h
    | some b =>
      rw [hg] at h
      cases b with
      | false => exact ⟨_, .inl ⟨hg, rfl⟩, runD_sound hc os _ _ S' K h hK⟩
      | true =>
        simp only at h
        split at h
        · cases h
        · rename_i hu
          split at h
          · rename_i q f args ho
            split at h
            · rename_i g first caps hf
              split at h
              · rename_i e he
                obtain ⟨v, u, H, rfl, h2, h3, h4⟩ := callD_sound hc he
                exact ⟨_, .inr ⟨hg, hu, .inl ⟨q, f, args, v, H, g, first, caps, u, ho, rfl, hf, h2, h3, h4⟩⟩, runD_sound hc os _ _ S' K h hK⟩
              · cases h
            · cases h
          · split at h
            · rename_i e he
              exact ⟨e, effX_spec hg hu he, runD_sound hc os _ _ S' K h hK⟩
            · cases h

theorem callX_okG {ex : LCode → ST → Option (XE × ST)} (hL : ∀ f lf, L f = some lf → okFunc P f lf = true) (IH : ∀ c S e S', ex c S = some (e, S') → ∀ nt n0 (Q : Exit → ST → Prop), Q e.to S' → LWP P nt n0 c S Q) : CallOK P (callX L ex) := by
  intro f args S r S' h
  unfold callX at h
  split at h
  · rename_i lf hlf
    obtain ⟨h1, h2⟩ := grd_some h
    simp only [decide_eq_true_eq] at h1
    have hok := hL f lf hlf
    split at h2
    · cases h2
    · cases h2
    · rename_i e S1 hne hne2 hex
      split at h2
      · rename_i vs hvs
        injection h2 with h2; injection h2 with h3 h4; subst h3 h4
        refine ⟨rfl, fun K hK => ⟨okFunc_okFn hok, fun X φ I w cargs R ha => ?_⟩⟩
        have hb2 := body_calls (P := P) (S := S) (K := fun r S2 => r = retV vs ∧ S2 = S1) hok h1 (IH _ _ _ _ hex lf.nt S.next _ (by
          cases e with
          | normal => simp [XE.to, bodyQ, hvs]
          | ret => simp [XE.to, bodyQ, hvs]
          | goto id => exact (hne2 id rfl).elim
          | exit id => exact (hne id rfl).elim)) (X := ⟨w.heap, fun c => (X.F c ∨ X.h0.size ≤ c) ∧ ¬ I c, φ, S.next, I⟩) (φ := φ) (I := I) (w := w) (cargs := cargs) rfl
          ⟨R.heap, fun b blk c o k1 k2 => ⟨(R.live b blk c o k1 k2).1, (R.live b blk c o k1 k2).2.1, .inl ⟨(R.live b blk c o k1 k2).2.2, (R.live b blk c o k1 k2).2.1⟩⟩, R.inj, R.idom, fun c hc => .inl hc, fun c hc => hc, fun _ _ _ => rfl, Nat.le_refl _, fun _ _ h => h, fun _ _ => rfl, Nat.le_refl _⟩ ha
        refine hb2.mono fun e' w' ⟨cv, r, φ', I', S2, k1, k2, k3, ⟨k4, k5⟩, kp⟩ => ?_
        subst k4 k5
        have hnn : S.next ≤ S2.next := k2.n0
        refine ⟨cv, retV vs, φ', I', ⟨S.vars, S2.heap, S2.next⟩, k1, ?_, ?_, k3, rfl, hK, kp⟩
        · refine ⟨k2.heap, fun b blk c o q1 q2 => ?_, k2.inj, k2.idom, fun c hc => ?_, fun c hc => k2.isup c (R.isup c hc), fun c q1 q2 => ?_, Nat.le_trans R.size k2.size, fun c s q => k2.sizes c s (R.sizes c s q), fun b hb => ?_, Nat.le_trans R.n0 hnn⟩
          · obtain ⟨p1, p2, p3⟩ := k2.live b blk c o q1 q2
            refine ⟨p1, p2, ?_⟩
            rcases p3 with p3 | p3
            · exact p3.1
            · simp only at p3; exact .inr (Nat.le_trans R.size p3)
          · rcases k2.isub c hc with p | p | p
            · exact R.isub c p
            · exact .inr p.1
            · simp only at p; exact .inr (.inr (Nat.le_trans R.size p))
          · have p1 := k2.frame c (Nat.lt_of_lt_of_le q1 R.size) (fun h => by
              rcases h.1 with h | h
              · exact q2 h
              · omega)
            simp only at p1
            rw [p1]; exact R.frame c q1 q2
          · rw [k2.agree b (Nat.lt_of_lt_of_le hb R.n0)]; exact R.agree b hb
        · have hiF : ∀ c, I c → c < w.heap.size := R.idom
          refine ⟨fun c o' v q1 q2 => ?_, fun c s q => k2.sizes c s q, fun b q => ?_, fun c q => k2.isup c q, fun b q => ?_⟩
          · have p1 := k2.frame c (hiF c q1) (fun h => h.2 q1)
            simp only at p1
            simpa [hcell, p1] using q2
          · rw [ST.as_A] at q; exact k2.agree b q
          · rw [ST.as_A] at q ⊢; simp only; omega
      · cases h2
    · cases h2
  · cases h

theorem callX_ok {Z : Nat → Bool} {T : List (Nat × (List AV × AV))} {k : Nat} (hL : ∀ f lf, L f = some lf → okFunc P f lf = true) (IH : ∀ c S e S', exec L Z T k c S = some (e, S') → ∀ nt n0 (Q : Exit → ST → Prop), Q e.to S' → LWP P nt n0 c S Q) : CallOK P (callX L (exec L Z T k)) := callX_okG hL IH

theorem exec_sound {Z : Nat → Bool} {T : List (Nat × (List AV × AV))} (hT : TOK P T) (hL : ∀ f lf, L f = some lf → okFunc P f lf = true) (k : Nat) : ∀ (c : LCode) (S : ST) (e : XE) (S' : ST), exec L Z T k c S = some (e, S') → ∀ nt n0 (Q : Exit → ST → Prop), Q e.to S' → LWP P nt n0 c S Q := by
  induction k using Nat.strongRecOn with
  | _ k IHs =>
  cases k with
  | zero => intro c S e S' h; simp [exec] at h
  | succ k =>
    intro c S e S' h nt n0 Q hQ
    have IH := IHs k (by omega)
    have hc := callZ_ok (Z := Z) hT (callX_ok hL (IH))
    cases c with
    | skip => simp only [exec, Option.some.injEq, Prod.mk.injEq] at h; obtain ⟨rfl, rfl⟩ := h; exact LWP_skip hQ
    | exit id => simp only [exec, Option.some.injEq, Prod.mk.injEq] at h; obtain ⟨rfl, rfl⟩ := h; exact LWP_exit hQ
    | ret => simp only [exec, Option.some.injEq, Prod.mk.injEq] at h; obtain ⟨rfl, rfl⟩ := h; exact LWP_ret hQ
    | region ls d =>
      cases d with
      | false =>
        simp only [exec] at h
        split at h
        · rename_i S1 h1
          simp only [Option.some.injEq, Prod.mk.injEq] at h; obtain ⟨rfl, rfl⟩ := h
          exact LWP_region (runS_sound hc ls S S1 _ h1 hQ)
        · cases h
      | true =>
        simp only [exec] at h
        generalize adOf S.heap S.vars S.next ls = ad at h
        split at h
        · rename_i hok
          split at h
          · rename_i S1 h1
            simp only [Option.some.injEq, Prod.mk.injEq] at h; obtain ⟨rfl, rfl⟩ := h
            exact LWP_regionD (okAd_spec (r := ⟨wrOf S.heap S.vars ls, ad⟩) hok) (runD_sound hc ls 0 S.as S1 _ h1 hQ)
          · cases h
        · cases h
    | seq a b =>
      simp only [exec] at h
      refine LWP_seq ?_
      split at h
      · rename_i S1 h1
        exact IH _ _ _ _ h1 nt n0 _ (IH _ _ _ _ h nt n0 Q hQ)
      · rename_i h1
        refine IH _ _ _ _ h nt n0 _ ?_
        cases e with
        | normal => exact absurd h (h1 S')
        | exit id => exact hQ
        | goto l => exact hQ
        | ret => exact hQ
    | cond x a b =>
      simp only [exec] at h
      split at h
      · rename_i t hx
        refine LWP_cond hx (fun ht => ?_) (fun ht => ?_)
        · subst ht; exact IH _ _ _ _ h nt n0 Q hQ
        · subst ht; exact IH _ _ _ _ h nt n0 Q hQ
      · cases h
    | scope a =>
      simp only [exec] at h
      split at h
      · cases h
      · rename_i h1
        refine LWP_scope (IH _ _ _ _ h nt n0 _ ?_)
        cases e with
        | goto l => exact absurd h (h1 l S')
        | normal => exact hQ
        | exit id => exact hQ
        | ret => exact hQ
    | goto l => simp [exec] at h
    | jump l x y => simp [exec] at h
    | regionL ls l => simp [exec] at h
    | regionH os => simp [exec] at h
    | block id a =>
      simp only [exec] at h
      refine LWP_block ?_
      split at h
      · rename_i id' S1 h1
        refine IH _ _ _ _ h1 nt n0 _ ?_
        simp only [XE.to, blockQ]
        simp only [Option.some.injEq] at h
        by_cases hid : id' = id
        · simp only [hid, decide_true, Prod.mk.injEq] at h; obtain ⟨rfl, rfl⟩ := h
          rw [if_pos hid]; exact hQ
        · simp only [hid, decide_false, Prod.mk.injEq] at h; obtain ⟨rfl, rfl⟩ := h
          rw [if_neg hid]; exact hQ
      · rename_i h1
        refine IH _ _ _ _ h nt n0 _ ?_
        cases e with
        | normal => exact hQ
        | exit id' => exact absurd h (h1 id' S')
        | goto l => exact hQ
        | ret => exact hQ
    | loop a =>
      have key : ∀ (j : Nat), j ≤ k → ∀ (S : ST), exec L Z T (j + 1) (.loop a) S = some (e, S') →
          ∃ m, ∃ U : Nat → ST, U m = S ∧ (∀ i, i < m → LWP P nt n0 a (U (i + 1)) (seqQ (fun S2 => S2 = U i) Q)) ∧ LWP P nt n0 a (U 0) (seqQ (fun _ => False) Q) := by
        intro j
        induction j with
        | zero => intro _ S h; simp [exec] at h
        | succ j ihj =>
          intro hj S h
          have IH := IHs (j + 1) (by omega)
          rw [exec] at h
          split at h
          · rename_i S1 h1
            obtain ⟨m, U, h2, h3, h4⟩ := ihj (by omega) S1 h
            refine ⟨m + 1, fun i => if i = m + 1 then S else U i, by simp, fun i hi => ?_, ?_⟩
            · by_cases him : i = m
              · subst him
                dsimp only
                rw [if_pos rfl, if_neg (by omega), h2]
                exact IH _ _ _ _ h1 nt n0 _ rfl
              · dsimp only
                rw [if_neg (by omega), if_neg (by omega)]
                exact h3 i (by omega)
            · dsimp only
              rw [if_neg (by omega)]; exact h4
          · rename_i h1
            refine ⟨0, fun _ => S, rfl, fun i hi => by omega, IH _ _ _ _ h nt n0 _ ?_⟩
            cases e with
            | normal => exact absurd h (h1 S')
            | exit id => exact hQ
            | goto l => exact hQ
            | ret => exact hQ
      obtain ⟨m, U, h1, h2, h3⟩ := key k (Nat.le_refl _) S h
      refine LWP_loop (fun i S2 => i ≤ m ∧ S2 = U i) (m := m) ⟨Nat.le_refl _, h1.symm⟩ fun i S2 ⟨hi, hS⟩ => ?_
      subst hS
      cases i with
      | zero =>
        refine h3.mono fun e S3 h4 => ?_
        cases e <;> first | exact h4 | exact h4.elim
      | succ i =>
        refine (h2 i (by omega)).mono fun e S3 h4 => ?_
        cases e <;> first | exact h4 | exact ⟨i, by omega, by omega, h4⟩

/-- A call whose arguments are told, run to its end. -/
theorem ACalls_of_exec {Z : Nat → Bool} {T : List (Nat × (List AV × AV))} (hT : TOK P T) (hL : ∀ f lf, L f = some lf → okFunc P f lf = true) {k f : Nat} {args : List AV} {H : Heap} {n : Nat} {r : AV} {S' : ST} (h : callX L (exec L Z T k) f args ⟨[], H, n⟩ = some (r, S')) :
    ACalls P f args H n fun r' H' n' => r' = r ∧ H' = S'.heap ∧ n' = S'.next :=
  (ACalls_of_CallS ((callX_ok hL (exec_sound hT hL k) _ _ _ _ _ h).2 (fun r' S2 => r' = r ∧ S2 = S') ⟨rfl, rfl⟩)).mono fun r' H' n' ⟨S2, ⟨h1, h2⟩, h3, h4⟩ => by subst h2; exact ⟨h1, h3, h4⟩
end
end
end Go.AM

/- Tables of functions; runs that are known ahead. -/
namespace Go.AM
noncomputable section

inductive Tr where
  | em
  | nd (k : Nat) (v : LFunc) (l r : Tr)

def Tr.find (t : Tr) (x : Nat) : Option LFunc :=
  Tr.rec (motive := fun _ => Option LFunc) none (fun k v _ _ a b => Bool.casesOn (motive := fun _ => Option LFunc) (Nat.beq x k) (Bool.casesOn (motive := fun _ => Option LFunc) (Nat.ble x k) b a) (some v)) t

def Tr.Ok (P : Program) : Tr → Prop
  | .em => True
  | .nd k v l r => okFunc P k v = true ∧ (l.Ok P ∧ r.Ok P)

theorem Tr.find_ok {P : Program} : ∀ {t : Tr} {x : Nat} {lf : LFunc}, t.Ok P → t.find x = some lf → okFunc P x lf = true
  | .em, _, _, _, h => by cases h
  | .nd k v l r, x, lf0, hO, h => by
    have h' : Bool.casesOn (motive := fun _ => Option LFunc) (Nat.beq x k) (Bool.casesOn (motive := fun _ => Option LFunc) (Nat.ble x k) (r.find x) (l.find x)) (some v) = some lf0 := h
    cases hb : Nat.beq x k with
    | true =>
      rw [hb] at h'
      injection h' with h'; subst h'
      rw [Nat.eq_of_beq_eq_true hb]; exact hO.1
    | false =>
      rw [hb] at h'
      cases hc : Nat.ble x k with
      | true => rw [hc] at h'; exact Tr.find_ok hO.2.1 h'
      | false => rw [hc] at h'; exact Tr.find_ok hO.2.2 h'

/-- A call, run to its end, answers a tree. -/
def runOK (L : Nat → Option LFunc) (Z : Nat → Bool) (T : List (Nat × (List AV × AV))) (k f : Nat) (args : List AV) (r : AV) : Bool := match callX L (exec L Z T k) f args ⟨[], [], 0⟩ with
  | some (r0, S') => match deepV S'.heap 99 r0 with
    | some r2 => smV r2 r && r.pure
    | none => false
  | none => false

theorem runOK_sound {P : Program} {L : Nat → Option LFunc} {Z : Nat → Bool} {T : List (Nat × (List AV × AV))} {k f : Nat} {args : List AV} {r : AV} (hL : ∀ f lf, L f = some lf → okFunc P f lf = true) (hT : TOK P T) (h : runOK L Z T k f args r = true) : r.pure = true ∧ ACalls P f args [] 0 fun r' _ _ => r' = r := by
  unfold runOK at h
  split at h
  · rename_i r0 S' hr
    split at h
    · rename_i r2 h2
      simp only [Bool.and_eq_true] at h
      have e := smV_spec _ _ h.1
      subst e
      exact ⟨h.2, (ACalls.of_call (callX_ok hL (exec_sound hT hL k)) hr).deep0 h2⟩
    · cases h
  · cases h

theorem TOK.nil {P : Program} : TOK P [] := fun _ h => by cases h
theorem TOK.cons {P : Program} {T : List (Nat × (List AV × AV))} {f : Nat} {args : List AV} {r : AV} (h : r.pure = true ∧ ACalls P f args [] 0 fun r' _ _ => r' = r) (hT : TOK P T) : TOK P ((f, (args, r)) :: T) := fun p hp => by
  rcases List.mem_cons.1 hp with hp | hp
  · subst hp; exact h
  · exact hT p hp
end
end Go.AM

/- An argument as the statement reads it, as a tree. -/
namespace Go.AM
noncomputable section

def wtV (P : Program) : Nat → TypeId → List AV → Prop
  | 0, _, _ => False
  | n + 1, t, cs => match P.underlying t with
    | some .bool => ∃ b, cs = [.bool b]
    | some (.int k) => ∃ m, cs = [.int k m] ∧ k.min ≤ m ∧ m ≤ k.max
    | some .string => ∃ s, cs = [.str s] ∧ s.size ≤ maxLen
    | some (.slice e) => if P.cellsOf e = 0 then cs = [.any] else ∃ es, cs = [.tsl (P.cellsOf e) es] ∧ es.length ≤ maxLen ∧ ∀ x ∈ es, x.length = P.cellsOf e ∧ wtV P n e x
    | some (.struct fs) => cs.length = P.cellsOf t ∧ ∀ f ∈ fs.toList, wtV P n f.type ((cs.drop f.offset).take (P.cellsOf f.type))
    | some (.array k e) => cs.length = P.cellsOf t ∧ ∀ i, i < k → wtV P n e ((cs.drop (i * P.cellsOf e)).take (P.cellsOf e))
    | _ => cs = [.any]

mutual
/-- How much a tree holds: as the bulk of a reading counts it. -/
def AV.bulk : AV → Nat
  | .str s => s.size + 1
  | .tsl _ es => bulkR es + 1
  | .agg cs => bulkL cs
  | _ => 1
def bulkL : List AV → Nat
  | [] => 0
  | x :: l => x.bulk + bulkL l
def bulkR : List (List AV) → Nat
  | [] => 0
  | e :: l => bulkL e + bulkR l
end

mutual
def bulkD {H : Type} : DataW H → Nat
  | .lit (.string bytes) => bytes.length + 1
  | .lit _ => 1
  | .nil => 1
  | .ptr d => bulkD d + 1
  | .slice elems spare => bulkDs elems + bulkDs spare + 1
  | .agg parts => bulkDs parts + 1
  | .iface _ d => bulkD d + 1
  | .map entries => bulkDe entries + 1
  | .held _ => 1
def bulkDs {H : Type} : List (DataW H) → Nat
  | [] => 0
  | d :: r => bulkD d + bulkDs r
def bulkDe {H : Type} : List (Lit × DataW H) → Nat
  | [] => 0
  | x :: r => bulkDx x + bulkDe r
def bulkDx {H : Type} : Lit × DataW H → Nat
  | (.string bytes, d) => bytes.length + bulkD d + 1
  | (_, d) => bulkD d + 1
end

theorem bulkL_append : ∀ (a b : List AV), bulkL (a ++ b) = bulkL a + bulkL b
  | [], b => by simp [bulkL]
  | x :: a, b => by simp only [List.cons_append, bulkL, bulkL_append a b]; omega

theorem bulkD_one {H : Type} (d : DataW H) : 1 ≤ bulkD d := by
  cases d with
  | lit l => cases l <;> simp [bulkD]
  | nil => simp [bulkD]
  | ptr d => simp [bulkD]
  | slice elems spare => simp [bulkD]
  | agg parts => simp [bulkD]
  | iface t d => simp [bulkD]
  | map entries => simp [bulkD]
  | held h => simp [bulkD]

/-- Fields lie one behind the other. -/
def contF (P : Program) : List Field → Nat → Nat → Bool
  | [], o, n => decide (o = n)
  | f :: fs, o, n => decide (f.offset = o) && contF P fs (o + P.cellsOf f.type) n

def layT (P : Program) (t : TypeId) : Bool := match P.underlying t with
  | some (.struct fs) => contF P fs.toList 0 (P.cellsOf t)
  | some (.array k e) => decide (k * P.cellsOf e = P.cellsOf t)
  | _ => true

/-- The types that a type is made of. -/
def kidsT (P : Program) (t : TypeId) : List TypeId := match P.underlying t with
  | some (.struct fs) => fs.toList.map (·.type)
  | some (.array _ e) => [e]
  | some (.slice e) => [e]
  | _ => []

def layB (P : Program) : Bool := (List.range P.types.size).all fun t => layT P t && (kidsT P t).all fun e => decide (e < P.types.size)

theorem layB_spec {P : Program} (h : layB P = true) {t : TypeId} (ht : t < P.types.size) : layT P t = true ∧ ∀ e ∈ kidsT P t, e < P.types.size := by
  simp only [layB, List.all_eq_true, List.mem_range, Bool.and_eq_true, decide_eq_true_eq] at h
  exact h t ht

theorem mapM_some {α β : Type} {f : α → Option β} : ∀ (l : List α) (r : List β), l.mapM f = some r → r.length = l.length ∧ ∀ (i : Nat) (x : α), l[i]? = some x → ∃ y, f x = some y ∧ r[i]? = some y
  | [], r, h => by simp at h; subst h; simp
  | a :: l, r, h => by
    simp only [List.mapM_cons, Option.bind_eq_bind, Option.bind_eq_some_iff, Option.pure_def, Option.some.injEq] at h
    obtain ⟨y, h1, ys, h2, rfl⟩ := h
    obtain ⟨h3, h4⟩ := mapM_some _ _ h2
    refine ⟨by simp [h3], fun i x hx => ?_⟩
    cases i with
    | zero => simp at hx; subst hx; exact ⟨y, h1, by simp⟩
    | succ i => simp at hx; obtain ⟨z, h5, h6⟩ := h4 i x hx; exact ⟨z, h5, by simpa using h6⟩

section
variable {H : Type} {enc : TypeId × Value → H} {P : Program} {w : World} {spare : Nat → Bool} {held : Bool} {φ : Nat → Option (Nat × Nat)} {A : Nat → Prop}

/-- What a reading is worth. -/
def ReadsAs (P : Program) (w : World) (φ : Nat → Option (Nat × Nat)) (A : Nat → Prop) (n : Nat) (t : TypeId) (B : Nat) (cs : List Value) : Prop :=
  ∃ avs, relL w.heap φ (· < w.heap.size) A avs cs ∧ wtV P n t avs ∧ (∀ v ∈ cs, Value.oneCell' v = true) ∧ bulkL avs ≤ B

theorem drop_of_get {α : Type} {l : List α} {i : Nat} {x : α} (h : l[i]? = some x) : l.drop i = x :: l.drop (i + 1) := by
  obtain ⟨hi, rfl⟩ := List.getElem?_eq_some_iff.1 h
  exact List.drop_eq_getElem_cons hi

theorem cells_read {a : Addr} {n : Nat} {cs : List Value} (hn : n ≠ 0) (h : w.cells? 0 a n = some cs) : cs.length = n ∧ a.spot = none ∧ a.block < w.heap.size ∧ ∀ j, j < n → hcell w.heap a.block (a.off + j) = cs[j]? := by
  unfold World.cells? at h
  rw [if_pos (Nat.zero_le _)] at h
  obtain ⟨h1, h2⟩ := mapM_some _ _ h
  have h1' : cs.length = n := by simpa using h1
  have key : ∀ j, j < n → w.cell? (a.add j) = cs[j]? := fun j hj => by
    obtain ⟨y, h3, h4⟩ := h2 j j (by simp [hj])
    rw [h3, h4]
  have h0 := key 0 (by omega)
  have hs : a.spot = none := by
    cases hsp : a.spot with
    | none => rfl
    | some s =>
      exfalso
      have : w.cell? (a.add 0) = none := by
        simp only [Addr.add, if_true, World.cell?]
        split
        · simp [hsp]
        · rfl
      rw [this] at h0
      rw [List.getElem?_eq_getElem (by omega)] at h0
      cases h0
  refine ⟨h1', hs, ?_, fun j hj => ?_⟩
  · rcases Nat.lt_or_ge a.block w.heap.size with h | h
    · exact h
    · exfalso
      have : w.cell? (a.add 0) = none := by
        simp [Addr.add, World.cell?, Array.getElem?_eq_none h]
      rw [this] at h0
      rw [List.getElem?_eq_getElem (by omega)] at h0
      cases h0
  · rw [← key j hj]
    obtain ⟨b, oo, sp⟩ := a
    simp only at hs
    subst hs
    rw [addr_add, cell_hcell]

theorem assemble {cs : List Value} {n : Nat} {tot : Nat} : ∀ (fs : List Field) (xs : List (DataW H)) (o : Nat), contF P fs o tot = true → cs.length = tot → o ≤ tot →
    (∀ (i : Nat) (f : Field), fs[i]? = some f → ∃ d, xs[i]? = some d ∧ ReadsAs P w φ A n f.type (bulkD d) ((cs.drop f.offset).take (P.cellsOf f.type))) →
    ∃ avs : List AV, relL w.heap φ (· < w.heap.size) A avs (cs.drop o) ∧ (∀ f ∈ fs, wtV P n f.type ((avs.drop (f.offset - o)).take (P.cellsOf f.type)) ∧ o ≤ f.offset) ∧ (∀ v ∈ cs.drop o, Value.oneCell' v = true) ∧ bulkL avs ≤ bulkDs xs
  | [], xs, o, hc, hl, ho, _ => by
    simp only [contF, decide_eq_true_eq] at hc
    subst hc
    refine ⟨[], ?_, by simp, ?_, by simp [bulkL]⟩
    · rw [List.drop_eq_nil_of_le (by omega)]; simp [relL]
    · rw [List.drop_eq_nil_of_le (by omega)]; simp
  | f :: fs, [], o, hc, hl, ho, hr => by
    obtain ⟨d, h, _⟩ := hr 0 f rfl
    cases h
  | f :: fs, x :: xs, o, hc, hl, ho, hr => by
    simp only [contF, Bool.and_eq_true, decide_eq_true_eq] at hc
    obtain ⟨h1, h2⟩ := hc
    have hle : o + P.cellsOf f.type ≤ tot := by
      have : ∀ (fs : List Field) (o : Nat), contF P fs o tot = true → o ≤ tot := by
        intro fs
        induction fs with
        | nil => intro o h; simp only [contF, decide_eq_true_eq] at h; omega
        | cons f fs ih => intro o h; simp only [contF, Bool.and_eq_true, decide_eq_true_eq] at h; have := ih _ h.2; omega
      exact this fs _ h2
    obtain ⟨avs, k1, k2, k3, kb⟩ := assemble fs xs (o + P.cellsOf f.type) h2 hl hle (fun i g hg => by simpa using hr (i + 1) g (by simpa using hg))
    obtain ⟨d, hd, bvs, k4, k5, k6, kc⟩ := hr 0 f rfl
    simp only [List.getElem?_cons_zero, Option.some.injEq] at hd
    subst hd
    rw [h1] at k4 k6
    have hsplit : cs.drop o = (cs.drop o).take (P.cellsOf f.type) ++ cs.drop (o + P.cellsOf f.type) := by
      rw [← List.drop_drop, List.take_append_drop]
    have hbl : bvs.length = P.cellsOf f.type := by
      have := relL_length k4; simp only [List.length_take, List.length_drop] at this; omega
    refine ⟨bvs ++ avs, ?_, fun g hg => ?_, ?_, by rw [bulkL_append]; simp only [bulkDs]; omega⟩
    · rw [hsplit]; exact relL_append k4 k1
    · rcases List.mem_cons.1 hg with rfl | hg
      · rw [h1, Nat.sub_self, List.drop_zero, List.take_append_of_le_length (by omega), List.take_of_length_le (by omega)]
        exact ⟨k5, Nat.le_refl _⟩
      · obtain ⟨k7, k8⟩ := k2 g hg
        refine ⟨?_, by omega⟩
        rw [List.drop_append, List.drop_eq_nil_of_le (by omega), List.nil_append, hbl, show g.offset - o - P.cellsOf f.type = g.offset - (o + P.cellsOf f.type) by omega]
        exact k7
    · rw [hsplit]
      intro v hv
      rcases List.mem_append.1 hv with h | h
      · exact k6 v h
      · exact k3 v h

theorem assembleA {cs : List Value} {n k sz : Nat} {t : TypeId} {xs : List (DataW H)} : ∀ (m i : Nat), m + i = k → cs.length = k * sz → P.cellsOf t = sz →
    (∀ j, j < k → ∃ d, xs[j]? = some d ∧ ReadsAs P w φ A n t (bulkD d) ((cs.drop (j * sz)).take sz)) →
    ∃ avs : List AV, relL w.heap φ (· < w.heap.size) A avs (cs.drop (i * sz)) ∧ (∀ j, i ≤ j → j < k → wtV P n t ((avs.drop ((j - i) * sz)).take sz)) ∧ (∀ v ∈ cs.drop (i * sz), Value.oneCell' v = true) ∧ bulkL avs ≤ bulkDs (xs.drop i)
  | 0, i, hi, hl, _, _ => by
    have : i = k := by omega
    subst this
    refine ⟨[], ?_, fun j h1 h2 => by omega, ?_, by simp [bulkL]⟩
    · rw [List.drop_eq_nil_of_le (by omega)]; simp [relL]
    · rw [List.drop_eq_nil_of_le (by omega)]; simp
  | m + 1, i, hi, hl, hsz, hr => by
    obtain ⟨avs, k1, k2, k3, kb⟩ := assembleA m (i + 1) (by omega) hl hsz hr
    obtain ⟨d, hd, bvs, k4, k5, k6, kc⟩ := hr i (by omega)
    have hdrop := drop_of_get hd
    have hle : i * sz + sz ≤ k * sz := by
      have := Nat.mul_le_mul_right sz (show i + 1 ≤ k by omega)
      rw [Nat.add_mul] at this; omega
    have hsplit : cs.drop (i * sz) = (cs.drop (i * sz)).take sz ++ cs.drop ((i + 1) * sz) := by
      rw [Nat.add_mul, Nat.one_mul, ← List.drop_drop, List.take_append_drop]
    have hbl : bvs.length = sz := by
      have := relL_length k4; simp only [List.length_take, List.length_drop] at this; omega
    refine ⟨bvs ++ avs, ?_, fun j h1 h2 => ?_, ?_, by rw [bulkL_append, hdrop]; simp only [bulkDs]; omega⟩
    · rw [hsplit]; exact relL_append k4 k1
    · by_cases hj : j = i
      · subst hj
        rw [Nat.sub_self, Nat.zero_mul, List.drop_zero, List.take_append_of_le_length (by omega), List.take_of_length_le (by omega)]
        exact k5
      · have h3 : sz ≤ (j - i) * sz := Nat.le_mul_of_pos_left sz (by omega)
        rw [List.drop_append, List.drop_eq_nil_of_le (by omega), List.nil_append, hbl, show (j - i) * sz - sz = (j - (i + 1)) * sz by
          rw [show j - i = (j - (i + 1)) + 1 by omega, Nat.add_mul]; omega]
        exact k2 j (by omega) h2
    · rw [hsplit]
      intro v hv
      rcases List.mem_append.1 hv with h | h
      · exact k6 v h
      · exact k3 v h

theorem any_reads {n : Nat} {t : TypeId} {cs : List Value} {v : Value} {d : DataW H} (hcs : cs = [v]) (hv : Value.oneCell' v = true) (ht : wtV P n t [.any]) : ReadsAs P w φ A n t (bulkD d) cs := by
  subst hcs
  exact ⟨[.any], by simp only [relL]; exact ⟨v, [], rfl, by simp [relV], rfl⟩, ht, by simpa using hv, by have := bulkD_one d; simp only [bulkL, AV.bulk]; omega⟩

/-- Rows that are read element by element. -/
theorem rows_read {c o sz n len : Nat} {e : TypeId} {xs : List (DataW H)} (hsz : sz ≠ 0) : ∀ (m i : Nat), m + i = len → (∀ j, j < len → ∃ (ccs : List Value) (d : DataW H), ccs.length = sz ∧ (∀ q, q < sz → hcell w.heap c (o + j * sz + q) = ccs[q]?) ∧ xs[j]? = some d ∧ ReadsAs P w φ A n e (bulkD d) ccs) →
    ∃ es : List (List AV), es.length = m ∧ relR w.heap φ (· < w.heap.size) A sz es c (o + i * sz) ∧ (∀ x ∈ es, x.length = sz ∧ wtV P n e x) ∧ bulkR es ≤ bulkDs (xs.drop i)
  | 0, i, _, _ => ⟨[], rfl, by simp [relR], by simp, by simp [bulkR]⟩
  | m + 1, i, hi, hr => by
    obtain ⟨es, h1, h2, h3, hb⟩ := rows_read hsz m (i + 1) (by omega) hr
    obtain ⟨ccs, d, h4, h5, hd, avs, h6, h7, h8, h9⟩ := hr i (by omega)
    have hdrop := drop_of_get hd
    have hl : avs.length = sz := by rw [← relL_length h6, h4]
    refine ⟨avs :: es, by simp [h1], ?_, ?_, by rw [hdrop]; simp only [bulkR, bulkDs]; omega⟩
    · simp only [relR]
      refine ⟨hl, relM_of_vals h6 h8 fun q hq => h5 q (by omega), ?_⟩
      rw [show o + i * sz + sz = o + (i + 1) * sz by rw [Nat.add_mul]; omega]
      exact h2
    · intro x hx
      rcases List.mem_cons.1 hx with rfl | hx
      · exact ⟨hl, h7⟩
      · exact h3 x hx

theorem trod_reads (hL : layB P = true) : ∀ (n : Nat) (t : TypeId) (cs : List Value) (x : DataW H × List MemPlace), t < P.types.size → DataW.trod enc P w 0 spare held n t cs = some x → ReadsAs P w φ A n t (bulkD x.1) cs
  | 0, t, cs, x, _, h => by simp [DataW.trod] at h
  | n + 1, t, cs, x, ht, h => by
    obtain ⟨hlay, hkid⟩ := layB_spec hL ht
    unfold DataW.trod at h
    split at h
    · rename_i b hu
      exact ⟨[.bool b], by simp [relL, relV], by simp only [wtV, hu]; exact ⟨b, rfl⟩, by simp [Value.oneCell'], by have := bulkD_one x.1; simp only [bulkL, AV.bulk]; omega⟩
    · rename_i k k' m hu
      split at h
      · rename_i hk
        obtain ⟨rfl, hwf⟩ := hk
        simp only [Lit.wf, Bool.and_eq_true, decide_eq_true_eq] at hwf
        exact ⟨[.int k' m], by simp [relL, relV], by simp only [wtV, hu]; exact ⟨m, rfl, hwf.1, hwf.2⟩, by simp [Value.oneCell'], by have := bulkD_one x.1; simp only [bulkL, AV.bulk]; omega⟩
      · cases h
    · rename_i k k' m hu
      exact any_reads rfl rfl (by simp only [wtV, hu])
    · rename_i s hu
      split at h
      · rename_i hs
        exact ⟨[.str s], by simp [relL, relV], by simp only [wtV, hu]; exact ⟨s, rfl, hs⟩, by simp [Value.oneCell'], by
          cases h
          have he : s.data.toList.length = s.size := by rw [Array.length_toList]; rfl
          simp only [bulkL, AV.bulk, bulkD]; omega⟩
      · cases h
    · rename_i e hu
      exact any_reads rfl rfl (by simp only [wtV, hu])
    · rename_i e a hu
      exact any_reads rfl rfl (by simp only [wtV, hu])
    · rename_i e hu
      by_cases h0 : P.cellsOf e = 0
      · exact any_reads rfl rfl (by simp only [wtV, hu, h0, if_true])
      · exact ⟨[.tsl (P.cellsOf e) []], by simp [relL, relV], by simp only [wtV, hu]; rw [if_neg h0]; exact ⟨[], rfl, by simp, by simp⟩, by simp [Value.oneCell'], by have := bulkD_one x.1; simp only [bulkL, AV.bulk, bulkR]; omega⟩
    · rename_i e a len cap hu
      by_cases h0 : P.cellsOf e = 0
      · exact any_reads rfl rfl (by simp only [wtV, hu, h0, if_true])
      · simp only at h
        split at h
        · rename_i hc
          simp only [Option.bind_eq_some_iff] at h
          obtain ⟨elems, h1, hrest⟩ := h
          obtain ⟨h2, h3⟩ := mapM_some _ _ h1
          have hbx : bulkDs (elems.map (·.1)) + 1 ≤ bulkD x.1 := by
            simp only [Option.map_eq_some_iff] at hrest
            obtain ⟨rest, _, rfl⟩ := hrest
            simp only [bulkD]; omega
          have hel : ∀ j, j < len → ∃ (ccs : List Value) (d : DataW H), w.cells? 0 (a.add (j * P.cellsOf e)) (P.cellsOf e) = some ccs ∧ (elems.map (·.1))[j]? = some d ∧ ReadsAs P w φ A n e (bulkD d) ccs := fun j hj => by
            obtain ⟨y, h4, h5⟩ := h3 j j (by simp [hj])
            simp only [Option.bind_eq_some_iff] at h4
            obtain ⟨ccs, h6, h7⟩ := h4
            exact ⟨ccs, y.1, h6, by rw [List.getElem?_map, h5]; rfl, trod_reads hL n e ccs y (hkid e (by simp [kidsT, hu])) h7⟩
          by_cases hlen : len = 0
          · subst hlen
            refine ⟨[.tsl (P.cellsOf e) []], ?_, ?_, by simp [Value.oneCell'], by have := bulkD_one x.1; simp only [bulkL, AV.bulk, bulkR]; omega⟩
            · simp only [relL, relV]
              exact ⟨_, [], rfl, ⟨some a, cap, rfl, by simp, .inl trivial⟩, rfl⟩
            · simp only [wtV, hu]; rw [if_neg h0]; exact ⟨[], rfl, by simp, by simp⟩
          · have hsp : a.spot = none ∧ a.block < w.heap.size := by
              obtain ⟨ccs, _, h4, _⟩ := hel 0 (by omega)
              have := cells_read h0 h4
              simp only [Nat.zero_mul, Addr.add, if_true] at this
              exact ⟨this.2.1, this.2.2.1⟩
            obtain ⟨c, oo, sp⟩ := a
            simp only at hsp
            obtain ⟨rfl, hcs⟩ := hsp
            obtain ⟨es, h4, h5, h6, hb⟩ := rows_read (xs := elems.map (·.1)) (P := P) (w := w) (φ := φ) (A := A) (c := c) (o := oo) (n := n) (len := len) (e := e) h0 len 0 (by omega) (fun j hj => by
              obtain ⟨ccs, d, k1, kd, k2⟩ := hel j hj
              have k3 := cells_read h0 k1
              rw [addr_add] at k3
              exact ⟨ccs, d, k3.1, k3.2.2.2, kd, k2⟩)
            rw [Nat.zero_mul, Nat.add_zero] at h5
            rw [List.drop_zero] at hb
            refine ⟨[.tsl (P.cellsOf e) es], ?_, ?_, by simp [Value.oneCell'], by simp only [bulkL, AV.bulk]; omega⟩
            · simp only [relL, relV]
              exact ⟨_, [], rfl, ⟨some ⟨c, oo, none⟩, cap, by rw [h4], by rw [h4]; exact hc.2.1, .inr ⟨c, oo, rfl, hcs, h5⟩⟩, rfl⟩
            · simp only [wtV, hu]; rw [if_neg h0]; exact ⟨es, rfl, by rw [h4]; omega, h6⟩
        · cases h
    · rename_i fs hu
      unfold layT at hlay
      rw [hu] at hlay
      split at h
      · rename_i hl
        simp only [Option.map_eq_some_iff] at h
        obtain ⟨xs, h1, hx⟩ := h
        obtain ⟨h2, h3⟩ := mapM_some _ _ h1
        have hbx : bulkDs (xs.map (·.1)) ≤ bulkD x.1 := by subst hx; simp only [bulkD]; omega
        obtain ⟨avs, k1, k2, k3, kb⟩ := assemble (P := P) (w := w) (φ := φ) (A := A) (n := n) fs.toList (xs.map (·.1)) 0 hlay hl (Nat.zero_le _) (fun i f hif => by
          have hf : f ∈ fs.toList := List.mem_of_getElem? hif
          obtain ⟨y, h4, h5⟩ := h3 i _ hif
          refine ⟨y.1, by rw [List.getElem?_map, h5]; rfl, ?_⟩
          exact trod_reads hL n _ _ y (hkid _ (by simp only [kidsT, hu]; exact List.mem_map.2 ⟨_, hf, rfl⟩)) h4)
        simp only [List.drop_zero] at k1 k3
        refine ⟨avs, k1, ?_, k3, by omega⟩
        simp only [wtV, hu]
        exact ⟨by rw [← relL_length k1, hl], fun f hf => by simpa using (k2 f hf).1⟩
      · cases h
    · rename_i k e hu
      unfold layT at hlay
      rw [hu] at hlay
      simp only [decide_eq_true_eq] at hlay
      split at h
      · rename_i hl
        simp only [Option.map_eq_some_iff] at h
        obtain ⟨xs, h1, hx⟩ := h
        obtain ⟨h2, h3⟩ := mapM_some _ _ h1
        have hbx : bulkDs (xs.map (·.1)) ≤ bulkD x.1 := by subst hx; simp only [bulkD]; omega
        obtain ⟨avs, k1, k2, k3, kb⟩ := assembleA (xs := xs.map (·.1)) (P := P) (w := w) (φ := φ) (A := A) (n := n) (t := e) (cs := _) (k := k) (sz := P.cellsOf e) k 0 (by omega) (by rw [hl, hlay]) rfl (fun j hj => by
          obtain ⟨y, h4, h5⟩ := h3 j j (by simp [hj])
          refine ⟨y.1, by rw [List.getElem?_map, h5]; rfl, ?_⟩
          exact trod_reads hL n _ _ y (hkid _ (by simp [kidsT, hu])) h4)
        simp only [Nat.zero_mul, List.drop_zero] at k1 k3
        rw [List.drop_zero] at kb
        refine ⟨avs, k1, ?_, k3, by omega⟩
        simp only [wtV, hu]
        exact ⟨by rw [← relL_length k1, hl], fun j hj => by simpa using k2 j (Nat.zero_le _) hj⟩
      · cases h
    all_goals first
      | (cases h; done)
      | (rename_i hu; exact any_reads rfl rfl (by simp only [wtV, hu]))
      | (rename_i hu _; exact any_reads rfl rfl (by simp only [wtV, hu]))
      | (rename_i hu _ _; exact any_reads rfl rfl (by simp only [wtV, hu]))
      | (rename_i hu _ _ _; exact any_reads rfl rfl (by simp only [wtV, hu]))
end
end
end Go.AM

/- A law's row out of its contract: for every argument tree the call answers true. -/
namespace Go.AM
noncomputable section
open Go.ChangeShapes Go.WideShapes Go.ChangeAt Go.RowKit

/-- An argument: a struct or an array comes as one value. -/
def wtA (P : Program) (n : Nat) (t : TypeId) (a : AV) : Prop := match P.underlying t with
  | some (.struct _) | some (.array _ _) => ∃ cs, a = .agg cs ∧ wtV P n t cs
  | _ => wtV P n t [a]

def wtAll (P : Program) : List TypeId → List AV → Prop
  | [], [] => True
  | t :: ts, a :: as => (∃ n, wtA P n t a) ∧ wtAll P ts as
  | _, _ => False

section
variable {H : Type} {enc : TypeId × Value → H} {P : Program} {W W' : World} {φ : Nat → Option (Nat × Nat)} {A : Nat → Prop}

theorem not_agg {t : TypeId} {base : Nat} {v : Value} {r : Reach} (h : Cell.okWide P W r base t v) : v.cells = #[v] := by
  cases v with
  | agg cs =>
    exfalso
    revert h
    unfold Cell.okWide Cell.ok
    cases P.underlying t with
    | none => simp
    | some d => cases d <;> simp
  | _ => rfl

theorem arg_reads (hL : layB P = true) {t : TypeId} (ht : t < P.types.size) {base : Nat} {v : Value} {d : DataW H} {p : List MemPlace} (hv : Value.okWide P W .any base t v) (h : DataW.Trod enc P W 0 (fun _ => true) true t v d p) :
    ∃ a, relV W.heap φ (· < W.heap.size) A a v ∧ (∃ n, wtA P n t a) ∧ a.bulk ≤ bulkD d := by
  obtain ⟨fuel, hf⟩ := h
  obtain ⟨avs, h1, h2, h3, h4⟩ := trod_reads (φ := φ) (A := A) hL _ _ _ _ ht hf
  have one : Cell.okWide P W .any base t v → ∃ a, avs = [a] ∧ relV W.heap φ (· < W.heap.size) A a v := fun hc => by
    rw [not_agg hc] at h1
    cases avs with
    | nil => simp [relL] at h1
    | cons a l =>
      cases l with
      | nil => simp only [relL] at h1; obtain ⟨v', r, e, k, e2⟩ := h1; cases e; exact ⟨a, rfl, k⟩
      | cons b l => simp only [relL] at h1; obtain ⟨v', r, e, k, v'', r', e2, _⟩ := h1; cases e; cases e2
  have agg : (∃ cs : Array Value, v = .agg cs ∧ cs.size = P.cellsOf t ∧ Row.okWide P W .any base t cs) → relV W.heap φ (· < W.heap.size) A (.agg avs) v := fun ⟨cs, hc, _⟩ => by
    subst hc
    simp only [relV]
    exact ⟨cs.toList, by simp, h1⟩
  unfold Value.okWide at hv
  unfold wtA
  split at hv
  · rename_i fs hu
    exact ⟨.agg avs, agg hv, ⟨fuel, by rw [hu]; exact ⟨avs, rfl, h2⟩⟩, by simpa [AV.bulk] using h4⟩
  · rename_i k e hu
    exact ⟨.agg avs, agg hv, ⟨fuel, by rw [hu]; exact ⟨avs, rfl, h2⟩⟩, by simpa [AV.bulk] using h4⟩
  · rename_i hn1 hn2
    obtain ⟨a, rfl, k⟩ := one hv
    refine ⟨a, k, ⟨fuel, ?_⟩, by simpa [bulkL] using h4⟩
    split
    · rename_i hu; exact absurd hu (hn1 _)
    · rename_i hu; exact absurd hu (hn2 _ _)
    · exact h2

theorem args_read (hL : layB P = true) {base : Nat} : ∀ (ts : List TypeId) (vs : List Value) (ds : List (DataW H)) (p : List MemPlace), (∀ t ∈ ts, t < P.types.size) → (∀ (j : Nat) t v, ts[j]? = some t → vs[j]? = some v → Value.okWide P W .any base t v) →
    DataW.TrodAll enc P W 0 (fun _ => true) true ts vs ds p → ∃ as, relL W.heap φ (· < W.heap.size) A as vs ∧ wtAll P ts as ∧ bulkL as ≤ bulkDs ds
  | [], vs, ds, p, _, _, h => by
    obtain ⟨rfl, rfl, rfl⟩ := trodAll_nil h
    exact ⟨[], by simp [relL], trivial, by simp [bulkL]⟩
  | t :: ts, vs, ds, p, ht, hv, h => by
    obtain ⟨v, vs', d, ds', p', q', rfl, rfl, rfl, h1, h2⟩ := trodAll_cons h
    obtain ⟨a, k1, k2, k3⟩ := arg_reads (φ := φ) (A := A) hL (ht t (by simp)) (hv 0 t v rfl rfl) h1
    obtain ⟨as, k4, k5, k6⟩ := args_read hL ts vs' ds' q' (fun x hx => ht x (List.mem_cons_of_mem _ hx)) (fun j x y hx hy => hv (j + 1) x y (by simpa using hx) (by simpa using hy)) h2
    exact ⟨a :: as, by simp only [relL]; exact ⟨v, vs', rfl, k1, k4⟩, ⟨k2, k5⟩, by simp only [bulkL, bulkDs]; omega⟩

theorem args_stay (hO : laidOutB P = true) (bel : Below W.heap.size W W') : ∀ (ts : List TypeId) (vs : List Value) (ds : List (DataW H)) (p : List MemPlace), (∀ t ∈ ts, t < P.types.size ∧ P.readableRec t = true) →
    DataW.TrodAll enc P W 0 (fun _ => true) true ts vs ds p → DataW.TrodAll enc P W' 0 (fun b => decide (b < W.heap.size)) true ts vs ds p
  | [], vs, ds, p, _, h => by
    obtain ⟨rfl, rfl, rfl⟩ := trodAll_nil h
    exact trodAll_mk0
  | t :: ts, vs, ds, p, ht, h => by
    obtain ⟨v, vs', d, ds', p', q', rfl, rfl, rfl, h1, h2⟩ := trodAll_cons h
    have lt : ∀ x ∈ p', x.block < W.heap.size := by obtain ⟨m, hm⟩ := h1; exact DataW.trod_lt m _ _ _ hm
    exact trodAll_cons_mk (Below.trod hO (ht t (by simp)).2 (ht t (by simp)).1 h1 bel lt) (args_stay hO bel ts vs' ds' q' (fun x hx => ht x (List.mem_cons_of_mem _ hx)) h2)

/-- THE ROW'S STEP. -/
theorem law_post {f : Func} {n : FuncId} {s : ChangeSpec} {tb : TypeId} (hL : layB P = true) (hO : laidOutB P = true)
    (hps : f.params.toList.all (fun t => decide (t < P.types.size) && P.readableRec t) = true) (hres : f.resultTypes = #[tb]) (htb : P.underlying tb = some .bool)
    (hvars : s.vars = []) (hfn : ∀ ds : List (DataW H), ds.length = f.params.size → s.fn H ds = { results := [.lit (.bool true)], args := ds })
    {base : Nat} {args : Array Value} {ds gs : List (DataW H)} {before : List MemPlace}
    (hc : ∀ as, wtAll P f.params.toList as → bulkL as ≤ bulkDs (ds ++ gs) → ACalls P n as [] 0 (fun r _ _ => r = .bool true))
    (hval : ∀ (j : Nat) t v, f.params[j]? = some t → args[j]? = some v → Value.okWide P W .any base t v)
    (hW : DataW.Whole enc P f.params.toList s.vars false W args.toList ds gs before) :
    Calls P n args W fun e W' => ∃ v, e = .returned v ∧ s.post enc P f false true false false W args v W' := by
  have hW' := hW
  obtain ⟨p, q, hA, hV, rfl, hfz, hnd⟩ := hW
  rw [hvars] at hV
  obtain ⟨rfl, rfl⟩ := trodVars_none hV
  simp only [List.all_eq_true, Bool.and_eq_true, decide_eq_true_eq] at hps
  have hA' : DataW.TrodAll enc P W 0 (fun _ => true) true f.params.toList args.toList ds p := hA
  obtain ⟨as, k1, k2, k3⟩ := args_read (φ := fun _ => none) (A := (· < 0)) hL _ _ _ _ (fun t ht => (hps t ht).1) (fun j t v h1 h2 => hval j t v (by simpa using h1) (by simpa using h2)) hA'
  have hlen : ds.length = f.params.size := by
    have : ∀ (ts : List TypeId) (vs : List Value) (ds : List (DataW H)) (p : List MemPlace), DataW.TrodAll enc P W 0 (fun _ => true) true ts vs ds p → ds.length = ts.length := by
      intro ts
      induction ts with
      | nil => intro vs ds p h; obtain ⟨rfl, rfl, rfl⟩ := trodAll_nil h; rfl
      | cons t ts ih => intro vs ds p h; obtain ⟨v, vs', d, ds', p', q', rfl, rfl, rfl, h1, h2⟩ := trodAll_cons h; simp [ih _ _ _ h2]
    simpa using this _ _ _ _ hA'
  obtain ⟨_, hcalls⟩ := hc as k2 (by simpa using k3)
  have R : RelH ⟨W.heap, fun _ => False, fun _ => none, 0, (· < W.heap.size)⟩ (fun _ => none) (· < W.heap.size) ⟨[], [], 0, [], []⟩ W.heap := by
    constructor
    · intro b blk h; simp [get_e0, get_e1] at h
    · intro b blk c o h; simp [get_e0, get_e1] at h
    · intro b b' c o c' o' h; simp [get_e0, get_e1] at h
    · intro c hc; exact hc
    · intro c hc; exact .inl hc
    · intro c hc; exact hc
    · intro c _ _; rfl
    · exact Nat.le_refl _
    · intro c s h; exact h
    · intro b hb; cases hb
    · exact Nat.le_refl _
  refine (hcalls W _ _ _ args.toList R k1).mono ?_
  rintro e W' ⟨cv, r, H', n', φ', I', rfl, R', hr, rfl, hk⟩
  simp only [relV] at hr
  subst hr
  have bel : Below W.heap.size W W' := ⟨hk.1, hk.2.1, hk.2.2, R'.size, fun c hc => R'.frame c hc (by simp)⟩
  refine ⟨_, rfl, ds, [], p ++ [], [], p, [], hW', ?_, ?_, ?_, bel.frame _, fun h => by cases h⟩
  · rw [List.append_nil, hfn ds hlen, hres]
    exact trodAll_mk1 (shut_bool htb _)
  · rw [List.append_nil, hfn ds hlen]
    exact args_stay hO bel _ _ _ _ hps hA'
  · rw [hvars, List.append_nil, hfn ds hlen]
    exact rfl
end
end
end Go.AM

/- States told with less; a block that is written no more becomes a tree; loops over told states. -/
namespace Go.AM
noncomputable section

/-- What stands for 'u' stands for 'v', too. -/
def wkV (u v : AV) : Prop := ∀ (h : Array Obj) (φ : Nat → Option (Nat × Nat)) (I A : Nat → Prop) (c : Value), relV h φ I A u c → relV h φ I A v c

theorem wkV.refl (u : AV) : wkV u u := fun _ _ _ _ _ h => h
theorem wkV.trans {u v x : AV} (h : wkV u v) (k : wkV v x) : wkV u x := fun a b c d e f => k a b c d e (h a b c d e f)
theorem wkV.nils (sz : Nat) : wkV .nils (.tsl sz []) := fun _ _ _ _ _ h => by simp only [relV] at h ⊢; exact ⟨none, 0, by rw [h]; rfl, Nat.le_refl _, .inl trivial⟩
theorem wkV.tup2 {a b x y : AV} (h : wkV a x) (k : wkV b y) : wkV (.tup [a, b]) (.tup [x, y]) := fun _ _ _ _ _ H => by
  simp only [relV, relL] at H ⊢
  obtain ⟨vs, rfl, v, r, rfl, h1, v', r', rfl, h2, rfl⟩ := H
  exact ⟨_, rfl, v, _, rfl, h _ _ _ _ _ h1, v', _, rfl, k _ _ _ _ _ h2, rfl⟩

/-- 'T' tells no more than 'S'. -/
structure ST.le (T S : ST) : Prop where
  vars : ∀ x v, get T.vars x = some v → ∃ u, get S.vars x = some u ∧ wkV u v
  heap : ∀ b blk, get T.heap b = some blk → get S.heap b = some blk
  next : S.next = T.next

theorem ST.le.refl (S : ST) : S.le S := ⟨fun _ v h => ⟨v, h, .refl v⟩, fun _ _ h => h, rfl⟩

theorem get_le {α : Type} {l m : List (Nat × α)} (h : ∀ q ∈ l, get m q.1 = some q.2) : ∀ x v, get l x = some v → get m x = some v :=
  get_all (p := fun x v => get m x = some v) h

/-- The check of one state against another, row by row. -/
def leV : Vars → Vars → Prop
  | [], _ => True
  | (x, v) :: l, m => (∃ u, get m x = some u ∧ wkV u v) ∧ leV l m
theorem leV_spec : ∀ {l m : Vars}, leV l m → ∀ x v, get l x = some v → ∃ u, get m x = some u ∧ wkV u v
  | [], _, _, x, v, h => by simp [get_e0, get_e1] at h
  | (k, w) :: l, m, H, x, v, h => by
    simp only [get_e0, get_e1] at h
    split at h
    · rename_i e; subst e; cases h; exact H.1
    · exact leV_spec H.2 x v h
theorem ST.le.mk' {T S : ST} (hv : leV T.vars S.vars) (hh : ∀ b blk, get T.heap b = some blk → get S.heap b = some blk) (hn : S.next = T.next) : T.le S := ⟨leV_spec hv, hh, hn⟩

theorem RelS.sub {X : Ctx} {φ : Nat → Option (Nat × Nat)} {I : Nat → Prop} {S T : ST} {nt : Nat} {a : Act} {h : Array Obj} (R : RelS X φ I S nt a h) (L : T.le S) : RelS X φ I T nt a h := by
  have hA : S.as.A = T.as.A := by funext b; simp only [AS.A, ST.as, L.next]
  refine ⟨?_, ⟨fun x v hx => ?_, R.A.nt, R.A.defers⟩⟩
  · refine RelH.conv (S := { S.as with vars := S.vars, heap := T.heap, dead := [] }) (R.H.sub (H := T.heap) (D := []) (vs := S.vars) L.heap fun _ _ _ => rfl) ?_ rfl (fun _ => rfl) (Nat.le_of_eq L.next)
    rw [← hA]; rfl
  · rw [← hA]; obtain ⟨u, h1, h2⟩ := L.vars x v hx; exact h2 _ _ _ _ _ (R.A.vars x u h1)

section
variable {P : Program} {nt n0 : Nat} {S T : ST} {Q : Exit → ST → Prop}

theorem LWP_sub {lc : LCode} (L : T.le S) (h : LWP P nt n0 lc T Q) : LWP P nt n0 lc S Q :=
  fun c hc X φ I a w hn R => h c hc X φ I a w hn (R.sub L)

/-- A loop, its state told by a parameter. -/
theorem LWP_inv {α : Type} {x : LCode} (T : α → ST) (μ : α → Nat) (C : α → Prop) (a0 : α) (hL : (T a0).le S) (h0 : C a0)
    (h : ∀ a, C a → LWP P nt n0 x (T a) (seqQ (fun S' => ∃ a', C a' ∧ μ a' < μ a ∧ (T a').le S') Q)) : LWP P nt n0 (.loop x) S Q := by
  refine LWP_sub hL (LWP_loop (fun m S => ∃ a, C a ∧ μ a = m ∧ (T a).le S) (m := μ a0) ⟨a0, h0, rfl, ST.le.refl _⟩ ?_)
  rintro m S ⟨a, hc, rfl, hs⟩
  refine LWP_sub hs (LWP.mono (h a hc) fun e S' he => ?_)
  cases e with
  | normal => obtain ⟨a', k1, k2, k3⟩ := he; exact ⟨_, k2, a', k1, rfl, k3⟩
  | _ => exact he
end

/-! ### Freezing -/
mutual
/-- A value as it reads where the block 'b', of the rows 'es', is written no more. -/
def frzV (b sz : Nat) (es : List (List AV)) : AV → AV
  | .ptr sz' b' i j => if b' = b then (if sz' = sz ∧ i < es.length then .cptr ((es.getD i []).drop j) else .any) else .ptr sz' b' i j
  | .sl sz' b' i n => if b' = b then (if sz' = sz ∧ i + n ≤ es.length then .tsl sz ((es.drop i).take n) else .any) else .sl sz' b' i n
  | .cptr cs => .cptr (frzL b sz es cs)
  | .tsl s l => .tsl s (frzR b sz es l)
  | .fn f fs cs => .fn f (frzL b sz es fs) (frzL b sz es cs)
  | .iface t v => .iface t (frzV b sz es v)
  | .agg cs => .agg (frzL b sz es cs)
  | .tup cs => .tup (frzL b sz es cs)
  | v => v
def frzL (b sz : Nat) (es : List (List AV)) : List AV → List AV
  | [] => []
  | v :: l => frzV b sz es v :: frzL b sz es l
def frzR (b sz : Nat) (es : List (List AV)) : List (List AV) → List (List AV)
  | [] => []
  | v :: l => frzL b sz es v :: frzR b sz es l
end

def frzE (b sz : Nat) (es : List (List AV)) : List (AV × AV) → List (AV × AV)
  | [] => []
  | (k, v) :: l => (frzV b sz es k, frzV b sz es v) :: frzE b sz es l

def frzB (b sz : Nat) (es : List (List AV)) : Blk → Blk
  | .rows s l => .rows s (frzR b sz es l)
  | .mp l => .mp (frzE b sz es l)
  | .it s pos => .it s pos

def mapS {α β : Type} (f : α → β) : List (Nat × α) → List (Nat × β)
  | [] => []
  | (x, v) :: l => (x, f v) :: mapS f l

theorem get_mapS {α β : Type} (f : α → β) : ∀ (l : List (Nat × α)) (x : Nat), get (mapS f l) x = (get l x).map f
  | [], x => rfl
  | (k, v) :: l, x => by
    simp only [mapS, get_e0, get_e1]
    by_cases h : k = x
    · simp [h]
    · simp [h, get_mapS f l x]

section
variable {h : Array Obj} {φ : Nat → Option (Nat × Nat)} {I I' A : Nat → Prop} {b sz : Nat} {es : List (List AV)}

theorem frzR_length : ∀ l : List (List AV), (frzR b sz es l).length = l.length
  | [] => rfl
  | _ :: l => by simp [frzR, frzR_length l]
theorem frzL_length : ∀ l : List AV, (frzL b sz es l).length = l.length
  | [] => rfl
  | _ :: l => by simp [frzL, frzL_length l]

mutual
theorem frzV_rel (hI : ∀ c, I c → I' c) (hb : (φ b = none ∧ es = []) ∨ ∃ c o, φ b = some (c, o) ∧ I' c ∧ relR h φ I' A sz es c o) : ∀ (x : AV) (v : Value), relV h φ I A x v → relV h φ I' A (frzV b sz es x) v
  | .any, _, _ => by simp [frzV, relV]
  | .bool _, _, H => by simpa [frzV, relV] using H
  | .int _ _, _, H => by simpa [frzV, relV] using H
  | .str _, _, H => by simpa [frzV, relV] using H
  | .nilp, _, H => by simpa [frzV, relV] using H
  | .nils, _, H => by simpa [frzV, relV] using H
  | .nilm, _, H => by simpa [frzV, relV] using H
  | .nilf, _, H => by simpa [frzV, relV] using H
  | .nili, _, H => by simpa [frzV, relV] using H
  | .map _, _, H => by simpa [frzV, relV] using H
  | .ptr sz' b' i j, v, H => by
    simp only [relV] at H
    obtain ⟨h1, c, o, h2, h3⟩ := H
    simp only [frzV]
    split
    · rename_i e; subst e
      split
      · rename_i hc
        obtain ⟨rfl, hi⟩ := hc
        rcases hb with ⟨k1, _⟩ | ⟨c', o', k1, k2, k3⟩
        · rw [k1] at h2; cases h2
        · rw [k1] at h2; cases h2
          simp only [relV]
          exact ⟨c, _, h3, k2, relM_drop j (relR_get k3 hi).2⟩
      · simp [relV]
    · simp only [relV]; exact ⟨h1, c, o, h2, h3⟩
  | .sl sz' b' i n, v, H => by
    simp only [relV] at H
    obtain ⟨h1, base, cap, h2, h3⟩ := H
    simp only [frzV]
    split
    · rename_i e; subst e
      split
      · rename_i hc
        obtain ⟨rfl, hi⟩ := hc
        have hlen : ((es.drop i).take n).length = n := by simp; omega
        simp only [relV, hlen]
        rcases h3 with ⟨h3, h4⟩ | ⟨c, o, s, h3, h4, h5, _, _⟩
        · subst h3
          exact ⟨base, cap, h2, Nat.zero_le _, .inl (by simp)⟩
        · refine ⟨base, cap, h2, h5, ?_⟩
          rcases hb with ⟨k1, _⟩ | ⟨c', o', k1, k2, k3⟩
          · rw [k1] at h3; cases h3
          · rw [k1] at h3; cases h3
            exact .inr ⟨c, _, h4, k2, relR_take n (relR_drop i k3 (by omega))⟩
      · simp [relV]
    · simp only [relV]; exact ⟨h1, base, cap, h2, h3⟩
  | .cptr cs, v, H => by
    simp only [relV] at H
    simp only [frzV, relV]
    obtain ⟨c, o, h1, h2, h3⟩ := H
    exact ⟨c, o, h1, hI _ h2, frzM_rel hI hb cs c o h3⟩
  | .tsl s l, v, H => by
    simp only [relV] at H
    simp only [frzV, relV, frzR_length]
    obtain ⟨base, cap, h1, h2, h3⟩ := H
    refine ⟨base, cap, h1, h2, ?_⟩
    rcases h3 with h3 | ⟨c, o, h3, h4, h5⟩
    · subst h3; exact .inl rfl
    · exact .inr ⟨c, o, h3, hI _ h4, frzR_rel hI hb s l c o h5⟩
  | .fn f fs cs, v, H => by
    simp only [relV] at H
    simp only [frzV, relV]
    obtain ⟨fs', cs', h1, h2, h3⟩ := H
    exact ⟨fs', cs', h1, frzL_rel hI hb fs fs' h2, frzL_rel hI hb cs cs' h3⟩
  | .iface t x, v, H => by
    simp only [relV] at H
    simp only [frzV, relV]
    obtain ⟨y, h1, h2⟩ := H
    exact ⟨y, h1, frzV_rel hI hb x y h2⟩
  | .agg cs, v, H => by
    simp only [relV] at H
    simp only [frzV, relV]
    obtain ⟨vs, h1, h2⟩ := H
    exact ⟨vs, h1, frzL_rel hI hb cs vs h2⟩
  | .tup cs, v, H => by
    simp only [relV] at H
    simp only [frzV, relV]
    obtain ⟨vs, h1, h2⟩ := H
    exact ⟨vs, h1, frzL_rel hI hb cs vs h2⟩
theorem frzM_rel (hI : ∀ c, I c → I' c) (hb : (φ b = none ∧ es = []) ∨ ∃ c o, φ b = some (c, o) ∧ I' c ∧ relR h φ I' A sz es c o) : ∀ (cs : List AV) (c o : Nat), relM h φ I A cs c o → relM h φ I' A (frzL b sz es cs) c o
  | [], _, _, _ => by simp [frzL, relM]
  | x :: cs, c, o, H => by
    simp only [relM] at H
    simp only [frzL, relM]
    obtain ⟨⟨v, h1, h0, h2⟩, h3⟩ := H
    exact ⟨⟨v, h1, h0, frzV_rel hI hb x v h2⟩, frzM_rel hI hb cs c (o + 1) h3⟩
theorem frzR_rel (hI : ∀ c, I c → I' c) (hb : (φ b = none ∧ es = []) ∨ ∃ c o, φ b = some (c, o) ∧ I' c ∧ relR h φ I' A sz es c o) (s : Nat) : ∀ (l : List (List AV)) (c o : Nat), relR h φ I A s l c o → relR h φ I' A s (frzR b sz es l) c o
  | [], _, _, _ => by simp [frzR, relR]
  | e :: l, c, o, H => by
    simp only [relR] at H
    simp only [frzR, relR, frzL_length]
    exact ⟨H.1, frzM_rel hI hb e c o H.2.1, frzR_rel hI hb s l c (o + s) H.2.2⟩
theorem frzL_rel (hI : ∀ c, I c → I' c) (hb : (φ b = none ∧ es = []) ∨ ∃ c o, φ b = some (c, o) ∧ I' c ∧ relR h φ I' A sz es c o) : ∀ (l : List AV) (vs : List Value), relL h φ I A l vs → relL h φ I' A (frzL b sz es l) vs
  | [], vs, H => by simpa [frzL, relL] using H
  | x :: l, vs, H => by
    simp only [relL] at H
    simp only [frzL, relL]
    obtain ⟨v, r, h1, h2, h3⟩ := H
    exact ⟨v, r, h1, frzV_rel hI hb x v h2, frzL_rel hI hb l r h3⟩
end

theorem frzE_rel (hI : ∀ c, I c → I' c) (hb : (φ b = none ∧ es = []) ∨ ∃ c o, φ b = some (c, o) ∧ I' c ∧ relR h φ I' A sz es c o) : ∀ (l : List (AV × AV)) (vs : List MapEntry), relE h φ I A l vs → relE h φ I' A (frzE b sz es l) vs
  | [], vs, H => by simpa [frzE, relE] using H
  | (k, x) :: l, vs, H => by
    simp only [relE] at H
    simp only [frzE, relE]
    obtain ⟨e, r, h1, h2, h3, h4⟩ := H
    exact ⟨e, r, h1, frzV_rel hI hb k _ h2, frzV_rel hI hb x _ h3, frzE_rel hI hb l r h4⟩

/-- The state where the block 'b' is written no more. -/
def ST.frz (S : ST) (b sz : Nat) (es : List (List AV)) : ST := ⟨mapS (frzV b sz es) S.vars, mapS (frzB b sz es) (del b S.heap), S.next⟩

theorem RelS.frz {X : Ctx} {S : ST} {nt : Nat} {a : Act} (R : RelS X φ I S nt a h) (hb : get S.heap b = some (.rows sz es)) : ∃ I', RelS X φ I' (S.frz b sz es) nt a h := by
  have hA : (S.frz b sz es).as.A = S.as.A := by funext x; simp [ST.as, ST.frz, AS.A]
  have hR := (R.H.heap b _ hb).2
  simp only [relB] at hR
  have hget : ∀ b' blk, get (S.frz b sz es).as.heap b' = some blk → b' ≠ b ∧ ∃ blk0, get S.heap b' = some blk0 ∧ blk = frzB b sz es blk0 := fun b' blk h1 => by
    have h1' : get (mapS (frzB b sz es) (del b S.heap)) b' = some blk := h1
    rw [get_mapS, get_del] at h1'
    split at h1'
    · simp at h1'
    · rename_i hne
      simp only [Option.map_eq_some_iff] at h1'
      obtain ⟨x, k1, k2⟩ := h1'
      exact ⟨fun e => hne e.symm, x, k1, k2.symm⟩
  have hsome : ∀ b', get (S.frz b sz es).as.heap b' ≠ none → b' ≠ b ∧ get S.heap b' ≠ none := fun b' h1 => by
    cases h2 : get (S.frz b sz es).as.heap b' with
    | none => exact absurd h2 h1
    | some blk => obtain ⟨k1, x, k2, _⟩ := hget _ _ h2; exact ⟨k1, by rw [k2]; simp⟩
  let I' : Nat → Prop := fun c => I c ∨ ∃ o, φ b = some (c, o)
  have hI : ∀ c, I c → I' c := fun c hc => .inl hc
  have hrel0 : (φ b = none ∧ es = []) ∨ ∃ c o, φ b = some (c, o) ∧ I' c ∧ relR h φ I' S.as.A sz es c o := by
    rcases hR with hR | ⟨c, o, cs, el, h1, h2, h3⟩
    · exact .inl hR
    · refine .inr ⟨c, o, h1, .inr ⟨o, h1⟩, ?_⟩
      exact relR_mono (⟨fun _ _ _ _ h => h, fun _ _ h => h, fun _ _ => rfl, hI, fun _ h => h⟩ : Ext h φ I S.as.A h φ I' S.as.A) sz es c o (fun _ _ h => h) h3
  refine ⟨I', ⟨?_, ⟨fun x v hx => ?_, R.A.nt, R.A.defers⟩⟩⟩
  · refine ⟨fun b' blk h1 => ?_, fun b' blk c o h1 h2 => ?_, fun b1 b2 c o c' o' h1 h2 h3 _ h5 h6 => ?_, fun c hc => ?_, fun c hc => ?_, fun c hc => hI _ (R.H.isup c hc), R.H.frame, R.H.size, R.H.sizes, R.H.agree, R.H.n0⟩
    · obtain ⟨_, blk0, k1, rfl⟩ := hget _ _ h1
      obtain ⟨k2, k3⟩ := R.H.heap b' blk0 k1
      rw [hA]
      refine ⟨k2, ?_⟩
      cases blk0 with
      | rows s l =>
        simp only [relB] at k3
        simp only [frzB, relB]
        rcases k3 with ⟨k3, k4⟩ | ⟨c, o, cs, el, k3, k4, k5⟩
        · subst k4; exact .inl ⟨k3, rfl⟩
        · exact .inr ⟨c, o, cs, el, k3, k4, frzR_rel hI hrel0 s l c o k5⟩
      | mp l =>
        simp only [relB] at k3
        simp only [frzB, relB]
        obtain ⟨c, ees, clk, k4, k5, k6⟩ := k3
        exact ⟨c, ees, clk, k4, k5, frzE_rel hI hrel0 l _ k6⟩
      | it s pos =>
        simp only [relB] at k3
        simp only [frzB, relB]
        exact k3
    · obtain ⟨hne, blk0, k1, rfl⟩ := hget _ _ h1
      obtain ⟨k2, k3, k4⟩ := R.H.live b' blk0 c o k1 h2
      refine ⟨k2, fun hc => ?_, k4⟩
      rcases hc with hc | ⟨o', hc⟩
      · exact k3 hc
      · exact R.H.inj b' b c o c o' (by rw [show get S.as.heap b' = some blk0 from k1]; simp) (by rw [show get S.as.heap b = _ from hb]; simp) hne (.inl ⟨rfl, rfl⟩) h2 hc rfl
    · exact R.H.inj b1 b2 c o c' o' (hsome _ h1).2 (hsome _ h2).2 h3 (.inl ⟨rfl, rfl⟩) h5 h6
    · rcases hc with hc | ⟨o, hc⟩
      · exact R.H.idom c hc
      · exact (R.H.live b _ c o hb hc).1
    · rcases hc with hc | ⟨o, hc⟩
      · exact R.H.isub c hc
      · exact .inr (R.H.live b _ c o hb hc).2.2
  · have hx' : get (mapS (frzV b sz es) S.vars) x = some v := hx
    rw [get_mapS] at hx'
    simp only [Option.map_eq_some_iff] at hx'
    obtain ⟨v0, k1, rfl⟩ := hx'
    rw [hA]
    exact frzV_rel hI hrel0 v0 _ (R.A.vars x v0 k1)
end

theorem LWP_frz {P : Program} {nt n0 : Nat} {S : ST} {Q : Exit → ST → Prop} {lc : LCode} (b : Nat) {sz : Nat} {es : List (List AV)} (hb : get S.heap b = some (.rows sz es)) (h : LWP P nt n0 lc (S.frz b sz es) Q) : LWP P nt n0 lc S Q :=
  fun c hc X φ I a w hn R => by
    obtain ⟨I', R'⟩ := R.frz hb
    exact h c hc X φ I' a w hn R'

mutual
/-- What holds no block is not touched. -/
theorem frzV_pure (b sz : Nat) (es : List (List AV)) : ∀ x : AV, x.pure = true → frzV b sz es x = x
  | .any, _ => rfl
  | .bool _, _ => rfl
  | .int _ _, _ => rfl
  | .str _, _ => rfl
  | .nilp, _ => rfl
  | .nils, _ => rfl
  | .nilm, _ => rfl
  | .nilf, _ => rfl
  | .nili, _ => rfl
  | .map _, _ => rfl
  | .ptr _ _ _ _, h => by simp [AV.pure] at h
  | .sl _ _ _ _, h => by simp [AV.pure] at h
  | .cptr cs, h => by simp only [AV.pure] at h; simp only [frzV, frzL_pure b sz es cs h]
  | .tsl _ l, h => by simp only [AV.pure] at h; simp only [frzV, frzR_pure b sz es l h]
  | .fn _ fs cs, h => by simp only [AV.pure, Bool.and_eq_true] at h; simp only [frzV, frzL_pure b sz es fs h.1, frzL_pure b sz es cs h.2]
  | .iface _ v, h => by simp only [AV.pure] at h; simp only [frzV, frzV_pure b sz es v h]
  | .agg cs, h => by simp only [AV.pure] at h; simp only [frzV, frzL_pure b sz es cs h]
  | .tup cs, h => by simp only [AV.pure] at h; simp only [frzV, frzL_pure b sz es cs h]
theorem frzL_pure (b sz : Nat) (es : List (List AV)) : ∀ l : List AV, pureL l = true → frzL b sz es l = l
  | [], _ => rfl
  | x :: l, h => by simp only [pureL, Bool.and_eq_true] at h; simp only [frzL, frzV_pure b sz es x h.1, frzL_pure b sz es l h.2]
theorem frzR_pure (b sz : Nat) (es : List (List AV)) : ∀ l : List (List AV), pureR l = true → frzR b sz es l = l
  | [], _ => rfl
  | x :: l, h => by simp only [pureR, Bool.and_eq_true] at h; simp only [frzR, frzL_pure b sz es x h.1, frzR_pure b sz es l h.2]
end
end
end Go.AM

/- Arguments, read by their types. -/
namespace Go.AM
noncomputable section
section
variable {P : Program} {n : Nat} {t e : TypeId} {cs : List AV} {a : AV}

theorem wtV_slice {sz : Nat} (hu : P.underlying t = some (.slice e)) (hs : P.cellsOf e = sz) (h0 : sz ≠ 0) (h : wtV P n t cs) : ∃ m es, cs = [.tsl sz es] ∧ es.length ≤ maxLen ∧ ∀ x ∈ es, x.length = sz ∧ wtV P m e x := by
  cases n with
  | zero => exact h.elim
  | succ n =>
    subst hs
    simp only [wtV, hu] at h
    rw [if_neg h0] at h
    obtain ⟨es, h1, h2, h3⟩ := h
    exact ⟨n, es, h1, h2, h3⟩

theorem wtV_int {k : IntKind} (hu : P.underlying t = some (.int k)) (h : wtV P n t cs) : ∃ m, cs = [.int k m] ∧ k.min ≤ m ∧ m ≤ k.max := by
  cases n with
  | zero => exact h.elim
  | succ n => simpa only [wtV, hu] using h

theorem wtV_bool (hu : P.underlying t = some .bool) (h : wtV P n t cs) : ∃ b, cs = [.bool b] := by
  cases n with
  | zero => exact h.elim
  | succ n => simpa only [wtV, hu] using h

theorem wtV_str (hu : P.underlying t = some .string) (h : wtV P n t cs) : ∃ s, cs = [.str s] ∧ s.size ≤ maxLen := by
  cases n with
  | zero => exact h.elim
  | succ n => simpa only [wtV, hu] using h

theorem wtV_struct {fs : Array Field} (hu : P.underlying t = some (.struct fs)) (h : wtV P n t cs) : ∃ m, cs.length = P.cellsOf t ∧ ∀ f ∈ fs.toList, wtV P m f.type ((cs.drop f.offset).take (P.cellsOf f.type)) := by
  cases n with
  | zero => exact h.elim
  | succ n => exact ⟨n, by simpa only [wtV, hu] using h⟩

theorem wtA_slice (hu : P.underlying t = some (.slice e)) (h : wtA P n t a) : wtV P n t [a] := by
  simpa only [wtA, hu] using h
theorem wtA_int {k : IntKind} (hu : P.underlying t = some (.int k)) (h : wtA P n t a) : ∃ m, a = .int k m ∧ k.min ≤ m ∧ m ≤ k.max := by
  have h' : wtV P n t [a] := by simpa only [wtA, hu] using h
  obtain ⟨m, h1, h2⟩ := wtV_int hu h'
  cases h1
  exact ⟨m, rfl, h2⟩
theorem wtA_str (hu : P.underlying t = some .string) (h : wtA P n t a) : ∃ s, a = .str s ∧ s.size ≤ maxLen := by
  have h' : wtV P n t [a] := by simpa only [wtA, hu] using h
  obtain ⟨m, h1, h2⟩ := wtV_str hu h'
  cases h1
  exact ⟨m, rfl, h2⟩
theorem wtA_bool (hu : P.underlying t = some .bool) (h : wtA P n t a) : ∃ b, a = .bool b := by
  have h' : wtV P n t [a] := by simpa only [wtA, hu] using h
  obtain ⟨m, h1⟩ := wtV_bool hu h'
  cases h1
  exact ⟨m, rfl⟩
theorem wtA_struct {fs : Array Field} (hu : P.underlying t = some (.struct fs)) (h : wtA P n t a) : ∃ cs, a = .agg cs ∧ wtV P n t cs := by
  simpa only [wtA, hu] using h

theorem map_of {α β : Type} {f : α → β} {C : α → Prop} : ∀ {es : List β}, (∀ x ∈ es, ∃ y, x = f y ∧ C y) → ∃ ys : List α, es = ys.map f ∧ ∀ y ∈ ys, C y
  | [], _ => ⟨[], rfl, by simp⟩
  | x :: es, h => by
    obtain ⟨y, h1, h2⟩ := h x (by simp)
    obtain ⟨ys, h3, h4⟩ := map_of (f := f) (C := C) (es := es) fun z hz => h z (List.mem_cons_of_mem _ hz)
    exact ⟨y :: ys, by rw [h1, h3]; rfl, by simpa using ⟨h2, h4⟩⟩

theorem len3 {cs : List AV} (h : cs.length = 3) : ∃ a b c, cs = [a, b, c] := by
  match cs, h with
  | [a, b, c], _ => exact ⟨a, b, c, rfl⟩
end
end
end Go.AM
