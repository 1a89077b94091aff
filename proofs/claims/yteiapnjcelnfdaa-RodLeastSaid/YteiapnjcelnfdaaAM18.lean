/- The theorem on drawn orders; rules for code. -/
import Derived.Test.YteiapnjcelnfdaaAM17
set_option linter.unusedSimpArgs false
set_option linter.unusedVariables false
namespace Go.AM

section
variable {P : Program} {X : Ctx} {φ : Nat → Option (Nat × Nat)} {I : Nat → Prop} {S : AS} {nt : Nat} {a : Act} {w : World} {ops : Array Oper} {ls : List LOper} {md : Region.Mode}

def aOp (P : Program) (ls : List LOper) (i : Nat) (K : AS → Prop) (S : AS) : Prop := match ls[i]? with
  | none => False
  | some l => ∃ e, DEff P S l i e ∧ K (S.appD l i e)

theorem aOp_mono {i : Nat} {K K' : AS → Prop} (h : ∀ S, K S → K' S) (H : aOp P ls i K S) : aOp P ls i K' S := by
  unfold aOp at *
  split
  · rename_i h1; rw [h1] at H; exact H
  · rename_i l h1; rw [h1] at H; obtain ⟨e, h2, h3⟩ := H; exact ⟨e, h2, h _ h3⟩

def anyA (P : Program) (md : Region.Mode) (ops : Array Oper) (ls : List LOper) (Q : AS → Prop) : Nat → Array Bool → AS → Prop
  | 0, listed, S => Region.ready md ops listed = [] ∧ Q S
  | fuel + 1, listed, S => (Region.ready md ops listed = [] → Q S) ∧ ∀ i ∈ Region.ready md ops listed, aOp P ls i (anyA P md ops ls Q fuel (listed.setIfInBounds i true)) S

theorem okOpers_get : ∀ {os : List Oper} {ls : List LOper} {i : Nat} {l : LOper}, okOpers P nt ops os ls = true → ls[i]? = some l → ∃ o, os[i]? = some o ∧ okOper P nt ops o l = true
  | [], [], i, l, _, h => by simp at h
  | o :: os, m :: ls, i, l, hok, h => by
    simp only [okOpers, Bool.and_eq_true] at hok
    cases i with
    | zero => simp at h; subst h; exact ⟨o, by simp, hok.1⟩
    | succ i => simp at h; obtain ⟨o', h1, h2⟩ := okOpers_get hok.2 h; exact ⟨o', by simpa using h1, h2⟩
  | [], _ :: _, _, _, hok, _ => by simp [okOpers] at hok
  | _ :: _, [], _, _, hok, _ => by simp [okOpers] at hok

/-- In whatever order. -/
theorem anyA_sound {Q : AS → Prop} {Q' : Exit → Act → World → Prop} (hok : okOpers P nt ops ops.toList ls = true) {w0 : World} (hQ : ∀ φ' I' S' a' w', Q S' → RelH X φ' I' S' w'.heap → RelA φ' I' S' nt a' w'.heap → Keep w0 w' → Q' .normal a' w') :
    ∀ (fuel : Nat) (listed : Array Bool) (S : AS) (φ : Nat → Option (Nat × Nat)) (I : Nat → Prop) (a : Act) (w : World), RelH X φ I S w.heap → RelA φ I S nt a w.heap → Keep w0 w → DInv S → anyA P md ops ls Q fuel listed S → wpAny P md ops Q' fuel listed a w
  | 0, _, S, φ, I, a, w, R, RA, kp, _, h => ⟨h.1, hQ φ I S a w h.2 R RA kp⟩
  | fuel + 1, listed, S, φ, I, a, w, R, RA, kp, hD, h => ⟨fun h0 => hQ φ I S a w (h.1 h0) R RA kp, fun i hi => by
    have h1 := h.2 i hi
    unfold aOp at h1
    split at h1
    · exact h1.elim
    · rename_i l hl
      obtain ⟨e, h2, h3⟩ := h1
      obtain ⟨o, h4, h5⟩ := okOpers_get hok hl
      have h6 : ops[i]? = some o := by rw [← Array.getElem?_toList]; exact h4
      have h7 := DEff.step (Q := Q') (K := wpAny P md ops Q' fuel (listed.setIfInBounds i true)) R RA hD h5 h2 (fun φ' I' a' w' k1 k2 k3 => anyA_sound hok hQ fuel _ _ φ' I' a' w' k1 k2 (kp.trans k3) (hD.app h2) h3)
      unfold wpOp
      simp only [h6]
      split
      · rename_i hw; rw [if_pos hw] at h7; exact .inl h7
      · rename_i hw; rw [if_neg hw] at h7; exact h7⟩

theorem anyA_first {Q : AS → Prop} {i : Nat} {li : LOper} {ei : Eff} (hi : ls[i]? = some li) (hlen : ls.length = ops.size) :
    ∀ (fuel : Nat) (listed : Array Bool) (S : AS), (∀ j lj oj, ls[j]? = some lj → ops[j]? = some oj → j ≠ i → listed.getD j true = false → (∀ e ∈ oj.after, Region.binds md e = true → e.on ≠ i) → apartL li lj = true ∧ clsOK li lj = true) →
      i ∈ Region.ready md ops listed → DEff P S li i ei → anyA P md ops ls Q fuel (listed.setIfInBounds i true) (S.appD li i ei) → anyA P md ops ls Q (fuel + 1) listed S := by
  have hop : ∀ {S : AS} {K : AS → Prop}, DEff P S li i ei → K (S.appD li i ei) → aOp P ls i K S := fun h1 h2 => by unfold aOp; rw [hi]; exact ⟨ei, h1, h2⟩
  intro fuel
  induction fuel with
  | zero =>
    intro listed S _ hr hy H
    refine ⟨fun h => (by rw [h] at hr; cases hr), fun j hj => ?_⟩
    by_cases hji : j = i
    · subst hji; exact hop hy H
    · have := ready_mono hj hji
      rw [H.1] at this
      cases this
  | succ fuel ih =>
    intro listed S hfree hr hy H
    refine ⟨fun h => (by rw [h] at hr; cases hr), fun j hj => ?_⟩
    by_cases hji : j = i
    · subst hji; exact hop hy H
    · have h1 := H.2 j (ready_mono hj hji)
      obtain ⟨hjun, oj, hoj, hall⟩ := mem_ready.1 hj
      have hjl : j < ls.length := by
        rw [hlen]
        rcases Nat.lt_or_ge j ops.size with h | h
        · exact h
        · rw [Array.getElem?_eq_none h] at hoj; cases hoj
      have hlj : ls[j]? = some ls[j] := List.getElem?_eq_getElem hjl
      have hnot : ∀ e ∈ oj.after, Region.binds md e = true → e.on ≠ i := fun e he hb heq => by
        have h1 := hall e he hb
        have h0 := (mem_ready.1 hr).1
        rw [heq] at h1
        rcases Nat.lt_or_ge i listed.size with h' | h'
        · simp [h'] at h0 h1; rw [h0] at h1; cases h1
        · simp [Array.getElem?_eq_none h'] at h1
      obtain ⟨hap, hcl⟩ := hfree j _ oj hlj hoj hji hjun hnot
      unfold aOp at h1 ⊢
      rw [hlj] at h1 ⊢
      obtain ⟨ej, h2, h3⟩ := h1
      obtain ⟨k1, k2, k3⟩ := hy.swap hap hcl (Ne.symm hji) h2
      refine ⟨ej, k1, ?_⟩
      refine ih (listed.setIfInBounds j true) _ (fun k lk ok hlk hok hki hun hno => ?_) (ready_mono hr (Ne.symm hji)) k2 ?_
      · refine hfree k lk ok hlk hok hki ?_ hno
        by_cases hjk : j = k
        · subst hjk; exact hjun
        · rw [getD_set_ne true hjk] at hun; exact hun
      · rw [← k3, Array.setIfInBounds_comm _ _ hji]
        exact h3

/-- The run in the text's order. -/
def dRun (P : Program) : List LOper → Nat → AS → (AS → Prop) → Prop
  | [], _, S, K => K S
  | l :: ls, i, S, K => ∃ e, DEff P S l i e ∧ dRun P ls (i + 1) (S.appD l i e) K

def freeC (md : Region.Mode) (ops : Array Oper) (ls : List LOper) (listed : Array Bool) (k : Nat) : Bool :=
  match ls[k]? with
  | none => false
  | some lk => (List.range ops.size).all fun j => listed.getD j true || (decide (j = k) || ((match ops[j]? with
    | some o => o.after.any fun e => Region.binds md e && decide (e.on = k)
    | none => true) || (match ls[j]? with
      | some lj => apartL lk lj && clsOK lk lj
      | none => false)))

def lexC (md : Region.Mode) (ops : Array Oper) (ls : List LOper) : Nat → Nat → Array Bool → Bool
  | 0, _, listed => (Region.ready md ops listed).isEmpty
  | fuel + 1, k, listed => (Region.ready md ops listed).contains k && (freeC md ops ls listed k && lexC md ops ls fuel (k + 1) (listed.setIfInBounds k true))

theorem freeC_spec {listed : Array Bool} {k : Nat} {lk : LOper} (hk : ls[k]? = some lk) (h : freeC md ops ls listed k = true) : ∀ j lj oj, ls[j]? = some lj → ops[j]? = some oj → j ≠ k → listed.getD j true = false → (∀ e ∈ oj.after, Region.binds md e = true → e.on ≠ k) → apartL lk lj = true ∧ clsOK lk lj = true := by
  intro j lj oj h1 h2 h3 h4 h5
  unfold freeC at h
  rw [hk] at h
  simp only [List.all_eq_true, List.mem_range, Bool.or_eq_true, decide_eq_true_eq] at h
  have hj : j < ops.size := by
    rcases Nat.lt_or_ge j ops.size with h' | h'
    · exact h'
    · rw [Array.getElem?_eq_none h'] at h2; cases h2
  rcases h j hj with h6 | h6 | h6 | h6
  · rw [h4] at h6; cases h6
  · exact absurd h6 h3
  · rw [h2] at h6
    simp only [Array.any_eq_true, Bool.and_eq_true, decide_eq_true_eq] at h6
    obtain ⟨q, hq, h7, h8⟩ := h6
    exact absurd h8 (h5 _ (Array.getElem_mem hq) h7)
  · rw [h1] at h6
    simpa using h6

theorem anyA_lex {Q : AS → Prop} (hlen : ls.length = ops.size) : ∀ (l : List LOper) (k : Nat) (listed : Array Bool) (S : AS), (∀ j, l[j]? = ls[k + j]?) → lexC md ops ls l.length k listed = true → dRun P l k S Q → anyA P md ops ls Q l.length listed S
  | [], _, _, _, _, hB, h => ⟨by simpa [lexC] using hB, h⟩
  | o :: l, k, listed, S, hl, hB, h => by
    have h0 : ls[k]? = some o := by simpa using (hl 0).symm
    simp only [List.length_cons, lexC, Bool.and_eq_true] at hB
    obtain ⟨hr, hf, hB'⟩ := hB
    obtain ⟨e, h1, h2⟩ := h
    exact anyA_first h0 hlen l.length listed S (freeC_spec h0 hf) (by simpa using hr) h1
      (anyA_lex hlen l (k + 1) _ _ (fun j => by have := hl (j + 1); simpa [Nat.add_assoc, Nat.add_comm 1 j] using this) hB' h2)

def regC (ops : Array Oper) (ls : List LOper) : Bool := decide (ls.length = ops.size) && lexC .any ops ls ls.length 0 (Array.replicate ops.size false)

/-- The state behind a region. -/
def AS.fin (S : AS) (n : Nat) : ST := ⟨S.vars, delAll S.dead S.heap, S.next + n⟩

def UInv (S : AS) (n : Nat) : Prop := ∀ b, get S.used b ≠ none → b < S.next + n

theorem RelH.wide {T : AS} {h : Array Obj} (R : RelH X φ I S h) (hA : ∀ b, S.A b → T.A b) (hh : S.heap = T.heap) (hd : ∀ b, get S.dead b = none) (hn : S.next ≤ T.next) : RelH X φ I T h :=
  ⟨fun b blk h1 => by obtain ⟨k1, k2⟩ := R.heap b blk (hh ▸ h1); exact ⟨hA b k1, relB_same (Ext.refl' hA) k1 (fun _ _ _ => rfl) k2⟩, fun b blk c o h1 => R.live b blk c o (hh ▸ h1), fun b b' c o c' o' h1 h2 h3 _ => R.inj b b' c o c' o' (hh ▸ h1) (hh ▸ h2) h3 (.inl ⟨hd _, hd _⟩), R.idom, R.isub, R.isup, R.frame, R.size, R.sizes, R.agree, Nat.le_trans R.n0 hn⟩

theorem fin_rel {n : Nat} (R : RelH X φ I S w.heap) (RA : RelA φ I S nt a w.heap) (hU : UInv S n) : RelS X φ I (S.fin n) nt a w.heap := by
  have hA : ∀ b, S.flush.A b → (S.fin n).as.A b := fun b hb => by
    rw [ST.as_A]
    simp only [AS.fin]
    rcases hb with hb | hb
    · simp only [AS.flush] at hb; omega
    · exact hU b (by simp only [AS.flush] at hb; rw [hb]; simp)
  refine ⟨R.flush.wide hA rfl (fun b => by simp [AS.flush, get]) (by simp [AS.fin, AS.flush, ST.as]), ?_⟩
  exact ⟨fun x v hx => relV_mono (Ext.refl' hA) _ _ (RA.vars x v hx), RA.nt, RA.defers⟩

theorem UInv.app {n : Nat} (hU : UInv S n) {l : LOper} {i : Nat} {e : Eff} (hi : i < n) : UInv (S.appD l i e) n := by
  have : ∀ U : AS, U.next = S.next → U.used = S.used → UInv (U.app l.dst (S.next + i) false e) n := fun U h1 h2 b hb => by
    simp only [AS.app, h1] at hb ⊢
    cases hn : e.new with
    | none => rw [hn] at hb; exact hU b (by simpa [h2] using hb)
    | some blk =>
      rw [hn] at hb
      simp only [get_ins] at hb
      split at hb
      · omega
      · exact hU b (by simpa [h2] using hb)
  unfold AS.appD
  split
  · exact this S.flush rfl rfl
  · exact this S rfl rfl

theorem dRun_inv {n : Nat} {K : AS → Prop} : ∀ (l : List LOper) (i : Nat) (S : AS), i + l.length ≤ n → UInv S n → dRun P l i S K → dRun P l i S fun S' => K S' ∧ UInv S' n
  | [], _, _, _, hU, h => ⟨h, hU⟩
  | o :: l, i, S, hi, hU, ⟨e, h1, h2⟩ => ⟨e, h1, dRun_inv l (i + 1) _ (by simp at hi; omega) (hU.app (by simp at hi; omega)) h2⟩

/-- **A region that draws its order.** -/
theorem rgnD_sound {id : Nat} {T : ST} {K : ST → Prop} {Q : Exit → Act → World → Prop} (hm : P.follows .mixedOrders = true) (hok : okOpers P nt ops ops.toList ls = true) (hC : regC ops ls = true) (R : RelS X φ I T nt a w.heap)
    (H : dRun P ls 0 T.as fun S' => K (S'.fin ls.length)) (hQ : ∀ φ' I' S' a' w', K S' → RelS X φ' I' S' nt a' w'.heap → Keep w w' → Q .normal a' w') : (Code.region id ops true).wp P Q a w := by
  simp only [regC, Bool.and_eq_true, decide_eq_true_eq] at hC
  obtain ⟨hlen, hC⟩ := hC
  have H2 := dRun_inv (n := ls.length) ls 0 T.as (by omega) (fun b hb => by simp [ST.as, get] at hb) H
  have H3 := anyA_lex (md := .any) hlen ls 0 (Array.replicate ops.size false) T.as (by simp) hC H2
  rw [hlen] at H3
  refine wp_region_any hm ?_
  refine anyA_sound (X := X) (w0 := w) hok (fun φ' I' S' a' w' k1 k2 k3 k4 => ?_) _ _ T.as φ I a { w with drawn := w.drawn + 1 } R.H R.A ⟨rfl, rfl, rfl⟩ (fun b hb => by simp [ST.as, get] at hb) H3
  rw [← hlen] at k1
  exact hQ φ' I' (S'.fin ls.length) a' w' k1.1 (fin_rel k2 k3 k1.2) k4
end
end Go.AM
