/- A part of a proof about the given program: what its name says. No premise beyond the statements'. -/
import Derived.Test.YtkhioehebaghjaaTkSkyI
set_option linter.unusedSimpArgs false
set_option linter.unusedVariables false
/- A copy of some steps. -/
namespace Go.AM.Sk
open Go.AM
open Go.AM.SkyP
section
attribute [local simp ↓] List.map_nil List.map_cons
attribute [local simp] m_ o_ g_ stepsS stepS gd opEff appEff LArg.ev app_val app_new app_upd app_kill putV ins_e0 ins_e1 get_e0 get_e1 binV binI grd bnd ldCells AV.cells AV.scalar AV.known setAt fillL chunks elems mxI mnI del Nat.add_assoc nlt_self nne_self nne_self' List.take_of_length_le decT decF wrap_i64 stepsD stepD ST.as dEffF LOp.cls softOK LOp.args LOp.rds AV.ids appD_val appD_new appD_upd appD_kill AS.flush delAll
set_option maxHeartbeats 2000000 in
theorem clone_ok {H : Heap} {n : Nat} {l : List St} (h0 : l ≠ []) (hl : l.length < 1000000) :
    ACalls Go.Proofs.Try.prog 41 [.tsl 3 (l.map St.e)] H n (postO n (.sl 3 (n + 1) 0 l.length) (ins (n + 1) (.rows 3 (l.map St.e)) H)):=by
  refine own_body ok41 rfl ?_
  simp only [parV]
  refine LWP_keys fun hkeys => ?_
  simp only at hkeys
  have hb24 : l.length * 24 ≤ 17592186044416:=by omega
  obtain ⟨a,r,rfl⟩ : ∃ a r,l = a :: r:=by
    cases l with
    | nil => exact absurd rfl h0
    | cons a r => exact ⟨a,r,rfl⟩
  refine LWP_seq ?_
  apply LWP_run
  · repeat (simp -implicitDefEqProofs (disch:=omega) []; try simp only [gz])
    rfl
  refine LWP_seq (LWP_seq ?_)
  apply LWP_run
  · repeat (simp -implicitDefEqProofs (disch:=omega) []; try simp only [gz])
    rfl
  refine LWP_cond (t:=false) (by simp [LArg.ev,get_e0,get_e1]) (fun h => by cases h) (fun _ => LWP_skip ?_)
  refine LWP_seq ?_
  apply LWP_run
  · repeat (simp -implicitDefEqProofs (disch:=omega) [get_ins,hb24]; try simp only [gz])
    rfl
  refine LWP_ret ?_
  show retO [.t 2] n _ _ Exit.ret _
  refine ⟨by simp only; omega,⟨_,rfl,wkV.refl _⟩,fun c v h => ?_⟩
  simp only at h ⊢
  rw [get_ins] at h ⊢
  by_cases hc : n + 1 = c
  · rw [if_pos hc] at h ⊢
    exact h
  · rw [if_neg hc] at h ⊢
    have h1:=hkeys c v h
    rw [get_del,if_neg (by omega),get_ins,if_neg (by omega)]
    exact h
end
end Go.AM.Sk
