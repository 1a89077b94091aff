/- A part of a proof about the given program: what its name says. No premise beyond the statements'. -/
import Derived.Test.YtkhioehebaghjaaTkSkyH
import Derived.Test.YtkhioehebaghjaaTS
set_option linter.unusedSimpArgs false
set_option linter.unusedVariables false
/- Steps that end ahead of a place are taken out, in place. -/
namespace Go.AM.Sk
open Go.AM
open Go.AM.SkyP
theorem mapO_flat0 {H : Heap} {m : Nat} : ∀ (l : List AV),l.all AV.flat0 = true → mapO (deepV H (m + 1)) l = some l
  | [],_ => rfl
  | v :: l,h => by
    simp only [List.all_cons,Bool.and_eq_true] at h
    have hv : deepV H (m + 1) v = some v:=by
      have:=h.1
      cases v <;> simp only [AV.flat0,Bool.false_eq_true] at this <;> rfl
    simp only [mapO,hv,mapO_flat0 l h.2]
theorem deep_st {H : Heap} {m : Nat} : ∀ (l : List St),mapO (mapO (deepV H (m + 1))) (l.map St.e) = some (l.map St.e)
  | [] => rfl
  | s :: l => by
    simp only [List.map_cons,mapO,mapO_flat0 (H:=H) (m:=m) s.e rfl,deep_st l]
/-- An owned row of steps, read. -/
theorem deep_row {H : Heap} {b m k : Nat} {l : List St} (hb : get H b = some (.rows 3 (l.map St.e))) (hm : l.length = m) : deepV H (k + 2) (.sl 3 b 0 m) = some (.tsl 3 (l.map St.e)):=by
  refine deepV_sl hb (by simp [hm]) ?_
  rw [List.drop_zero,List.take_of_length_le (by simp [hm])]
  exact deep_st l
theorem set_st (A : List St) (i : Nat) (s : St) : (A.map St.e).set i [.int .i64 s.x0,.int .i64 s.x1,.int .i64 s.h] = (A.set i s).map St.e:=by
  rw [List.map_set]; rfl
theorem take_keep {l : List St} {x : Int} {j : Nat} (h : j < l.length) (hk : stays x l[j] = true) : (l.take (j + 1)).filter (stays x) = (l.take j).filter (stays x) ++ [l[j]]:=by
  rw [List.take_succ_eq_append_getElem h,List.filter_append]
  simp [hk]
theorem take_drop_ {l : List St} {x : Int} {j : Nat} (h : j < l.length) (hk : stays x l[j] = false) : (l.take (j + 1)).filter (stays x) = (l.take j).filter (stays x):=by
  rw [List.take_succ_eq_append_getElem h,List.filter_append]
  simp [hk]
def zst : St:=⟨0,0,0⟩
def delR (x : Int) (l : List St) : List St:=l.filter (stays x) ++ List.replicate (l.length - (l.filter (stays x)).length) zst
end Go.AM.Sk
