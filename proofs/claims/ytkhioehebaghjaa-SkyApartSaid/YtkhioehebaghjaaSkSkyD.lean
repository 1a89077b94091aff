/- A part of a proof about the given program: what its name says. No premise beyond the statements'. -/
import Derived.Test.YtkhioehebaghjaaSkSkyC
import Derived.Test.YtkhioehebaghjaaFC
set_option linter.unusedSimpArgs false
set_option linter.unusedVariables false
/- The law on how far two skylines must be apart: for every two it answers true. -/
namespace Go.AM.Sk
open Go.AM
open Go.AM.SkyP
open Go.Proofs.Try
theorem skyApart_ok (a b : List St) : ACalls Go.Proofs.Try.prog 7 [.tsl 3 (a.map St.e), .tsl 3 (b.map St.e)] [] 0 (fun r _ _ => r = .bool true) := by
  by_cases hb : 60 < a.length ∨ 60 < b.length
  · exact apart_big a b 0 hb
  · cases ca : chkB a with
    | false => exact apart_ca a b 0 (by omega) (by omega) ca
    | true =>
      cases cb : chkB b with
      | false => exact apart_cb a b 0 (by omega) (by omega) ca cb
      | true =>
        have hD := distance_ok a b (by omega) (by omega) ca cb
        obtain ⟨s1, s2, s3⟩ := dis_spec (a.length + b.length) a b 0 (Nat.le_refl _) (chk_sorted ca) (chk_sorted cb)
        refine apart_in a b (dis a b 0) (by omega) (by omega) ca cb hD s1 (fun i k hi hk ho => s3 _ (List.getElem_mem hi) _ (List.getElem_mem hk) ho) ?_
        rcases s2 with s2 | ⟨x, hx, y, hy, h1, h2⟩
        · exact .inl s2
        · obtain ⟨i, hi, rfl⟩ := List.getElem_of_mem hx
          obtain ⟨k, hk, rfl⟩ := List.getElem_of_mem hy
          exact .inr ⟨i, k, hi, hk, h1, h2⟩

theorem c46 : prog.cellsOf 46 = 3 := by kernel_rfl
theorem c3 : prog.cellsOf 3 = 1 := by kernel_rfl
set_option maxRecDepth 100000 in
theorem rd_st {n : Nat} {cs : List AV} (h : wtV prog n 46 cs) : ∃ s : St, cs = s.e := by
  obtain ⟨m, h1, h2⟩ := wtV_struct underlying46 h
  rw [c46] at h1
  obtain ⟨a, b, c, rfl⟩ := len3 h1
  simp only [List.forall_mem_cons, List.not_mem_nil, c3] at h2
  simp at h2
  obtain ⟨k1, k2, k3⟩ := h2
  obtain ⟨x, e1, _⟩ := wtV_int underlying3 k1
  obtain ⟨y, e2, _⟩ := wtV_int underlying3 k2
  obtain ⟨z, e3, _⟩ := wtV_int underlying3 k3
  cases e1; cases e2; cases e3
  exact ⟨⟨x, y, z⟩, rfl⟩
set_option maxRecDepth 100000 in
theorem rd_sts {n : Nat} {a : AV} (h : wtA prog n 24 a) : ∃ l : List St, a = .tsl 3 (l.map St.e) := by
  obtain ⟨m, es, h1, h2, h3⟩ := wtV_slice underlying24 c46 (by decide) (wtA_slice underlying24 h)
  cases h1
  obtain ⟨rs, rfl, _⟩ := map_of (f := St.e) (C := fun _ => True) (es := es) fun x hx => by
    obtain ⟨z, hz⟩ := rd_st (h3 x hx).2
    exact ⟨z, hz, trivial⟩
  exact ⟨rs, rfl⟩
set_option maxRecDepth 100000 in
theorem skyApart_all (l : List AV) (h : wtAll prog [24, 24] l) : ACalls prog 7 l [] 0 (fun r _ _ => r = .bool true) := by
  match l, h with
  | [a, b], ⟨⟨n, ha⟩, ⟨m, hb⟩, _⟩ =>
    obtain ⟨x, rfl⟩ := rd_sts ha
    obtain ⟨y, rfl⟩ := rd_sts hb
    exact skyApart_ok x y
end Go.AM.Sk
