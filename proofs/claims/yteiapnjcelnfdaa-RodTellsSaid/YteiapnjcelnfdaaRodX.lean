/- A part of a proof about the given program: what its name says. No premise beyond the statements'. -/
import Derived.Test.YteiapnjcelnfdaaFC
import Derived.Test.YteiapnjcelnfdaaRodF
set_option linter.unusedSimpArgs false
set_option linter.unusedVariables false
namespace Go.AM.Rod
open Go.AM
open Go.Proofs.Try

theorem c33 : prog.cellsOf 33 = 1 := by kernel_rfl
theorem c47 : prog.cellsOf 47 = 3 := by kernel_rfl
theorem c3 : prog.cellsOf 3 = 1 := by kernel_rfl
theorem c4 : prog.cellsOf 4 = 1 := by kernel_rfl

theorem rd_ext {n : Nat} {cs : List AV} (h : wtV prog n 47 cs) : ∃ x : Ext, cs = x.e := by
  obtain ⟨m, h1, h2⟩ := wtV_struct underlying47 h
  rw [c47] at h1
  obtain ⟨a, b, c, rfl⟩ := len3 h1
  simp only [List.forall_mem_cons, List.not_mem_nil, c3, c4] at h2
  simp at h2
  obtain ⟨k1, k2, k3⟩ := h2
  obtain ⟨x, e1⟩ := wtV_bool underlying4 k1
  obtain ⟨y, e2, _⟩ := wtV_int underlying3 k2
  obtain ⟨z, e3, _⟩ := wtV_int underlying3 k3
  cases e1; cases e2; cases e3
  exact ⟨⟨x, y, z⟩, rfl⟩

theorem rd_rows {n : Nat} {a : AV} (h : wtA prog n 22 a) : ∃ rs : List (List Ext), a = encR rs ∧ rs.length ≤ maxLen := by
  obtain ⟨m, es, h1, h2, h3⟩ := wtV_slice underlying22 c33 (by decide) (wtA_slice underlying22 h)
  cases h1
  obtain ⟨rs, rfl, _⟩ := map_of (f := fun r : List Ext => [AV.tsl 3 (r.map Ext.e)]) (C := fun _ => True) (es := es) fun x hx => by
    obtain ⟨m2, es2, k1, k2, k3⟩ := wtV_slice underlying33 c47 (by decide) (h3 x hx).2
    obtain ⟨r, rfl, _⟩ := map_of (f := Ext.e) (C := fun _ => True) (es := es2) fun y hy => by
      obtain ⟨z, hz⟩ := rd_ext (k3 y hy).2
      exact ⟨z, hz, trivial⟩
    exact ⟨r, k1, trivial⟩
  exact ⟨rs, rfl, by simpa using h2⟩

theorem rd_ints {n : Nat} {a : AV} (h : wtA prog n 35 a) : ∃ xs : List Int, a = .tsl 1 (xs.map fun x => [.int .i64 x]) ∧ xs.length ≤ maxLen := by
  obtain ⟨m, es, h1, h2, h3⟩ := wtV_slice underlying35 c3 (by decide) (wtA_slice underlying35 h)
  cases h1
  obtain ⟨rs, rfl, _⟩ := map_of (f := fun x : Int => [AV.int .i64 x]) (C := fun _ => True) (es := es) fun x hx => by
    obtain ⟨k, hk, _⟩ := wtV_int underlying3 (h3 x hx).2
    exact ⟨k, hk, trivial⟩
  exact ⟨rs, rfl, by simpa using h2⟩

theorem c45 : prog.cellsOf 45 = 3 := by kernel_rfl

theorem rd_rod {n : Nat} {cs : List AV} (h : wtV prog n 45 cs) : ∃ x : Rd, cs = x.e := by
  obtain ⟨m, h1, h2⟩ := wtV_struct underlying45 h
  rw [c45] at h1
  obtain ⟨a, b, c, rfl⟩ := len3 h1
  simp only [List.forall_mem_cons, List.not_mem_nil, c3] at h2
  simp at h2
  obtain ⟨k1, k2, k3⟩ := h2
  obtain ⟨x, e1, _⟩ := wtV_int underlying3 k1
  obtain ⟨y, e2, _⟩ := wtV_int underlying3 k2
  obtain ⟨z, e3, _⟩ := wtV_int underlying3 k3
  cases e1; cases e2; cases e3
  exact ⟨⟨x, y, z⟩, rfl⟩

theorem rd_rods {n : Nat} {a : AV} (h : wtA prog n 25 a) : ∃ l : List Rd, a = .tsl 3 (l.map Rd.e) ∧ l.length ≤ maxLen := by
  obtain ⟨m, es, h1, h2, h3⟩ := wtV_slice underlying25 c45 (by decide) (wtA_slice underlying25 h)
  cases h1
  obtain ⟨rs, rfl, _⟩ := map_of (f := Rd.e) (C := fun _ => True) (es := es) fun x hx => by
    obtain ⟨z, hz⟩ := rd_rod (h3 x hx).2
    exact ⟨z, hz, trivial⟩
  exact ⟨rs, rfl, by simpa using h2⟩
end Go.AM.Rod
