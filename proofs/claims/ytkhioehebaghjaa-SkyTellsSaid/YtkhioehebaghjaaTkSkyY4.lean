/- A part of a proof about the given program: what its name says. No premise beyond the statements'. -/
import Derived.Test.YtkhioehebaghjaaTkSkyY3
set_option linter.unusedSimpArgs false
set_option linter.unusedVariables false
/- The law on what skylines tell: every argument. -/
namespace Go.AM.Sk
open Go.AM
open Go.AM.SkyP
open Go.Proofs.Try
theorem c46 : prog.cellsOf 46 = 3:=by kernel_rfl
theorem c3 : prog.cellsOf 3 = 1:=by kernel_rfl
set_option maxRecDepth 100000 in
theorem rd_st {n : Nat} {cs : List AV} (h : wtV prog n 46 cs) : ∃ s : St,cs = s.e:=by
  obtain ⟨m,h1,h2⟩:=wtV_struct underlying46 h
  rw [c46] at h1
  obtain ⟨a,b,c,rfl⟩:=len3 h1
  simp only [List.forall_mem_cons,List.not_mem_nil,c3] at h2
  simp at h2
  obtain ⟨k1,k2,k3⟩:=h2
  obtain ⟨x,e1,_⟩:=wtV_int underlying3 k1
  obtain ⟨y,e2,_⟩:=wtV_int underlying3 k2
  obtain ⟨z,e3,_⟩:=wtV_int underlying3 k3
  cases e1; cases e2; cases e3
  exact ⟨⟨x,y,z⟩,rfl⟩
set_option maxRecDepth 100000 in
theorem rd_sts {n : Nat} {a : AV} (h : wtA prog n 24 a) : ∃ l : List St,a = .tsl 3 (l.map St.e):=by
  obtain ⟨m,es,h1,h2,h3⟩:=wtV_slice underlying24 c46 (by decide) (wtA_slice underlying24 h)
  cases h1
  obtain ⟨rs,rfl,_⟩:=map_of (f:=St.e) (C:=fun _ => True) (es:=es) fun x hx => by
    obtain ⟨z,hz⟩:=rd_st (h3 x hx).2
    exact ⟨z,hz,trivial⟩
  exact ⟨rs,rfl⟩
set_option maxRecDepth 100000 in
theorem skyTells_all (l : List AV) (h : wtAll prog [24,24,3,3] l) : ACalls prog 4 l [] 0 (fun r _ _ => r = .bool true):=by
  match l,h with
  | [a,b,c,d],⟨⟨n,ha⟩,⟨m,hb⟩,⟨k,hc⟩,⟨j,hd⟩,_⟩ =>
    obtain ⟨x,rfl⟩:=rd_sts ha
    obtain ⟨y,rfl⟩:=rd_sts hb
    obtain ⟨z,rfl,_⟩:=wtA_int underlying3 hc
    obtain ⟨w,rfl,_⟩:=wtA_int underlying3 hd
    exact skyTells_ok x y z w
end Go.AM.Sk
