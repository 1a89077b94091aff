/- A part of a proof about the given program: what its name says. No premise beyond the statements'. -/
import Derived.Test.YtjfmkhihhdhnnaaGreatDoorDzPfxB
import Derived.KernelRfl
set_option linter.unusedSimpArgs false
set_option linter.unusedVariables false
/- What glyphs take of room: known runs. -/
namespace Go.AM.Dz
open Go.AM
noncomputable section

theorem hLd : ∀ f lf, tr.find f = some lf → okFunc Go.Proofs.Tryz.prog f lf = true := fun _ _ h => Tr.find_ok tr_ok h

theorem hg_of {l : List Sp} {g : Int} (h : (l.all fun s => s.g == g) = true) : ∀ (i : Nat) (h : i < l.length), (l[i]'h).g = g := fun i hi => by
  have := List.all_eq_true.1 h _ (List.getElem_mem hi)
  simpa using this

def eT0 : List (Nat × (List AV × AV)) := []
theorem eT0_ok : TOK Go.Proofs.Tryz.prog eT0 := TOK.nil

theorem ec21 : AV.pure (.tup [(.agg [(.int .i64 0), (.int .i64 (-1430)), (.int .i64 1020), (.int .i64 1430)]), (.int .i64 0)]) = true ∧ ACalls Go.Proofs.Tryz.prog 75 [.int .i64 21, .bool false] [] 0 (fun r _ _ => r = (.tup [(.agg [(.int .i64 0), (.int .i64 (-1430)), (.int .i64 1020), (.int .i64 1430)]), (.int .i64 0)])) := runOKX_sound hLd hdT0_ok (by kernel_rfl : runOKX tr.find hdX0 500 75 [.int .i64 21, .bool false] (.tup [(.agg [(.int .i64 0), (.int .i64 (-1430)), (.int .i64 1020), (.int .i64 1430)]), (.int .i64 0)]) = true)
def eT1 : List (Nat × (List AV × AV)) := (75, ([.int .i64 21, .bool false], (.tup [(.agg [(.int .i64 0), (.int .i64 (-1430)), (.int .i64 1020), (.int .i64 1430)]), (.int .i64 0)]))) :: eT0
theorem eT1_ok : TOK Go.Proofs.Tryz.prog eT1 := TOK.cons ec21 eT0_ok

theorem ec22 : AV.pure (.tup [(.agg [(.int .i64 0), (.int .i64 (-720)), (.int .i64 920), (.int .i64 1800)]), (.int .i64 0)]) = true ∧ ACalls Go.Proofs.Tryz.prog 75 [.int .i64 22, .bool false] [] 0 (fun r _ _ => r = (.tup [(.agg [(.int .i64 0), (.int .i64 (-720)), (.int .i64 920), (.int .i64 1800)]), (.int .i64 0)])) := runOKX_sound hLd hdT0_ok (by kernel_rfl : runOKX tr.find hdX0 500 75 [.int .i64 22, .bool false] (.tup [(.agg [(.int .i64 0), (.int .i64 (-720)), (.int .i64 920), (.int .i64 1800)]), (.int .i64 0)]) = true)
def eT2 : List (Nat × (List AV × AV)) := (75, ([.int .i64 22, .bool false], (.tup [(.agg [(.int .i64 0), (.int .i64 (-720)), (.int .i64 920), (.int .i64 1800)]), (.int .i64 0)]))) :: eT1
theorem eT2_ok : TOK Go.Proofs.Tryz.prog eT2 := TOK.cons ec22 eT1_ok

theorem ec23 : AV.pure (.tup [(.agg [(.int .i64 0), (.int .i64 (-1400)), (.int .i64 700), (.int .i64 1400)]), (.int .i64 0)]) = true ∧ ACalls Go.Proofs.Tryz.prog 75 [.int .i64 23, .bool false] [] 0 (fun r _ _ => r = (.tup [(.agg [(.int .i64 0), (.int .i64 (-1400)), (.int .i64 700), (.int .i64 1400)]), (.int .i64 0)])) := runOKX_sound hLd hdT0_ok (by kernel_rfl : runOKX tr.find hdX0 500 75 [.int .i64 23, .bool false] (.tup [(.agg [(.int .i64 0), (.int .i64 (-1400)), (.int .i64 700), (.int .i64 1400)]), (.int .i64 0)]) = true)
def eT3 : List (Nat × (List AV × AV)) := (75, ([.int .i64 23, .bool false], (.tup [(.agg [(.int .i64 0), (.int .i64 (-1400)), (.int .i64 700), (.int .i64 1400)]), (.int .i64 0)]))) :: eT2
theorem eT3_ok : TOK Go.Proofs.Tryz.prog eT3 := TOK.cons ec23 eT2_ok

def rT0 : List (Nat × (List AV × AV)) := []
theorem rT0_ok : TOK Go.Proofs.Tryz.prog rT0 := TOK.nil

theorem rc21 : AV.pure (.tup [(.agg [(.int .i64 0), (.int .i64 (-1430)), (.int .i64 1020), (.int .i64 1430)]), (.int .i64 0)]) = true ∧ ACalls Go.Proofs.Tryz.prog 201 [.int .i64 21, .bool false] [] 0 (fun r _ _ => r = (.tup [(.agg [(.int .i64 0), (.int .i64 (-1430)), (.int .i64 1020), (.int .i64 1430)]), (.int .i64 0)])) := runOKX_sound hLd hdT0_ok (by kernel_rfl : runOKX tr.find hdX0 500 201 [.int .i64 21, .bool false] (.tup [(.agg [(.int .i64 0), (.int .i64 (-1430)), (.int .i64 1020), (.int .i64 1430)]), (.int .i64 0)]) = true)
def rT1 : List (Nat × (List AV × AV)) := (201, ([.int .i64 21, .bool false], (.tup [(.agg [(.int .i64 0), (.int .i64 (-1430)), (.int .i64 1020), (.int .i64 1430)]), (.int .i64 0)]))) :: rT0
theorem rT1_ok : TOK Go.Proofs.Tryz.prog rT1 := TOK.cons rc21 rT0_ok

theorem rc22 : AV.pure (.tup [(.agg [(.int .i64 0), (.int .i64 (-720)), (.int .i64 920), (.int .i64 1800)]), (.int .i64 0)]) = true ∧ ACalls Go.Proofs.Tryz.prog 201 [.int .i64 22, .bool false] [] 0 (fun r _ _ => r = (.tup [(.agg [(.int .i64 0), (.int .i64 (-720)), (.int .i64 920), (.int .i64 1800)]), (.int .i64 0)])) := runOKX_sound hLd hdT0_ok (by kernel_rfl : runOKX tr.find hdX0 500 201 [.int .i64 22, .bool false] (.tup [(.agg [(.int .i64 0), (.int .i64 (-720)), (.int .i64 920), (.int .i64 1800)]), (.int .i64 0)]) = true)
def rT2 : List (Nat × (List AV × AV)) := (201, ([.int .i64 22, .bool false], (.tup [(.agg [(.int .i64 0), (.int .i64 (-720)), (.int .i64 920), (.int .i64 1800)]), (.int .i64 0)]))) :: rT1
theorem rT2_ok : TOK Go.Proofs.Tryz.prog rT2 := TOK.cons rc22 rT1_ok

theorem rc23 : AV.pure (.tup [(.agg [(.int .i64 0), (.int .i64 (-1400)), (.int .i64 700), (.int .i64 1400)]), (.int .i64 0)]) = true ∧ ACalls Go.Proofs.Tryz.prog 201 [.int .i64 23, .bool false] [] 0 (fun r _ _ => r = (.tup [(.agg [(.int .i64 0), (.int .i64 (-1400)), (.int .i64 700), (.int .i64 1400)]), (.int .i64 0)])) := runOKX_sound hLd hdT0_ok (by kernel_rfl : runOKX tr.find hdX0 500 201 [.int .i64 23, .bool false] (.tup [(.agg [(.int .i64 0), (.int .i64 (-1400)), (.int .i64 700), (.int .i64 1400)]), (.int .i64 0)]) = true)
def rT3 : List (Nat × (List AV × AV)) := (201, ([.int .i64 23, .bool false], (.tup [(.agg [(.int .i64 0), (.int .i64 (-1400)), (.int .i64 700), (.int .i64 1400)]), (.int .i64 0)]))) :: rT2
theorem rT3_ok : TOK Go.Proofs.Tryz.prog rT3 := TOK.cons rc23 rT2_ok

def rG (f : Nat) : Bool := bitOf 5260135901548373507240989882880128665550339802823173859498280903068732154297080822113666536277588451226982968856178217713019432250183803863127814770651880849955223671128444598191663757884171601543841423088943103 f
def rX : XP := ⟨hdZ, rT3, rG, kp.find⟩
def hT : List (Nat × (List AV × AV)) := (11, ([], .bool true)) :: eT3
theorem hT_ok : TOK Go.Proofs.Tryz.prog hT := TOK.cons ⟨rfl, hdheads⟩ eT3_ok
def hG2 (f : Nat) : Bool := hdG f && rG f
def hX : XP := ⟨hdZ, hT, hG2, kp.find⟩
end
end Go.AM.Dz
