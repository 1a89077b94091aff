/- A part of a proof about the given program: what its name says. No premise beyond the statements'. -/
import Derived.Test.YtejmalikojmmgaaGreatClCode
import Derived.KernelRfl
set_option linter.unusedSimpArgs false
set_option linter.unusedVariables false
namespace Go.AM.Cl
open Go.AM
noncomputable section

def hs0 : AV := (.str ⟨#[115, 116, 97, 102, 102, 32, 123, 32, 118, 111, 105, 99, 101, 32, 123, 32, 99, 108, 101, 102, 32, 98, 97, 115, 115, 32, 99, 52, 32, 100, 32, 114, 50, 32, 125, 32, 118, 111, 105, 99, 101, 32, 123, 32, 101, 50, 32, 125, 32, 125]⟩)

def hs1 : AV := (.tsl 3 [[(.int .i64 1), (.str ⟨#[115, 116, 97, 102, 102]⟩), (.int .i64 0)],
 [(.int .i64 4), (.str ⟨#[123]⟩), (.int .i64 6)],
 [(.int .i64 1), (.str ⟨#[118, 111, 105, 99, 101]⟩), (.int .i64 8)],
 [(.int .i64 4), (.str ⟨#[123]⟩), (.int .i64 14)],
 [(.int .i64 1), (.str ⟨#[99, 108, 101, 102]⟩), (.int .i64 16)],
 [(.int .i64 1), (.str ⟨#[98, 97, 115, 115]⟩), (.int .i64 21)],
 [(.int .i64 1), (.str ⟨#[99]⟩), (.int .i64 26)],
 [(.int .i64 2), (.str ⟨#[52]⟩), (.int .i64 27)],
 [(.int .i64 1), (.str ⟨#[100]⟩), (.int .i64 29)],
 [(.int .i64 1), (.str ⟨#[114]⟩), (.int .i64 31)],
 [(.int .i64 2), (.str ⟨#[50]⟩), (.int .i64 32)],
 [(.int .i64 4), (.str ⟨#[125]⟩), (.int .i64 34)],
 [(.int .i64 1), (.str ⟨#[118, 111, 105, 99, 101]⟩), (.int .i64 36)],
 [(.int .i64 4), (.str ⟨#[123]⟩), (.int .i64 42)],
 [(.int .i64 1), (.str ⟨#[101]⟩), (.int .i64 44)],
 [(.int .i64 2), (.str ⟨#[50]⟩), (.int .i64 45)],
 [(.int .i64 4), (.str ⟨#[125]⟩), (.int .i64 47)],
 [(.int .i64 4), (.str ⟨#[125]⟩), (.int .i64 49)],
 [(.int .i64 8), (.str ⟨#[]⟩), (.int .i64 50)]])

def hs2 : AV := (.tup [hs1, (.agg [(.int .i64 0), (.int .i64 0)])])

def hs3 : AV := (.tsl 14 [[(.int .i64 9), (.int .i64 16), .nils, (.bool false), (.int .i64 0), (.int .i64 0), (.bool false), (.int .i64 0), (.int .i64 0), (.str ⟨#[]⟩), (.int .i64 0), (.int .i64 0), (.str ⟨#[98, 97, 115, 115]⟩), .nils],
 [(.int .i64 1), (.int .i64 26), (.tsl 3 [[(.int .i64 0), (.int .i64 0), (.int .i64 0)]]), (.bool true), (.int .i64 2), (.int .i64 0), (.bool false), (.int .i64 0), (.int .i64 0), (.str ⟨#[]⟩), (.int .i64 0), (.int .i64 0), (.str ⟨#[]⟩), .nils],
 [(.int .i64 1), (.int .i64 29), (.tsl 3 [[(.int .i64 1), (.int .i64 0), (.int .i64 0)]]), (.bool false), (.int .i64 0), (.int .i64 0), (.bool false), (.int .i64 0), (.int .i64 0), (.str ⟨#[]⟩), (.int .i64 0), (.int .i64 0), (.str ⟨#[]⟩), .nils],
 [(.int .i64 3), (.int .i64 31), .nils, (.bool true), (.int .i64 1), (.int .i64 0), (.bool false), (.int .i64 0), (.int .i64 0), (.str ⟨#[]⟩), (.int .i64 0), (.int .i64 0), (.str ⟨#[]⟩), .nils]])

def hs4 : AV := (.tsl 14 [[(.int .i64 1), (.int .i64 44), (.tsl 3 [[(.int .i64 2), (.int .i64 0), (.int .i64 0)]]), (.bool true), (.int .i64 1), (.int .i64 0), (.bool false), (.int .i64 0), (.int .i64 0), (.str ⟨#[]⟩), (.int .i64 0), (.int .i64 0), (.str ⟨#[]⟩), .nils]])

def hs5 : AV := (.tsl 3 [[(.int .i64 8), hs3, .nils],
 [(.int .i64 36), hs4, .nils]])

def hs6 : AV := (.tsl 3 [[(.int .i64 0), (.str ⟨#[]⟩), hs5]])

def hs7 : AV := (.agg [hs6])

def hs8 : AV := (.tup [hs7, (.agg [(.int .i64 0), (.int .i64 0)])])

def hs9 : AV := (.tsl 14 [[(.int .i64 9), (.int .i64 16), .nils, (.bool false), (.int .i64 0), (.int .i64 0), (.bool false), (.int .i64 0), (.int .i64 0), (.str ⟨#[]⟩), (.int .i64 0), (.int .i64 0), (.str ⟨#[98, 97, 115, 115]⟩), (.tsl 14 [])],
 [(.int .i64 1), (.int .i64 26), (.tsl 3 [[(.int .i64 0), (.int .i64 0), (.int .i64 0)]]), (.bool true), (.int .i64 2), (.int .i64 0), (.bool false), (.int .i64 0), (.int .i64 0), (.str ⟨#[]⟩), (.int .i64 0), (.int .i64 0), (.str ⟨#[]⟩), .nils],
 [(.int .i64 1), (.int .i64 29), (.tsl 3 [[(.int .i64 1), (.int .i64 0), (.int .i64 0)]]), (.bool false), (.int .i64 0), (.int .i64 0), (.bool false), (.int .i64 0), (.int .i64 0), (.str ⟨#[]⟩), (.int .i64 0), (.int .i64 0), (.str ⟨#[]⟩), .nils],
 [(.int .i64 3), (.int .i64 31), .nils, (.bool true), (.int .i64 1), (.int .i64 0), (.bool false), (.int .i64 0), (.int .i64 0), (.str ⟨#[]⟩), (.int .i64 0), (.int .i64 0), (.str ⟨#[]⟩), (.tsl 14 [])]])

def hs10 : AV := (.tsl 3 [[(.int .i64 8), hs9, .nils],
 [(.int .i64 36), hs4, .nils]])

def hs11 : AV := (.tsl 3 [[(.int .i64 0), (.str ⟨#[]⟩), hs10]])

def hs12 : AV := (.agg [hs11])

def hs13 : AV := (.tup [hs12, (.agg [(.int .i64 0), (.int .i64 0)])])

def hs14 : AV := (.tsl 14 [[(.int .i64 9), (.int .i64 16), .nils, (.bool false), (.int .i64 0), (.int .i64 0), (.bool false), (.int .i64 0), (.int .i64 0), (.str ⟨#[]⟩), (.int .i64 0), (.int .i64 0), (.str ⟨#[98, 97, 115, 115]⟩), (.tsl 14 [])],
 [(.int .i64 1), (.int .i64 26), (.tsl 3 [[(.int .i64 0), (.int .i64 0), (.int .i64 0)]]), (.bool true), (.int .i64 2), (.int .i64 0), (.bool false), (.int .i64 0), (.int .i64 0), (.str ⟨#[]⟩), (.int .i64 0), (.int .i64 0), (.str ⟨#[]⟩), (.tsl 14 [])],
 [(.int .i64 1), (.int .i64 29), (.tsl 3 [[(.int .i64 1), (.int .i64 0), (.int .i64 0)]]), (.bool false), (.int .i64 0), (.int .i64 0), (.bool false), (.int .i64 0), (.int .i64 0), (.str ⟨#[]⟩), (.int .i64 0), (.int .i64 0), (.str ⟨#[]⟩), (.tsl 14 [])],
 [(.int .i64 3), (.int .i64 31), .nils, (.bool true), (.int .i64 1), (.int .i64 0), (.bool false), (.int .i64 0), (.int .i64 0), (.str ⟨#[]⟩), (.int .i64 0), (.int .i64 0), (.str ⟨#[]⟩), (.tsl 14 [])]])

def hs15 : AV := (.tsl 14 [[(.int .i64 1), (.int .i64 44), (.tsl 3 [[(.int .i64 2), (.int .i64 0), (.int .i64 0)]]), (.bool true), (.int .i64 1), (.int .i64 0), (.bool false), (.int .i64 0), (.int .i64 0), (.str ⟨#[]⟩), (.int .i64 0), (.int .i64 0), (.str ⟨#[]⟩), (.tsl 14 [])]])

def hs16 : AV := (.tsl 3 [[(.int .i64 8), hs14, .nils],
 [(.int .i64 36), hs15, .nils]])

def hs17 : AV := (.tsl 3 [[(.int .i64 0), (.str ⟨#[]⟩), hs16]])

def hs18 : AV := (.agg [hs17])

def hs19 : AV := (.tup [hs18, (.agg [(.int .i64 0), (.int .i64 0)])])

def hs20 : AV := (.agg [(.int .i64 8), hs14, .nils])

def hs21 : AV := (.tsl 18 [[(.int .i64 9), (.int .i64 16), (.int .i64 0), (.int .i64 1), (.int .i64 0), (.int .i64 1), (.int .i64 0), (.int .i64 0), .nils, (.bool false), (.int .i64 0), (.int .i64 0), (.str ⟨#[]⟩), (.tsl 1 []), (.int .i64 0), (.int .i64 0), (.int .i64 0), (.int .i64 27)],
 [(.int .i64 1), (.int .i64 26), (.int .i64 0), (.int .i64 1), (.int .i64 1), (.int .i64 4), (.int .i64 2), (.int .i64 0), (.tsl 3 [[(.int .i64 0), (.int .i64 0), (.int .i64 3)]]), (.bool false), (.int .i64 0), (.int .i64 0), (.str ⟨#[]⟩), (.tsl 1 []), (.int .i64 0), (.int .i64 0), (.int .i64 0), (.int .i64 0)],
 [(.int .i64 1), (.int .i64 29), (.int .i64 1), (.int .i64 4), (.int .i64 1), (.int .i64 4), (.int .i64 2), (.int .i64 0), (.tsl 3 [[(.int .i64 1), (.int .i64 0), (.int .i64 3)]]), (.bool false), (.int .i64 0), (.int .i64 0), (.str ⟨#[]⟩), (.tsl 1 []), (.int .i64 0), (.int .i64 0), (.int .i64 0), (.int .i64 0)],
 [(.int .i64 3), (.int .i64 31), (.int .i64 1), (.int .i64 2), (.int .i64 1), (.int .i64 2), (.int .i64 1), (.int .i64 0), .nils, (.bool false), (.int .i64 0), (.int .i64 0), (.str ⟨#[]⟩), (.tsl 1 []), (.int .i64 0), (.int .i64 0), (.int .i64 0), (.int .i64 0)]])

def hs22 : AV := (.agg [(.int .i64 0), (.int .i64 0), hs21, .nils, (.int .i64 1), (.int .i64 1), .nils])

def hs23 : AV := (.tup [hs22, (.agg [(.int .i64 0), (.int .i64 0)])])

def hs24 : AV := (.tsl 18 [[(.int .i64 1), (.int .i64 44), (.int .i64 0), (.int .i64 1), (.int .i64 1), (.int .i64 2), (.int .i64 1), (.int .i64 0), (.tsl 3 [[(.int .i64 2), (.int .i64 0), (.int .i64 3)]]), (.bool false), (.int .i64 0), (.int .i64 0), (.str ⟨#[]⟩), (.tsl 1 []), (.int .i64 0), (.int .i64 0), (.int .i64 0), (.int .i64 0)]])

def hs25 : AV := (.tsl 7 [[(.int .i64 0), (.int .i64 0), hs21, .nils, (.int .i64 1), (.int .i64 1), .nils],
 [(.int .i64 0), (.int .i64 1), hs24, .nils, (.int .i64 1), (.int .i64 2), .nils]])

def hs26 : AV := (.tup [hs25, (.agg [(.int .i64 0), (.int .i64 0)])])

def hs27 : AV := (.agg [(.int .i64 0), (.int .i64 1), hs24, .nils, (.int .i64 1), (.int .i64 2), .nils])

def hs28 : AV := (.agg [(.int .i64 1), (.int .i64 29), (.int .i64 1), (.int .i64 4), (.int .i64 1), (.int .i64 4), (.int .i64 2), (.int .i64 0), (.tsl 3 [[(.int .i64 1), (.int .i64 0), (.int .i64 3)]]), (.bool false), (.int .i64 0), (.int .i64 0), (.str ⟨#[]⟩), (.tsl 1 []), (.int .i64 0), (.int .i64 0), (.int .i64 0), (.int .i64 0)])

def hs29 : AV := (.agg [(.int .i64 3), (.int .i64 31), (.int .i64 1), (.int .i64 2), (.int .i64 1), (.int .i64 2), (.int .i64 1), (.int .i64 0), .nils, (.bool false), (.int .i64 0), (.int .i64 0), (.str ⟨#[]⟩), (.tsl 1 []), (.int .i64 0), (.int .i64 0), (.int .i64 0), (.int .i64 0)])

def hs30 : AV := (.agg [(.int .i64 0), (.int .i64 0), (.int .i64 0), (.int .i64 0), (.int .i64 0), (.int .i64 0), (.int .i64 0), (.int .i64 0), .nils, (.bool false), (.int .i64 0), (.int .i64 0), (.str ⟨#[]⟩), .nils, (.int .i64 0), (.int .i64 0), (.int .i64 0), (.int .i64 0)])

def hs31 : AV := (.tup [hs30, (.bool false)])

def hs32 : AV := (.tsl 5 [[(.bool true), (.int .i64 0), (.int .i64 1), (.int .i64 0), (.tsl 2 [[(.int .i64 0), (.int .i64 0)]])],
 [(.bool false), (.int .i64 0), (.int .i64 1), (.int .i64 0), (.tsl 2 [[(.int .i64 0), (.int .i64 1)],
 [(.int .i64 1), (.int .i64 0)]])],
 [(.bool false), (.int .i64 1), (.int .i64 4), (.int .i64 0), (.tsl 2 [[(.int .i64 0), (.int .i64 2)]])],
 [(.bool false), (.int .i64 1), (.int .i64 2), (.int .i64 0), (.tsl 2 [[(.int .i64 0), (.int .i64 3)]])],
 [(.bool true), (.int .i64 1), (.int .i64 1), (.int .i64 1), .nils]])

def hs33 : AV := (.tup [hs32, (.agg [(.int .i64 0), (.int .i64 0)])])


def hsZ (f : Nat) : Bool := bitOf 5260135901548373507240989882880128665550339802823173859498280903068732154297080822113666536277588451226982968856178217713019432250183803863127814770651880849955223671128444598191663757265352697628603105696284671 f
def hsG (f : Nat) : Bool := bitOf 5260135901548373507240989882880128665550339802823173859498280903068732154297080822113666536277588451226982968856178217713019432250183803863127814757487844391383984808881532973883237239645881086952945564906188799 f

def hsT0 : List (Nat × (List AV × AV)) := []
theorem hsT0_ok : TOK Go.Proofs.Tryz.prog hsT0 := TOK.nil

def hsX0 : XP := ⟨hsZ, hsT0, hsG, kp.find⟩
theorem hsr0 : runOKX tr.find hsX0 2000 22 [hs0] hs2 = true := by kernel_rfl
theorem hsc0 : AV.pure hs2 = true ∧ ACalls Go.Proofs.Tryz.prog 22 [hs0] [] 0 (fun r _ _ => r = hs2) := runOKX_sound (fun _ _ h => Tr.find_ok tr_ok h) hsT0_ok hsr0
def hsT1 : List (Nat × (List AV × AV)) := (22, ([hs0], hs2)) :: hsT0
theorem hsT1_ok : TOK Go.Proofs.Tryz.prog hsT1 := TOK.cons hsc0 hsT0_ok

def hsX1 : XP := ⟨hsZ, hsT1, hsG, kp.find⟩
theorem hsr1 : runOKX tr.find hsX1 2000 15 [hs0] hs8 = true := by kernel_rfl
theorem hsc1 : AV.pure hs8 = true ∧ ACalls Go.Proofs.Tryz.prog 15 [hs0] [] 0 (fun r _ _ => r = hs8) := runOKX_sound (fun _ _ h => Tr.find_ok tr_ok h) hsT1_ok hsr1
def hsT2 : List (Nat × (List AV × AV)) := (15, ([hs0], hs8)) :: hsT1
theorem hsT2_ok : TOK Go.Proofs.Tryz.prog hsT2 := TOK.cons hsc1 hsT1_ok

def hsX2 : XP := ⟨hsZ, hsT2, hsG, kp.find⟩
theorem hsr2 : runOKX tr.find hsX2 2000 29 [hs7] hs13 = true := by kernel_rfl
theorem hsc2 : AV.pure hs13 = true ∧ ACalls Go.Proofs.Tryz.prog 29 [hs7] [] 0 (fun r _ _ => r = hs13) := runOKX_sound (fun _ _ h => Tr.find_ok tr_ok h) hsT2_ok hsr2
def hsT3 : List (Nat × (List AV × AV)) := (29, ([hs7], hs13)) :: hsT2
theorem hsT3_ok : TOK Go.Proofs.Tryz.prog hsT3 := TOK.cons hsc2 hsT2_ok

def hsX3 : XP := ⟨hsZ, hsT3, hsG, kp.find⟩
theorem hsr3 : runOKX tr.find hsX3 2000 30 [hs12] hs19 = true := by kernel_rfl
theorem hsc3 : AV.pure hs19 = true ∧ ACalls Go.Proofs.Tryz.prog 30 [hs12] [] 0 (fun r _ _ => r = hs19) := runOKX_sound (fun _ _ h => Tr.find_ok tr_ok h) hsT3_ok hsr3
def hsT4 : List (Nat × (List AV × AV)) := (30, ([hs12], hs19)) :: hsT3
theorem hsT4_ok : TOK Go.Proofs.Tryz.prog hsT4 := TOK.cons hsc3 hsT3_ok

def hsX4 : XP := ⟨hsZ, hsT4, hsG, kp.find⟩
theorem hsr4 : runOKX tr.find hsX4 2000 31 [hs20, (.int .i64 0), (.int .i64 0)] hs23 = true := by kernel_rfl
theorem hsc4 : AV.pure hs23 = true ∧ ACalls Go.Proofs.Tryz.prog 31 [hs20, (.int .i64 0), (.int .i64 0)] [] 0 (fun r _ _ => r = hs23) := runOKX_sound (fun _ _ h => Tr.find_ok tr_ok h) hsT4_ok hsr4
def hsT5 : List (Nat × (List AV × AV)) := (31, ([hs20, (.int .i64 0), (.int .i64 0)], hs23)) :: hsT4
theorem hsT5_ok : TOK Go.Proofs.Tryz.prog hsT5 := TOK.cons hsc4 hsT4_ok

def hsX5 : XP := ⟨hsZ, hsT5, hsG, kp.find⟩
theorem hsr5 : runOKX tr.find hsX5 2000 16 [hs7] hs26 = true := by kernel_rfl
theorem hsc5 : AV.pure hs26 = true ∧ ACalls Go.Proofs.Tryz.prog 16 [hs7] [] 0 (fun r _ _ => r = hs26) := runOKX_sound (fun _ _ h => Tr.find_ok tr_ok h) hsT5_ok hsr5
def hsT6 : List (Nat × (List AV × AV)) := (16, ([hs7], hs26)) :: hsT5
theorem hsT6_ok : TOK Go.Proofs.Tryz.prog hsT6 := TOK.cons hsc5 hsT5_ok

def hsX6 : XP := ⟨hsZ, hsT6, hsG, kp.find⟩
theorem hsr6 : runOKX tr.find hsX6 2000 87 [hs22] (.bool true) = true := by kernel_rfl
theorem hsc6 : AV.pure (.bool true) = true ∧ ACalls Go.Proofs.Tryz.prog 87 [hs22] [] 0 (fun r _ _ => r = (.bool true)) := runOKX_sound (fun _ _ h => Tr.find_ok tr_ok h) hsT6_ok hsr6
def hsT7 : List (Nat × (List AV × AV)) := (87, ([hs22], (.bool true))) :: hsT6
theorem hsT7_ok : TOK Go.Proofs.Tryz.prog hsT7 := TOK.cons hsc6 hsT6_ok

def hsX7 : XP := ⟨hsZ, hsT7, hsG, kp.find⟩
theorem hsr7 : runOKX tr.find hsX7 2000 87 [hs27] (.bool true) = true := by kernel_rfl
theorem hsc7 : AV.pure (.bool true) = true ∧ ACalls Go.Proofs.Tryz.prog 87 [hs27] [] 0 (fun r _ _ => r = (.bool true)) := runOKX_sound (fun _ _ h => Tr.find_ok tr_ok h) hsT7_ok hsr7
def hsT8 : List (Nat × (List AV × AV)) := (87, ([hs27], (.bool true))) :: hsT7
theorem hsT8_ok : TOK Go.Proofs.Tryz.prog hsT8 := TOK.cons hsc7 hsT7_ok

def hsX8 : XP := ⟨hsZ, hsT8, hsG, kp.find⟩
theorem hsr8 : runOKX tr.find hsX8 2000 93 [(.tsl 4 [[(.int .i64 0), (.int .i64 1), (.int .i64 4), (.int .i64 4)]]), hs28] (.bool false) = true := by kernel_rfl
theorem hsc8 : AV.pure (.bool false) = true ∧ ACalls Go.Proofs.Tryz.prog 93 [(.tsl 4 [[(.int .i64 0), (.int .i64 1), (.int .i64 4), (.int .i64 4)]]), hs28] [] 0 (fun r _ _ => r = (.bool false)) := runOKX_sound (fun _ _ h => Tr.find_ok tr_ok h) hsT8_ok hsr8
def hsT9 : List (Nat × (List AV × AV)) := (93, ([(.tsl 4 [[(.int .i64 0), (.int .i64 1), (.int .i64 4), (.int .i64 4)]]), hs28], (.bool false))) :: hsT8
theorem hsT9_ok : TOK Go.Proofs.Tryz.prog hsT9 := TOK.cons hsc8 hsT8_ok

def hsX9 : XP := ⟨hsZ, hsT9, hsG, kp.find⟩
theorem hsr9 : runOKX tr.find hsX9 2000 93 [(.tsl 4 [[(.int .i64 0), (.int .i64 1), (.int .i64 4), (.int .i64 4)]]), hs29] (.bool false) = true := by kernel_rfl
theorem hsc9 : AV.pure (.bool false) = true ∧ ACalls Go.Proofs.Tryz.prog 93 [(.tsl 4 [[(.int .i64 0), (.int .i64 1), (.int .i64 4), (.int .i64 4)]]), hs29] [] 0 (fun r _ _ => r = (.bool false)) := runOKX_sound (fun _ _ h => Tr.find_ok tr_ok h) hsT9_ok hsr9
def hsT10 : List (Nat × (List AV × AV)) := (93, ([(.tsl 4 [[(.int .i64 0), (.int .i64 1), (.int .i64 4), (.int .i64 4)]]), hs29], (.bool false))) :: hsT9
theorem hsT10_ok : TOK Go.Proofs.Tryz.prog hsT10 := TOK.cons hsc9 hsT9_ok

def hsX10 : XP := ⟨hsZ, hsT10, hsG, kp.find⟩
theorem hsr10 : runOKX tr.find hsX10 2000 56 [hs25, (.tsl 4 [[(.int .i64 0), (.int .i64 1), (.int .i64 4), (.int .i64 4)]])] hs31 = true := by kernel_rfl
theorem hsc10 : AV.pure hs31 = true ∧ ACalls Go.Proofs.Tryz.prog 56 [hs25, (.tsl 4 [[(.int .i64 0), (.int .i64 1), (.int .i64 4), (.int .i64 4)]])] [] 0 (fun r _ _ => r = hs31) := runOKX_sound (fun _ _ h => Tr.find_ok tr_ok h) hsT10_ok hsr10
def hsT11 : List (Nat × (List AV × AV)) := (56, ([hs25, (.tsl 4 [[(.int .i64 0), (.int .i64 1), (.int .i64 4), (.int .i64 4)]])], hs31)) :: hsT10
theorem hsT11_ok : TOK Go.Proofs.Tryz.prog hsT11 := TOK.cons hsc10 hsT10_ok

def hsX11 : XP := ⟨hsZ, hsT11, hsG, kp.find⟩
theorem hsr11 : runOKX tr.find hsX11 2000 17 [hs25] hs33 = true := by kernel_rfl
theorem hsc11 : AV.pure hs33 = true ∧ ACalls Go.Proofs.Tryz.prog 17 [hs25] [] 0 (fun r _ _ => r = hs33) := runOKX_sound (fun _ _ h => Tr.find_ok tr_ok h) hsT11_ok hsr11
def hsT12 : List (Nat × (List AV × AV)) := (17, ([hs25], hs33)) :: hsT11
theorem hsT12_ok : TOK Go.Proofs.Tryz.prog hsT12 := TOK.cons hsc11 hsT11_ok

def hsX12 : XP := ⟨hsZ, hsT12, hsG, kp.find⟩
theorem hsr12 : runOKX tr.find hsX12 2000 6 [] (.bool true) = true := by kernel_rfl
theorem hsc12 : AV.pure (.bool true) = true ∧ ACalls Go.Proofs.Tryz.prog 6 [] [] 0 (fun r _ _ => r = (.bool true)) := runOKX_sound (fun _ _ h => Tr.find_ok tr_ok h) hsT12_ok hsr12
def hsT13 : List (Nat × (List AV × AV)) := (6, ([], (.bool true))) :: hsT12
theorem hsT13_ok : TOK Go.Proofs.Tryz.prog hsT13 := TOK.cons hsc12 hsT12_ok

theorem hsheads : ACalls Go.Proofs.Tryz.prog 6 [] [] 0 (fun r _ _ => r = .bool true) := hsc12.2
end
end Go.AM.Cl
