/- A part of a proof about the given program: what its name says. No premise beyond the statements'. -/
import Derived.Test.YtjfmkhihhdhnnaaGreatDoorDzCode
import Derived.KernelRfl
set_option linter.unusedSimpArgs false
set_option linter.unusedVariables false
namespace Go.AM.Dz
open Go.AM
noncomputable section

def hd0 : AV := (.str ⟨#[115, 116, 97, 102, 102, 32, 123, 32, 118, 111, 105, 99, 101, 32, 123, 32, 99, 108, 101, 102, 32, 98, 97, 115, 115, 32, 107, 101, 121, 32, 100, 32, 109, 97, 106, 111, 114, 32, 99, 49, 32, 124, 32, 107, 101, 121, 32, 99, 32, 109, 97, 106, 111, 114, 32, 116, 105, 109, 101, 32, 51, 47, 52, 32, 99, 50, 46, 32, 125, 32, 125]⟩)

def hd1 : AV := (.tsl 3 [[(.int .i64 1), (.str ⟨#[115, 116, 97, 102, 102]⟩), (.int .i64 0)],
 [(.int .i64 4), (.str ⟨#[123]⟩), (.int .i64 6)],
 [(.int .i64 1), (.str ⟨#[118, 111, 105, 99, 101]⟩), (.int .i64 8)],
 [(.int .i64 4), (.str ⟨#[123]⟩), (.int .i64 14)],
 [(.int .i64 1), (.str ⟨#[99, 108, 101, 102]⟩), (.int .i64 16)],
 [(.int .i64 1), (.str ⟨#[98, 97, 115, 115]⟩), (.int .i64 21)],
 [(.int .i64 1), (.str ⟨#[107, 101, 121]⟩), (.int .i64 26)],
 [(.int .i64 1), (.str ⟨#[100]⟩), (.int .i64 30)],
 [(.int .i64 1), (.str ⟨#[109, 97, 106, 111, 114]⟩), (.int .i64 32)],
 [(.int .i64 1), (.str ⟨#[99]⟩), (.int .i64 38)],
 [(.int .i64 2), (.str ⟨#[49]⟩), (.int .i64 39)],
 [(.int .i64 4), (.str ⟨#[124]⟩), (.int .i64 41)],
 [(.int .i64 1), (.str ⟨#[107, 101, 121]⟩), (.int .i64 43)],
 [(.int .i64 1), (.str ⟨#[99]⟩), (.int .i64 47)],
 [(.int .i64 1), (.str ⟨#[109, 97, 106, 111, 114]⟩), (.int .i64 49)],
 [(.int .i64 1), (.str ⟨#[116, 105, 109, 101]⟩), (.int .i64 55)],
 [(.int .i64 2), (.str ⟨#[51]⟩), (.int .i64 60)],
 [(.int .i64 4), (.str ⟨#[47]⟩), (.int .i64 61)],
 [(.int .i64 2), (.str ⟨#[52]⟩), (.int .i64 62)],
 [(.int .i64 1), (.str ⟨#[99]⟩), (.int .i64 64)],
 [(.int .i64 2), (.str ⟨#[50]⟩), (.int .i64 65)],
 [(.int .i64 4), (.str ⟨#[46]⟩), (.int .i64 66)],
 [(.int .i64 4), (.str ⟨#[125]⟩), (.int .i64 68)],
 [(.int .i64 4), (.str ⟨#[125]⟩), (.int .i64 70)],
 [(.int .i64 8), (.str ⟨#[]⟩), (.int .i64 71)]])

def hd2 : AV := (.tup [hd1, (.agg [(.int .i64 0), (.int .i64 0)])])

def hd3 : AV := (.tsl 14 [[(.int .i64 9), (.int .i64 16), .nils, (.bool false), (.int .i64 0), (.int .i64 0), (.bool false), (.int .i64 0), (.int .i64 0), (.str ⟨#[]⟩), (.int .i64 0), (.int .i64 0), (.str ⟨#[98, 97, 115, 115]⟩), .nils],
 [(.int .i64 10), (.int .i64 26), (.tsl 3 [[(.int .i64 1), (.int .i64 0), (.int .i64 0)]]), (.bool false), (.int .i64 0), (.int .i64 0), (.bool false), (.int .i64 0), (.int .i64 0), (.str ⟨#[]⟩), (.int .i64 0), (.int .i64 0), (.str ⟨#[109, 97, 106, 111, 114]⟩), .nils],
 [(.int .i64 1), (.int .i64 38), (.tsl 3 [[(.int .i64 0), (.int .i64 0), (.int .i64 0)]]), (.bool true), (.int .i64 0), (.int .i64 0), (.bool false), (.int .i64 0), (.int .i64 0), (.str ⟨#[]⟩), (.int .i64 0), (.int .i64 0), (.str ⟨#[]⟩), .nils],
 [(.int .i64 12), (.int .i64 41), .nils, (.bool false), (.int .i64 0), (.int .i64 0), (.bool false), (.int .i64 0), (.int .i64 0), (.str ⟨#[]⟩), (.int .i64 0), (.int .i64 0), (.str ⟨#[]⟩), .nils],
 [(.int .i64 10), (.int .i64 43), (.tsl 3 [[(.int .i64 0), (.int .i64 0), (.int .i64 0)]]), (.bool false), (.int .i64 0), (.int .i64 0), (.bool false), (.int .i64 0), (.int .i64 0), (.str ⟨#[]⟩), (.int .i64 0), (.int .i64 0), (.str ⟨#[109, 97, 106, 111, 114]⟩), .nils],
 [(.int .i64 11), (.int .i64 55), .nils, (.bool false), (.int .i64 0), (.int .i64 0), (.bool false), (.int .i64 0), (.int .i64 0), (.str ⟨#[]⟩), (.int .i64 3), (.int .i64 4), (.str ⟨#[]⟩), .nils],
 [(.int .i64 1), (.int .i64 64), (.tsl 3 [[(.int .i64 0), (.int .i64 0), (.int .i64 0)]]), (.bool true), (.int .i64 1), (.int .i64 1), (.bool false), (.int .i64 0), (.int .i64 0), (.str ⟨#[]⟩), (.int .i64 0), (.int .i64 0), (.str ⟨#[]⟩), .nils]])

def hd4 : AV := (.tsl 3 [[(.int .i64 8), hd3, .nils]])

def hd5 : AV := (.tsl 3 [[(.int .i64 0), (.str ⟨#[]⟩), hd4]])

def hd6 : AV := (.agg [hd5])

def hd7 : AV := (.tup [hd6, (.agg [(.int .i64 0), (.int .i64 0)])])

def hd8 : AV := (.tsl 14 [[(.int .i64 9), (.int .i64 16), .nils, (.bool false), (.int .i64 0), (.int .i64 0), (.bool false), (.int .i64 0), (.int .i64 0), (.str ⟨#[]⟩), (.int .i64 0), (.int .i64 0), (.str ⟨#[98, 97, 115, 115]⟩), (.tsl 14 [])],
 [(.int .i64 10), (.int .i64 26), (.tsl 3 [[(.int .i64 1), (.int .i64 0), (.int .i64 0)]]), (.bool false), (.int .i64 0), (.int .i64 0), (.bool false), (.int .i64 0), (.int .i64 0), (.str ⟨#[]⟩), (.int .i64 0), (.int .i64 0), (.str ⟨#[109, 97, 106, 111, 114]⟩), (.tsl 14 [])],
 [(.int .i64 1), (.int .i64 38), (.tsl 3 [[(.int .i64 0), (.int .i64 0), (.int .i64 0)]]), (.bool true), (.int .i64 0), (.int .i64 0), (.bool false), (.int .i64 0), (.int .i64 0), (.str ⟨#[]⟩), (.int .i64 0), (.int .i64 0), (.str ⟨#[]⟩), (.tsl 14 [])],
 [(.int .i64 12), (.int .i64 41), .nils, (.bool false), (.int .i64 0), (.int .i64 0), (.bool false), (.int .i64 0), (.int .i64 0), (.str ⟨#[]⟩), (.int .i64 0), (.int .i64 0), (.str ⟨#[]⟩), (.tsl 14 [])],
 [(.int .i64 10), (.int .i64 43), (.tsl 3 [[(.int .i64 0), (.int .i64 0), (.int .i64 0)]]), (.bool false), (.int .i64 0), (.int .i64 0), (.bool false), (.int .i64 0), (.int .i64 0), (.str ⟨#[]⟩), (.int .i64 0), (.int .i64 0), (.str ⟨#[109, 97, 106, 111, 114]⟩), (.tsl 14 [])],
 [(.int .i64 11), (.int .i64 55), .nils, (.bool false), (.int .i64 0), (.int .i64 0), (.bool false), (.int .i64 0), (.int .i64 0), (.str ⟨#[]⟩), (.int .i64 3), (.int .i64 4), (.str ⟨#[]⟩), (.tsl 14 [])],
 [(.int .i64 1), (.int .i64 64), (.tsl 3 [[(.int .i64 0), (.int .i64 0), (.int .i64 0)]]), (.bool true), (.int .i64 1), (.int .i64 1), (.bool false), (.int .i64 0), (.int .i64 0), (.str ⟨#[]⟩), (.int .i64 0), (.int .i64 0), (.str ⟨#[]⟩), (.tsl 14 [])]])

def hd9 : AV := (.agg [(.int .i64 8), hd8, .nils])

def hd10 : AV := (.tsl 18 [[(.int .i64 9), (.int .i64 16), (.int .i64 0), (.int .i64 1), (.int .i64 0), (.int .i64 1), (.int .i64 0), (.int .i64 0), .nils, (.bool false), (.int .i64 0), (.int .i64 0), (.str ⟨#[]⟩), (.tsl 1 []), (.int .i64 0), (.int .i64 0), (.int .i64 0), (.int .i64 27)],
 [(.int .i64 10), (.int .i64 26), (.int .i64 0), (.int .i64 1), (.int .i64 0), (.int .i64 1), (.int .i64 0), (.int .i64 0), .nils, (.bool false), (.int .i64 0), (.int .i64 0), (.str ⟨#[]⟩), (.tsl 1 []), (.int .i64 0), (.int .i64 2), (.int .i64 0), (.int .i64 0)],
 [(.int .i64 1), (.int .i64 38), (.int .i64 0), (.int .i64 1), (.int .i64 1), (.int .i64 1), (.int .i64 0), (.int .i64 0), (.tsl 3 [[(.int .i64 0), (.int .i64 0), (.int .i64 3)]]), (.bool false), (.int .i64 0), (.int .i64 0), (.str ⟨#[]⟩), (.tsl 1 []), (.int .i64 0), (.int .i64 0), (.int .i64 0), (.int .i64 0)],
 [(.int .i64 12), (.int .i64 41), (.int .i64 1), (.int .i64 1), (.int .i64 0), (.int .i64 1), (.int .i64 0), (.int .i64 0), .nils, (.bool false), (.int .i64 0), (.int .i64 0), (.str ⟨#[]⟩), (.tsl 1 []), (.int .i64 0), (.int .i64 0), (.int .i64 0), (.int .i64 0)],
 [(.int .i64 10), (.int .i64 43), (.int .i64 1), (.int .i64 1), (.int .i64 0), (.int .i64 1), (.int .i64 0), (.int .i64 0), .nils, (.bool false), (.int .i64 0), (.int .i64 0), (.str ⟨#[]⟩), (.tsl 1 []), (.int .i64 0), (.int .i64 0), (.int .i64 0), (.int .i64 0)],
 [(.int .i64 11), (.int .i64 55), (.int .i64 1), (.int .i64 1), (.int .i64 0), (.int .i64 1), (.int .i64 0), (.int .i64 0), .nils, (.bool false), (.int .i64 0), (.int .i64 0), (.str ⟨#[]⟩), (.tsl 1 []), (.int .i64 0), (.int .i64 3), (.int .i64 4), (.int .i64 0)],
 [(.int .i64 1), (.int .i64 64), (.int .i64 1), (.int .i64 1), (.int .i64 3), (.int .i64 4), (.int .i64 1), (.int .i64 1), (.tsl 3 [[(.int .i64 0), (.int .i64 0), (.int .i64 3)]]), (.bool false), (.int .i64 0), (.int .i64 0), (.str ⟨#[]⟩), (.tsl 1 []), (.int .i64 0), (.int .i64 0), (.int .i64 0), (.int .i64 0)]])

def hd11 : AV := (.agg [(.int .i64 0), (.int .i64 0), hd10, .nils, (.int .i64 7), (.int .i64 4), .nils])

def hd12 : AV := (.tup [hd11, (.agg [(.int .i64 0), (.int .i64 0)])])

def hd13 : AV := (.tsl 7 [[(.int .i64 0), (.int .i64 0), hd10, .nils, (.int .i64 7), (.int .i64 4), .nils]])

def hd14 : AV := (.tup [hd13, (.agg [(.int .i64 0), (.int .i64 0)])])

def hd15 : AV := (.agg [(.int .i64 1), (.int .i64 64), (.int .i64 1), (.int .i64 1), (.int .i64 3), (.int .i64 4), (.int .i64 1), (.int .i64 1), (.tsl 3 [[(.int .i64 0), (.int .i64 0), (.int .i64 3)]]), (.bool false), (.int .i64 0), (.int .i64 0), (.str ⟨#[]⟩), (.tsl 1 []), (.int .i64 0), (.int .i64 0), (.int .i64 0), (.int .i64 0)])

def hd16 : AV := (.tup [(.tsl 4 [[(.int .i64 0), (.int .i64 1), (.int .i64 4), (.int .i64 4)],
 [(.int .i64 1), (.int .i64 1), (.int .i64 3), (.int .i64 4)]]), (.agg [(.int .i64 0), (.int .i64 0)])])

def hd17 : AV := (.tsl 5 [[(.bool true), (.int .i64 0), (.int .i64 1), (.int .i64 0), (.tsl 2 [[(.int .i64 0), (.int .i64 0)],
 [(.int .i64 0), (.int .i64 1)]])],
 [(.bool false), (.int .i64 0), (.int .i64 1), (.int .i64 0), (.tsl 2 [[(.int .i64 0), (.int .i64 2)]])],
 [(.bool true), (.int .i64 1), (.int .i64 1), (.int .i64 1), (.tsl 2 [[(.int .i64 0), (.int .i64 3)],
 [(.int .i64 0), (.int .i64 4)],
 [(.int .i64 0), (.int .i64 5)]])],
 [(.bool false), (.int .i64 1), (.int .i64 1), (.int .i64 1), (.tsl 2 [[(.int .i64 0), (.int .i64 6)]])],
 [(.bool true), (.int .i64 7), (.int .i64 4), (.int .i64 2), (.tsl 2 [])]])

def hd18 : AV := (.tup [hd17, (.agg [(.int .i64 0), (.int .i64 0)])])

def hd19 : AV := (.agg [(.int .i64 0), (.int .i64 0), (.int .i64 0), (.int .i64 0), (.int .i64 0), (.int .i64 0), (.int .i64 0), (.int .i64 0), .nils, (.bool false), (.int .i64 0), (.int .i64 0), (.str ⟨#[]⟩), .nils, (.int .i64 0), (.int .i64 0), (.int .i64 0), (.int .i64 0)])

def hd20 : AV := (.tup [hd19, (.bool false)])

def hd21 : AV := (.tsl 7 [[(.int .i64 27), (.int .i64 0), (.int .i64 1024), (.bool false), (.int .i64 (-1)), (.int .i64 (-1)), (.int .i64 (-1))],
 [(.int .i64 21), (.int .i64 3312), (.int .i64 1024), (.bool false), (.int .i64 (-1)), (.int .i64 (-1)), (.int .i64 (-1))],
 [(.int .i64 21), (.int .i64 4432), (.int .i64 (-512)), (.bool false), (.int .i64 (-1)), (.int .i64 (-1)), (.int .i64 (-1))],
 [(.int .i64 34), (.int .i64 5964), (.int .i64 1024), (.bool false), (.int .i64 (-1)), (.int .i64 (-1)), (.int .i64 (-1))],
 [(.int .i64 34), (.int .i64 5964), (.int .i64 (-1024)), (.bool false), (.int .i64 (-1)), (.int .i64 (-1)), (.int .i64 (-1))]])

def hd22 : AV := (.agg [hd21, .nils, (.int .i64 0), (.int .i64 7704)])

def hd23 : AV := (.tsl 7 [[(.int .i64 41), (.int .i64 0), (.int .i64 0), (.bool false), (.int .i64 (-1)), (.int .i64 (-1)), (.int .i64 (-1))],
 [(.int .i64 23), (.int .i64 672), (.int .i64 1024), (.bool false), (.int .i64 (-1)), (.int .i64 (-1)), (.int .i64 (-1))],
 [(.int .i64 23), (.int .i64 1472), (.int .i64 (-512)), (.bool false), (.int .i64 (-1)), (.int .i64 (-1)), (.int .i64 (-1))],
 [(.int .i64 33), (.int .i64 2684), (.int .i64 1024), (.bool false), (.int .i64 (-1)), (.int .i64 (-1)), (.int .i64 (-1))],
 [(.int .i64 34), (.int .i64 2684), (.int .i64 (-1024)), (.bool false), (.int .i64 (-1)), (.int .i64 (-1)), (.int .i64 (-1))]])

def hd24 : AV := (.agg [hd23, .nils, (.int .i64 0), (.int .i64 4424)])


def hdZ (f : Nat) : Bool := bitOf 5260135901548373507240989882880128665550339802823173859498280903068732154297080822113666536277588451226982968856178217713019432250183803863127814770651880849859442699824325521038710314302206257363685640732934143 f
def hdG (f : Nat) : Bool := bitOf 5260135901548373507240989882880128665550339802823173859498280903068732154297080822113666536277588451226982825512514717290586539676520381443810137040863984219353227861119698965780066633931642600871623131103473663 f

def hdT0 : List (Nat × (List AV × AV)) := []
theorem hdT0_ok : TOK Go.Proofs.Tryz.prog hdT0 := TOK.nil

def hdX0 : XP := ⟨hdZ, hdT0, hdG, kp.find⟩
theorem hdr0 : runOKX tr.find hdX0 2000 33 [hd0] hd2 = true := by kernel_rfl
theorem hdc0 : AV.pure hd2 = true ∧ ACalls Go.Proofs.Tryz.prog 33 [hd0] [] 0 (fun r _ _ => r = hd2) := runOKX_sound (fun _ _ h => Tr.find_ok tr_ok h) hdT0_ok hdr0
def hdT1 : List (Nat × (List AV × AV)) := (33, ([hd0], hd2)) :: hdT0
theorem hdT1_ok : TOK Go.Proofs.Tryz.prog hdT1 := TOK.cons hdc0 hdT0_ok

def hdX1 : XP := ⟨hdZ, hdT1, hdG, kp.find⟩
theorem hdr1 : runOKX tr.find hdX1 2000 14 [hd0] hd7 = true := by kernel_rfl
theorem hdc1 : AV.pure hd7 = true ∧ ACalls Go.Proofs.Tryz.prog 14 [hd0] [] 0 (fun r _ _ => r = hd7) := runOKX_sound (fun _ _ h => Tr.find_ok tr_ok h) hdT1_ok hdr1
def hdT2 : List (Nat × (List AV × AV)) := (14, ([hd0], hd7)) :: hdT1
theorem hdT2_ok : TOK Go.Proofs.Tryz.prog hdT2 := TOK.cons hdc1 hdT1_ok

def hdX2 : XP := ⟨hdZ, hdT2, hdG, kp.find⟩
theorem hdr2 : runOKX tr.find hdX2 2000 48 [hd9, (.int .i64 0), (.int .i64 0)] hd12 = true := by kernel_rfl
theorem hdc2 : AV.pure hd12 = true ∧ ACalls Go.Proofs.Tryz.prog 48 [hd9, (.int .i64 0), (.int .i64 0)] [] 0 (fun r _ _ => r = hd12) := runOKX_sound (fun _ _ h => Tr.find_ok tr_ok h) hdT2_ok hdr2
def hdT3 : List (Nat × (List AV × AV)) := (48, ([hd9, (.int .i64 0), (.int .i64 0)], hd12)) :: hdT2
theorem hdT3_ok : TOK Go.Proofs.Tryz.prog hdT3 := TOK.cons hdc2 hdT2_ok

def hdX3 : XP := ⟨hdZ, hdT3, hdG, kp.find⟩
theorem hdr3 : runOKX tr.find hdX3 2000 21 [hd6] hd14 = true := by kernel_rfl
theorem hdc3 : AV.pure hd14 = true ∧ ACalls Go.Proofs.Tryz.prog 21 [hd6] [] 0 (fun r _ _ => r = hd14) := runOKX_sound (fun _ _ h => Tr.find_ok tr_ok h) hdT3_ok hdr3
def hdT4 : List (Nat × (List AV × AV)) := (21, ([hd6], hd14)) :: hdT3
theorem hdT4_ok : TOK Go.Proofs.Tryz.prog hdT4 := TOK.cons hdc3 hdT3_ok

def hdX4 : XP := ⟨hdZ, hdT4, hdG, kp.find⟩
theorem hdr4 : runOKX tr.find hdX4 2000 165 [hd11] (.bool true) = true := by kernel_rfl
theorem hdc4 : AV.pure (.bool true) = true ∧ ACalls Go.Proofs.Tryz.prog 165 [hd11] [] 0 (fun r _ _ => r = (.bool true)) := runOKX_sound (fun _ _ h => Tr.find_ok tr_ok h) hdT4_ok hdr4
def hdT5 : List (Nat × (List AV × AV)) := (165, ([hd11], (.bool true))) :: hdT4
theorem hdT5_ok : TOK Go.Proofs.Tryz.prog hdT5 := TOK.cons hdc4 hdT4_ok

def hdX5 : XP := ⟨hdZ, hdT5, hdG, kp.find⟩
theorem hdr5 : runOKX tr.find hdX5 2000 102 [(.tsl 4 [[(.int .i64 0), (.int .i64 1), (.int .i64 4), (.int .i64 4)],
 [(.int .i64 1), (.int .i64 1), (.int .i64 3), (.int .i64 4)]]), hd15] (.bool false) = true := by kernel_rfl
theorem hdc5 : AV.pure (.bool false) = true ∧ ACalls Go.Proofs.Tryz.prog 102 [(.tsl 4 [[(.int .i64 0), (.int .i64 1), (.int .i64 4), (.int .i64 4)],
 [(.int .i64 1), (.int .i64 1), (.int .i64 3), (.int .i64 4)]]), hd15] [] 0 (fun r _ _ => r = (.bool false)) := runOKX_sound (fun _ _ h => Tr.find_ok tr_ok h) hdT5_ok hdr5
def hdT6 : List (Nat × (List AV × AV)) := (102, ([(.tsl 4 [[(.int .i64 0), (.int .i64 1), (.int .i64 4), (.int .i64 4)],
 [(.int .i64 1), (.int .i64 1), (.int .i64 3), (.int .i64 4)]]), hd15], (.bool false))) :: hdT5
theorem hdT6_ok : TOK Go.Proofs.Tryz.prog hdT6 := TOK.cons hdc5 hdT5_ok

def hdX6 : XP := ⟨hdZ, hdT6, hdG, kp.find⟩
theorem hdr6 : runOKX tr.find hdX6 2000 49 [hd13] hd16 = true := by kernel_rfl
theorem hdc6 : AV.pure hd16 = true ∧ ACalls Go.Proofs.Tryz.prog 49 [hd13] [] 0 (fun r _ _ => r = hd16) := runOKX_sound (fun _ _ h => Tr.find_ok tr_ok h) hdT6_ok hdr6
def hdT7 : List (Nat × (List AV × AV)) := (49, ([hd13], hd16)) :: hdT6
theorem hdT7_ok : TOK Go.Proofs.Tryz.prog hdT7 := TOK.cons hdc6 hdT6_ok

def hdX7 : XP := ⟨hdZ, hdT7, hdG, kp.find⟩
theorem hdr7 : runOKX tr.find hdX7 2000 51 [hd13, (.tsl 4 [[(.int .i64 0), (.int .i64 1), (.int .i64 4), (.int .i64 4)],
 [(.int .i64 1), (.int .i64 1), (.int .i64 3), (.int .i64 4)]])] (.tsl 2 [[(.int .i64 0), (.int .i64 1)],
 [(.int .i64 1), (.int .i64 1)],
 [(.int .i64 7), (.int .i64 4)]]) = true := by kernel_rfl
theorem hdc7 : AV.pure (.tsl 2 [[(.int .i64 0), (.int .i64 1)],
 [(.int .i64 1), (.int .i64 1)],
 [(.int .i64 7), (.int .i64 4)]]) = true ∧ ACalls Go.Proofs.Tryz.prog 51 [hd13, (.tsl 4 [[(.int .i64 0), (.int .i64 1), (.int .i64 4), (.int .i64 4)],
 [(.int .i64 1), (.int .i64 1), (.int .i64 3), (.int .i64 4)]])] [] 0 (fun r _ _ => r = (.tsl 2 [[(.int .i64 0), (.int .i64 1)],
 [(.int .i64 1), (.int .i64 1)],
 [(.int .i64 7), (.int .i64 4)]])) := runOKX_sound (fun _ _ h => Tr.find_ok tr_ok h) hdT7_ok hdr7
def hdT8 : List (Nat × (List AV × AV)) := (51, ([hd13, (.tsl 4 [[(.int .i64 0), (.int .i64 1), (.int .i64 4), (.int .i64 4)],
 [(.int .i64 1), (.int .i64 1), (.int .i64 3), (.int .i64 4)]])], (.tsl 2 [[(.int .i64 0), (.int .i64 1)],
 [(.int .i64 1), (.int .i64 1)],
 [(.int .i64 7), (.int .i64 4)]]))) :: hdT7
theorem hdT8_ok : TOK Go.Proofs.Tryz.prog hdT8 := TOK.cons hdc7 hdT7_ok

def hdX8 : XP := ⟨hdZ, hdT8, hdG, kp.find⟩
theorem hdr8 : runOKX tr.find hdX8 2000 22 [hd13] hd18 = true := by kernel_rfl
theorem hdc8 : AV.pure hd18 = true ∧ ACalls Go.Proofs.Tryz.prog 22 [hd13] [] 0 (fun r _ _ => r = hd18) := runOKX_sound (fun _ _ h => Tr.find_ok tr_ok h) hdT8_ok hdr8
def hdT9 : List (Nat × (List AV × AV)) := (22, ([hd13], hd18)) :: hdT8
theorem hdT9_ok : TOK Go.Proofs.Tryz.prog hdT9 := TOK.cons hdc8 hdT8_ok

def hdX9 : XP := ⟨hdZ, hdT9, hdG, kp.find⟩
theorem hdr9 : runOKX tr.find hdX9 2000 173 [hd11] (.bool true) = true := by kernel_rfl
theorem hdc9 : AV.pure (.bool true) = true ∧ ACalls Go.Proofs.Tryz.prog 173 [hd11] [] 0 (fun r _ _ => r = (.bool true)) := runOKX_sound (fun _ _ h => Tr.find_ok tr_ok h) hdT9_ok hdr9
def hdT10 : List (Nat × (List AV × AV)) := (173, ([hd11], (.bool true))) :: hdT9
theorem hdT10_ok : TOK Go.Proofs.Tryz.prog hdT10 := TOK.cons hdc9 hdT9_ok

def hdX10 : XP := ⟨hdZ, hdT10, hdG, kp.find⟩
theorem hdr10 : runOKX tr.find hdX10 2000 114 [hd13, (.tsl 4 [[(.int .i64 0), (.int .i64 1), (.int .i64 4), (.int .i64 4)],
 [(.int .i64 1), (.int .i64 1), (.int .i64 3), (.int .i64 4)]])] hd20 = true := by kernel_rfl
theorem hdc10 : AV.pure hd20 = true ∧ ACalls Go.Proofs.Tryz.prog 114 [hd13, (.tsl 4 [[(.int .i64 0), (.int .i64 1), (.int .i64 4), (.int .i64 4)],
 [(.int .i64 1), (.int .i64 1), (.int .i64 3), (.int .i64 4)]])] [] 0 (fun r _ _ => r = hd20) := runOKX_sound (fun _ _ h => Tr.find_ok tr_ok h) hdT10_ok hdr10
def hdT11 : List (Nat × (List AV × AV)) := (114, ([hd13, (.tsl 4 [[(.int .i64 0), (.int .i64 1), (.int .i64 4), (.int .i64 4)],
 [(.int .i64 1), (.int .i64 1), (.int .i64 3), (.int .i64 4)]])], hd20)) :: hdT10
theorem hdT11_ok : TOK Go.Proofs.Tryz.prog hdT11 := TOK.cons hdc10 hdT10_ok

def hdX11 : XP := ⟨hdZ, hdT11, hdG, kp.find⟩
theorem hdr11 : runOKX tr.find hdX11 2000 23 [hd13, (.int .i64 0), (.agg [(.int .i64 0), (.int .i64 1)])] hd22 = true := by kernel_rfl
theorem hdc11 : AV.pure hd22 = true ∧ ACalls Go.Proofs.Tryz.prog 23 [hd13, (.int .i64 0), (.agg [(.int .i64 0), (.int .i64 1)])] [] 0 (fun r _ _ => r = hd22) := runOKX_sound (fun _ _ h => Tr.find_ok tr_ok h) hdT11_ok hdr11
def hdT12 : List (Nat × (List AV × AV)) := (23, ([hd13, (.int .i64 0), (.agg [(.int .i64 0), (.int .i64 1)])], hd22)) :: hdT11
theorem hdT12_ok : TOK Go.Proofs.Tryz.prog hdT12 := TOK.cons hdc11 hdT11_ok

def hdX12 : XP := ⟨hdZ, hdT12, hdG, kp.find⟩
theorem hdr12 : runOKX tr.find hdX12 2000 24 [hd13, (.int .i64 0), hd17, (.int .i64 2)] hd24 = true := by kernel_rfl
theorem hdc12 : AV.pure hd24 = true ∧ ACalls Go.Proofs.Tryz.prog 24 [hd13, (.int .i64 0), hd17, (.int .i64 2)] [] 0 (fun r _ _ => r = hd24) := runOKX_sound (fun _ _ h => Tr.find_ok tr_ok h) hdT12_ok hdr12
def hdT13 : List (Nat × (List AV × AV)) := (24, ([hd13, (.int .i64 0), hd17, (.int .i64 2)], hd24)) :: hdT12
theorem hdT13_ok : TOK Go.Proofs.Tryz.prog hdT13 := TOK.cons hdc12 hdT12_ok

def hdX13 : XP := ⟨hdZ, hdT13, hdG, kp.find⟩
theorem hdr13 : runOKX tr.find hdX13 2000 11 [] (.bool true) = true := by kernel_rfl
theorem hdc13 : AV.pure (.bool true) = true ∧ ACalls Go.Proofs.Tryz.prog 11 [] [] 0 (fun r _ _ => r = (.bool true)) := runOKX_sound (fun _ _ h => Tr.find_ok tr_ok h) hdT13_ok hdr13
def hdT14 : List (Nat × (List AV × AV)) := (11, ([], (.bool true))) :: hdT13
theorem hdT14_ok : TOK Go.Proofs.Tryz.prog hdT14 := TOK.cons hdc13 hdT13_ok

theorem hdheads : ACalls Go.Proofs.Tryz.prog 11 [] [] 0 (fun r _ _ => r = .bool true) := hdc13.2
end
end Go.AM.Dz
