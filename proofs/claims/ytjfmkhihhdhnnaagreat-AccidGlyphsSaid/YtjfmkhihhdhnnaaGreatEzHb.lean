/- A part of a proof about the given program: what its name says. No premise beyond the statements'. -/
import Derived.Test.YtjfmkhihhdhnnaaGreatEzCode
import Derived.KernelRfl
set_option linter.unusedSimpArgs false
set_option linter.unusedVariables false
namespace Go.AM.Ez
open Go.AM
noncomputable section

def hb0 : AV := (.str ⟨#[115, 116, 97, 102, 102, 32, 123, 32, 118, 111, 105, 99, 101, 32, 123, 32, 99, 108, 101, 102, 32, 98, 97, 115, 115, 32, 107, 101, 121, 32, 100, 32, 109, 97, 106, 111, 114, 32, 102, 52, 32, 102, 105, 115, 32, 102, 32, 102, 105, 115, 126, 32, 102, 105, 115, 49, 32, 102, 49, 32, 125, 32, 125]⟩)

def hb1 : AV := (.tsl 3 [[(.int .i64 1), (.str ⟨#[115, 116, 97, 102, 102]⟩), (.int .i64 0)],
 [(.int .i64 4), (.str ⟨#[123]⟩), (.int .i64 6)],
 [(.int .i64 1), (.str ⟨#[118, 111, 105, 99, 101]⟩), (.int .i64 8)],
 [(.int .i64 4), (.str ⟨#[123]⟩), (.int .i64 14)],
 [(.int .i64 1), (.str ⟨#[99, 108, 101, 102]⟩), (.int .i64 16)],
 [(.int .i64 1), (.str ⟨#[98, 97, 115, 115]⟩), (.int .i64 21)],
 [(.int .i64 1), (.str ⟨#[107, 101, 121]⟩), (.int .i64 26)],
 [(.int .i64 1), (.str ⟨#[100]⟩), (.int .i64 30)],
 [(.int .i64 1), (.str ⟨#[109, 97, 106, 111, 114]⟩), (.int .i64 32)],
 [(.int .i64 1), (.str ⟨#[102]⟩), (.int .i64 38)],
 [(.int .i64 2), (.str ⟨#[52]⟩), (.int .i64 39)],
 [(.int .i64 1), (.str ⟨#[102, 105, 115]⟩), (.int .i64 41)],
 [(.int .i64 1), (.str ⟨#[102]⟩), (.int .i64 45)],
 [(.int .i64 1), (.str ⟨#[102, 105, 115]⟩), (.int .i64 47)],
 [(.int .i64 4), (.str ⟨#[126]⟩), (.int .i64 50)],
 [(.int .i64 1), (.str ⟨#[102, 105, 115]⟩), (.int .i64 52)],
 [(.int .i64 2), (.str ⟨#[49]⟩), (.int .i64 55)],
 [(.int .i64 1), (.str ⟨#[102]⟩), (.int .i64 57)],
 [(.int .i64 2), (.str ⟨#[49]⟩), (.int .i64 58)],
 [(.int .i64 4), (.str ⟨#[125]⟩), (.int .i64 60)],
 [(.int .i64 4), (.str ⟨#[125]⟩), (.int .i64 62)],
 [(.int .i64 8), (.str ⟨#[]⟩), (.int .i64 63)]])

def hb2 : AV := (.tup [hb1, (.agg [(.int .i64 0), (.int .i64 0)])])

def hb3 : AV := (.tsl 14 [[(.int .i64 9), (.int .i64 16), .nils, (.bool false), (.int .i64 0), (.int .i64 0), (.bool false), (.int .i64 0), (.int .i64 0), (.str ⟨#[]⟩), (.int .i64 0), (.int .i64 0), (.str ⟨#[98, 97, 115, 115]⟩), .nils],
 [(.int .i64 10), (.int .i64 26), (.tsl 3 [[(.int .i64 1), (.int .i64 0), (.int .i64 0)]]), (.bool false), (.int .i64 0), (.int .i64 0), (.bool false), (.int .i64 0), (.int .i64 0), (.str ⟨#[]⟩), (.int .i64 0), (.int .i64 0), (.str ⟨#[109, 97, 106, 111, 114]⟩), .nils],
 [(.int .i64 1), (.int .i64 38), (.tsl 3 [[(.int .i64 3), (.int .i64 0), (.int .i64 0)]]), (.bool true), (.int .i64 2), (.int .i64 0), (.bool false), (.int .i64 0), (.int .i64 0), (.str ⟨#[]⟩), (.int .i64 0), (.int .i64 0), (.str ⟨#[]⟩), .nils],
 [(.int .i64 1), (.int .i64 41), (.tsl 3 [[(.int .i64 3), (.int .i64 1), (.int .i64 0)]]), (.bool false), (.int .i64 0), (.int .i64 0), (.bool false), (.int .i64 0), (.int .i64 0), (.str ⟨#[]⟩), (.int .i64 0), (.int .i64 0), (.str ⟨#[]⟩), .nils],
 [(.int .i64 1), (.int .i64 45), (.tsl 3 [[(.int .i64 3), (.int .i64 0), (.int .i64 0)]]), (.bool false), (.int .i64 0), (.int .i64 0), (.bool false), (.int .i64 0), (.int .i64 0), (.str ⟨#[]⟩), (.int .i64 0), (.int .i64 0), (.str ⟨#[]⟩), .nils],
 [(.int .i64 1), (.int .i64 47), (.tsl 3 [[(.int .i64 3), (.int .i64 1), (.int .i64 0)]]), (.bool false), (.int .i64 0), (.int .i64 0), (.bool true), (.int .i64 0), (.int .i64 0), (.str ⟨#[]⟩), (.int .i64 0), (.int .i64 0), (.str ⟨#[]⟩), .nils],
 [(.int .i64 1), (.int .i64 52), (.tsl 3 [[(.int .i64 3), (.int .i64 1), (.int .i64 0)]]), (.bool true), (.int .i64 0), (.int .i64 0), (.bool false), (.int .i64 0), (.int .i64 0), (.str ⟨#[]⟩), (.int .i64 0), (.int .i64 0), (.str ⟨#[]⟩), .nils],
 [(.int .i64 1), (.int .i64 57), (.tsl 3 [[(.int .i64 3), (.int .i64 0), (.int .i64 0)]]), (.bool true), (.int .i64 0), (.int .i64 0), (.bool false), (.int .i64 0), (.int .i64 0), (.str ⟨#[]⟩), (.int .i64 0), (.int .i64 0), (.str ⟨#[]⟩), .nils]])

def hb4 : AV := (.tsl 3 [[(.int .i64 8), hb3, .nils]])

def hb5 : AV := (.tsl 3 [[(.int .i64 0), (.str ⟨#[]⟩), hb4]])

def hb6 : AV := (.agg [hb5])

def hb7 : AV := (.tup [hb6, (.agg [(.int .i64 0), (.int .i64 0)])])

def hb8 : AV := (.tsl 14 [[(.int .i64 9), (.int .i64 16), .nils, (.bool false), (.int .i64 0), (.int .i64 0), (.bool false), (.int .i64 0), (.int .i64 0), (.str ⟨#[]⟩), (.int .i64 0), (.int .i64 0), (.str ⟨#[98, 97, 115, 115]⟩), (.tsl 14 [])],
 [(.int .i64 10), (.int .i64 26), (.tsl 3 [[(.int .i64 1), (.int .i64 0), (.int .i64 0)]]), (.bool false), (.int .i64 0), (.int .i64 0), (.bool false), (.int .i64 0), (.int .i64 0), (.str ⟨#[]⟩), (.int .i64 0), (.int .i64 0), (.str ⟨#[109, 97, 106, 111, 114]⟩), (.tsl 14 [])],
 [(.int .i64 1), (.int .i64 38), (.tsl 3 [[(.int .i64 3), (.int .i64 0), (.int .i64 0)]]), (.bool true), (.int .i64 2), (.int .i64 0), (.bool false), (.int .i64 0), (.int .i64 0), (.str ⟨#[]⟩), (.int .i64 0), (.int .i64 0), (.str ⟨#[]⟩), .nils],
 [(.int .i64 1), (.int .i64 41), (.tsl 3 [[(.int .i64 3), (.int .i64 1), (.int .i64 0)]]), (.bool false), (.int .i64 0), (.int .i64 0), (.bool false), (.int .i64 0), (.int .i64 0), (.str ⟨#[]⟩), (.int .i64 0), (.int .i64 0), (.str ⟨#[]⟩), .nils],
 [(.int .i64 1), (.int .i64 45), (.tsl 3 [[(.int .i64 3), (.int .i64 0), (.int .i64 0)]]), (.bool false), (.int .i64 0), (.int .i64 0), (.bool false), (.int .i64 0), (.int .i64 0), (.str ⟨#[]⟩), (.int .i64 0), (.int .i64 0), (.str ⟨#[]⟩), .nils],
 [(.int .i64 1), (.int .i64 47), (.tsl 3 [[(.int .i64 3), (.int .i64 1), (.int .i64 0)]]), (.bool false), (.int .i64 0), (.int .i64 0), (.bool true), (.int .i64 0), (.int .i64 0), (.str ⟨#[]⟩), (.int .i64 0), (.int .i64 0), (.str ⟨#[]⟩), .nils],
 [(.int .i64 1), (.int .i64 52), (.tsl 3 [[(.int .i64 3), (.int .i64 1), (.int .i64 0)]]), (.bool true), (.int .i64 0), (.int .i64 0), (.bool false), (.int .i64 0), (.int .i64 0), (.str ⟨#[]⟩), (.int .i64 0), (.int .i64 0), (.str ⟨#[]⟩), .nils],
 [(.int .i64 1), (.int .i64 57), (.tsl 3 [[(.int .i64 3), (.int .i64 0), (.int .i64 0)]]), (.bool true), (.int .i64 0), (.int .i64 0), (.bool false), (.int .i64 0), (.int .i64 0), (.str ⟨#[]⟩), (.int .i64 0), (.int .i64 0), (.str ⟨#[]⟩), .nils]])

def hb9 : AV := (.tsl 3 [[(.int .i64 8), hb8, .nils]])

def hb10 : AV := (.tsl 3 [[(.int .i64 0), (.str ⟨#[]⟩), hb9]])

def hb11 : AV := (.agg [hb10])

def hb12 : AV := (.tup [hb11, (.agg [(.int .i64 0), (.int .i64 0)])])

def hb13 : AV := (.tsl 14 [[(.int .i64 9), (.int .i64 16), .nils, (.bool false), (.int .i64 0), (.int .i64 0), (.bool false), (.int .i64 0), (.int .i64 0), (.str ⟨#[]⟩), (.int .i64 0), (.int .i64 0), (.str ⟨#[98, 97, 115, 115]⟩), (.tsl 14 [])],
 [(.int .i64 10), (.int .i64 26), (.tsl 3 [[(.int .i64 1), (.int .i64 0), (.int .i64 0)]]), (.bool false), (.int .i64 0), (.int .i64 0), (.bool false), (.int .i64 0), (.int .i64 0), (.str ⟨#[]⟩), (.int .i64 0), (.int .i64 0), (.str ⟨#[109, 97, 106, 111, 114]⟩), (.tsl 14 [])],
 [(.int .i64 1), (.int .i64 38), (.tsl 3 [[(.int .i64 3), (.int .i64 0), (.int .i64 0)]]), (.bool true), (.int .i64 2), (.int .i64 0), (.bool false), (.int .i64 0), (.int .i64 0), (.str ⟨#[]⟩), (.int .i64 0), (.int .i64 0), (.str ⟨#[]⟩), (.tsl 14 [])],
 [(.int .i64 1), (.int .i64 41), (.tsl 3 [[(.int .i64 3), (.int .i64 1), (.int .i64 0)]]), (.bool false), (.int .i64 0), (.int .i64 0), (.bool false), (.int .i64 0), (.int .i64 0), (.str ⟨#[]⟩), (.int .i64 0), (.int .i64 0), (.str ⟨#[]⟩), (.tsl 14 [])],
 [(.int .i64 1), (.int .i64 45), (.tsl 3 [[(.int .i64 3), (.int .i64 0), (.int .i64 0)]]), (.bool false), (.int .i64 0), (.int .i64 0), (.bool false), (.int .i64 0), (.int .i64 0), (.str ⟨#[]⟩), (.int .i64 0), (.int .i64 0), (.str ⟨#[]⟩), (.tsl 14 [])],
 [(.int .i64 1), (.int .i64 47), (.tsl 3 [[(.int .i64 3), (.int .i64 1), (.int .i64 0)]]), (.bool false), (.int .i64 0), (.int .i64 0), (.bool true), (.int .i64 0), (.int .i64 0), (.str ⟨#[]⟩), (.int .i64 0), (.int .i64 0), (.str ⟨#[]⟩), (.tsl 14 [])],
 [(.int .i64 1), (.int .i64 52), (.tsl 3 [[(.int .i64 3), (.int .i64 1), (.int .i64 0)]]), (.bool true), (.int .i64 0), (.int .i64 0), (.bool false), (.int .i64 0), (.int .i64 0), (.str ⟨#[]⟩), (.int .i64 0), (.int .i64 0), (.str ⟨#[]⟩), (.tsl 14 [])],
 [(.int .i64 1), (.int .i64 57), (.tsl 3 [[(.int .i64 3), (.int .i64 0), (.int .i64 0)]]), (.bool true), (.int .i64 0), (.int .i64 0), (.bool false), (.int .i64 0), (.int .i64 0), (.str ⟨#[]⟩), (.int .i64 0), (.int .i64 0), (.str ⟨#[]⟩), (.tsl 14 [])]])

def hb14 : AV := (.agg [(.int .i64 8), hb13, .nils])

def hb15 : AV := (.tsl 18 [[(.int .i64 9), (.int .i64 16), (.int .i64 0), (.int .i64 1), (.int .i64 0), (.int .i64 1), (.int .i64 0), (.int .i64 0), .nils, (.bool false), (.int .i64 0), (.int .i64 0), (.str ⟨#[]⟩), (.tsl 1 []), (.int .i64 0), (.int .i64 0), (.int .i64 0), (.int .i64 27)],
 [(.int .i64 10), (.int .i64 26), (.int .i64 0), (.int .i64 1), (.int .i64 0), (.int .i64 1), (.int .i64 0), (.int .i64 0), .nils, (.bool false), (.int .i64 0), (.int .i64 0), (.str ⟨#[]⟩), (.tsl 1 []), (.int .i64 0), (.int .i64 2), (.int .i64 0), (.int .i64 0)],
 [(.int .i64 1), (.int .i64 38), (.int .i64 0), (.int .i64 1), (.int .i64 1), (.int .i64 4), (.int .i64 2), (.int .i64 0), (.tsl 3 [[(.int .i64 3), (.int .i64 0), (.int .i64 3)]]), (.bool false), (.int .i64 0), (.int .i64 0), (.str ⟨#[]⟩), (.tsl 1 []), (.int .i64 0), (.int .i64 0), (.int .i64 0), (.int .i64 0)],
 [(.int .i64 1), (.int .i64 41), (.int .i64 1), (.int .i64 4), (.int .i64 1), (.int .i64 4), (.int .i64 2), (.int .i64 0), (.tsl 3 [[(.int .i64 3), (.int .i64 1), (.int .i64 3)]]), (.bool false), (.int .i64 0), (.int .i64 0), (.str ⟨#[]⟩), (.tsl 1 []), (.int .i64 0), (.int .i64 0), (.int .i64 0), (.int .i64 0)],
 [(.int .i64 1), (.int .i64 45), (.int .i64 1), (.int .i64 2), (.int .i64 1), (.int .i64 4), (.int .i64 2), (.int .i64 0), (.tsl 3 [[(.int .i64 3), (.int .i64 0), (.int .i64 3)]]), (.bool false), (.int .i64 0), (.int .i64 0), (.str ⟨#[]⟩), (.tsl 1 []), (.int .i64 0), (.int .i64 0), (.int .i64 0), (.int .i64 0)],
 [(.int .i64 1), (.int .i64 47), (.int .i64 3), (.int .i64 4), (.int .i64 1), (.int .i64 4), (.int .i64 2), (.int .i64 0), (.tsl 3 [[(.int .i64 3), (.int .i64 1), (.int .i64 3)]]), (.bool true), (.int .i64 0), (.int .i64 0), (.str ⟨#[]⟩), (.tsl 1 []), (.int .i64 0), (.int .i64 0), (.int .i64 0), (.int .i64 0)],
 [(.int .i64 1), (.int .i64 52), (.int .i64 1), (.int .i64 1), (.int .i64 1), (.int .i64 1), (.int .i64 0), (.int .i64 0), (.tsl 3 [[(.int .i64 3), (.int .i64 1), (.int .i64 3)]]), (.bool false), (.int .i64 0), (.int .i64 0), (.str ⟨#[]⟩), (.tsl 1 []), (.int .i64 0), (.int .i64 0), (.int .i64 0), (.int .i64 0)],
 [(.int .i64 1), (.int .i64 57), (.int .i64 2), (.int .i64 1), (.int .i64 1), (.int .i64 1), (.int .i64 0), (.int .i64 0), (.tsl 3 [[(.int .i64 3), (.int .i64 0), (.int .i64 3)]]), (.bool false), (.int .i64 0), (.int .i64 0), (.str ⟨#[]⟩), (.tsl 1 []), (.int .i64 0), (.int .i64 0), (.int .i64 0), (.int .i64 0)]])

def hb16 : AV := (.agg [(.int .i64 0), (.int .i64 0), hb15, .nils, (.int .i64 3), (.int .i64 1), .nils])

def hb17 : AV := (.tup [hb16, (.agg [(.int .i64 0), (.int .i64 0)])])

def hb18 : AV := (.tsl 4 [[(.int .i64 0), (.int .i64 1), (.int .i64 4), (.int .i64 4)],
 [(.int .i64 1), (.int .i64 1), (.int .i64 4), (.int .i64 4)],
 [(.int .i64 2), (.int .i64 1), (.int .i64 4), (.int .i64 4)]])

def hb19 : AV := (.tup [hb18, (.bool true)])

def hb20 : AV := (.tsl 7 [[(.int .i64 0), (.int .i64 0), hb15, .nils, (.int .i64 3), (.int .i64 1), .nils]])

def hb21 : AV := (.agg [(.int .i64 0), (.int .i64 0), (.int .i64 0), (.int .i64 0), (.int .i64 0), (.int .i64 0), (.int .i64 0), (.int .i64 0), .nils, (.bool false), (.int .i64 0), (.int .i64 0), (.str ⟨#[]⟩), .nils, (.int .i64 0), (.int .i64 0), (.int .i64 0), (.int .i64 0)])

def hb22 : AV := (.tup [hb21, (.bool false)])

def hb23 : AV := (.tsl 5 [[(.bool true), (.int .i64 0), (.int .i64 1), (.int .i64 0), (.tsl 2 [[(.int .i64 0), (.int .i64 0)],
 [(.int .i64 0), (.int .i64 1)]])],
 [(.bool false), (.int .i64 0), (.int .i64 1), (.int .i64 0), (.tsl 2 [[(.int .i64 0), (.int .i64 2)]])],
 [(.bool false), (.int .i64 1), (.int .i64 4), (.int .i64 0), (.tsl 2 [[(.int .i64 0), (.int .i64 3)]])],
 [(.bool false), (.int .i64 1), (.int .i64 2), (.int .i64 0), (.tsl 2 [[(.int .i64 0), (.int .i64 4)]])],
 [(.bool false), (.int .i64 3), (.int .i64 4), (.int .i64 0), (.tsl 2 [[(.int .i64 0), (.int .i64 5)]])],
 [(.bool true), (.int .i64 1), (.int .i64 1), (.int .i64 1), .nils],
 [(.bool false), (.int .i64 1), (.int .i64 1), (.int .i64 1), (.tsl 2 [[(.int .i64 0), (.int .i64 6)]])],
 [(.bool true), (.int .i64 2), (.int .i64 1), (.int .i64 2), .nils],
 [(.bool false), (.int .i64 2), (.int .i64 1), (.int .i64 2), (.tsl 2 [[(.int .i64 0), (.int .i64 7)]])],
 [(.bool true), (.int .i64 3), (.int .i64 1), (.int .i64 3), .nils]])

def hb24 : AV := (.tup [hb23, (.agg [(.int .i64 0), (.int .i64 0)])])

def hb25 : AV := (.tsl 4 [[(.int .i64 0), (.int .i64 2), (.int .i64 0), (.int .i64 23)],
 [(.int .i64 0), (.int .i64 3), (.int .i64 0), (.int .i64 21)],
 [(.int .i64 0), (.int .i64 4), (.int .i64 0), (.int .i64 23)],
 [(.int .i64 0), (.int .i64 5), (.int .i64 0), (.int .i64 21)],
 [(.int .i64 0), (.int .i64 7), (.int .i64 0), (.int .i64 23)]])

def hb26 : AV := (.tup [hb25, (.agg [(.int .i64 0), (.int .i64 0)])])


def hbZ (f : Nat) : Bool := bitOf 5260135901548373507240989882880128665550339802823173859498280903068732154297080822113666536277588451226982968856178217713019432250183803863127814770651880849955223671128444598108586374322465361100104562116657151 f
def hbG (f : Nat) : Bool := bitOf 5260135901548373507240989882880128665550339802823173859498280903068732154297080822113666536277588451226982968856178217713019432250180096707012413973474285598465696090774978099805155950868309915114586950399033343 f

def hbT0 : List (Nat × (List AV × AV)) := []
theorem hbT0_ok : TOK Go.Proofs.Tryz.prog hbT0 := TOK.nil

def hbX0 : XP := ⟨hbZ, hbT0, hbG, kp.find⟩
theorem hbr0 : runOKX tr.find hbX0 2000 43 [hb0] hb2 = true := by kernel_rfl
theorem hbc0 : AV.pure hb2 = true ∧ ACalls Go.Proofs.Tryz.prog 43 [hb0] [] 0 (fun r _ _ => r = hb2) := runOKX_sound (fun _ _ h => Tr.find_ok tr_ok h) hbT0_ok hbr0
def hbT1 : List (Nat × (List AV × AV)) := (43, ([hb0], hb2)) :: hbT0
theorem hbT1_ok : TOK Go.Proofs.Tryz.prog hbT1 := TOK.cons hbc0 hbT0_ok

def hbX1 : XP := ⟨hbZ, hbT1, hbG, kp.find⟩
theorem hbr1 : runOKX tr.find hbX1 2000 17 [hb0] hb7 = true := by kernel_rfl
theorem hbc1 : AV.pure hb7 = true ∧ ACalls Go.Proofs.Tryz.prog 17 [hb0] [] 0 (fun r _ _ => r = hb7) := runOKX_sound (fun _ _ h => Tr.find_ok tr_ok h) hbT1_ok hbr1
def hbT2 : List (Nat × (List AV × AV)) := (17, ([hb0], hb7)) :: hbT1
theorem hbT2_ok : TOK Go.Proofs.Tryz.prog hbT2 := TOK.cons hbc1 hbT1_ok

def hbX2 : XP := ⟨hbZ, hbT2, hbG, kp.find⟩
theorem hbr2 : runOKX tr.find hbX2 2000 143 [hb3, (.int .i64 0), (.int .i64 4096), (.int .i64 62)] (.int .i64 4088) = true := by kernel_rfl
theorem hbc2 : AV.pure (.int .i64 4088) = true ∧ ACalls Go.Proofs.Tryz.prog 143 [hb3, (.int .i64 0), (.int .i64 4096), (.int .i64 62)] [] 0 (fun r _ _ => r = (.int .i64 4088)) := runOKX_sound (fun _ _ h => Tr.find_ok tr_ok h) hbT2_ok hbr2
def hbT3 : List (Nat × (List AV × AV)) := (143, ([hb3, (.int .i64 0), (.int .i64 4096), (.int .i64 62)], (.int .i64 4088))) :: hbT2
theorem hbT3_ok : TOK Go.Proofs.Tryz.prog hbT3 := TOK.cons hbc2 hbT2_ok

def hbX3 : XP := ⟨hbZ, hbT3, hbG, kp.find⟩
theorem hbr3 : runOKX tr.find hbX3 2000 50 [hb6] hb12 = true := by kernel_rfl
theorem hbc3 : AV.pure hb12 = true ∧ ACalls Go.Proofs.Tryz.prog 50 [hb6] [] 0 (fun r _ _ => r = hb12) := runOKX_sound (fun _ _ h => Tr.find_ok tr_ok h) hbT3_ok hbr3
def hbT4 : List (Nat × (List AV × AV)) := (50, ([hb6], hb12)) :: hbT3
theorem hbT4_ok : TOK Go.Proofs.Tryz.prog hbT4 := TOK.cons hbc3 hbT3_ok

def hbX4 : XP := ⟨hbZ, hbT4, hbG, kp.find⟩
theorem hbr4 : runOKX tr.find hbX4 2000 143 [hb8, (.int .i64 0), (.int .i64 4096), (.int .i64 62)] (.int .i64 4088) = true := by kernel_rfl
theorem hbc4 : AV.pure (.int .i64 4088) = true ∧ ACalls Go.Proofs.Tryz.prog 143 [hb8, (.int .i64 0), (.int .i64 4096), (.int .i64 62)] [] 0 (fun r _ _ => r = (.int .i64 4088)) := runOKX_sound (fun _ _ h => Tr.find_ok tr_ok h) hbT4_ok hbr4
def hbT5 : List (Nat × (List AV × AV)) := (143, ([hb8, (.int .i64 0), (.int .i64 4096), (.int .i64 62)], (.int .i64 4088))) :: hbT4
theorem hbT5_ok : TOK Go.Proofs.Tryz.prog hbT5 := TOK.cons hbc4 hbT4_ok

def hbX5 : XP := ⟨hbZ, hbT5, hbG, kp.find⟩
theorem hbr5 : runOKX tr.find hbX5 2000 143 [hb13, (.int .i64 0), (.int .i64 4096), (.int .i64 62)] (.int .i64 4088) = true := by kernel_rfl
theorem hbc5 : AV.pure (.int .i64 4088) = true ∧ ACalls Go.Proofs.Tryz.prog 143 [hb13, (.int .i64 0), (.int .i64 4096), (.int .i64 62)] [] 0 (fun r _ _ => r = (.int .i64 4088)) := runOKX_sound (fun _ _ h => Tr.find_ok tr_ok h) hbT5_ok hbr5
def hbT6 : List (Nat × (List AV × AV)) := (143, ([hb13, (.int .i64 0), (.int .i64 4096), (.int .i64 62)], (.int .i64 4088))) :: hbT5
theorem hbT6_ok : TOK Go.Proofs.Tryz.prog hbT6 := TOK.cons hbc5 hbT5_ok

def hbX6 : XP := ⟨hbZ, hbT6, hbG, kp.find⟩
theorem hbr6 : runOKX tr.find hbX6 2000 52 [hb14, (.int .i64 0), (.int .i64 0)] hb17 = true := by kernel_rfl
theorem hbc6 : AV.pure hb17 = true ∧ ACalls Go.Proofs.Tryz.prog 52 [hb14, (.int .i64 0), (.int .i64 0)] [] 0 (fun r _ _ => r = hb17) := runOKX_sound (fun _ _ h => Tr.find_ok tr_ok h) hbT6_ok hbr6
def hbT7 : List (Nat × (List AV × AV)) := (52, ([hb14, (.int .i64 0), (.int .i64 0)], hb17)) :: hbT6
theorem hbT7_ok : TOK Go.Proofs.Tryz.prog hbT7 := TOK.cons hbc6 hbT6_ok

def hbX7 : XP := ⟨hbZ, hbT7, hbG, kp.find⟩
theorem hbr7 : runOKX tr.find hbX7 2000 106 [hb15] (.int .i64 (-1)) = true := by kernel_rfl
theorem hbc7 : AV.pure (.int .i64 (-1)) = true ∧ ACalls Go.Proofs.Tryz.prog 106 [hb15] [] 0 (fun r _ _ => r = (.int .i64 (-1))) := runOKX_sound (fun _ _ h => Tr.find_ok tr_ok h) hbT7_ok hbr7
def hbT8 : List (Nat × (List AV × AV)) := (106, ([hb15], (.int .i64 (-1)))) :: hbT7
theorem hbT8_ok : TOK Go.Proofs.Tryz.prog hbT8 := TOK.cons hbc7 hbT7_ok

def hbX8 : XP := ⟨hbZ, hbT8, hbG, kp.find⟩
theorem hbr8 : runOKX tr.find hbX8 2000 58 [hb16] (.bool true) = true := by kernel_rfl
theorem hbc8 : AV.pure (.bool true) = true ∧ ACalls Go.Proofs.Tryz.prog 58 [hb16] [] 0 (fun r _ _ => r = (.bool true)) := runOKX_sound (fun _ _ h => Tr.find_ok tr_ok h) hbT8_ok hbr8
def hbT9 : List (Nat × (List AV × AV)) := (58, ([hb16], (.bool true))) :: hbT8
theorem hbT9_ok : TOK Go.Proofs.Tryz.prog hbT9 := TOK.cons hbc8 hbT8_ok

def hbX9 : XP := ⟨hbZ, hbT9, hbG, kp.find⟩
theorem hbr9 : runOKX tr.find hbX9 2000 56 [hb16, (.agg [(.int .i64 3), (.int .i64 1)])] hb19 = true := by kernel_rfl
theorem hbc9 : AV.pure hb19 = true ∧ ACalls Go.Proofs.Tryz.prog 56 [hb16, (.agg [(.int .i64 3), (.int .i64 1)])] [] 0 (fun r _ _ => r = hb19) := runOKX_sound (fun _ _ h => Tr.find_ok tr_ok h) hbT9_ok hbr9
def hbT10 : List (Nat × (List AV × AV)) := (56, ([hb16, (.agg [(.int .i64 3), (.int .i64 1)])], hb19)) :: hbT9
theorem hbT10_ok : TOK Go.Proofs.Tryz.prog hbT10 := TOK.cons hbc9 hbT9_ok

def hbX10 : XP := ⟨hbZ, hbT10, hbG, kp.find⟩
theorem hbr10 : runOKX tr.find hbX10 2000 57 [hb20, hb18] hb22 = true := by kernel_rfl
theorem hbc10 : AV.pure hb22 = true ∧ ACalls Go.Proofs.Tryz.prog 57 [hb20, hb18] [] 0 (fun r _ _ => r = hb22) := runOKX_sound (fun _ _ h => Tr.find_ok tr_ok h) hbT10_ok hbr10
def hbT11 : List (Nat × (List AV × AV)) := (57, ([hb20, hb18], hb22)) :: hbT10
theorem hbT11_ok : TOK Go.Proofs.Tryz.prog hbT11 := TOK.cons hbc10 hbT10_ok

def hbX11 : XP := ⟨hbZ, hbT11, hbG, kp.find⟩
theorem hbr11 : runOKX tr.find hbX11 2000 7 [hb18, (.agg [(.int .i64 0), (.int .i64 1)])] (.tup [(.int .i64 0), (.bool true)]) = true := by kernel_rfl
theorem hbc11 : AV.pure (.tup [(.int .i64 0), (.bool true)]) = true ∧ ACalls Go.Proofs.Tryz.prog 7 [hb18, (.agg [(.int .i64 0), (.int .i64 1)])] [] 0 (fun r _ _ => r = (.tup [(.int .i64 0), (.bool true)])) := runOKX_sound (fun _ _ h => Tr.find_ok tr_ok h) hbT11_ok hbr11
def hbT12 : List (Nat × (List AV × AV)) := (7, ([hb18, (.agg [(.int .i64 0), (.int .i64 1)])], (.tup [(.int .i64 0), (.bool true)]))) :: hbT11
theorem hbT12_ok : TOK Go.Proofs.Tryz.prog hbT12 := TOK.cons hbc11 hbT11_ok

def hbX12 : XP := ⟨hbZ, hbT12, hbG, kp.find⟩
theorem hbr12 : runOKX tr.find hbX12 2000 7 [hb18, (.agg [(.int .i64 1), (.int .i64 4)])] (.tup [(.int .i64 0), (.bool true)]) = true := by kernel_rfl
theorem hbc12 : AV.pure (.tup [(.int .i64 0), (.bool true)]) = true ∧ ACalls Go.Proofs.Tryz.prog 7 [hb18, (.agg [(.int .i64 1), (.int .i64 4)])] [] 0 (fun r _ _ => r = (.tup [(.int .i64 0), (.bool true)])) := runOKX_sound (fun _ _ h => Tr.find_ok tr_ok h) hbT12_ok hbr12
def hbT13 : List (Nat × (List AV × AV)) := (7, ([hb18, (.agg [(.int .i64 1), (.int .i64 4)])], (.tup [(.int .i64 0), (.bool true)]))) :: hbT12
theorem hbT13_ok : TOK Go.Proofs.Tryz.prog hbT13 := TOK.cons hbc12 hbT12_ok

def hbX13 : XP := ⟨hbZ, hbT13, hbG, kp.find⟩
theorem hbr13 : runOKX tr.find hbX13 2000 7 [hb18, (.agg [(.int .i64 1), (.int .i64 2)])] (.tup [(.int .i64 0), (.bool true)]) = true := by kernel_rfl
theorem hbc13 : AV.pure (.tup [(.int .i64 0), (.bool true)]) = true ∧ ACalls Go.Proofs.Tryz.prog 7 [hb18, (.agg [(.int .i64 1), (.int .i64 2)])] [] 0 (fun r _ _ => r = (.tup [(.int .i64 0), (.bool true)])) := runOKX_sound (fun _ _ h => Tr.find_ok tr_ok h) hbT13_ok hbr13
def hbT14 : List (Nat × (List AV × AV)) := (7, ([hb18, (.agg [(.int .i64 1), (.int .i64 2)])], (.tup [(.int .i64 0), (.bool true)]))) :: hbT13
theorem hbT14_ok : TOK Go.Proofs.Tryz.prog hbT14 := TOK.cons hbc13 hbT13_ok

def hbX14 : XP := ⟨hbZ, hbT14, hbG, kp.find⟩
theorem hbr14 : runOKX tr.find hbX14 2000 7 [hb18, (.agg [(.int .i64 3), (.int .i64 4)])] (.tup [(.int .i64 0), (.bool true)]) = true := by kernel_rfl
theorem hbc14 : AV.pure (.tup [(.int .i64 0), (.bool true)]) = true ∧ ACalls Go.Proofs.Tryz.prog 7 [hb18, (.agg [(.int .i64 3), (.int .i64 4)])] [] 0 (fun r _ _ => r = (.tup [(.int .i64 0), (.bool true)])) := runOKX_sound (fun _ _ h => Tr.find_ok tr_ok h) hbT14_ok hbr14
def hbT15 : List (Nat × (List AV × AV)) := (7, ([hb18, (.agg [(.int .i64 3), (.int .i64 4)])], (.tup [(.int .i64 0), (.bool true)]))) :: hbT14
theorem hbT15_ok : TOK Go.Proofs.Tryz.prog hbT15 := TOK.cons hbc14 hbT14_ok

def hbX15 : XP := ⟨hbZ, hbT15, hbG, kp.find⟩
theorem hbr15 : runOKX tr.find hbX15 2000 7 [hb18, (.agg [(.int .i64 1), (.int .i64 1)])] (.tup [(.int .i64 1), (.bool true)]) = true := by kernel_rfl
theorem hbc15 : AV.pure (.tup [(.int .i64 1), (.bool true)]) = true ∧ ACalls Go.Proofs.Tryz.prog 7 [hb18, (.agg [(.int .i64 1), (.int .i64 1)])] [] 0 (fun r _ _ => r = (.tup [(.int .i64 1), (.bool true)])) := runOKX_sound (fun _ _ h => Tr.find_ok tr_ok h) hbT15_ok hbr15
def hbT16 : List (Nat × (List AV × AV)) := (7, ([hb18, (.agg [(.int .i64 1), (.int .i64 1)])], (.tup [(.int .i64 1), (.bool true)]))) :: hbT15
theorem hbT16_ok : TOK Go.Proofs.Tryz.prog hbT16 := TOK.cons hbc15 hbT15_ok

def hbX16 : XP := ⟨hbZ, hbT16, hbG, kp.find⟩
theorem hbr16 : runOKX tr.find hbX16 2000 7 [hb18, (.agg [(.int .i64 2), (.int .i64 1)])] (.tup [(.int .i64 2), (.bool true)]) = true := by kernel_rfl
theorem hbc16 : AV.pure (.tup [(.int .i64 2), (.bool true)]) = true ∧ ACalls Go.Proofs.Tryz.prog 7 [hb18, (.agg [(.int .i64 2), (.int .i64 1)])] [] 0 (fun r _ _ => r = (.tup [(.int .i64 2), (.bool true)])) := runOKX_sound (fun _ _ h => Tr.find_ok tr_ok h) hbT16_ok hbr16
def hbT17 : List (Nat × (List AV × AV)) := (7, ([hb18, (.agg [(.int .i64 2), (.int .i64 1)])], (.tup [(.int .i64 2), (.bool true)]))) :: hbT16
theorem hbT17_ok : TOK Go.Proofs.Tryz.prog hbT17 := TOK.cons hbc16 hbT16_ok

def hbX17 : XP := ⟨hbZ, hbT17, hbG, kp.find⟩
theorem hbr17 : runOKX tr.find hbX17 2000 7 [hb18, (.agg [(.int .i64 3), (.int .i64 1)])] (.tup [(.int .i64 0), (.bool false)]) = true := by kernel_rfl
theorem hbc17 : AV.pure (.tup [(.int .i64 0), (.bool false)]) = true ∧ ACalls Go.Proofs.Tryz.prog 7 [hb18, (.agg [(.int .i64 3), (.int .i64 1)])] [] 0 (fun r _ _ => r = (.tup [(.int .i64 0), (.bool false)])) := runOKX_sound (fun _ _ h => Tr.find_ok tr_ok h) hbT17_ok hbr17
def hbT18 : List (Nat × (List AV × AV)) := (7, ([hb18, (.agg [(.int .i64 3), (.int .i64 1)])], (.tup [(.int .i64 0), (.bool false)]))) :: hbT17
theorem hbT18_ok : TOK Go.Proofs.Tryz.prog hbT18 := TOK.cons hbc17 hbT17_ok

def hbX18 : XP := ⟨hbZ, hbT18, hbG, kp.find⟩
theorem hbr18 : runOKX tr.find hbX18 2000 77 [hb20] hb24 = true := by kernel_rfl
theorem hbc18 : AV.pure hb24 = true ∧ ACalls Go.Proofs.Tryz.prog 77 [hb20] [] 0 (fun r _ _ => r = hb24) := runOKX_sound (fun _ _ h => Tr.find_ok tr_ok h) hbT18_ok hbr18
def hbT19 : List (Nat × (List AV × AV)) := (77, ([hb20], hb24)) :: hbT18
theorem hbT19_ok : TOK Go.Proofs.Tryz.prog hbT19 := TOK.cons hbc18 hbT18_ok

def hbX19 : XP := ⟨hbZ, hbT19, hbG, kp.find⟩
theorem hbr19 : runOKX tr.find hbX19 2000 39 [hb20, (.int .i64 0)] hb26 = true := by kernel_rfl
theorem hbc19 : AV.pure hb26 = true ∧ ACalls Go.Proofs.Tryz.prog 39 [hb20, (.int .i64 0)] [] 0 (fun r _ _ => r = hb26) := runOKX_sound (fun _ _ h => Tr.find_ok tr_ok h) hbT19_ok hbr19
def hbT20 : List (Nat × (List AV × AV)) := (39, ([hb20, (.int .i64 0)], hb26)) :: hbT19
theorem hbT20_ok : TOK Go.Proofs.Tryz.prog hbT20 := TOK.cons hbc19 hbT19_ok

def hbX20 : XP := ⟨hbZ, hbT20, hbG, kp.find⟩
theorem hbr20 : runOKX tr.find hbX20 2000 16 [] (.bool true) = true := by kernel_rfl
theorem hbc20 : AV.pure (.bool true) = true ∧ ACalls Go.Proofs.Tryz.prog 16 [] [] 0 (fun r _ _ => r = (.bool true)) := runOKX_sound (fun _ _ h => Tr.find_ok tr_ok h) hbT20_ok hbr20
def hbT21 : List (Nat × (List AV × AV)) := (16, ([], (.bool true))) :: hbT20
theorem hbT21_ok : TOK Go.Proofs.Tryz.prog hbT21 := TOK.cons hbc20 hbT20_ok

theorem hbheads : ACalls Go.Proofs.Tryz.prog 16 [] [] 0 (fun r _ _ => r = .bool true) := hbc20.2
end
end Go.AM.Ez
