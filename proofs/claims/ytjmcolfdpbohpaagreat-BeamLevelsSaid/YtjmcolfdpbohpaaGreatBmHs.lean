/- A part of a proof about the given program: what its name says. No premise beyond the statements'. -/
import Derived.Test.YtjmcolfdpbohpaaGreatBmCode
import Derived.KernelRfl
set_option linter.unusedSimpArgs false
set_option linter.unusedVariables false
namespace Go.AM.Bm
open Go.AM
noncomputable section

def hs0 : AV := (.str ⟨#[115, 116, 97, 102, 102, 32, 123, 32, 118, 111, 105, 99, 101, 32, 123, 32, 99, 56, 32, 100, 32, 101, 32, 102, 32, 114, 32, 103, 49, 54, 32, 97, 32, 98, 52, 32, 125, 32, 125]⟩)

def hs1 : AV := (.tsl 3 [[(.int .i64 1), (.str ⟨#[115, 116, 97, 102, 102]⟩), (.int .i64 0)],
 [(.int .i64 4), (.str ⟨#[123]⟩), (.int .i64 6)],
 [(.int .i64 1), (.str ⟨#[118, 111, 105, 99, 101]⟩), (.int .i64 8)],
 [(.int .i64 4), (.str ⟨#[123]⟩), (.int .i64 14)],
 [(.int .i64 1), (.str ⟨#[99]⟩), (.int .i64 16)],
 [(.int .i64 2), (.str ⟨#[56]⟩), (.int .i64 17)],
 [(.int .i64 1), (.str ⟨#[100]⟩), (.int .i64 19)],
 [(.int .i64 1), (.str ⟨#[101]⟩), (.int .i64 21)],
 [(.int .i64 1), (.str ⟨#[102]⟩), (.int .i64 23)],
 [(.int .i64 1), (.str ⟨#[114]⟩), (.int .i64 25)],
 [(.int .i64 1), (.str ⟨#[103]⟩), (.int .i64 27)],
 [(.int .i64 2), (.str ⟨#[49, 54]⟩), (.int .i64 28)],
 [(.int .i64 1), (.str ⟨#[97]⟩), (.int .i64 31)],
 [(.int .i64 1), (.str ⟨#[98]⟩), (.int .i64 33)],
 [(.int .i64 2), (.str ⟨#[52]⟩), (.int .i64 34)],
 [(.int .i64 4), (.str ⟨#[125]⟩), (.int .i64 36)],
 [(.int .i64 4), (.str ⟨#[125]⟩), (.int .i64 38)],
 [(.int .i64 8), (.str ⟨#[]⟩), (.int .i64 39)]])

def hs2 : AV := (.tup [hs1, (.agg [(.int .i64 0), (.int .i64 0)])])

def hs3 : AV := (.tsl 14 [[(.int .i64 1), (.int .i64 16), (.tsl 3 [[(.int .i64 0), (.int .i64 0), (.int .i64 0)]]), (.bool true), (.int .i64 3), (.int .i64 0), (.bool false), (.int .i64 0), (.int .i64 0), (.str ⟨#[]⟩), (.int .i64 0), (.int .i64 0), (.str ⟨#[]⟩), .nils],
 [(.int .i64 1), (.int .i64 19), (.tsl 3 [[(.int .i64 1), (.int .i64 0), (.int .i64 0)]]), (.bool false), (.int .i64 0), (.int .i64 0), (.bool false), (.int .i64 0), (.int .i64 0), (.str ⟨#[]⟩), (.int .i64 0), (.int .i64 0), (.str ⟨#[]⟩), .nils],
 [(.int .i64 1), (.int .i64 21), (.tsl 3 [[(.int .i64 2), (.int .i64 0), (.int .i64 0)]]), (.bool false), (.int .i64 0), (.int .i64 0), (.bool false), (.int .i64 0), (.int .i64 0), (.str ⟨#[]⟩), (.int .i64 0), (.int .i64 0), (.str ⟨#[]⟩), .nils],
 [(.int .i64 1), (.int .i64 23), (.tsl 3 [[(.int .i64 3), (.int .i64 0), (.int .i64 0)]]), (.bool false), (.int .i64 0), (.int .i64 0), (.bool false), (.int .i64 0), (.int .i64 0), (.str ⟨#[]⟩), (.int .i64 0), (.int .i64 0), (.str ⟨#[]⟩), .nils],
 [(.int .i64 3), (.int .i64 25), .nils, (.bool false), (.int .i64 0), (.int .i64 0), (.bool false), (.int .i64 0), (.int .i64 0), (.str ⟨#[]⟩), (.int .i64 0), (.int .i64 0), (.str ⟨#[]⟩), .nils],
 [(.int .i64 1), (.int .i64 27), (.tsl 3 [[(.int .i64 4), (.int .i64 0), (.int .i64 0)]]), (.bool true), (.int .i64 4), (.int .i64 0), (.bool false), (.int .i64 0), (.int .i64 0), (.str ⟨#[]⟩), (.int .i64 0), (.int .i64 0), (.str ⟨#[]⟩), .nils],
 [(.int .i64 1), (.int .i64 31), (.tsl 3 [[(.int .i64 5), (.int .i64 0), (.int .i64 0)]]), (.bool false), (.int .i64 0), (.int .i64 0), (.bool false), (.int .i64 0), (.int .i64 0), (.str ⟨#[]⟩), (.int .i64 0), (.int .i64 0), (.str ⟨#[]⟩), .nils],
 [(.int .i64 1), (.int .i64 33), (.tsl 3 [[(.int .i64 6), (.int .i64 0), (.int .i64 0)]]), (.bool true), (.int .i64 2), (.int .i64 0), (.bool false), (.int .i64 0), (.int .i64 0), (.str ⟨#[]⟩), (.int .i64 0), (.int .i64 0), (.str ⟨#[]⟩), .nils]])

def hs4 : AV := (.tsl 3 [[(.int .i64 8), hs3, .nils]])

def hs5 : AV := (.tsl 3 [[(.int .i64 0), (.str ⟨#[]⟩), hs4]])

def hs6 : AV := (.agg [hs5])

def hs7 : AV := (.tup [hs6, (.agg [(.int .i64 0), (.int .i64 0)])])

def hs8 : AV := (.tsl 14 [[(.int .i64 1), (.int .i64 16), (.tsl 3 [[(.int .i64 0), (.int .i64 0), (.int .i64 0)]]), (.bool true), (.int .i64 3), (.int .i64 0), (.bool false), (.int .i64 0), (.int .i64 0), (.str ⟨#[]⟩), (.int .i64 0), (.int .i64 0), (.str ⟨#[]⟩), .nils],
 [(.int .i64 1), (.int .i64 19), (.tsl 3 [[(.int .i64 1), (.int .i64 0), (.int .i64 0)]]), (.bool false), (.int .i64 0), (.int .i64 0), (.bool false), (.int .i64 0), (.int .i64 0), (.str ⟨#[]⟩), (.int .i64 0), (.int .i64 0), (.str ⟨#[]⟩), .nils],
 [(.int .i64 1), (.int .i64 21), (.tsl 3 [[(.int .i64 2), (.int .i64 0), (.int .i64 0)]]), (.bool false), (.int .i64 0), (.int .i64 0), (.bool false), (.int .i64 0), (.int .i64 0), (.str ⟨#[]⟩), (.int .i64 0), (.int .i64 0), (.str ⟨#[]⟩), .nils],
 [(.int .i64 1), (.int .i64 23), (.tsl 3 [[(.int .i64 3), (.int .i64 0), (.int .i64 0)]]), (.bool false), (.int .i64 0), (.int .i64 0), (.bool false), (.int .i64 0), (.int .i64 0), (.str ⟨#[]⟩), (.int .i64 0), (.int .i64 0), (.str ⟨#[]⟩), .nils],
 [(.int .i64 3), (.int .i64 25), .nils, (.bool false), (.int .i64 0), (.int .i64 0), (.bool false), (.int .i64 0), (.int .i64 0), (.str ⟨#[]⟩), (.int .i64 0), (.int .i64 0), (.str ⟨#[]⟩), (.tsl 14 [])],
 [(.int .i64 1), (.int .i64 27), (.tsl 3 [[(.int .i64 4), (.int .i64 0), (.int .i64 0)]]), (.bool true), (.int .i64 4), (.int .i64 0), (.bool false), (.int .i64 0), (.int .i64 0), (.str ⟨#[]⟩), (.int .i64 0), (.int .i64 0), (.str ⟨#[]⟩), .nils],
 [(.int .i64 1), (.int .i64 31), (.tsl 3 [[(.int .i64 5), (.int .i64 0), (.int .i64 0)]]), (.bool false), (.int .i64 0), (.int .i64 0), (.bool false), (.int .i64 0), (.int .i64 0), (.str ⟨#[]⟩), (.int .i64 0), (.int .i64 0), (.str ⟨#[]⟩), .nils],
 [(.int .i64 1), (.int .i64 33), (.tsl 3 [[(.int .i64 6), (.int .i64 0), (.int .i64 0)]]), (.bool true), (.int .i64 2), (.int .i64 0), (.bool false), (.int .i64 0), (.int .i64 0), (.str ⟨#[]⟩), (.int .i64 0), (.int .i64 0), (.str ⟨#[]⟩), .nils]])

def hs9 : AV := (.tsl 3 [[(.int .i64 8), hs8, .nils]])

def hs10 : AV := (.tsl 3 [[(.int .i64 0), (.str ⟨#[]⟩), hs9]])

def hs11 : AV := (.agg [hs10])

def hs12 : AV := (.tup [hs11, (.agg [(.int .i64 0), (.int .i64 0)])])

def hs13 : AV := (.tsl 14 [[(.int .i64 1), (.int .i64 16), (.tsl 3 [[(.int .i64 0), (.int .i64 0), (.int .i64 0)]]), (.bool true), (.int .i64 3), (.int .i64 0), (.bool false), (.int .i64 0), (.int .i64 0), (.str ⟨#[]⟩), (.int .i64 0), (.int .i64 0), (.str ⟨#[]⟩), (.tsl 14 [])],
 [(.int .i64 1), (.int .i64 19), (.tsl 3 [[(.int .i64 1), (.int .i64 0), (.int .i64 0)]]), (.bool false), (.int .i64 0), (.int .i64 0), (.bool false), (.int .i64 0), (.int .i64 0), (.str ⟨#[]⟩), (.int .i64 0), (.int .i64 0), (.str ⟨#[]⟩), (.tsl 14 [])],
 [(.int .i64 1), (.int .i64 21), (.tsl 3 [[(.int .i64 2), (.int .i64 0), (.int .i64 0)]]), (.bool false), (.int .i64 0), (.int .i64 0), (.bool false), (.int .i64 0), (.int .i64 0), (.str ⟨#[]⟩), (.int .i64 0), (.int .i64 0), (.str ⟨#[]⟩), (.tsl 14 [])],
 [(.int .i64 1), (.int .i64 23), (.tsl 3 [[(.int .i64 3), (.int .i64 0), (.int .i64 0)]]), (.bool false), (.int .i64 0), (.int .i64 0), (.bool false), (.int .i64 0), (.int .i64 0), (.str ⟨#[]⟩), (.int .i64 0), (.int .i64 0), (.str ⟨#[]⟩), (.tsl 14 [])],
 [(.int .i64 3), (.int .i64 25), .nils, (.bool false), (.int .i64 0), (.int .i64 0), (.bool false), (.int .i64 0), (.int .i64 0), (.str ⟨#[]⟩), (.int .i64 0), (.int .i64 0), (.str ⟨#[]⟩), (.tsl 14 [])],
 [(.int .i64 1), (.int .i64 27), (.tsl 3 [[(.int .i64 4), (.int .i64 0), (.int .i64 0)]]), (.bool true), (.int .i64 4), (.int .i64 0), (.bool false), (.int .i64 0), (.int .i64 0), (.str ⟨#[]⟩), (.int .i64 0), (.int .i64 0), (.str ⟨#[]⟩), (.tsl 14 [])],
 [(.int .i64 1), (.int .i64 31), (.tsl 3 [[(.int .i64 5), (.int .i64 0), (.int .i64 0)]]), (.bool false), (.int .i64 0), (.int .i64 0), (.bool false), (.int .i64 0), (.int .i64 0), (.str ⟨#[]⟩), (.int .i64 0), (.int .i64 0), (.str ⟨#[]⟩), (.tsl 14 [])],
 [(.int .i64 1), (.int .i64 33), (.tsl 3 [[(.int .i64 6), (.int .i64 0), (.int .i64 0)]]), (.bool true), (.int .i64 2), (.int .i64 0), (.bool false), (.int .i64 0), (.int .i64 0), (.str ⟨#[]⟩), (.int .i64 0), (.int .i64 0), (.str ⟨#[]⟩), (.tsl 14 [])]])

def hs14 : AV := (.agg [(.int .i64 8), hs13, .nils])

def hs15 : AV := (.tsl 18 [[(.int .i64 1), (.int .i64 16), (.int .i64 0), (.int .i64 1), (.int .i64 1), (.int .i64 8), (.int .i64 3), (.int .i64 0), (.tsl 3 [[(.int .i64 0), (.int .i64 0), (.int .i64 3)]]), (.bool false), (.int .i64 0), (.int .i64 0), (.str ⟨#[]⟩), (.tsl 1 []), (.int .i64 0), (.int .i64 0), (.int .i64 0), (.int .i64 0)],
 [(.int .i64 1), (.int .i64 19), (.int .i64 1), (.int .i64 8), (.int .i64 1), (.int .i64 8), (.int .i64 3), (.int .i64 0), (.tsl 3 [[(.int .i64 1), (.int .i64 0), (.int .i64 3)]]), (.bool false), (.int .i64 0), (.int .i64 0), (.str ⟨#[]⟩), (.tsl 1 []), (.int .i64 0), (.int .i64 0), (.int .i64 0), (.int .i64 0)],
 [(.int .i64 1), (.int .i64 21), (.int .i64 1), (.int .i64 4), (.int .i64 1), (.int .i64 8), (.int .i64 3), (.int .i64 0), (.tsl 3 [[(.int .i64 2), (.int .i64 0), (.int .i64 3)]]), (.bool false), (.int .i64 0), (.int .i64 0), (.str ⟨#[]⟩), (.tsl 1 []), (.int .i64 0), (.int .i64 0), (.int .i64 0), (.int .i64 0)],
 [(.int .i64 1), (.int .i64 23), (.int .i64 3), (.int .i64 8), (.int .i64 1), (.int .i64 8), (.int .i64 3), (.int .i64 0), (.tsl 3 [[(.int .i64 3), (.int .i64 0), (.int .i64 3)]]), (.bool false), (.int .i64 0), (.int .i64 0), (.str ⟨#[]⟩), (.tsl 1 []), (.int .i64 0), (.int .i64 0), (.int .i64 0), (.int .i64 0)],
 [(.int .i64 3), (.int .i64 25), (.int .i64 1), (.int .i64 2), (.int .i64 1), (.int .i64 8), (.int .i64 3), (.int .i64 0), .nils, (.bool false), (.int .i64 0), (.int .i64 0), (.str ⟨#[]⟩), (.tsl 1 []), (.int .i64 0), (.int .i64 0), (.int .i64 0), (.int .i64 0)],
 [(.int .i64 1), (.int .i64 27), (.int .i64 5), (.int .i64 8), (.int .i64 1), (.int .i64 16), (.int .i64 4), (.int .i64 0), (.tsl 3 [[(.int .i64 4), (.int .i64 0), (.int .i64 3)]]), (.bool false), (.int .i64 0), (.int .i64 0), (.str ⟨#[]⟩), (.tsl 1 []), (.int .i64 0), (.int .i64 0), (.int .i64 0), (.int .i64 0)],
 [(.int .i64 1), (.int .i64 31), (.int .i64 11), (.int .i64 16), (.int .i64 1), (.int .i64 16), (.int .i64 4), (.int .i64 0), (.tsl 3 [[(.int .i64 5), (.int .i64 0), (.int .i64 3)]]), (.bool false), (.int .i64 0), (.int .i64 0), (.str ⟨#[]⟩), (.tsl 1 []), (.int .i64 0), (.int .i64 0), (.int .i64 0), (.int .i64 0)],
 [(.int .i64 1), (.int .i64 33), (.int .i64 3), (.int .i64 4), (.int .i64 1), (.int .i64 4), (.int .i64 2), (.int .i64 0), (.tsl 3 [[(.int .i64 6), (.int .i64 0), (.int .i64 3)]]), (.bool false), (.int .i64 0), (.int .i64 0), (.str ⟨#[]⟩), (.tsl 1 []), (.int .i64 0), (.int .i64 0), (.int .i64 0), (.int .i64 0)]])

def hs16 : AV := (.agg [(.int .i64 0), (.int .i64 0), hs15, .nils, (.int .i64 1), (.int .i64 1), .nils])

def hs17 : AV := (.tup [hs16, (.agg [(.int .i64 0), (.int .i64 0)])])

def hs18 : AV := (.agg [(.int .i64 1), (.int .i64 19), (.int .i64 1), (.int .i64 8), (.int .i64 1), (.int .i64 8), (.int .i64 3), (.int .i64 0), (.tsl 3 [[(.int .i64 1), (.int .i64 0), (.int .i64 3)]]), (.bool false), (.int .i64 0), (.int .i64 0), (.str ⟨#[]⟩), (.tsl 1 []), (.int .i64 0), (.int .i64 0), (.int .i64 0), (.int .i64 0)])

def hs19 : AV := (.agg [(.int .i64 1), (.int .i64 21), (.int .i64 1), (.int .i64 4), (.int .i64 1), (.int .i64 8), (.int .i64 3), (.int .i64 0), (.tsl 3 [[(.int .i64 2), (.int .i64 0), (.int .i64 3)]]), (.bool false), (.int .i64 0), (.int .i64 0), (.str ⟨#[]⟩), (.tsl 1 []), (.int .i64 0), (.int .i64 0), (.int .i64 0), (.int .i64 0)])

def hs20 : AV := (.agg [(.int .i64 1), (.int .i64 23), (.int .i64 3), (.int .i64 8), (.int .i64 1), (.int .i64 8), (.int .i64 3), (.int .i64 0), (.tsl 3 [[(.int .i64 3), (.int .i64 0), (.int .i64 3)]]), (.bool false), (.int .i64 0), (.int .i64 0), (.str ⟨#[]⟩), (.tsl 1 []), (.int .i64 0), (.int .i64 0), (.int .i64 0), (.int .i64 0)])

def hs21 : AV := (.agg [(.int .i64 3), (.int .i64 25), (.int .i64 1), (.int .i64 2), (.int .i64 1), (.int .i64 8), (.int .i64 3), (.int .i64 0), .nils, (.bool false), (.int .i64 0), (.int .i64 0), (.str ⟨#[]⟩), (.tsl 1 []), (.int .i64 0), (.int .i64 0), (.int .i64 0), (.int .i64 0)])

def hs22 : AV := (.agg [(.int .i64 1), (.int .i64 27), (.int .i64 5), (.int .i64 8), (.int .i64 1), (.int .i64 16), (.int .i64 4), (.int .i64 0), (.tsl 3 [[(.int .i64 4), (.int .i64 0), (.int .i64 3)]]), (.bool false), (.int .i64 0), (.int .i64 0), (.str ⟨#[]⟩), (.tsl 1 []), (.int .i64 0), (.int .i64 0), (.int .i64 0), (.int .i64 0)])

def hs23 : AV := (.agg [(.int .i64 1), (.int .i64 31), (.int .i64 11), (.int .i64 16), (.int .i64 1), (.int .i64 16), (.int .i64 4), (.int .i64 0), (.tsl 3 [[(.int .i64 5), (.int .i64 0), (.int .i64 3)]]), (.bool false), (.int .i64 0), (.int .i64 0), (.str ⟨#[]⟩), (.tsl 1 []), (.int .i64 0), (.int .i64 0), (.int .i64 0), (.int .i64 0)])

def hs24 : AV := (.agg [(.int .i64 1), (.int .i64 33), (.int .i64 3), (.int .i64 4), (.int .i64 1), (.int .i64 4), (.int .i64 2), (.int .i64 0), (.tsl 3 [[(.int .i64 6), (.int .i64 0), (.int .i64 3)]]), (.bool false), (.int .i64 0), (.int .i64 0), (.str ⟨#[]⟩), (.tsl 1 []), (.int .i64 0), (.int .i64 0), (.int .i64 0), (.int .i64 0)])

def hs25 : AV := (.tsl 7 [[(.int .i64 0), (.int .i64 0), hs15, .nils, (.int .i64 1), (.int .i64 1), .nils]])

def hs26 : AV := (.agg [(.int .i64 0), (.int .i64 0), (.int .i64 0), (.int .i64 0), (.int .i64 0), (.int .i64 0), (.int .i64 0), (.int .i64 0), .nils, (.bool false), (.int .i64 0), (.int .i64 0), (.str ⟨#[]⟩), .nils, (.int .i64 0), (.int .i64 0), (.int .i64 0), (.int .i64 0)])

def hs27 : AV := (.tup [hs26, (.bool false)])

def hs28 : AV := (.agg [(.int .i64 1), (.int .i64 16), (.int .i64 0), (.int .i64 1), (.int .i64 1), (.int .i64 8), (.int .i64 3), (.int .i64 0), (.tsl 3 [[(.int .i64 0), (.int .i64 0), (.int .i64 3)]]), (.bool false), (.int .i64 0), (.int .i64 0), (.str ⟨#[]⟩), (.tsl 1 []), (.int .i64 0), (.int .i64 0), (.int .i64 0), (.int .i64 0)])

def hs29 : AV := (.tsl 2 [[(.int .i64 0), (.tsl 1 [[(.int .i64 0)],
 [(.int .i64 1)]])],
 [(.int .i64 0), (.tsl 1 [[(.int .i64 2)],
 [(.int .i64 3)]])],
 [(.int .i64 0), (.tsl 1 [[(.int .i64 5)],
 [(.int .i64 6)]])]])

def hs30 : AV := (.tup [hs29, (.agg [(.int .i64 0), (.int .i64 0)])])


def hsZ (f : Nat) : Bool := bitOf 5260135901548373507240989882880128665550339802823173859498280903068732154297080822113666536277588451226982968856178217713019432250183803863127814770651880849955223671128444598191661222583122260812490258329370623 f
def hsG (f : Nat) : Bool := bitOf 5260135901548373507240989882880128665550339802823173859498280903068732154297080822113666536277588451226982968856178217713019432250183803863127813928153547403322234500884809456394223584507286772047187437543341567 f

def hsT0 : List (Nat × (List AV × AV)) := []
theorem hsT0_ok : TOK Go.Proofs.Tryz.prog hsT0 := TOK.nil

def hsX0 : XP := ⟨hsZ, hsT0, hsG, kp.find⟩
theorem hsr0 : runOKX tr.find hsX0 2000 29 [hs0] hs2 = true := by kernel_rfl
theorem hsc0 : AV.pure hs2 = true ∧ ACalls Go.Proofs.Tryz.prog 29 [hs0] [] 0 (fun r _ _ => r = hs2) := runOKX_sound (fun _ _ h => Tr.find_ok tr_ok h) hsT0_ok hsr0
def hsT1 : List (Nat × (List AV × AV)) := (29, ([hs0], hs2)) :: hsT0
theorem hsT1_ok : TOK Go.Proofs.Tryz.prog hsT1 := TOK.cons hsc0 hsT0_ok

def hsX1 : XP := ⟨hsZ, hsT1, hsG, kp.find⟩
theorem hsr1 : runOKX tr.find hsX1 2000 214 [(.str ⟨#[56]⟩)] (.tup [(.agg [(.int .i64 3), (.int .i64 0)]), (.bool true)]) = true := by kernel_rfl
theorem hsc1 : AV.pure (.tup [(.agg [(.int .i64 3), (.int .i64 0)]), (.bool true)]) = true ∧ ACalls Go.Proofs.Tryz.prog 214 [(.str ⟨#[56]⟩)] [] 0 (fun r _ _ => r = (.tup [(.agg [(.int .i64 3), (.int .i64 0)]), (.bool true)])) := runOKX_sound (fun _ _ h => Tr.find_ok tr_ok h) hsT1_ok hsr1
def hsT2 : List (Nat × (List AV × AV)) := (214, ([(.str ⟨#[56]⟩)], (.tup [(.agg [(.int .i64 3), (.int .i64 0)]), (.bool true)]))) :: hsT1
theorem hsT2_ok : TOK Go.Proofs.Tryz.prog hsT2 := TOK.cons hsc1 hsT1_ok

def hsX2 : XP := ⟨hsZ, hsT2, hsG, kp.find⟩
theorem hsr2 : runOKX tr.find hsX2 2000 214 [(.str ⟨#[49, 54]⟩)] (.tup [(.agg [(.int .i64 4), (.int .i64 0)]), (.bool true)]) = true := by kernel_rfl
theorem hsc2 : AV.pure (.tup [(.agg [(.int .i64 4), (.int .i64 0)]), (.bool true)]) = true ∧ ACalls Go.Proofs.Tryz.prog 214 [(.str ⟨#[49, 54]⟩)] [] 0 (fun r _ _ => r = (.tup [(.agg [(.int .i64 4), (.int .i64 0)]), (.bool true)])) := runOKX_sound (fun _ _ h => Tr.find_ok tr_ok h) hsT2_ok hsr2
def hsT3 : List (Nat × (List AV × AV)) := (214, ([(.str ⟨#[49, 54]⟩)], (.tup [(.agg [(.int .i64 4), (.int .i64 0)]), (.bool true)]))) :: hsT2
theorem hsT3_ok : TOK Go.Proofs.Tryz.prog hsT3 := TOK.cons hsc2 hsT2_ok

def hsX3 : XP := ⟨hsZ, hsT3, hsG, kp.find⟩
theorem hsr3 : runOKX tr.find hsX3 2000 17 [hs0] hs7 = true := by kernel_rfl
theorem hsc3 : AV.pure hs7 = true ∧ ACalls Go.Proofs.Tryz.prog 17 [hs0] [] 0 (fun r _ _ => r = hs7) := runOKX_sound (fun _ _ h => Tr.find_ok tr_ok h) hsT3_ok hsr3
def hsT4 : List (Nat × (List AV × AV)) := (17, ([hs0], hs7)) :: hsT3
theorem hsT4_ok : TOK Go.Proofs.Tryz.prog hsT4 := TOK.cons hsc3 hsT3_ok

def hsX4 : XP := ⟨hsZ, hsT4, hsG, kp.find⟩
theorem hsr4 : runOKX tr.find hsX4 2000 92 [hs3, (.int .i64 0), (.int .i64 4096), (.int .i64 62)] (.int .i64 4088) = true := by kernel_rfl
theorem hsc4 : AV.pure (.int .i64 4088) = true ∧ ACalls Go.Proofs.Tryz.prog 92 [hs3, (.int .i64 0), (.int .i64 4096), (.int .i64 62)] [] 0 (fun r _ _ => r = (.int .i64 4088)) := runOKX_sound (fun _ _ h => Tr.find_ok tr_ok h) hsT4_ok hsr4
def hsT5 : List (Nat × (List AV × AV)) := (92, ([hs3, (.int .i64 0), (.int .i64 4096), (.int .i64 62)], (.int .i64 4088))) :: hsT4
theorem hsT5_ok : TOK Go.Proofs.Tryz.prog hsT5 := TOK.cons hsc4 hsT4_ok

def hsX5 : XP := ⟨hsZ, hsT5, hsG, kp.find⟩
theorem hsr5 : runOKX tr.find hsX5 2000 36 [hs6] hs12 = true := by kernel_rfl
theorem hsc5 : AV.pure hs12 = true ∧ ACalls Go.Proofs.Tryz.prog 36 [hs6] [] 0 (fun r _ _ => r = hs12) := runOKX_sound (fun _ _ h => Tr.find_ok tr_ok h) hsT5_ok hsr5
def hsT6 : List (Nat × (List AV × AV)) := (36, ([hs6], hs12)) :: hsT5
theorem hsT6_ok : TOK Go.Proofs.Tryz.prog hsT6 := TOK.cons hsc5 hsT5_ok

def hsX6 : XP := ⟨hsZ, hsT6, hsG, kp.find⟩
theorem hsr6 : runOKX tr.find hsX6 2000 92 [hs8, (.int .i64 0), (.int .i64 4096), (.int .i64 62)] (.int .i64 4088) = true := by kernel_rfl
theorem hsc6 : AV.pure (.int .i64 4088) = true ∧ ACalls Go.Proofs.Tryz.prog 92 [hs8, (.int .i64 0), (.int .i64 4096), (.int .i64 62)] [] 0 (fun r _ _ => r = (.int .i64 4088)) := runOKX_sound (fun _ _ h => Tr.find_ok tr_ok h) hsT6_ok hsr6
def hsT7 : List (Nat × (List AV × AV)) := (92, ([hs8, (.int .i64 0), (.int .i64 4096), (.int .i64 62)], (.int .i64 4088))) :: hsT6
theorem hsT7_ok : TOK Go.Proofs.Tryz.prog hsT7 := TOK.cons hsc6 hsT6_ok

def hsX7 : XP := ⟨hsZ, hsT7, hsG, kp.find⟩
theorem hsr7 : runOKX tr.find hsX7 2000 92 [hs13, (.int .i64 0), (.int .i64 4096), (.int .i64 62)] (.int .i64 4088) = true := by kernel_rfl
theorem hsc7 : AV.pure (.int .i64 4088) = true ∧ ACalls Go.Proofs.Tryz.prog 92 [hs13, (.int .i64 0), (.int .i64 4096), (.int .i64 62)] [] 0 (fun r _ _ => r = (.int .i64 4088)) := runOKX_sound (fun _ _ h => Tr.find_ok tr_ok h) hsT7_ok hsr7
def hsT8 : List (Nat × (List AV × AV)) := (92, ([hs13, (.int .i64 0), (.int .i64 4096), (.int .i64 62)], (.int .i64 4088))) :: hsT7
theorem hsT8_ok : TOK Go.Proofs.Tryz.prog hsT8 := TOK.cons hsc7 hsT7_ok

def hsX8 : XP := ⟨hsZ, hsT8, hsG, kp.find⟩
theorem hsr8 : runOKX tr.find hsX8 2000 38 [hs14, (.int .i64 0), (.int .i64 0)] hs17 = true := by kernel_rfl
theorem hsc8 : AV.pure hs17 = true ∧ ACalls Go.Proofs.Tryz.prog 38 [hs14, (.int .i64 0), (.int .i64 0)] [] 0 (fun r _ _ => r = hs17) := runOKX_sound (fun _ _ h => Tr.find_ok tr_ok h) hsT8_ok hsr8
def hsT9 : List (Nat × (List AV × AV)) := (38, ([hs14, (.int .i64 0), (.int .i64 0)], hs17)) :: hsT8
theorem hsT9_ok : TOK Go.Proofs.Tryz.prog hsT9 := TOK.cons hsc8 hsT8_ok

def hsX9 : XP := ⟨hsZ, hsT9, hsG, kp.find⟩
theorem hsr9 : runOKX tr.find hsX9 2000 75 [hs15] (.int .i64 (-1)) = true := by kernel_rfl
theorem hsc9 : AV.pure (.int .i64 (-1)) = true ∧ ACalls Go.Proofs.Tryz.prog 75 [hs15] [] 0 (fun r _ _ => r = (.int .i64 (-1))) := runOKX_sound (fun _ _ h => Tr.find_ok tr_ok h) hsT9_ok hsr9
def hsT10 : List (Nat × (List AV × AV)) := (75, ([hs15], (.int .i64 (-1)))) :: hsT9
theorem hsT10_ok : TOK Go.Proofs.Tryz.prog hsT10 := TOK.cons hsc9 hsT9_ok

def hsX10 : XP := ⟨hsZ, hsT10, hsG, kp.find⟩
theorem hsr10 : runOKX tr.find hsX10 2000 41 [hs16] (.bool true) = true := by kernel_rfl
theorem hsc10 : AV.pure (.bool true) = true ∧ ACalls Go.Proofs.Tryz.prog 41 [hs16] [] 0 (fun r _ _ => r = (.bool true)) := runOKX_sound (fun _ _ h => Tr.find_ok tr_ok h) hsT10_ok hsr10
def hsT11 : List (Nat × (List AV × AV)) := (41, ([hs16], (.bool true))) :: hsT10
theorem hsT11_ok : TOK Go.Proofs.Tryz.prog hsT11 := TOK.cons hsc10 hsT10_ok

def hsX11 : XP := ⟨hsZ, hsT11, hsG, kp.find⟩
theorem hsr11 : runOKX tr.find hsX11 2000 105 [(.tsl 4 [[(.int .i64 0), (.int .i64 1), (.int .i64 4), (.int .i64 4)]]), hs18] (.bool false) = true := by kernel_rfl
theorem hsc11 : AV.pure (.bool false) = true ∧ ACalls Go.Proofs.Tryz.prog 105 [(.tsl 4 [[(.int .i64 0), (.int .i64 1), (.int .i64 4), (.int .i64 4)]]), hs18] [] 0 (fun r _ _ => r = (.bool false)) := runOKX_sound (fun _ _ h => Tr.find_ok tr_ok h) hsT11_ok hsr11
def hsT12 : List (Nat × (List AV × AV)) := (105, ([(.tsl 4 [[(.int .i64 0), (.int .i64 1), (.int .i64 4), (.int .i64 4)]]), hs18], (.bool false))) :: hsT11
theorem hsT12_ok : TOK Go.Proofs.Tryz.prog hsT12 := TOK.cons hsc11 hsT11_ok

def hsX12 : XP := ⟨hsZ, hsT12, hsG, kp.find⟩
theorem hsr12 : runOKX tr.find hsX12 2000 105 [(.tsl 4 [[(.int .i64 0), (.int .i64 1), (.int .i64 4), (.int .i64 4)]]), hs19] (.bool false) = true := by kernel_rfl
theorem hsc12 : AV.pure (.bool false) = true ∧ ACalls Go.Proofs.Tryz.prog 105 [(.tsl 4 [[(.int .i64 0), (.int .i64 1), (.int .i64 4), (.int .i64 4)]]), hs19] [] 0 (fun r _ _ => r = (.bool false)) := runOKX_sound (fun _ _ h => Tr.find_ok tr_ok h) hsT12_ok hsr12
def hsT13 : List (Nat × (List AV × AV)) := (105, ([(.tsl 4 [[(.int .i64 0), (.int .i64 1), (.int .i64 4), (.int .i64 4)]]), hs19], (.bool false))) :: hsT12
theorem hsT13_ok : TOK Go.Proofs.Tryz.prog hsT13 := TOK.cons hsc12 hsT12_ok

def hsX13 : XP := ⟨hsZ, hsT13, hsG, kp.find⟩
theorem hsr13 : runOKX tr.find hsX13 2000 105 [(.tsl 4 [[(.int .i64 0), (.int .i64 1), (.int .i64 4), (.int .i64 4)]]), hs20] (.bool false) = true := by kernel_rfl
theorem hsc13 : AV.pure (.bool false) = true ∧ ACalls Go.Proofs.Tryz.prog 105 [(.tsl 4 [[(.int .i64 0), (.int .i64 1), (.int .i64 4), (.int .i64 4)]]), hs20] [] 0 (fun r _ _ => r = (.bool false)) := runOKX_sound (fun _ _ h => Tr.find_ok tr_ok h) hsT13_ok hsr13
def hsT14 : List (Nat × (List AV × AV)) := (105, ([(.tsl 4 [[(.int .i64 0), (.int .i64 1), (.int .i64 4), (.int .i64 4)]]), hs20], (.bool false))) :: hsT13
theorem hsT14_ok : TOK Go.Proofs.Tryz.prog hsT14 := TOK.cons hsc13 hsT13_ok

def hsX14 : XP := ⟨hsZ, hsT14, hsG, kp.find⟩
theorem hsr14 : runOKX tr.find hsX14 2000 105 [(.tsl 4 [[(.int .i64 0), (.int .i64 1), (.int .i64 4), (.int .i64 4)]]), hs21] (.bool false) = true := by kernel_rfl
theorem hsc14 : AV.pure (.bool false) = true ∧ ACalls Go.Proofs.Tryz.prog 105 [(.tsl 4 [[(.int .i64 0), (.int .i64 1), (.int .i64 4), (.int .i64 4)]]), hs21] [] 0 (fun r _ _ => r = (.bool false)) := runOKX_sound (fun _ _ h => Tr.find_ok tr_ok h) hsT14_ok hsr14
def hsT15 : List (Nat × (List AV × AV)) := (105, ([(.tsl 4 [[(.int .i64 0), (.int .i64 1), (.int .i64 4), (.int .i64 4)]]), hs21], (.bool false))) :: hsT14
theorem hsT15_ok : TOK Go.Proofs.Tryz.prog hsT15 := TOK.cons hsc14 hsT14_ok

def hsX15 : XP := ⟨hsZ, hsT15, hsG, kp.find⟩
theorem hsr15 : runOKX tr.find hsX15 2000 105 [(.tsl 4 [[(.int .i64 0), (.int .i64 1), (.int .i64 4), (.int .i64 4)]]), hs22] (.bool false) = true := by kernel_rfl
theorem hsc15 : AV.pure (.bool false) = true ∧ ACalls Go.Proofs.Tryz.prog 105 [(.tsl 4 [[(.int .i64 0), (.int .i64 1), (.int .i64 4), (.int .i64 4)]]), hs22] [] 0 (fun r _ _ => r = (.bool false)) := runOKX_sound (fun _ _ h => Tr.find_ok tr_ok h) hsT15_ok hsr15
def hsT16 : List (Nat × (List AV × AV)) := (105, ([(.tsl 4 [[(.int .i64 0), (.int .i64 1), (.int .i64 4), (.int .i64 4)]]), hs22], (.bool false))) :: hsT15
theorem hsT16_ok : TOK Go.Proofs.Tryz.prog hsT16 := TOK.cons hsc15 hsT15_ok

def hsX16 : XP := ⟨hsZ, hsT16, hsG, kp.find⟩
theorem hsr16 : runOKX tr.find hsX16 2000 105 [(.tsl 4 [[(.int .i64 0), (.int .i64 1), (.int .i64 4), (.int .i64 4)]]), hs23] (.bool false) = true := by kernel_rfl
theorem hsc16 : AV.pure (.bool false) = true ∧ ACalls Go.Proofs.Tryz.prog 105 [(.tsl 4 [[(.int .i64 0), (.int .i64 1), (.int .i64 4), (.int .i64 4)]]), hs23] [] 0 (fun r _ _ => r = (.bool false)) := runOKX_sound (fun _ _ h => Tr.find_ok tr_ok h) hsT16_ok hsr16
def hsT17 : List (Nat × (List AV × AV)) := (105, ([(.tsl 4 [[(.int .i64 0), (.int .i64 1), (.int .i64 4), (.int .i64 4)]]), hs23], (.bool false))) :: hsT16
theorem hsT17_ok : TOK Go.Proofs.Tryz.prog hsT17 := TOK.cons hsc16 hsT16_ok

def hsX17 : XP := ⟨hsZ, hsT17, hsG, kp.find⟩
theorem hsr17 : runOKX tr.find hsX17 2000 105 [(.tsl 4 [[(.int .i64 0), (.int .i64 1), (.int .i64 4), (.int .i64 4)]]), hs24] (.bool false) = true := by kernel_rfl
theorem hsc17 : AV.pure (.bool false) = true ∧ ACalls Go.Proofs.Tryz.prog 105 [(.tsl 4 [[(.int .i64 0), (.int .i64 1), (.int .i64 4), (.int .i64 4)]]), hs24] [] 0 (fun r _ _ => r = (.bool false)) := runOKX_sound (fun _ _ h => Tr.find_ok tr_ok h) hsT17_ok hsr17
def hsT18 : List (Nat × (List AV × AV)) := (105, ([(.tsl 4 [[(.int .i64 0), (.int .i64 1), (.int .i64 4), (.int .i64 4)]]), hs24], (.bool false))) :: hsT17
theorem hsT18_ok : TOK Go.Proofs.Tryz.prog hsT18 := TOK.cons hsc17 hsT17_ok

def hsX18 : XP := ⟨hsZ, hsT18, hsG, kp.find⟩
theorem hsr18 : runOKX tr.find hsX18 2000 64 [hs25, (.tsl 4 [[(.int .i64 0), (.int .i64 1), (.int .i64 4), (.int .i64 4)]])] hs27 = true := by kernel_rfl
theorem hsc18 : AV.pure hs27 = true ∧ ACalls Go.Proofs.Tryz.prog 64 [hs25, (.tsl 4 [[(.int .i64 0), (.int .i64 1), (.int .i64 4), (.int .i64 4)]])] [] 0 (fun r _ _ => r = hs27) := runOKX_sound (fun _ _ h => Tr.find_ok tr_ok h) hsT18_ok hsr18
def hsT19 : List (Nat × (List AV × AV)) := (64, ([hs25, (.tsl 4 [[(.int .i64 0), (.int .i64 1), (.int .i64 4), (.int .i64 4)]])], hs27)) :: hsT18
theorem hsT19_ok : TOK Go.Proofs.Tryz.prog hsT19 := TOK.cons hsc18 hsT18_ok

def hsX19 : XP := ⟨hsZ, hsT19, hsG, kp.find⟩
theorem hsr19 : runOKX tr.find hsX19 2000 69 [(.tsl 4 [[(.int .i64 0), (.int .i64 1), (.int .i64 4), (.int .i64 4)]]), hs28] (.agg [(.int .i64 0), (.int .i64 0)]) = true := by kernel_rfl
theorem hsc19 : AV.pure (.agg [(.int .i64 0), (.int .i64 0)]) = true ∧ ACalls Go.Proofs.Tryz.prog 69 [(.tsl 4 [[(.int .i64 0), (.int .i64 1), (.int .i64 4), (.int .i64 4)]]), hs28] [] 0 (fun r _ _ => r = (.agg [(.int .i64 0), (.int .i64 0)])) := runOKX_sound (fun _ _ h => Tr.find_ok tr_ok h) hsT19_ok hsr19
def hsT20 : List (Nat × (List AV × AV)) := (69, ([(.tsl 4 [[(.int .i64 0), (.int .i64 1), (.int .i64 4), (.int .i64 4)]]), hs28], (.agg [(.int .i64 0), (.int .i64 0)]))) :: hsT19
theorem hsT20_ok : TOK Go.Proofs.Tryz.prog hsT20 := TOK.cons hsc19 hsT19_ok

def hsX20 : XP := ⟨hsZ, hsT20, hsG, kp.find⟩
theorem hsr20 : runOKX tr.find hsX20 2000 107 [(.tsl 4 [[(.int .i64 0), (.int .i64 1), (.int .i64 4), (.int .i64 4)]]), (.agg [(.int .i64 1), (.int .i64 8)])] (.tup [(.agg [(.int .i64 1), (.int .i64 8)]), (.bool true)]) = true := by kernel_rfl
theorem hsc20 : AV.pure (.tup [(.agg [(.int .i64 1), (.int .i64 8)]), (.bool true)]) = true ∧ ACalls Go.Proofs.Tryz.prog 107 [(.tsl 4 [[(.int .i64 0), (.int .i64 1), (.int .i64 4), (.int .i64 4)]]), (.agg [(.int .i64 1), (.int .i64 8)])] [] 0 (fun r _ _ => r = (.tup [(.agg [(.int .i64 1), (.int .i64 8)]), (.bool true)])) := runOKX_sound (fun _ _ h => Tr.find_ok tr_ok h) hsT20_ok hsr20
def hsT21 : List (Nat × (List AV × AV)) := (107, ([(.tsl 4 [[(.int .i64 0), (.int .i64 1), (.int .i64 4), (.int .i64 4)]]), (.agg [(.int .i64 1), (.int .i64 8)])], (.tup [(.agg [(.int .i64 1), (.int .i64 8)]), (.bool true)]))) :: hsT20
theorem hsT21_ok : TOK Go.Proofs.Tryz.prog hsT21 := TOK.cons hsc20 hsT20_ok

def hsX21 : XP := ⟨hsZ, hsT21, hsG, kp.find⟩
theorem hsr21 : runOKX tr.find hsX21 2000 69 [(.tsl 4 [[(.int .i64 0), (.int .i64 1), (.int .i64 4), (.int .i64 4)]]), hs18] (.agg [(.int .i64 0), (.int .i64 0)]) = true := by kernel_rfl
theorem hsc21 : AV.pure (.agg [(.int .i64 0), (.int .i64 0)]) = true ∧ ACalls Go.Proofs.Tryz.prog 69 [(.tsl 4 [[(.int .i64 0), (.int .i64 1), (.int .i64 4), (.int .i64 4)]]), hs18] [] 0 (fun r _ _ => r = (.agg [(.int .i64 0), (.int .i64 0)])) := runOKX_sound (fun _ _ h => Tr.find_ok tr_ok h) hsT21_ok hsr21
def hsT22 : List (Nat × (List AV × AV)) := (69, ([(.tsl 4 [[(.int .i64 0), (.int .i64 1), (.int .i64 4), (.int .i64 4)]]), hs18], (.agg [(.int .i64 0), (.int .i64 0)]))) :: hsT21
theorem hsT22_ok : TOK Go.Proofs.Tryz.prog hsT22 := TOK.cons hsc21 hsT21_ok

def hsX22 : XP := ⟨hsZ, hsT22, hsG, kp.find⟩
theorem hsr22 : runOKX tr.find hsX22 2000 107 [(.tsl 4 [[(.int .i64 0), (.int .i64 1), (.int .i64 4), (.int .i64 4)]]), (.agg [(.int .i64 1), (.int .i64 4)])] (.tup [(.agg [(.int .i64 1), (.int .i64 4)]), (.bool true)]) = true := by kernel_rfl
theorem hsc22 : AV.pure (.tup [(.agg [(.int .i64 1), (.int .i64 4)]), (.bool true)]) = true ∧ ACalls Go.Proofs.Tryz.prog 107 [(.tsl 4 [[(.int .i64 0), (.int .i64 1), (.int .i64 4), (.int .i64 4)]]), (.agg [(.int .i64 1), (.int .i64 4)])] [] 0 (fun r _ _ => r = (.tup [(.agg [(.int .i64 1), (.int .i64 4)]), (.bool true)])) := runOKX_sound (fun _ _ h => Tr.find_ok tr_ok h) hsT22_ok hsr22
def hsT23 : List (Nat × (List AV × AV)) := (107, ([(.tsl 4 [[(.int .i64 0), (.int .i64 1), (.int .i64 4), (.int .i64 4)]]), (.agg [(.int .i64 1), (.int .i64 4)])], (.tup [(.agg [(.int .i64 1), (.int .i64 4)]), (.bool true)]))) :: hsT22
theorem hsT23_ok : TOK Go.Proofs.Tryz.prog hsT23 := TOK.cons hsc22 hsT22_ok

def hsX23 : XP := ⟨hsZ, hsT23, hsG, kp.find⟩
theorem hsr23 : runOKX tr.find hsX23 2000 69 [(.tsl 4 [[(.int .i64 0), (.int .i64 1), (.int .i64 4), (.int .i64 4)]]), hs19] (.agg [(.int .i64 0), (.int .i64 1)]) = true := by kernel_rfl
theorem hsc23 : AV.pure (.agg [(.int .i64 0), (.int .i64 1)]) = true ∧ ACalls Go.Proofs.Tryz.prog 69 [(.tsl 4 [[(.int .i64 0), (.int .i64 1), (.int .i64 4), (.int .i64 4)]]), hs19] [] 0 (fun r _ _ => r = (.agg [(.int .i64 0), (.int .i64 1)])) := runOKX_sound (fun _ _ h => Tr.find_ok tr_ok h) hsT23_ok hsr23
def hsT24 : List (Nat × (List AV × AV)) := (69, ([(.tsl 4 [[(.int .i64 0), (.int .i64 1), (.int .i64 4), (.int .i64 4)]]), hs19], (.agg [(.int .i64 0), (.int .i64 1)]))) :: hsT23
theorem hsT24_ok : TOK Go.Proofs.Tryz.prog hsT24 := TOK.cons hsc23 hsT23_ok

def hsX24 : XP := ⟨hsZ, hsT24, hsG, kp.find⟩
theorem hsr24 : runOKX tr.find hsX24 2000 107 [(.tsl 4 [[(.int .i64 0), (.int .i64 1), (.int .i64 4), (.int .i64 4)]]), (.agg [(.int .i64 3), (.int .i64 8)])] (.tup [(.agg [(.int .i64 3), (.int .i64 8)]), (.bool true)]) = true := by kernel_rfl
theorem hsc24 : AV.pure (.tup [(.agg [(.int .i64 3), (.int .i64 8)]), (.bool true)]) = true ∧ ACalls Go.Proofs.Tryz.prog 107 [(.tsl 4 [[(.int .i64 0), (.int .i64 1), (.int .i64 4), (.int .i64 4)]]), (.agg [(.int .i64 3), (.int .i64 8)])] [] 0 (fun r _ _ => r = (.tup [(.agg [(.int .i64 3), (.int .i64 8)]), (.bool true)])) := runOKX_sound (fun _ _ h => Tr.find_ok tr_ok h) hsT24_ok hsr24
def hsT25 : List (Nat × (List AV × AV)) := (107, ([(.tsl 4 [[(.int .i64 0), (.int .i64 1), (.int .i64 4), (.int .i64 4)]]), (.agg [(.int .i64 3), (.int .i64 8)])], (.tup [(.agg [(.int .i64 3), (.int .i64 8)]), (.bool true)]))) :: hsT24
theorem hsT25_ok : TOK Go.Proofs.Tryz.prog hsT25 := TOK.cons hsc24 hsT24_ok

def hsX25 : XP := ⟨hsZ, hsT25, hsG, kp.find⟩
theorem hsr25 : runOKX tr.find hsX25 2000 69 [(.tsl 4 [[(.int .i64 0), (.int .i64 1), (.int .i64 4), (.int .i64 4)]]), hs20] (.agg [(.int .i64 0), (.int .i64 1)]) = true := by kernel_rfl
theorem hsc25 : AV.pure (.agg [(.int .i64 0), (.int .i64 1)]) = true ∧ ACalls Go.Proofs.Tryz.prog 69 [(.tsl 4 [[(.int .i64 0), (.int .i64 1), (.int .i64 4), (.int .i64 4)]]), hs20] [] 0 (fun r _ _ => r = (.agg [(.int .i64 0), (.int .i64 1)])) := runOKX_sound (fun _ _ h => Tr.find_ok tr_ok h) hsT25_ok hsr25
def hsT26 : List (Nat × (List AV × AV)) := (69, ([(.tsl 4 [[(.int .i64 0), (.int .i64 1), (.int .i64 4), (.int .i64 4)]]), hs20], (.agg [(.int .i64 0), (.int .i64 1)]))) :: hsT25
theorem hsT26_ok : TOK Go.Proofs.Tryz.prog hsT26 := TOK.cons hsc25 hsT25_ok

def hsX26 : XP := ⟨hsZ, hsT26, hsG, kp.find⟩
theorem hsr26 : runOKX tr.find hsX26 2000 107 [(.tsl 4 [[(.int .i64 0), (.int .i64 1), (.int .i64 4), (.int .i64 4)]]), (.agg [(.int .i64 5), (.int .i64 8)])] (.tup [(.agg [(.int .i64 5), (.int .i64 8)]), (.bool true)]) = true := by kernel_rfl
theorem hsc26 : AV.pure (.tup [(.agg [(.int .i64 5), (.int .i64 8)]), (.bool true)]) = true ∧ ACalls Go.Proofs.Tryz.prog 107 [(.tsl 4 [[(.int .i64 0), (.int .i64 1), (.int .i64 4), (.int .i64 4)]]), (.agg [(.int .i64 5), (.int .i64 8)])] [] 0 (fun r _ _ => r = (.tup [(.agg [(.int .i64 5), (.int .i64 8)]), (.bool true)])) := runOKX_sound (fun _ _ h => Tr.find_ok tr_ok h) hsT26_ok hsr26
def hsT27 : List (Nat × (List AV × AV)) := (107, ([(.tsl 4 [[(.int .i64 0), (.int .i64 1), (.int .i64 4), (.int .i64 4)]]), (.agg [(.int .i64 5), (.int .i64 8)])], (.tup [(.agg [(.int .i64 5), (.int .i64 8)]), (.bool true)]))) :: hsT26
theorem hsT27_ok : TOK Go.Proofs.Tryz.prog hsT27 := TOK.cons hsc26 hsT26_ok

def hsX27 : XP := ⟨hsZ, hsT27, hsG, kp.find⟩
theorem hsr27 : runOKX tr.find hsX27 2000 69 [(.tsl 4 [[(.int .i64 0), (.int .i64 1), (.int .i64 4), (.int .i64 4)]]), hs22] (.agg [(.int .i64 0), (.int .i64 2)]) = true := by kernel_rfl
theorem hsc27 : AV.pure (.agg [(.int .i64 0), (.int .i64 2)]) = true ∧ ACalls Go.Proofs.Tryz.prog 69 [(.tsl 4 [[(.int .i64 0), (.int .i64 1), (.int .i64 4), (.int .i64 4)]]), hs22] [] 0 (fun r _ _ => r = (.agg [(.int .i64 0), (.int .i64 2)])) := runOKX_sound (fun _ _ h => Tr.find_ok tr_ok h) hsT27_ok hsr27
def hsT28 : List (Nat × (List AV × AV)) := (69, ([(.tsl 4 [[(.int .i64 0), (.int .i64 1), (.int .i64 4), (.int .i64 4)]]), hs22], (.agg [(.int .i64 0), (.int .i64 2)]))) :: hsT27
theorem hsT28_ok : TOK Go.Proofs.Tryz.prog hsT28 := TOK.cons hsc27 hsT27_ok

def hsX28 : XP := ⟨hsZ, hsT28, hsG, kp.find⟩
theorem hsr28 : runOKX tr.find hsX28 2000 107 [(.tsl 4 [[(.int .i64 0), (.int .i64 1), (.int .i64 4), (.int .i64 4)]]), (.agg [(.int .i64 11), (.int .i64 16)])] (.tup [(.agg [(.int .i64 11), (.int .i64 16)]), (.bool true)]) = true := by kernel_rfl
theorem hsc28 : AV.pure (.tup [(.agg [(.int .i64 11), (.int .i64 16)]), (.bool true)]) = true ∧ ACalls Go.Proofs.Tryz.prog 107 [(.tsl 4 [[(.int .i64 0), (.int .i64 1), (.int .i64 4), (.int .i64 4)]]), (.agg [(.int .i64 11), (.int .i64 16)])] [] 0 (fun r _ _ => r = (.tup [(.agg [(.int .i64 11), (.int .i64 16)]), (.bool true)])) := runOKX_sound (fun _ _ h => Tr.find_ok tr_ok h) hsT28_ok hsr28
def hsT29 : List (Nat × (List AV × AV)) := (107, ([(.tsl 4 [[(.int .i64 0), (.int .i64 1), (.int .i64 4), (.int .i64 4)]]), (.agg [(.int .i64 11), (.int .i64 16)])], (.tup [(.agg [(.int .i64 11), (.int .i64 16)]), (.bool true)]))) :: hsT28
theorem hsT29_ok : TOK Go.Proofs.Tryz.prog hsT29 := TOK.cons hsc28 hsT28_ok

def hsX29 : XP := ⟨hsZ, hsT29, hsG, kp.find⟩
theorem hsr29 : runOKX tr.find hsX29 2000 69 [(.tsl 4 [[(.int .i64 0), (.int .i64 1), (.int .i64 4), (.int .i64 4)]]), hs23] (.agg [(.int .i64 0), (.int .i64 2)]) = true := by kernel_rfl
theorem hsc29 : AV.pure (.agg [(.int .i64 0), (.int .i64 2)]) = true ∧ ACalls Go.Proofs.Tryz.prog 69 [(.tsl 4 [[(.int .i64 0), (.int .i64 1), (.int .i64 4), (.int .i64 4)]]), hs23] [] 0 (fun r _ _ => r = (.agg [(.int .i64 0), (.int .i64 2)])) := runOKX_sound (fun _ _ h => Tr.find_ok tr_ok h) hsT29_ok hsr29
def hsT30 : List (Nat × (List AV × AV)) := (69, ([(.tsl 4 [[(.int .i64 0), (.int .i64 1), (.int .i64 4), (.int .i64 4)]]), hs23], (.agg [(.int .i64 0), (.int .i64 2)]))) :: hsT29
theorem hsT30_ok : TOK Go.Proofs.Tryz.prog hsT30 := TOK.cons hsc29 hsT29_ok

def hsX30 : XP := ⟨hsZ, hsT30, hsG, kp.find⟩
theorem hsr30 : runOKX tr.find hsX30 2000 19 [hs25] hs30 = true := by kernel_rfl
theorem hsc30 : AV.pure hs30 = true ∧ ACalls Go.Proofs.Tryz.prog 19 [hs25] [] 0 (fun r _ _ => r = hs30) := runOKX_sound (fun _ _ h => Tr.find_ok tr_ok h) hsT30_ok hsr30
def hsT31 : List (Nat × (List AV × AV)) := (19, ([hs25], hs30)) :: hsT30
theorem hsT31_ok : TOK Go.Proofs.Tryz.prog hsT31 := TOK.cons hsc30 hsT30_ok

def hsX31 : XP := ⟨hsZ, hsT31, hsG, kp.find⟩
theorem hsr31 : runOKX tr.find hsX31 2000 7 [] (.bool true) = true := by kernel_rfl
theorem hsc31 : AV.pure (.bool true) = true ∧ ACalls Go.Proofs.Tryz.prog 7 [] [] 0 (fun r _ _ => r = (.bool true)) := runOKX_sound (fun _ _ h => Tr.find_ok tr_ok h) hsT31_ok hsr31
def hsT32 : List (Nat × (List AV × AV)) := (7, ([], (.bool true))) :: hsT31
theorem hsT32_ok : TOK Go.Proofs.Tryz.prog hsT32 := TOK.cons hsc31 hsT31_ok

theorem hsheads : ACalls Go.Proofs.Tryz.prog 7 [] [] 0 (fun r _ _ => r = .bool true) := hsc31.2
end
end Go.AM.Bm
