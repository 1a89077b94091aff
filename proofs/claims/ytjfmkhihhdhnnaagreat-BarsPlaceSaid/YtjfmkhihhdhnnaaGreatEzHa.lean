/- A part of a proof about the given program: what its name says. No premise beyond the statements'. -/
import Derived.Test.YtjfmkhihhdhnnaaGreatEzCode
import Derived.KernelRfl
set_option linter.unusedSimpArgs false
set_option linter.unusedVariables false
namespace Go.AM.Ez
open Go.AM
noncomputable section

def ha0 : AV := (.str ⟨#[115, 116, 97, 102, 102, 32, 123, 32, 118, 111, 105, 99, 101, 32, 123, 32, 116, 105, 109, 101, 32, 51, 47, 52, 32, 99, 52, 32, 100, 32, 101, 32, 124, 32, 116, 105, 109, 101, 32, 50, 47, 52, 32, 102, 50, 32, 124, 32, 103, 52, 32, 125, 32, 125]⟩)

def ha1 : AV := (.tsl 3 [[(.int .i64 1), (.str ⟨#[115, 116, 97, 102, 102]⟩), (.int .i64 0)],
 [(.int .i64 4), (.str ⟨#[123]⟩), (.int .i64 6)],
 [(.int .i64 1), (.str ⟨#[118, 111, 105, 99, 101]⟩), (.int .i64 8)],
 [(.int .i64 4), (.str ⟨#[123]⟩), (.int .i64 14)],
 [(.int .i64 1), (.str ⟨#[116, 105, 109, 101]⟩), (.int .i64 16)],
 [(.int .i64 2), (.str ⟨#[51]⟩), (.int .i64 21)],
 [(.int .i64 4), (.str ⟨#[47]⟩), (.int .i64 22)],
 [(.int .i64 2), (.str ⟨#[52]⟩), (.int .i64 23)],
 [(.int .i64 1), (.str ⟨#[99]⟩), (.int .i64 25)],
 [(.int .i64 2), (.str ⟨#[52]⟩), (.int .i64 26)],
 [(.int .i64 1), (.str ⟨#[100]⟩), (.int .i64 28)],
 [(.int .i64 1), (.str ⟨#[101]⟩), (.int .i64 30)],
 [(.int .i64 4), (.str ⟨#[124]⟩), (.int .i64 32)],
 [(.int .i64 1), (.str ⟨#[116, 105, 109, 101]⟩), (.int .i64 34)],
 [(.int .i64 2), (.str ⟨#[50]⟩), (.int .i64 39)],
 [(.int .i64 4), (.str ⟨#[47]⟩), (.int .i64 40)],
 [(.int .i64 2), (.str ⟨#[52]⟩), (.int .i64 41)],
 [(.int .i64 1), (.str ⟨#[102]⟩), (.int .i64 43)],
 [(.int .i64 2), (.str ⟨#[50]⟩), (.int .i64 44)],
 [(.int .i64 4), (.str ⟨#[124]⟩), (.int .i64 46)],
 [(.int .i64 1), (.str ⟨#[103]⟩), (.int .i64 48)],
 [(.int .i64 2), (.str ⟨#[52]⟩), (.int .i64 49)],
 [(.int .i64 4), (.str ⟨#[125]⟩), (.int .i64 51)],
 [(.int .i64 4), (.str ⟨#[125]⟩), (.int .i64 53)],
 [(.int .i64 8), (.str ⟨#[]⟩), (.int .i64 54)]])

def ha2 : AV := (.tup [ha1, (.agg [(.int .i64 0), (.int .i64 0)])])

def ha3 : AV := (.tsl 14 [[(.int .i64 11), (.int .i64 16), .nils, (.bool false), (.int .i64 0), (.int .i64 0), (.bool false), (.int .i64 0), (.int .i64 0), (.str ⟨#[]⟩), (.int .i64 3), (.int .i64 4), (.str ⟨#[]⟩), .nils],
 [(.int .i64 1), (.int .i64 25), (.tsl 3 [[(.int .i64 0), (.int .i64 0), (.int .i64 0)]]), (.bool true), (.int .i64 2), (.int .i64 0), (.bool false), (.int .i64 0), (.int .i64 0), (.str ⟨#[]⟩), (.int .i64 0), (.int .i64 0), (.str ⟨#[]⟩), .nils],
 [(.int .i64 1), (.int .i64 28), (.tsl 3 [[(.int .i64 1), (.int .i64 0), (.int .i64 0)]]), (.bool false), (.int .i64 0), (.int .i64 0), (.bool false), (.int .i64 0), (.int .i64 0), (.str ⟨#[]⟩), (.int .i64 0), (.int .i64 0), (.str ⟨#[]⟩), .nils],
 [(.int .i64 1), (.int .i64 30), (.tsl 3 [[(.int .i64 2), (.int .i64 0), (.int .i64 0)]]), (.bool false), (.int .i64 0), (.int .i64 0), (.bool false), (.int .i64 0), (.int .i64 0), (.str ⟨#[]⟩), (.int .i64 0), (.int .i64 0), (.str ⟨#[]⟩), .nils],
 [(.int .i64 12), (.int .i64 32), .nils, (.bool false), (.int .i64 0), (.int .i64 0), (.bool false), (.int .i64 0), (.int .i64 0), (.str ⟨#[]⟩), (.int .i64 0), (.int .i64 0), (.str ⟨#[]⟩), .nils],
 [(.int .i64 11), (.int .i64 34), .nils, (.bool false), (.int .i64 0), (.int .i64 0), (.bool false), (.int .i64 0), (.int .i64 0), (.str ⟨#[]⟩), (.int .i64 2), (.int .i64 4), (.str ⟨#[]⟩), .nils],
 [(.int .i64 1), (.int .i64 43), (.tsl 3 [[(.int .i64 3), (.int .i64 0), (.int .i64 0)]]), (.bool true), (.int .i64 1), (.int .i64 0), (.bool false), (.int .i64 0), (.int .i64 0), (.str ⟨#[]⟩), (.int .i64 0), (.int .i64 0), (.str ⟨#[]⟩), .nils],
 [(.int .i64 12), (.int .i64 46), .nils, (.bool false), (.int .i64 0), (.int .i64 0), (.bool false), (.int .i64 0), (.int .i64 0), (.str ⟨#[]⟩), (.int .i64 0), (.int .i64 0), (.str ⟨#[]⟩), .nils],
 [(.int .i64 1), (.int .i64 48), (.tsl 3 [[(.int .i64 4), (.int .i64 0), (.int .i64 0)]]), (.bool true), (.int .i64 2), (.int .i64 0), (.bool false), (.int .i64 0), (.int .i64 0), (.str ⟨#[]⟩), (.int .i64 0), (.int .i64 0), (.str ⟨#[]⟩), .nils]])

def ha4 : AV := (.tsl 3 [[(.int .i64 8), ha3, .nils]])

def ha5 : AV := (.tsl 3 [[(.int .i64 0), (.str ⟨#[]⟩), ha4]])

def ha6 : AV := (.agg [ha5])

def ha7 : AV := (.tup [ha6, (.agg [(.int .i64 0), (.int .i64 0)])])

def ha8 : AV := (.tsl 14 [[(.int .i64 11), (.int .i64 16), .nils, (.bool false), (.int .i64 0), (.int .i64 0), (.bool false), (.int .i64 0), (.int .i64 0), (.str ⟨#[]⟩), (.int .i64 3), (.int .i64 4), (.str ⟨#[]⟩), (.tsl 14 [])],
 [(.int .i64 1), (.int .i64 25), (.tsl 3 [[(.int .i64 0), (.int .i64 0), (.int .i64 0)]]), (.bool true), (.int .i64 2), (.int .i64 0), (.bool false), (.int .i64 0), (.int .i64 0), (.str ⟨#[]⟩), (.int .i64 0), (.int .i64 0), (.str ⟨#[]⟩), .nils],
 [(.int .i64 1), (.int .i64 28), (.tsl 3 [[(.int .i64 1), (.int .i64 0), (.int .i64 0)]]), (.bool false), (.int .i64 0), (.int .i64 0), (.bool false), (.int .i64 0), (.int .i64 0), (.str ⟨#[]⟩), (.int .i64 0), (.int .i64 0), (.str ⟨#[]⟩), .nils],
 [(.int .i64 1), (.int .i64 30), (.tsl 3 [[(.int .i64 2), (.int .i64 0), (.int .i64 0)]]), (.bool false), (.int .i64 0), (.int .i64 0), (.bool false), (.int .i64 0), (.int .i64 0), (.str ⟨#[]⟩), (.int .i64 0), (.int .i64 0), (.str ⟨#[]⟩), .nils],
 [(.int .i64 12), (.int .i64 32), .nils, (.bool false), (.int .i64 0), (.int .i64 0), (.bool false), (.int .i64 0), (.int .i64 0), (.str ⟨#[]⟩), (.int .i64 0), (.int .i64 0), (.str ⟨#[]⟩), (.tsl 14 [])],
 [(.int .i64 11), (.int .i64 34), .nils, (.bool false), (.int .i64 0), (.int .i64 0), (.bool false), (.int .i64 0), (.int .i64 0), (.str ⟨#[]⟩), (.int .i64 2), (.int .i64 4), (.str ⟨#[]⟩), (.tsl 14 [])],
 [(.int .i64 1), (.int .i64 43), (.tsl 3 [[(.int .i64 3), (.int .i64 0), (.int .i64 0)]]), (.bool true), (.int .i64 1), (.int .i64 0), (.bool false), (.int .i64 0), (.int .i64 0), (.str ⟨#[]⟩), (.int .i64 0), (.int .i64 0), (.str ⟨#[]⟩), .nils],
 [(.int .i64 12), (.int .i64 46), .nils, (.bool false), (.int .i64 0), (.int .i64 0), (.bool false), (.int .i64 0), (.int .i64 0), (.str ⟨#[]⟩), (.int .i64 0), (.int .i64 0), (.str ⟨#[]⟩), (.tsl 14 [])],
 [(.int .i64 1), (.int .i64 48), (.tsl 3 [[(.int .i64 4), (.int .i64 0), (.int .i64 0)]]), (.bool true), (.int .i64 2), (.int .i64 0), (.bool false), (.int .i64 0), (.int .i64 0), (.str ⟨#[]⟩), (.int .i64 0), (.int .i64 0), (.str ⟨#[]⟩), .nils]])

def ha9 : AV := (.tsl 3 [[(.int .i64 8), ha8, .nils]])

def ha10 : AV := (.tsl 3 [[(.int .i64 0), (.str ⟨#[]⟩), ha9]])

def ha11 : AV := (.agg [ha10])

def ha12 : AV := (.tup [ha11, (.agg [(.int .i64 0), (.int .i64 0)])])

def ha13 : AV := (.tsl 14 [[(.int .i64 11), (.int .i64 16), .nils, (.bool false), (.int .i64 0), (.int .i64 0), (.bool false), (.int .i64 0), (.int .i64 0), (.str ⟨#[]⟩), (.int .i64 3), (.int .i64 4), (.str ⟨#[]⟩), (.tsl 14 [])],
 [(.int .i64 1), (.int .i64 25), (.tsl 3 [[(.int .i64 0), (.int .i64 0), (.int .i64 0)]]), (.bool true), (.int .i64 2), (.int .i64 0), (.bool false), (.int .i64 0), (.int .i64 0), (.str ⟨#[]⟩), (.int .i64 0), (.int .i64 0), (.str ⟨#[]⟩), (.tsl 14 [])],
 [(.int .i64 1), (.int .i64 28), (.tsl 3 [[(.int .i64 1), (.int .i64 0), (.int .i64 0)]]), (.bool false), (.int .i64 0), (.int .i64 0), (.bool false), (.int .i64 0), (.int .i64 0), (.str ⟨#[]⟩), (.int .i64 0), (.int .i64 0), (.str ⟨#[]⟩), (.tsl 14 [])],
 [(.int .i64 1), (.int .i64 30), (.tsl 3 [[(.int .i64 2), (.int .i64 0), (.int .i64 0)]]), (.bool false), (.int .i64 0), (.int .i64 0), (.bool false), (.int .i64 0), (.int .i64 0), (.str ⟨#[]⟩), (.int .i64 0), (.int .i64 0), (.str ⟨#[]⟩), (.tsl 14 [])],
 [(.int .i64 12), (.int .i64 32), .nils, (.bool false), (.int .i64 0), (.int .i64 0), (.bool false), (.int .i64 0), (.int .i64 0), (.str ⟨#[]⟩), (.int .i64 0), (.int .i64 0), (.str ⟨#[]⟩), (.tsl 14 [])],
 [(.int .i64 11), (.int .i64 34), .nils, (.bool false), (.int .i64 0), (.int .i64 0), (.bool false), (.int .i64 0), (.int .i64 0), (.str ⟨#[]⟩), (.int .i64 2), (.int .i64 4), (.str ⟨#[]⟩), (.tsl 14 [])],
 [(.int .i64 1), (.int .i64 43), (.tsl 3 [[(.int .i64 3), (.int .i64 0), (.int .i64 0)]]), (.bool true), (.int .i64 1), (.int .i64 0), (.bool false), (.int .i64 0), (.int .i64 0), (.str ⟨#[]⟩), (.int .i64 0), (.int .i64 0), (.str ⟨#[]⟩), (.tsl 14 [])],
 [(.int .i64 12), (.int .i64 46), .nils, (.bool false), (.int .i64 0), (.int .i64 0), (.bool false), (.int .i64 0), (.int .i64 0), (.str ⟨#[]⟩), (.int .i64 0), (.int .i64 0), (.str ⟨#[]⟩), (.tsl 14 [])],
 [(.int .i64 1), (.int .i64 48), (.tsl 3 [[(.int .i64 4), (.int .i64 0), (.int .i64 0)]]), (.bool true), (.int .i64 2), (.int .i64 0), (.bool false), (.int .i64 0), (.int .i64 0), (.str ⟨#[]⟩), (.int .i64 0), (.int .i64 0), (.str ⟨#[]⟩), (.tsl 14 [])]])

def ha14 : AV := (.agg [(.int .i64 8), ha13, .nils])

def ha15 : AV := (.tsl 18 [[(.int .i64 11), (.int .i64 16), (.int .i64 0), (.int .i64 1), (.int .i64 0), (.int .i64 1), (.int .i64 0), (.int .i64 0), .nils, (.bool false), (.int .i64 0), (.int .i64 0), (.str ⟨#[]⟩), (.tsl 1 []), (.int .i64 0), (.int .i64 3), (.int .i64 4), (.int .i64 0)],
 [(.int .i64 1), (.int .i64 25), (.int .i64 0), (.int .i64 1), (.int .i64 1), (.int .i64 4), (.int .i64 2), (.int .i64 0), (.tsl 3 [[(.int .i64 0), (.int .i64 0), (.int .i64 3)]]), (.bool false), (.int .i64 0), (.int .i64 0), (.str ⟨#[]⟩), (.tsl 1 []), (.int .i64 0), (.int .i64 0), (.int .i64 0), (.int .i64 0)],
 [(.int .i64 1), (.int .i64 28), (.int .i64 1), (.int .i64 4), (.int .i64 1), (.int .i64 4), (.int .i64 2), (.int .i64 0), (.tsl 3 [[(.int .i64 1), (.int .i64 0), (.int .i64 3)]]), (.bool false), (.int .i64 0), (.int .i64 0), (.str ⟨#[]⟩), (.tsl 1 []), (.int .i64 0), (.int .i64 0), (.int .i64 0), (.int .i64 0)],
 [(.int .i64 1), (.int .i64 30), (.int .i64 1), (.int .i64 2), (.int .i64 1), (.int .i64 4), (.int .i64 2), (.int .i64 0), (.tsl 3 [[(.int .i64 2), (.int .i64 0), (.int .i64 3)]]), (.bool false), (.int .i64 0), (.int .i64 0), (.str ⟨#[]⟩), (.tsl 1 []), (.int .i64 0), (.int .i64 0), (.int .i64 0), (.int .i64 0)],
 [(.int .i64 12), (.int .i64 32), (.int .i64 3), (.int .i64 4), (.int .i64 0), (.int .i64 1), (.int .i64 0), (.int .i64 0), .nils, (.bool false), (.int .i64 0), (.int .i64 0), (.str ⟨#[]⟩), (.tsl 1 []), (.int .i64 0), (.int .i64 0), (.int .i64 0), (.int .i64 0)],
 [(.int .i64 11), (.int .i64 34), (.int .i64 3), (.int .i64 4), (.int .i64 0), (.int .i64 1), (.int .i64 0), (.int .i64 0), .nils, (.bool false), (.int .i64 0), (.int .i64 0), (.str ⟨#[]⟩), (.tsl 1 []), (.int .i64 0), (.int .i64 2), (.int .i64 4), (.int .i64 0)],
 [(.int .i64 1), (.int .i64 43), (.int .i64 3), (.int .i64 4), (.int .i64 1), (.int .i64 2), (.int .i64 1), (.int .i64 0), (.tsl 3 [[(.int .i64 3), (.int .i64 0), (.int .i64 3)]]), (.bool false), (.int .i64 0), (.int .i64 0), (.str ⟨#[]⟩), (.tsl 1 []), (.int .i64 0), (.int .i64 0), (.int .i64 0), (.int .i64 0)],
 [(.int .i64 12), (.int .i64 46), (.int .i64 5), (.int .i64 4), (.int .i64 0), (.int .i64 1), (.int .i64 0), (.int .i64 0), .nils, (.bool false), (.int .i64 0), (.int .i64 0), (.str ⟨#[]⟩), (.tsl 1 []), (.int .i64 0), (.int .i64 0), (.int .i64 0), (.int .i64 0)],
 [(.int .i64 1), (.int .i64 48), (.int .i64 5), (.int .i64 4), (.int .i64 1), (.int .i64 4), (.int .i64 2), (.int .i64 0), (.tsl 3 [[(.int .i64 4), (.int .i64 0), (.int .i64 3)]]), (.bool false), (.int .i64 0), (.int .i64 0), (.str ⟨#[]⟩), (.tsl 1 []), (.int .i64 0), (.int .i64 0), (.int .i64 0), (.int .i64 0)]])

def ha16 : AV := (.agg [(.int .i64 0), (.int .i64 0), ha15, .nils, (.int .i64 3), (.int .i64 2), .nils])

def ha17 : AV := (.tup [ha16, (.agg [(.int .i64 0), (.int .i64 0)])])

def ha18 : AV := (.tsl 4 [[(.int .i64 0), (.int .i64 1), (.int .i64 3), (.int .i64 4)],
 [(.int .i64 3), (.int .i64 4), (.int .i64 2), (.int .i64 4)],
 [(.int .i64 5), (.int .i64 4), (.int .i64 2), (.int .i64 4)]])

def ha19 : AV := (.tup [ha18, (.bool true)])

def ha20 : AV := (.agg [(.int .i64 1), (.int .i64 30), (.int .i64 1), (.int .i64 2), (.int .i64 1), (.int .i64 4), (.int .i64 2), (.int .i64 0), (.tsl 3 [[(.int .i64 2), (.int .i64 0), (.int .i64 3)]]), (.bool false), (.int .i64 0), (.int .i64 0), (.str ⟨#[]⟩), (.tsl 1 []), (.int .i64 0), (.int .i64 0), (.int .i64 0), (.int .i64 0)])

def ha21 : AV := (.tsl 7 [[(.int .i64 0), (.int .i64 0), ha15, .nils, (.int .i64 3), (.int .i64 2), .nils]])

def ha22 : AV := (.agg [(.int .i64 0), (.int .i64 0), (.int .i64 0), (.int .i64 0), (.int .i64 0), (.int .i64 0), (.int .i64 0), (.int .i64 0), .nils, (.bool false), (.int .i64 0), (.int .i64 0), (.str ⟨#[]⟩), .nils, (.int .i64 0), (.int .i64 0), (.int .i64 0), (.int .i64 0)])

def ha23 : AV := (.tup [ha22, (.bool false)])

def ha24 : AV := (.str ⟨#[115, 116, 97, 102, 102, 32, 123, 32, 118, 111, 105, 99, 101, 32, 123, 32, 99, 50, 46, 32, 100, 50, 32, 125, 32, 125]⟩)

def ha25 : AV := (.tsl 3 [[(.int .i64 1), (.str ⟨#[115, 116, 97, 102, 102]⟩), (.int .i64 0)],
 [(.int .i64 4), (.str ⟨#[123]⟩), (.int .i64 6)],
 [(.int .i64 1), (.str ⟨#[118, 111, 105, 99, 101]⟩), (.int .i64 8)],
 [(.int .i64 4), (.str ⟨#[123]⟩), (.int .i64 14)],
 [(.int .i64 1), (.str ⟨#[99]⟩), (.int .i64 16)],
 [(.int .i64 2), (.str ⟨#[50]⟩), (.int .i64 17)],
 [(.int .i64 4), (.str ⟨#[46]⟩), (.int .i64 18)],
 [(.int .i64 1), (.str ⟨#[100]⟩), (.int .i64 20)],
 [(.int .i64 2), (.str ⟨#[50]⟩), (.int .i64 21)],
 [(.int .i64 4), (.str ⟨#[125]⟩), (.int .i64 23)],
 [(.int .i64 4), (.str ⟨#[125]⟩), (.int .i64 25)],
 [(.int .i64 8), (.str ⟨#[]⟩), (.int .i64 26)]])

def ha26 : AV := (.tup [ha25, (.agg [(.int .i64 0), (.int .i64 0)])])

def ha27 : AV := (.tsl 14 [[(.int .i64 1), (.int .i64 16), (.tsl 3 [[(.int .i64 0), (.int .i64 0), (.int .i64 0)]]), (.bool true), (.int .i64 1), (.int .i64 1), (.bool false), (.int .i64 0), (.int .i64 0), (.str ⟨#[]⟩), (.int .i64 0), (.int .i64 0), (.str ⟨#[]⟩), .nils],
 [(.int .i64 1), (.int .i64 20), (.tsl 3 [[(.int .i64 1), (.int .i64 0), (.int .i64 0)]]), (.bool true), (.int .i64 1), (.int .i64 0), (.bool false), (.int .i64 0), (.int .i64 0), (.str ⟨#[]⟩), (.int .i64 0), (.int .i64 0), (.str ⟨#[]⟩), .nils]])

def ha28 : AV := (.tsl 3 [[(.int .i64 8), ha27, .nils]])

def ha29 : AV := (.tsl 3 [[(.int .i64 0), (.str ⟨#[]⟩), ha28]])

def ha30 : AV := (.agg [ha29])

def ha31 : AV := (.tup [ha30, (.agg [(.int .i64 0), (.int .i64 0)])])

def ha32 : AV := (.tsl 14 [[(.int .i64 1), (.int .i64 16), (.tsl 3 [[(.int .i64 0), (.int .i64 0), (.int .i64 0)]]), (.bool true), (.int .i64 1), (.int .i64 1), (.bool false), (.int .i64 0), (.int .i64 0), (.str ⟨#[]⟩), (.int .i64 0), (.int .i64 0), (.str ⟨#[]⟩), (.tsl 14 [])],
 [(.int .i64 1), (.int .i64 20), (.tsl 3 [[(.int .i64 1), (.int .i64 0), (.int .i64 0)]]), (.bool true), (.int .i64 1), (.int .i64 0), (.bool false), (.int .i64 0), (.int .i64 0), (.str ⟨#[]⟩), (.int .i64 0), (.int .i64 0), (.str ⟨#[]⟩), (.tsl 14 [])]])

def ha33 : AV := (.agg [(.int .i64 8), ha32, .nils])

def ha34 : AV := (.tsl 18 [[(.int .i64 1), (.int .i64 16), (.int .i64 0), (.int .i64 1), (.int .i64 3), (.int .i64 4), (.int .i64 1), (.int .i64 1), (.tsl 3 [[(.int .i64 0), (.int .i64 0), (.int .i64 3)]]), (.bool false), (.int .i64 0), (.int .i64 0), (.str ⟨#[]⟩), (.tsl 1 []), (.int .i64 0), (.int .i64 0), (.int .i64 0), (.int .i64 0)],
 [(.int .i64 1), (.int .i64 20), (.int .i64 3), (.int .i64 4), (.int .i64 1), (.int .i64 2), (.int .i64 1), (.int .i64 0), (.tsl 3 [[(.int .i64 1), (.int .i64 0), (.int .i64 3)]]), (.bool false), (.int .i64 0), (.int .i64 0), (.str ⟨#[]⟩), (.tsl 1 []), (.int .i64 0), (.int .i64 0), (.int .i64 0), (.int .i64 0)]])

def ha35 : AV := (.agg [(.int .i64 0), (.int .i64 0), ha34, .nils, (.int .i64 5), (.int .i64 4), .nils])

def ha36 : AV := (.tup [ha35, (.agg [(.int .i64 0), (.int .i64 0)])])

def ha37 : AV := (.tsl 7 [[(.int .i64 0), (.int .i64 0), ha34, .nils, (.int .i64 5), (.int .i64 4), .nils]])

def ha38 : AV := (.tup [ha37, (.agg [(.int .i64 0), (.int .i64 0)])])

def ha39 : AV := (.agg [(.int .i64 1), (.int .i64 20), (.int .i64 3), (.int .i64 4), (.int .i64 1), (.int .i64 2), (.int .i64 1), (.int .i64 0), (.tsl 3 [[(.int .i64 1), (.int .i64 0), (.int .i64 3)]]), (.bool false), (.int .i64 0), (.int .i64 0), (.str ⟨#[]⟩), (.tsl 1 []), (.int .i64 0), (.int .i64 0), (.int .i64 0), (.int .i64 0)])

def ha40 : AV := (.tup [ha39, (.bool true)])


def haZ (f : Nat) : Bool := bitOf 5260135901548373507240989882880128665550339802823173859498280903068732154297080822113666536277588451226982968856178217713019432250183803863127814770651880849955223671128444598108586374322465361100104562116657151 f
def haG (f : Nat) : Bool := bitOf 5260135901548373507240989882880128665550339802823173859498280903068732154297080822113666536277588451226982968856178217713019432250180098516271357091606641270905264528219455105190032158744958028010172593504649215 f

def haT0 : List (Nat × (List AV × AV)) := []
theorem haT0_ok : TOK Go.Proofs.Tryz.prog haT0 := TOK.nil

def haX0 : XP := ⟨haZ, haT0, haG, kp.find⟩
theorem har0 : runOKX tr.find haX0 2000 43 [ha0] ha2 = true := by kernel_rfl
theorem hac0 : AV.pure ha2 = true ∧ ACalls Go.Proofs.Tryz.prog 43 [ha0] [] 0 (fun r _ _ => r = ha2) := runOKX_sound (fun _ _ h => Tr.find_ok tr_ok h) haT0_ok har0
def haT1 : List (Nat × (List AV × AV)) := (43, ([ha0], ha2)) :: haT0
theorem haT1_ok : TOK Go.Proofs.Tryz.prog haT1 := TOK.cons hac0 haT0_ok

def haX1 : XP := ⟨haZ, haT1, haG, kp.find⟩
theorem har1 : runOKX tr.find haX1 2000 17 [ha0] ha7 = true := by kernel_rfl
theorem hac1 : AV.pure ha7 = true ∧ ACalls Go.Proofs.Tryz.prog 17 [ha0] [] 0 (fun r _ _ => r = ha7) := runOKX_sound (fun _ _ h => Tr.find_ok tr_ok h) haT1_ok har1
def haT2 : List (Nat × (List AV × AV)) := (17, ([ha0], ha7)) :: haT1
theorem haT2_ok : TOK Go.Proofs.Tryz.prog haT2 := TOK.cons hac1 haT1_ok

def haX2 : XP := ⟨haZ, haT2, haG, kp.find⟩
theorem har2 : runOKX tr.find haX2 2000 143 [ha3, (.int .i64 0), (.int .i64 4096), (.int .i64 62)] (.int .i64 4087) = true := by kernel_rfl
theorem hac2 : AV.pure (.int .i64 4087) = true ∧ ACalls Go.Proofs.Tryz.prog 143 [ha3, (.int .i64 0), (.int .i64 4096), (.int .i64 62)] [] 0 (fun r _ _ => r = (.int .i64 4087)) := runOKX_sound (fun _ _ h => Tr.find_ok tr_ok h) haT2_ok har2
def haT3 : List (Nat × (List AV × AV)) := (143, ([ha3, (.int .i64 0), (.int .i64 4096), (.int .i64 62)], (.int .i64 4087))) :: haT2
theorem haT3_ok : TOK Go.Proofs.Tryz.prog haT3 := TOK.cons hac2 haT2_ok

def haX3 : XP := ⟨haZ, haT3, haG, kp.find⟩
theorem har3 : runOKX tr.find haX3 2000 50 [ha6] ha12 = true := by kernel_rfl
theorem hac3 : AV.pure ha12 = true ∧ ACalls Go.Proofs.Tryz.prog 50 [ha6] [] 0 (fun r _ _ => r = ha12) := runOKX_sound (fun _ _ h => Tr.find_ok tr_ok h) haT3_ok har3
def haT4 : List (Nat × (List AV × AV)) := (50, ([ha6], ha12)) :: haT3
theorem haT4_ok : TOK Go.Proofs.Tryz.prog haT4 := TOK.cons hac3 haT3_ok

def haX4 : XP := ⟨haZ, haT4, haG, kp.find⟩
theorem har4 : runOKX tr.find haX4 2000 143 [ha8, (.int .i64 0), (.int .i64 4096), (.int .i64 62)] (.int .i64 4087) = true := by kernel_rfl
theorem hac4 : AV.pure (.int .i64 4087) = true ∧ ACalls Go.Proofs.Tryz.prog 143 [ha8, (.int .i64 0), (.int .i64 4096), (.int .i64 62)] [] 0 (fun r _ _ => r = (.int .i64 4087)) := runOKX_sound (fun _ _ h => Tr.find_ok tr_ok h) haT4_ok har4
def haT5 : List (Nat × (List AV × AV)) := (143, ([ha8, (.int .i64 0), (.int .i64 4096), (.int .i64 62)], (.int .i64 4087))) :: haT4
theorem haT5_ok : TOK Go.Proofs.Tryz.prog haT5 := TOK.cons hac4 haT4_ok

def haX5 : XP := ⟨haZ, haT5, haG, kp.find⟩
theorem har5 : runOKX tr.find haX5 2000 143 [ha13, (.int .i64 0), (.int .i64 4096), (.int .i64 62)] (.int .i64 4087) = true := by kernel_rfl
theorem hac5 : AV.pure (.int .i64 4087) = true ∧ ACalls Go.Proofs.Tryz.prog 143 [ha13, (.int .i64 0), (.int .i64 4096), (.int .i64 62)] [] 0 (fun r _ _ => r = (.int .i64 4087)) := runOKX_sound (fun _ _ h => Tr.find_ok tr_ok h) haT5_ok har5
def haT6 : List (Nat × (List AV × AV)) := (143, ([ha13, (.int .i64 0), (.int .i64 4096), (.int .i64 62)], (.int .i64 4087))) :: haT5
theorem haT6_ok : TOK Go.Proofs.Tryz.prog haT6 := TOK.cons hac5 haT5_ok

def haX6 : XP := ⟨haZ, haT6, haG, kp.find⟩
theorem har6 : runOKX tr.find haX6 2000 52 [ha14, (.int .i64 0), (.int .i64 0)] ha17 = true := by kernel_rfl
theorem hac6 : AV.pure ha17 = true ∧ ACalls Go.Proofs.Tryz.prog 52 [ha14, (.int .i64 0), (.int .i64 0)] [] 0 (fun r _ _ => r = ha17) := runOKX_sound (fun _ _ h => Tr.find_ok tr_ok h) haT6_ok har6
def haT7 : List (Nat × (List AV × AV)) := (52, ([ha14, (.int .i64 0), (.int .i64 0)], ha17)) :: haT6
theorem haT7_ok : TOK Go.Proofs.Tryz.prog haT7 := TOK.cons hac6 haT6_ok

def haX7 : XP := ⟨haZ, haT7, haG, kp.find⟩
theorem har7 : runOKX tr.find haX7 2000 106 [ha15] (.int .i64 (-1)) = true := by kernel_rfl
theorem hac7 : AV.pure (.int .i64 (-1)) = true ∧ ACalls Go.Proofs.Tryz.prog 106 [ha15] [] 0 (fun r _ _ => r = (.int .i64 (-1))) := runOKX_sound (fun _ _ h => Tr.find_ok tr_ok h) haT7_ok har7
def haT8 : List (Nat × (List AV × AV)) := (106, ([ha15], (.int .i64 (-1)))) :: haT7
theorem haT8_ok : TOK Go.Proofs.Tryz.prog haT8 := TOK.cons hac7 haT7_ok

def haX8 : XP := ⟨haZ, haT8, haG, kp.find⟩
theorem har8 : runOKX tr.find haX8 2000 58 [ha16] (.bool true) = true := by kernel_rfl
theorem hac8 : AV.pure (.bool true) = true ∧ ACalls Go.Proofs.Tryz.prog 58 [ha16] [] 0 (fun r _ _ => r = (.bool true)) := runOKX_sound (fun _ _ h => Tr.find_ok tr_ok h) haT8_ok har8
def haT9 : List (Nat × (List AV × AV)) := (58, ([ha16], (.bool true))) :: haT8
theorem haT9_ok : TOK Go.Proofs.Tryz.prog haT9 := TOK.cons hac8 haT8_ok

def haX9 : XP := ⟨haZ, haT9, haG, kp.find⟩
theorem har9 : runOKX tr.find haX9 2000 56 [ha16, (.agg [(.int .i64 3), (.int .i64 2)])] ha19 = true := by kernel_rfl
theorem hac9 : AV.pure ha19 = true ∧ ACalls Go.Proofs.Tryz.prog 56 [ha16, (.agg [(.int .i64 3), (.int .i64 2)])] [] 0 (fun r _ _ => r = ha19) := runOKX_sound (fun _ _ h => Tr.find_ok tr_ok h) haT9_ok har9
def haT10 : List (Nat × (List AV × AV)) := (56, ([ha16, (.agg [(.int .i64 3), (.int .i64 2)])], ha19)) :: haT9
theorem haT10_ok : TOK Go.Proofs.Tryz.prog haT10 := TOK.cons hac9 haT9_ok

def haX10 : XP := ⟨haZ, haT10, haG, kp.find⟩
theorem har10 : runOKX tr.find haX10 2000 101 [ha18, ha20] (.bool false) = true := by kernel_rfl
theorem hac10 : AV.pure (.bool false) = true ∧ ACalls Go.Proofs.Tryz.prog 101 [ha18, ha20] [] 0 (fun r _ _ => r = (.bool false)) := runOKX_sound (fun _ _ h => Tr.find_ok tr_ok h) haT10_ok har10
def haT11 : List (Nat × (List AV × AV)) := (101, ([ha18, ha20], (.bool false))) :: haT10
theorem haT11_ok : TOK Go.Proofs.Tryz.prog haT11 := TOK.cons hac10 haT10_ok

def haX11 : XP := ⟨haZ, haT11, haG, kp.find⟩
theorem har11 : runOKX tr.find haX11 2000 57 [ha21, ha18] ha23 = true := by kernel_rfl
theorem hac11 : AV.pure ha23 = true ∧ ACalls Go.Proofs.Tryz.prog 57 [ha21, ha18] [] 0 (fun r _ _ => r = ha23) := runOKX_sound (fun _ _ h => Tr.find_ok tr_ok h) haT11_ok har11
def haT12 : List (Nat × (List AV × AV)) := (57, ([ha21, ha18], ha23)) :: haT11
theorem haT12_ok : TOK Go.Proofs.Tryz.prog haT12 := TOK.cons hac11 haT11_ok

def haX12 : XP := ⟨haZ, haT12, haG, kp.find⟩
theorem har12 : runOKX tr.find haX12 2000 43 [ha24] ha26 = true := by kernel_rfl
theorem hac12 : AV.pure ha26 = true ∧ ACalls Go.Proofs.Tryz.prog 43 [ha24] [] 0 (fun r _ _ => r = ha26) := runOKX_sound (fun _ _ h => Tr.find_ok tr_ok h) haT12_ok har12
def haT13 : List (Nat × (List AV × AV)) := (43, ([ha24], ha26)) :: haT12
theorem haT13_ok : TOK Go.Proofs.Tryz.prog haT13 := TOK.cons hac12 haT12_ok

def haX13 : XP := ⟨haZ, haT13, haG, kp.find⟩
theorem har13 : runOKX tr.find haX13 2000 17 [ha24] ha31 = true := by kernel_rfl
theorem hac13 : AV.pure ha31 = true ∧ ACalls Go.Proofs.Tryz.prog 17 [ha24] [] 0 (fun r _ _ => r = ha31) := runOKX_sound (fun _ _ h => Tr.find_ok tr_ok h) haT13_ok har13
def haT14 : List (Nat × (List AV × AV)) := (17, ([ha24], ha31)) :: haT13
theorem haT14_ok : TOK Go.Proofs.Tryz.prog haT14 := TOK.cons hac13 haT13_ok

def haX14 : XP := ⟨haZ, haT14, haG, kp.find⟩
theorem har14 : runOKX tr.find haX14 2000 52 [ha33, (.int .i64 0), (.int .i64 0)] ha36 = true := by kernel_rfl
theorem hac14 : AV.pure ha36 = true ∧ ACalls Go.Proofs.Tryz.prog 52 [ha33, (.int .i64 0), (.int .i64 0)] [] 0 (fun r _ _ => r = ha36) := runOKX_sound (fun _ _ h => Tr.find_ok tr_ok h) haT14_ok har14
def haT15 : List (Nat × (List AV × AV)) := (52, ([ha33, (.int .i64 0), (.int .i64 0)], ha36)) :: haT14
theorem haT15_ok : TOK Go.Proofs.Tryz.prog haT15 := TOK.cons hac14 haT14_ok

def haX15 : XP := ⟨haZ, haT15, haG, kp.find⟩
theorem har15 : runOKX tr.find haX15 2000 18 [ha30] ha38 = true := by kernel_rfl
theorem hac15 : AV.pure ha38 = true ∧ ACalls Go.Proofs.Tryz.prog 18 [ha30] [] 0 (fun r _ _ => r = ha38) := runOKX_sound (fun _ _ h => Tr.find_ok tr_ok h) haT15_ok har15
def haT16 : List (Nat × (List AV × AV)) := (18, ([ha30], ha38)) :: haT15
theorem haT16_ok : TOK Go.Proofs.Tryz.prog haT16 := TOK.cons hac15 haT15_ok

def haX16 : XP := ⟨haZ, haT16, haG, kp.find⟩
theorem har16 : runOKX tr.find haX16 2000 58 [ha35] (.bool true) = true := by kernel_rfl
theorem hac16 : AV.pure (.bool true) = true ∧ ACalls Go.Proofs.Tryz.prog 58 [ha35] [] 0 (fun r _ _ => r = (.bool true)) := runOKX_sound (fun _ _ h => Tr.find_ok tr_ok h) haT16_ok har16
def haT17 : List (Nat × (List AV × AV)) := (58, ([ha35], (.bool true))) :: haT16
theorem haT17_ok : TOK Go.Proofs.Tryz.prog haT17 := TOK.cons hac16 haT16_ok

def haX17 : XP := ⟨haZ, haT17, haG, kp.find⟩
theorem har17 : runOKX tr.find haX17 2000 57 [ha37, (.tsl 4 [[(.int .i64 0), (.int .i64 1), (.int .i64 4), (.int .i64 4)],
 [(.int .i64 1), (.int .i64 1), (.int .i64 4), (.int .i64 4)]])] ha40 = true := by kernel_rfl
theorem hac17 : AV.pure ha40 = true ∧ ACalls Go.Proofs.Tryz.prog 57 [ha37, (.tsl 4 [[(.int .i64 0), (.int .i64 1), (.int .i64 4), (.int .i64 4)],
 [(.int .i64 1), (.int .i64 1), (.int .i64 4), (.int .i64 4)]])] [] 0 (fun r _ _ => r = ha40) := runOKX_sound (fun _ _ h => Tr.find_ok tr_ok h) haT17_ok har17
def haT18 : List (Nat × (List AV × AV)) := (57, ([ha37, (.tsl 4 [[(.int .i64 0), (.int .i64 1), (.int .i64 4), (.int .i64 4)],
 [(.int .i64 1), (.int .i64 1), (.int .i64 4), (.int .i64 4)]])], ha40)) :: haT17
theorem haT18_ok : TOK Go.Proofs.Tryz.prog haT18 := TOK.cons hac17 haT17_ok

def haX18 : XP := ⟨haZ, haT18, haG, kp.find⟩
theorem har18 : runOKX tr.find haX18 2000 21 [ha18] (.bool true) = true := by kernel_rfl
theorem hac18 : AV.pure (.bool true) = true ∧ ACalls Go.Proofs.Tryz.prog 21 [ha18] [] 0 (fun r _ _ => r = (.bool true)) := runOKX_sound (fun _ _ h => Tr.find_ok tr_ok h) haT18_ok har18
def haT19 : List (Nat × (List AV × AV)) := (21, ([ha18], (.bool true))) :: haT18
theorem haT19_ok : TOK Go.Proofs.Tryz.prog haT19 := TOK.cons hac18 haT18_ok

def haX19 : XP := ⟨haZ, haT19, haG, kp.find⟩
theorem har19 : runOKX tr.find haX19 2000 6 [] (.bool true) = true := by kernel_rfl
theorem hac19 : AV.pure (.bool true) = true ∧ ACalls Go.Proofs.Tryz.prog 6 [] [] 0 (fun r _ _ => r = (.bool true)) := runOKX_sound (fun _ _ h => Tr.find_ok tr_ok h) haT19_ok har19
def haT20 : List (Nat × (List AV × AV)) := (6, ([], (.bool true))) :: haT19
theorem haT20_ok : TOK Go.Proofs.Tryz.prog haT20 := TOK.cons hac19 haT19_ok

theorem haheads : ACalls Go.Proofs.Tryz.prog 6 [] [] 0 (fun r _ _ => r = .bool true) := hac19.2
end
end Go.AM.Ez
