/- A part of a proof about the given program: what its name says. No premise beyond the statements'. -/
import Derived.Test.YtkhioehebaghjaaTkCode
import Derived.KernelRfl
set_option linter.unusedSimpArgs false
set_option linter.unusedVariables false
namespace Go.AM.Sk
open Go.AM
noncomputable section

def hs0 : AV:=(.tup [(.tsl 3 [[(.int .i64 0),(.int .i64 1),(.int .i64 2)],
 [(.int .i64 1),(.int .i64 2),(.int .i64 5)],
 [(.int .i64 2),(.int .i64 4),(.int .i64 2)]]),(.int .i64 0)])


def hsZ (f : Nat) : Bool:=bitOf 5260135901548373507240989882880128665550339802823173859498280903068732154297080822113666536277588451226982968856178217713019432250183803863127814770651880849955223671128444598191663757884322717270728102759104511 f
def hsG (f : Nat) : Bool:=bitOf 5260135901548373507240989882880128665550339802823173859498280903068732154297080822113666536277588451226982968856178217713019432250183803863127814770651880849955223671128444598191663757884322717270728101936955391 f

def hsT0 : List (Nat × (List AV × AV)):=[]
theorem hsT0_ok : TOK Go.Proofs.Try.prog hsT0:=TOK.nil

def hsX0 : XP:=⟨hsZ,hsT0,hsG,kp.find⟩
theorem hsr0 : runOKX tr.find hsX0 2000 14 [(.tsl 3 [[(.int .i64 0),(.int .i64 1),(.int .i64 2)],
 [(.int .i64 1),(.int .i64 2),(.int .i64 5)],
 [(.int .i64 2),(.int .i64 4),(.int .i64 2)]]),(.tsl 3 [[(.int .i64 0),(.int .i64 1),(.int .i64 2)],
 [(.int .i64 1),(.int .i64 2),(.int .i64 5)],
 [(.int .i64 2),(.int .i64 4),(.int .i64 2)]])] hs0 = true:=by kernel_rfl
theorem hsc0 : AV.pure hs0 = true ∧ ACalls Go.Proofs.Try.prog 14 [(.tsl 3 [[(.int .i64 0),(.int .i64 1),(.int .i64 2)],
 [(.int .i64 1),(.int .i64 2),(.int .i64 5)],
 [(.int .i64 2),(.int .i64 4),(.int .i64 2)]]),(.tsl 3 [[(.int .i64 0),(.int .i64 1),(.int .i64 2)],
 [(.int .i64 1),(.int .i64 2),(.int .i64 5)],
 [(.int .i64 2),(.int .i64 4),(.int .i64 2)]])] [] 0 (fun r _ _ => r = hs0):=runOKX_sound (fun _ _ h => Tr.find_ok tr_ok h) hsT0_ok hsr0
def hsT1 : List (Nat × (List AV × AV)):=(14,([(.tsl 3 [[(.int .i64 0),(.int .i64 1),(.int .i64 2)],
 [(.int .i64 1),(.int .i64 2),(.int .i64 5)],
 [(.int .i64 2),(.int .i64 4),(.int .i64 2)]]),(.tsl 3 [[(.int .i64 0),(.int .i64 1),(.int .i64 2)],
 [(.int .i64 1),(.int .i64 2),(.int .i64 5)],
 [(.int .i64 2),(.int .i64 4),(.int .i64 2)]])],hs0)) :: hsT0
theorem hsT1_ok : TOK Go.Proofs.Try.prog hsT1:=TOK.cons hsc0 hsT0_ok

def hsX1 : XP:=⟨hsZ,hsT1,hsG,kp.find⟩
theorem hsr1 : runOKX tr.find hsX1 2000 8 [] (.bool true) = true:=by kernel_rfl
theorem hsc1 : AV.pure (.bool true) = true ∧ ACalls Go.Proofs.Try.prog 8 [] [] 0 (fun r _ _ => r = (.bool true)):=runOKX_sound (fun _ _ h => Tr.find_ok tr_ok h) hsT1_ok hsr1
theorem hsheads : ACalls Go.Proofs.Try.prog 8 [] [] 0 (fun r _ _ => r = .bool true):=hsc1.2
end
end Go.AM.Sk
