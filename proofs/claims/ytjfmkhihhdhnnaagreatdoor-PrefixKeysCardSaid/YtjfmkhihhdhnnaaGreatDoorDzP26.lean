/- A part of a proof about the given program: what its name says. No premise beyond the statements'. -/
import Derived.Test.YtjfmkhihhdhnnaaGreatDoorDzPT
import Derived.KernelRfl
set_option linter.unusedSimpArgs false
set_option linter.unusedVariables false
/- The signs of keys at one clef: known runs. -/
namespace Go.AM.Dz
open Go.AM
noncomputable section

theorem cl26 : ACalls Go.Proofs.Tryz.prog 10 [.int .i64 26] [] 0 (fun r _ _ => r = (.tup [(.int .i64 (-1024)), (.bool true)])) := (runOKX_sound hLd hdT0_ok (by kernel_rfl : runOKX tr.find hdX0 200 10 [.int .i64 26] (.tup [(.int .i64 (-1024)), (.bool true)]) = true)).2

theorem sg26n7 : AV.pure (.tup [(.tsl 1 [[(.int .i64 0)], [(.int .i64 3)], [(.int .i64 (-1))], [(.int .i64 2)], [(.int .i64 (-2))], [(.int .i64 1)], [(.int .i64 (-3))]]), (.int .i64 0)]) = true ∧ ACalls Go.Proofs.Tryz.prog 28 [.int .i64 (-7), .int .i64 26] [] 0 (fun r _ _ => r = (.tup [(.tsl 1 [[(.int .i64 0)], [(.int .i64 3)], [(.int .i64 (-1))], [(.int .i64 2)], [(.int .i64 (-2))], [(.int .i64 1)], [(.int .i64 (-3))]]), (.int .i64 0)])) := runOKX_sound hLd hdT0_ok (by kernel_rfl : runOKX tr.find hdX0 500 28 [.int .i64 (-7), .int .i64 26] (.tup [(.tsl 1 [[(.int .i64 0)], [(.int .i64 3)], [(.int .i64 (-1))], [(.int .i64 2)], [(.int .i64 (-2))], [(.int .i64 1)], [(.int .i64 (-3))]]), (.int .i64 0)]) = true)
def kT26n7 : List (Nat × (List AV × AV)) := (28, ([.int .i64 (-7), .int .i64 26], (.tup [(.tsl 1 [[(.int .i64 0)], [(.int .i64 3)], [(.int .i64 (-1))], [(.int .i64 2)], [(.int .i64 (-2))], [(.int .i64 1)], [(.int .i64 (-3))]]), (.int .i64 0)]))) :: eT3
theorem kT26n7_ok : TOK Go.Proofs.Tryz.prog kT26n7 := TOK.cons sg26n7 eT3_ok
def kX26n7 : XP := ⟨hdZ, kT26n7, hdG, kp.find⟩
def kl26n7 : List Sp := [⟨22, 5, 0⟩, ⟨22, 1025, 1536⟩, ⟨22, 2045, (-512)⟩, ⟨22, 3065, 1024⟩, ⟨22, 4085, (-1024)⟩, ⟨22, 5105, 512⟩, ⟨22, 6125, (-1536)⟩]
theorem ky26n7 (b : Int) : ACalls Go.Proofs.Tryz.prog 12 [.int .i64 (-7), .int .i64 b, .int .i64 26, .int .i64 5] [] 0 (fun r _ _ => r = .tup [.tsl 7 (kl26n7.map Sp.e), .int .i64 7045]) := (runOKX_sound hLd kT26n7_ok (by kernel_rfl : runOKX tr.find kX26n7 500 12 [.int .i64 (-7), .int .i64 b, .int .i64 26, .int .i64 5] (.tup [.tsl 7 (kl26n7.map Sp.e), .int .i64 7045]) = true)).2
theorem ap26n7 : ACalls Go.Proofs.Tryz.prog 13 [.tsl 7 (kl26n7.map Sp.e), .int .i64 5, .int .i64 7045] [] 0 (fun r _ _ => r = .bool true) := (runOKX_sound hLd rT3_ok (by kernel_rfl : runOKX tr.find rX 3000 13 [.tsl 7 (kl26n7.map Sp.e), .int .i64 5, .int .i64 7045] (.bool true) = true)).2
theorem lw26n7 (b : Int) (h3 : -7 ≤ b) (h4 : b ≤ 7) : ACalls Go.Proofs.Tryz.prog 4 [.int .i64 (-7), .int .i64 b, .int .i64 26] [] 0 (fun r _ _ => r = .bool true) := keys_neg (-7) b 26 (-1024) kl26n7 7045 cl26 (ky26n7 b) ap26n7 (by decide) (by decide) h3 h4 rfl rfl (hg_of rfl) (by decide) rfl

def kl26n7z : List Sp := [⟨23, 5, 0⟩, ⟨23, 805, 1536⟩, ⟨23, 1605, (-512)⟩, ⟨23, 2405, 1024⟩, ⟨23, 3205, (-1024)⟩, ⟨23, 4005, 512⟩, ⟨23, 4805, (-1536)⟩]
theorem ky26n7z : ACalls Go.Proofs.Tryz.prog 12 [.int .i64 0, .int .i64 (-7), .int .i64 26, .int .i64 5] [] 0 (fun r _ _ => r = .tup [.tsl 7 (kl26n7z.map Sp.e), .int .i64 5505]) := (runOKX_sound hLd kT26n7_ok (by kernel_rfl : runOKX tr.find kX26n7 500 12 [.int .i64 0, .int .i64 (-7), .int .i64 26, .int .i64 5] (.tup [.tsl 7 (kl26n7z.map Sp.e), .int .i64 5505]) = true)).2
theorem ap26n7z : ACalls Go.Proofs.Tryz.prog 13 [.tsl 7 (kl26n7z.map Sp.e), .int .i64 5, .int .i64 5505] [] 0 (fun r _ _ => r = .bool true) := (runOKX_sound hLd rT3_ok (by kernel_rfl : runOKX tr.find rX 3000 13 [.tsl 7 (kl26n7z.map Sp.e), .int .i64 5, .int .i64 5505] (.bool true) = true)).2
theorem lw26n7z : ACalls Go.Proofs.Tryz.prog 4 [.int .i64 0, .int .i64 (-7), .int .i64 26] [] 0 (fun r _ _ => r = .bool true) := keys_zero 0 (-7) 26 (-1024) kl26n7z 5505 cl26 ky26n7z ap26n7z (by decide) (by decide) (by decide) (by decide) rfl rfl (hg_of rfl) rfl rfl rfl

theorem sg26n6 : AV.pure (.tup [(.tsl 1 [[(.int .i64 0)], [(.int .i64 3)], [(.int .i64 (-1))], [(.int .i64 2)], [(.int .i64 (-2))], [(.int .i64 1)]]), (.int .i64 0)]) = true ∧ ACalls Go.Proofs.Tryz.prog 28 [.int .i64 (-6), .int .i64 26] [] 0 (fun r _ _ => r = (.tup [(.tsl 1 [[(.int .i64 0)], [(.int .i64 3)], [(.int .i64 (-1))], [(.int .i64 2)], [(.int .i64 (-2))], [(.int .i64 1)]]), (.int .i64 0)])) := runOKX_sound hLd hdT0_ok (by kernel_rfl : runOKX tr.find hdX0 500 28 [.int .i64 (-6), .int .i64 26] (.tup [(.tsl 1 [[(.int .i64 0)], [(.int .i64 3)], [(.int .i64 (-1))], [(.int .i64 2)], [(.int .i64 (-2))], [(.int .i64 1)]]), (.int .i64 0)]) = true)
def kT26n6 : List (Nat × (List AV × AV)) := (28, ([.int .i64 (-6), .int .i64 26], (.tup [(.tsl 1 [[(.int .i64 0)], [(.int .i64 3)], [(.int .i64 (-1))], [(.int .i64 2)], [(.int .i64 (-2))], [(.int .i64 1)]]), (.int .i64 0)]))) :: eT3
theorem kT26n6_ok : TOK Go.Proofs.Tryz.prog kT26n6 := TOK.cons sg26n6 eT3_ok
def kX26n6 : XP := ⟨hdZ, kT26n6, hdG, kp.find⟩
def kl26n6 : List Sp := [⟨22, 5, 0⟩, ⟨22, 1025, 1536⟩, ⟨22, 2045, (-512)⟩, ⟨22, 3065, 1024⟩, ⟨22, 4085, (-1024)⟩, ⟨22, 5105, 512⟩]
theorem ky26n6 (b : Int) : ACalls Go.Proofs.Tryz.prog 12 [.int .i64 (-6), .int .i64 b, .int .i64 26, .int .i64 5] [] 0 (fun r _ _ => r = .tup [.tsl 7 (kl26n6.map Sp.e), .int .i64 6025]) := (runOKX_sound hLd kT26n6_ok (by kernel_rfl : runOKX tr.find kX26n6 500 12 [.int .i64 (-6), .int .i64 b, .int .i64 26, .int .i64 5] (.tup [.tsl 7 (kl26n6.map Sp.e), .int .i64 6025]) = true)).2
theorem ap26n6 : ACalls Go.Proofs.Tryz.prog 13 [.tsl 7 (kl26n6.map Sp.e), .int .i64 5, .int .i64 6025] [] 0 (fun r _ _ => r = .bool true) := (runOKX_sound hLd rT3_ok (by kernel_rfl : runOKX tr.find rX 3000 13 [.tsl 7 (kl26n6.map Sp.e), .int .i64 5, .int .i64 6025] (.bool true) = true)).2
theorem lw26n6 (b : Int) (h3 : -7 ≤ b) (h4 : b ≤ 7) : ACalls Go.Proofs.Tryz.prog 4 [.int .i64 (-6), .int .i64 b, .int .i64 26] [] 0 (fun r _ _ => r = .bool true) := keys_neg (-6) b 26 (-1024) kl26n6 6025 cl26 (ky26n6 b) ap26n6 (by decide) (by decide) h3 h4 rfl rfl (hg_of rfl) (by decide) rfl

def kl26n6z : List Sp := [⟨23, 5, 0⟩, ⟨23, 805, 1536⟩, ⟨23, 1605, (-512)⟩, ⟨23, 2405, 1024⟩, ⟨23, 3205, (-1024)⟩, ⟨23, 4005, 512⟩]
theorem ky26n6z : ACalls Go.Proofs.Tryz.prog 12 [.int .i64 0, .int .i64 (-6), .int .i64 26, .int .i64 5] [] 0 (fun r _ _ => r = .tup [.tsl 7 (kl26n6z.map Sp.e), .int .i64 4705]) := (runOKX_sound hLd kT26n6_ok (by kernel_rfl : runOKX tr.find kX26n6 500 12 [.int .i64 0, .int .i64 (-6), .int .i64 26, .int .i64 5] (.tup [.tsl 7 (kl26n6z.map Sp.e), .int .i64 4705]) = true)).2
theorem ap26n6z : ACalls Go.Proofs.Tryz.prog 13 [.tsl 7 (kl26n6z.map Sp.e), .int .i64 5, .int .i64 4705] [] 0 (fun r _ _ => r = .bool true) := (runOKX_sound hLd rT3_ok (by kernel_rfl : runOKX tr.find rX 3000 13 [.tsl 7 (kl26n6z.map Sp.e), .int .i64 5, .int .i64 4705] (.bool true) = true)).2
theorem lw26n6z : ACalls Go.Proofs.Tryz.prog 4 [.int .i64 0, .int .i64 (-6), .int .i64 26] [] 0 (fun r _ _ => r = .bool true) := keys_zero 0 (-6) 26 (-1024) kl26n6z 4705 cl26 ky26n6z ap26n6z (by decide) (by decide) (by decide) (by decide) rfl rfl (hg_of rfl) rfl rfl rfl

theorem sg26n5 : AV.pure (.tup [(.tsl 1 [[(.int .i64 0)], [(.int .i64 3)], [(.int .i64 (-1))], [(.int .i64 2)], [(.int .i64 (-2))]]), (.int .i64 0)]) = true ∧ ACalls Go.Proofs.Tryz.prog 28 [.int .i64 (-5), .int .i64 26] [] 0 (fun r _ _ => r = (.tup [(.tsl 1 [[(.int .i64 0)], [(.int .i64 3)], [(.int .i64 (-1))], [(.int .i64 2)], [(.int .i64 (-2))]]), (.int .i64 0)])) := runOKX_sound hLd hdT0_ok (by kernel_rfl : runOKX tr.find hdX0 500 28 [.int .i64 (-5), .int .i64 26] (.tup [(.tsl 1 [[(.int .i64 0)], [(.int .i64 3)], [(.int .i64 (-1))], [(.int .i64 2)], [(.int .i64 (-2))]]), (.int .i64 0)]) = true)
def kT26n5 : List (Nat × (List AV × AV)) := (28, ([.int .i64 (-5), .int .i64 26], (.tup [(.tsl 1 [[(.int .i64 0)], [(.int .i64 3)], [(.int .i64 (-1))], [(.int .i64 2)], [(.int .i64 (-2))]]), (.int .i64 0)]))) :: eT3
theorem kT26n5_ok : TOK Go.Proofs.Tryz.prog kT26n5 := TOK.cons sg26n5 eT3_ok
def kX26n5 : XP := ⟨hdZ, kT26n5, hdG, kp.find⟩
def kl26n5 : List Sp := [⟨22, 5, 0⟩, ⟨22, 1025, 1536⟩, ⟨22, 2045, (-512)⟩, ⟨22, 3065, 1024⟩, ⟨22, 4085, (-1024)⟩]
theorem ky26n5 (b : Int) : ACalls Go.Proofs.Tryz.prog 12 [.int .i64 (-5), .int .i64 b, .int .i64 26, .int .i64 5] [] 0 (fun r _ _ => r = .tup [.tsl 7 (kl26n5.map Sp.e), .int .i64 5005]) := (runOKX_sound hLd kT26n5_ok (by kernel_rfl : runOKX tr.find kX26n5 500 12 [.int .i64 (-5), .int .i64 b, .int .i64 26, .int .i64 5] (.tup [.tsl 7 (kl26n5.map Sp.e), .int .i64 5005]) = true)).2
theorem ap26n5 : ACalls Go.Proofs.Tryz.prog 13 [.tsl 7 (kl26n5.map Sp.e), .int .i64 5, .int .i64 5005] [] 0 (fun r _ _ => r = .bool true) := (runOKX_sound hLd rT3_ok (by kernel_rfl : runOKX tr.find rX 3000 13 [.tsl 7 (kl26n5.map Sp.e), .int .i64 5, .int .i64 5005] (.bool true) = true)).2
theorem lw26n5 (b : Int) (h3 : -7 ≤ b) (h4 : b ≤ 7) : ACalls Go.Proofs.Tryz.prog 4 [.int .i64 (-5), .int .i64 b, .int .i64 26] [] 0 (fun r _ _ => r = .bool true) := keys_neg (-5) b 26 (-1024) kl26n5 5005 cl26 (ky26n5 b) ap26n5 (by decide) (by decide) h3 h4 rfl rfl (hg_of rfl) (by decide) rfl

def kl26n5z : List Sp := [⟨23, 5, 0⟩, ⟨23, 805, 1536⟩, ⟨23, 1605, (-512)⟩, ⟨23, 2405, 1024⟩, ⟨23, 3205, (-1024)⟩]
theorem ky26n5z : ACalls Go.Proofs.Tryz.prog 12 [.int .i64 0, .int .i64 (-5), .int .i64 26, .int .i64 5] [] 0 (fun r _ _ => r = .tup [.tsl 7 (kl26n5z.map Sp.e), .int .i64 3905]) := (runOKX_sound hLd kT26n5_ok (by kernel_rfl : runOKX tr.find kX26n5 500 12 [.int .i64 0, .int .i64 (-5), .int .i64 26, .int .i64 5] (.tup [.tsl 7 (kl26n5z.map Sp.e), .int .i64 3905]) = true)).2
theorem ap26n5z : ACalls Go.Proofs.Tryz.prog 13 [.tsl 7 (kl26n5z.map Sp.e), .int .i64 5, .int .i64 3905] [] 0 (fun r _ _ => r = .bool true) := (runOKX_sound hLd rT3_ok (by kernel_rfl : runOKX tr.find rX 3000 13 [.tsl 7 (kl26n5z.map Sp.e), .int .i64 5, .int .i64 3905] (.bool true) = true)).2
theorem lw26n5z : ACalls Go.Proofs.Tryz.prog 4 [.int .i64 0, .int .i64 (-5), .int .i64 26] [] 0 (fun r _ _ => r = .bool true) := keys_zero 0 (-5) 26 (-1024) kl26n5z 3905 cl26 ky26n5z ap26n5z (by decide) (by decide) (by decide) (by decide) rfl rfl (hg_of rfl) rfl rfl rfl

theorem sg26n4 : AV.pure (.tup [(.tsl 1 [[(.int .i64 0)], [(.int .i64 3)], [(.int .i64 (-1))], [(.int .i64 2)]]), (.int .i64 0)]) = true ∧ ACalls Go.Proofs.Tryz.prog 28 [.int .i64 (-4), .int .i64 26] [] 0 (fun r _ _ => r = (.tup [(.tsl 1 [[(.int .i64 0)], [(.int .i64 3)], [(.int .i64 (-1))], [(.int .i64 2)]]), (.int .i64 0)])) := runOKX_sound hLd hdT0_ok (by kernel_rfl : runOKX tr.find hdX0 500 28 [.int .i64 (-4), .int .i64 26] (.tup [(.tsl 1 [[(.int .i64 0)], [(.int .i64 3)], [(.int .i64 (-1))], [(.int .i64 2)]]), (.int .i64 0)]) = true)
def kT26n4 : List (Nat × (List AV × AV)) := (28, ([.int .i64 (-4), .int .i64 26], (.tup [(.tsl 1 [[(.int .i64 0)], [(.int .i64 3)], [(.int .i64 (-1))], [(.int .i64 2)]]), (.int .i64 0)]))) :: eT3
theorem kT26n4_ok : TOK Go.Proofs.Tryz.prog kT26n4 := TOK.cons sg26n4 eT3_ok
def kX26n4 : XP := ⟨hdZ, kT26n4, hdG, kp.find⟩
def kl26n4 : List Sp := [⟨22, 5, 0⟩, ⟨22, 1025, 1536⟩, ⟨22, 2045, (-512)⟩, ⟨22, 3065, 1024⟩]
theorem ky26n4 (b : Int) : ACalls Go.Proofs.Tryz.prog 12 [.int .i64 (-4), .int .i64 b, .int .i64 26, .int .i64 5] [] 0 (fun r _ _ => r = .tup [.tsl 7 (kl26n4.map Sp.e), .int .i64 3985]) := (runOKX_sound hLd kT26n4_ok (by kernel_rfl : runOKX tr.find kX26n4 500 12 [.int .i64 (-4), .int .i64 b, .int .i64 26, .int .i64 5] (.tup [.tsl 7 (kl26n4.map Sp.e), .int .i64 3985]) = true)).2
theorem ap26n4 : ACalls Go.Proofs.Tryz.prog 13 [.tsl 7 (kl26n4.map Sp.e), .int .i64 5, .int .i64 3985] [] 0 (fun r _ _ => r = .bool true) := (runOKX_sound hLd rT3_ok (by kernel_rfl : runOKX tr.find rX 3000 13 [.tsl 7 (kl26n4.map Sp.e), .int .i64 5, .int .i64 3985] (.bool true) = true)).2
theorem lw26n4 (b : Int) (h3 : -7 ≤ b) (h4 : b ≤ 7) : ACalls Go.Proofs.Tryz.prog 4 [.int .i64 (-4), .int .i64 b, .int .i64 26] [] 0 (fun r _ _ => r = .bool true) := keys_neg (-4) b 26 (-1024) kl26n4 3985 cl26 (ky26n4 b) ap26n4 (by decide) (by decide) h3 h4 rfl rfl (hg_of rfl) (by decide) rfl

def kl26n4z : List Sp := [⟨23, 5, 0⟩, ⟨23, 805, 1536⟩, ⟨23, 1605, (-512)⟩, ⟨23, 2405, 1024⟩]
theorem ky26n4z : ACalls Go.Proofs.Tryz.prog 12 [.int .i64 0, .int .i64 (-4), .int .i64 26, .int .i64 5] [] 0 (fun r _ _ => r = .tup [.tsl 7 (kl26n4z.map Sp.e), .int .i64 3105]) := (runOKX_sound hLd kT26n4_ok (by kernel_rfl : runOKX tr.find kX26n4 500 12 [.int .i64 0, .int .i64 (-4), .int .i64 26, .int .i64 5] (.tup [.tsl 7 (kl26n4z.map Sp.e), .int .i64 3105]) = true)).2
theorem ap26n4z : ACalls Go.Proofs.Tryz.prog 13 [.tsl 7 (kl26n4z.map Sp.e), .int .i64 5, .int .i64 3105] [] 0 (fun r _ _ => r = .bool true) := (runOKX_sound hLd rT3_ok (by kernel_rfl : runOKX tr.find rX 3000 13 [.tsl 7 (kl26n4z.map Sp.e), .int .i64 5, .int .i64 3105] (.bool true) = true)).2
theorem lw26n4z : ACalls Go.Proofs.Tryz.prog 4 [.int .i64 0, .int .i64 (-4), .int .i64 26] [] 0 (fun r _ _ => r = .bool true) := keys_zero 0 (-4) 26 (-1024) kl26n4z 3105 cl26 ky26n4z ap26n4z (by decide) (by decide) (by decide) (by decide) rfl rfl (hg_of rfl) rfl rfl rfl

theorem sg26n3 : AV.pure (.tup [(.tsl 1 [[(.int .i64 0)], [(.int .i64 3)], [(.int .i64 (-1))]]), (.int .i64 0)]) = true ∧ ACalls Go.Proofs.Tryz.prog 28 [.int .i64 (-3), .int .i64 26] [] 0 (fun r _ _ => r = (.tup [(.tsl 1 [[(.int .i64 0)], [(.int .i64 3)], [(.int .i64 (-1))]]), (.int .i64 0)])) := runOKX_sound hLd hdT0_ok (by kernel_rfl : runOKX tr.find hdX0 500 28 [.int .i64 (-3), .int .i64 26] (.tup [(.tsl 1 [[(.int .i64 0)], [(.int .i64 3)], [(.int .i64 (-1))]]), (.int .i64 0)]) = true)
def kT26n3 : List (Nat × (List AV × AV)) := (28, ([.int .i64 (-3), .int .i64 26], (.tup [(.tsl 1 [[(.int .i64 0)], [(.int .i64 3)], [(.int .i64 (-1))]]), (.int .i64 0)]))) :: eT3
theorem kT26n3_ok : TOK Go.Proofs.Tryz.prog kT26n3 := TOK.cons sg26n3 eT3_ok
def kX26n3 : XP := ⟨hdZ, kT26n3, hdG, kp.find⟩
def kl26n3 : List Sp := [⟨22, 5, 0⟩, ⟨22, 1025, 1536⟩, ⟨22, 2045, (-512)⟩]
theorem ky26n3 (b : Int) : ACalls Go.Proofs.Tryz.prog 12 [.int .i64 (-3), .int .i64 b, .int .i64 26, .int .i64 5] [] 0 (fun r _ _ => r = .tup [.tsl 7 (kl26n3.map Sp.e), .int .i64 2965]) := (runOKX_sound hLd kT26n3_ok (by kernel_rfl : runOKX tr.find kX26n3 500 12 [.int .i64 (-3), .int .i64 b, .int .i64 26, .int .i64 5] (.tup [.tsl 7 (kl26n3.map Sp.e), .int .i64 2965]) = true)).2
theorem ap26n3 : ACalls Go.Proofs.Tryz.prog 13 [.tsl 7 (kl26n3.map Sp.e), .int .i64 5, .int .i64 2965] [] 0 (fun r _ _ => r = .bool true) := (runOKX_sound hLd rT3_ok (by kernel_rfl : runOKX tr.find rX 3000 13 [.tsl 7 (kl26n3.map Sp.e), .int .i64 5, .int .i64 2965] (.bool true) = true)).2
theorem lw26n3 (b : Int) (h3 : -7 ≤ b) (h4 : b ≤ 7) : ACalls Go.Proofs.Tryz.prog 4 [.int .i64 (-3), .int .i64 b, .int .i64 26] [] 0 (fun r _ _ => r = .bool true) := keys_neg (-3) b 26 (-1024) kl26n3 2965 cl26 (ky26n3 b) ap26n3 (by decide) (by decide) h3 h4 rfl rfl (hg_of rfl) (by decide) rfl

def kl26n3z : List Sp := [⟨23, 5, 0⟩, ⟨23, 805, 1536⟩, ⟨23, 1605, (-512)⟩]
theorem ky26n3z : ACalls Go.Proofs.Tryz.prog 12 [.int .i64 0, .int .i64 (-3), .int .i64 26, .int .i64 5] [] 0 (fun r _ _ => r = .tup [.tsl 7 (kl26n3z.map Sp.e), .int .i64 2305]) := (runOKX_sound hLd kT26n3_ok (by kernel_rfl : runOKX tr.find kX26n3 500 12 [.int .i64 0, .int .i64 (-3), .int .i64 26, .int .i64 5] (.tup [.tsl 7 (kl26n3z.map Sp.e), .int .i64 2305]) = true)).2
theorem ap26n3z : ACalls Go.Proofs.Tryz.prog 13 [.tsl 7 (kl26n3z.map Sp.e), .int .i64 5, .int .i64 2305] [] 0 (fun r _ _ => r = .bool true) := (runOKX_sound hLd rT3_ok (by kernel_rfl : runOKX tr.find rX 3000 13 [.tsl 7 (kl26n3z.map Sp.e), .int .i64 5, .int .i64 2305] (.bool true) = true)).2
theorem lw26n3z : ACalls Go.Proofs.Tryz.prog 4 [.int .i64 0, .int .i64 (-3), .int .i64 26] [] 0 (fun r _ _ => r = .bool true) := keys_zero 0 (-3) 26 (-1024) kl26n3z 2305 cl26 ky26n3z ap26n3z (by decide) (by decide) (by decide) (by decide) rfl rfl (hg_of rfl) rfl rfl rfl

theorem sg26n2 : AV.pure (.tup [(.tsl 1 [[(.int .i64 0)], [(.int .i64 3)]]), (.int .i64 0)]) = true ∧ ACalls Go.Proofs.Tryz.prog 28 [.int .i64 (-2), .int .i64 26] [] 0 (fun r _ _ => r = (.tup [(.tsl 1 [[(.int .i64 0)], [(.int .i64 3)]]), (.int .i64 0)])) := runOKX_sound hLd hdT0_ok (by kernel_rfl : runOKX tr.find hdX0 500 28 [.int .i64 (-2), .int .i64 26] (.tup [(.tsl 1 [[(.int .i64 0)], [(.int .i64 3)]]), (.int .i64 0)]) = true)
def kT26n2 : List (Nat × (List AV × AV)) := (28, ([.int .i64 (-2), .int .i64 26], (.tup [(.tsl 1 [[(.int .i64 0)], [(.int .i64 3)]]), (.int .i64 0)]))) :: eT3
theorem kT26n2_ok : TOK Go.Proofs.Tryz.prog kT26n2 := TOK.cons sg26n2 eT3_ok
def kX26n2 : XP := ⟨hdZ, kT26n2, hdG, kp.find⟩
def kl26n2 : List Sp := [⟨22, 5, 0⟩, ⟨22, 1025, 1536⟩]
theorem ky26n2 (b : Int) : ACalls Go.Proofs.Tryz.prog 12 [.int .i64 (-2), .int .i64 b, .int .i64 26, .int .i64 5] [] 0 (fun r _ _ => r = .tup [.tsl 7 (kl26n2.map Sp.e), .int .i64 1945]) := (runOKX_sound hLd kT26n2_ok (by kernel_rfl : runOKX tr.find kX26n2 500 12 [.int .i64 (-2), .int .i64 b, .int .i64 26, .int .i64 5] (.tup [.tsl 7 (kl26n2.map Sp.e), .int .i64 1945]) = true)).2
theorem ap26n2 : ACalls Go.Proofs.Tryz.prog 13 [.tsl 7 (kl26n2.map Sp.e), .int .i64 5, .int .i64 1945] [] 0 (fun r _ _ => r = .bool true) := (runOKX_sound hLd rT3_ok (by kernel_rfl : runOKX tr.find rX 3000 13 [.tsl 7 (kl26n2.map Sp.e), .int .i64 5, .int .i64 1945] (.bool true) = true)).2
theorem lw26n2 (b : Int) (h3 : -7 ≤ b) (h4 : b ≤ 7) : ACalls Go.Proofs.Tryz.prog 4 [.int .i64 (-2), .int .i64 b, .int .i64 26] [] 0 (fun r _ _ => r = .bool true) := keys_neg (-2) b 26 (-1024) kl26n2 1945 cl26 (ky26n2 b) ap26n2 (by decide) (by decide) h3 h4 rfl rfl (hg_of rfl) (by decide) rfl

def kl26n2z : List Sp := [⟨23, 5, 0⟩, ⟨23, 805, 1536⟩]
theorem ky26n2z : ACalls Go.Proofs.Tryz.prog 12 [.int .i64 0, .int .i64 (-2), .int .i64 26, .int .i64 5] [] 0 (fun r _ _ => r = .tup [.tsl 7 (kl26n2z.map Sp.e), .int .i64 1505]) := (runOKX_sound hLd kT26n2_ok (by kernel_rfl : runOKX tr.find kX26n2 500 12 [.int .i64 0, .int .i64 (-2), .int .i64 26, .int .i64 5] (.tup [.tsl 7 (kl26n2z.map Sp.e), .int .i64 1505]) = true)).2
theorem ap26n2z : ACalls Go.Proofs.Tryz.prog 13 [.tsl 7 (kl26n2z.map Sp.e), .int .i64 5, .int .i64 1505] [] 0 (fun r _ _ => r = .bool true) := (runOKX_sound hLd rT3_ok (by kernel_rfl : runOKX tr.find rX 3000 13 [.tsl 7 (kl26n2z.map Sp.e), .int .i64 5, .int .i64 1505] (.bool true) = true)).2
theorem lw26n2z : ACalls Go.Proofs.Tryz.prog 4 [.int .i64 0, .int .i64 (-2), .int .i64 26] [] 0 (fun r _ _ => r = .bool true) := keys_zero 0 (-2) 26 (-1024) kl26n2z 1505 cl26 ky26n2z ap26n2z (by decide) (by decide) (by decide) (by decide) rfl rfl (hg_of rfl) rfl rfl rfl

theorem sg26n1 : AV.pure (.tup [(.tsl 1 [[(.int .i64 0)]]), (.int .i64 0)]) = true ∧ ACalls Go.Proofs.Tryz.prog 28 [.int .i64 (-1), .int .i64 26] [] 0 (fun r _ _ => r = (.tup [(.tsl 1 [[(.int .i64 0)]]), (.int .i64 0)])) := runOKX_sound hLd hdT0_ok (by kernel_rfl : runOKX tr.find hdX0 500 28 [.int .i64 (-1), .int .i64 26] (.tup [(.tsl 1 [[(.int .i64 0)]]), (.int .i64 0)]) = true)
def kT26n1 : List (Nat × (List AV × AV)) := (28, ([.int .i64 (-1), .int .i64 26], (.tup [(.tsl 1 [[(.int .i64 0)]]), (.int .i64 0)]))) :: eT3
theorem kT26n1_ok : TOK Go.Proofs.Tryz.prog kT26n1 := TOK.cons sg26n1 eT3_ok
def kX26n1 : XP := ⟨hdZ, kT26n1, hdG, kp.find⟩
def kl26n1 : List Sp := [⟨22, 5, 0⟩]
theorem ky26n1 (b : Int) : ACalls Go.Proofs.Tryz.prog 12 [.int .i64 (-1), .int .i64 b, .int .i64 26, .int .i64 5] [] 0 (fun r _ _ => r = .tup [.tsl 7 (kl26n1.map Sp.e), .int .i64 925]) := (runOKX_sound hLd kT26n1_ok (by kernel_rfl : runOKX tr.find kX26n1 500 12 [.int .i64 (-1), .int .i64 b, .int .i64 26, .int .i64 5] (.tup [.tsl 7 (kl26n1.map Sp.e), .int .i64 925]) = true)).2
theorem ap26n1 : ACalls Go.Proofs.Tryz.prog 13 [.tsl 7 (kl26n1.map Sp.e), .int .i64 5, .int .i64 925] [] 0 (fun r _ _ => r = .bool true) := (runOKX_sound hLd rT3_ok (by kernel_rfl : runOKX tr.find rX 3000 13 [.tsl 7 (kl26n1.map Sp.e), .int .i64 5, .int .i64 925] (.bool true) = true)).2
theorem lw26n1 (b : Int) (h3 : -7 ≤ b) (h4 : b ≤ 7) : ACalls Go.Proofs.Tryz.prog 4 [.int .i64 (-1), .int .i64 b, .int .i64 26] [] 0 (fun r _ _ => r = .bool true) := keys_neg (-1) b 26 (-1024) kl26n1 925 cl26 (ky26n1 b) ap26n1 (by decide) (by decide) h3 h4 rfl rfl (hg_of rfl) (by decide) rfl

def kl26n1z : List Sp := [⟨23, 5, 0⟩]
theorem ky26n1z : ACalls Go.Proofs.Tryz.prog 12 [.int .i64 0, .int .i64 (-1), .int .i64 26, .int .i64 5] [] 0 (fun r _ _ => r = .tup [.tsl 7 (kl26n1z.map Sp.e), .int .i64 705]) := (runOKX_sound hLd kT26n1_ok (by kernel_rfl : runOKX tr.find kX26n1 500 12 [.int .i64 0, .int .i64 (-1), .int .i64 26, .int .i64 5] (.tup [.tsl 7 (kl26n1z.map Sp.e), .int .i64 705]) = true)).2
theorem ap26n1z : ACalls Go.Proofs.Tryz.prog 13 [.tsl 7 (kl26n1z.map Sp.e), .int .i64 5, .int .i64 705] [] 0 (fun r _ _ => r = .bool true) := (runOKX_sound hLd rT3_ok (by kernel_rfl : runOKX tr.find rX 3000 13 [.tsl 7 (kl26n1z.map Sp.e), .int .i64 5, .int .i64 705] (.bool true) = true)).2
theorem lw26n1z : ACalls Go.Proofs.Tryz.prog 4 [.int .i64 0, .int .i64 (-1), .int .i64 26] [] 0 (fun r _ _ => r = .bool true) := keys_zero 0 (-1) 26 (-1024) kl26n1z 705 cl26 ky26n1z ap26n1z (by decide) (by decide) (by decide) (by decide) rfl rfl (hg_of rfl) rfl rfl rfl

theorem sg26p1 : AV.pure (.tup [(.tsl 1 [[(.int .i64 4)]]), (.int .i64 0)]) = true ∧ ACalls Go.Proofs.Tryz.prog 28 [.int .i64 1, .int .i64 26] [] 0 (fun r _ _ => r = (.tup [(.tsl 1 [[(.int .i64 4)]]), (.int .i64 0)])) := runOKX_sound hLd hdT0_ok (by kernel_rfl : runOKX tr.find hdX0 500 28 [.int .i64 1, .int .i64 26] (.tup [(.tsl 1 [[(.int .i64 4)]]), (.int .i64 0)]) = true)
def kT26p1 : List (Nat × (List AV × AV)) := (28, ([.int .i64 1, .int .i64 26], (.tup [(.tsl 1 [[(.int .i64 4)]]), (.int .i64 0)]))) :: eT3
theorem kT26p1_ok : TOK Go.Proofs.Tryz.prog kT26p1 := TOK.cons sg26p1 eT3_ok
def kX26p1 : XP := ⟨hdZ, kT26p1, hdG, kp.find⟩
def kl26p1 : List Sp := [⟨21, 5, 2048⟩]
theorem ky26p1 (b : Int) : ACalls Go.Proofs.Tryz.prog 12 [.int .i64 1, .int .i64 b, .int .i64 26, .int .i64 5] [] 0 (fun r _ _ => r = .tup [.tsl 7 (kl26p1.map Sp.e), .int .i64 1025]) := (runOKX_sound hLd kT26p1_ok (by kernel_rfl : runOKX tr.find kX26p1 500 12 [.int .i64 1, .int .i64 b, .int .i64 26, .int .i64 5] (.tup [.tsl 7 (kl26p1.map Sp.e), .int .i64 1025]) = true)).2
theorem ap26p1 : ACalls Go.Proofs.Tryz.prog 13 [.tsl 7 (kl26p1.map Sp.e), .int .i64 5, .int .i64 1025] [] 0 (fun r _ _ => r = .bool true) := (runOKX_sound hLd rT3_ok (by kernel_rfl : runOKX tr.find rX 3000 13 [.tsl 7 (kl26p1.map Sp.e), .int .i64 5, .int .i64 1025] (.bool true) = true)).2
theorem lw26p1 (b : Int) (h3 : -7 ≤ b) (h4 : b ≤ 7) : ACalls Go.Proofs.Tryz.prog 4 [.int .i64 1, .int .i64 b, .int .i64 26] [] 0 (fun r _ _ => r = .bool true) := keys_pos 1 b 26 (-1024) kl26p1 1025 cl26 (ky26p1 b) ap26p1 (by decide) (by decide) h3 h4 rfl rfl (hg_of rfl) (by decide) rfl

def kl26p1z : List Sp := [⟨23, 5, 2048⟩]
theorem ky26p1z : ACalls Go.Proofs.Tryz.prog 12 [.int .i64 0, .int .i64 1, .int .i64 26, .int .i64 5] [] 0 (fun r _ _ => r = .tup [.tsl 7 (kl26p1z.map Sp.e), .int .i64 705]) := (runOKX_sound hLd kT26p1_ok (by kernel_rfl : runOKX tr.find kX26p1 500 12 [.int .i64 0, .int .i64 1, .int .i64 26, .int .i64 5] (.tup [.tsl 7 (kl26p1z.map Sp.e), .int .i64 705]) = true)).2
theorem ap26p1z : ACalls Go.Proofs.Tryz.prog 13 [.tsl 7 (kl26p1z.map Sp.e), .int .i64 5, .int .i64 705] [] 0 (fun r _ _ => r = .bool true) := (runOKX_sound hLd rT3_ok (by kernel_rfl : runOKX tr.find rX 3000 13 [.tsl 7 (kl26p1z.map Sp.e), .int .i64 5, .int .i64 705] (.bool true) = true)).2
theorem lw26p1z : ACalls Go.Proofs.Tryz.prog 4 [.int .i64 0, .int .i64 1, .int .i64 26] [] 0 (fun r _ _ => r = .bool true) := keys_zero 0 1 26 (-1024) kl26p1z 705 cl26 ky26p1z ap26p1z (by decide) (by decide) (by decide) (by decide) rfl rfl (hg_of rfl) rfl rfl rfl

theorem sg26p2 : AV.pure (.tup [(.tsl 1 [[(.int .i64 4)], [(.int .i64 1)]]), (.int .i64 0)]) = true ∧ ACalls Go.Proofs.Tryz.prog 28 [.int .i64 2, .int .i64 26] [] 0 (fun r _ _ => r = (.tup [(.tsl 1 [[(.int .i64 4)], [(.int .i64 1)]]), (.int .i64 0)])) := runOKX_sound hLd hdT0_ok (by kernel_rfl : runOKX tr.find hdX0 500 28 [.int .i64 2, .int .i64 26] (.tup [(.tsl 1 [[(.int .i64 4)], [(.int .i64 1)]]), (.int .i64 0)]) = true)
def kT26p2 : List (Nat × (List AV × AV)) := (28, ([.int .i64 2, .int .i64 26], (.tup [(.tsl 1 [[(.int .i64 4)], [(.int .i64 1)]]), (.int .i64 0)]))) :: eT3
theorem kT26p2_ok : TOK Go.Proofs.Tryz.prog kT26p2 := TOK.cons sg26p2 eT3_ok
def kX26p2 : XP := ⟨hdZ, kT26p2, hdG, kp.find⟩
def kl26p2 : List Sp := [⟨21, 5, 2048⟩, ⟨21, 1125, 512⟩]
theorem ky26p2 (b : Int) : ACalls Go.Proofs.Tryz.prog 12 [.int .i64 2, .int .i64 b, .int .i64 26, .int .i64 5] [] 0 (fun r _ _ => r = .tup [.tsl 7 (kl26p2.map Sp.e), .int .i64 2145]) := (runOKX_sound hLd kT26p2_ok (by kernel_rfl : runOKX tr.find kX26p2 500 12 [.int .i64 2, .int .i64 b, .int .i64 26, .int .i64 5] (.tup [.tsl 7 (kl26p2.map Sp.e), .int .i64 2145]) = true)).2
theorem ap26p2 : ACalls Go.Proofs.Tryz.prog 13 [.tsl 7 (kl26p2.map Sp.e), .int .i64 5, .int .i64 2145] [] 0 (fun r _ _ => r = .bool true) := (runOKX_sound hLd rT3_ok (by kernel_rfl : runOKX tr.find rX 3000 13 [.tsl 7 (kl26p2.map Sp.e), .int .i64 5, .int .i64 2145] (.bool true) = true)).2
theorem lw26p2 (b : Int) (h3 : -7 ≤ b) (h4 : b ≤ 7) : ACalls Go.Proofs.Tryz.prog 4 [.int .i64 2, .int .i64 b, .int .i64 26] [] 0 (fun r _ _ => r = .bool true) := keys_pos 2 b 26 (-1024) kl26p2 2145 cl26 (ky26p2 b) ap26p2 (by decide) (by decide) h3 h4 rfl rfl (hg_of rfl) (by decide) rfl

def kl26p2z : List Sp := [⟨23, 5, 2048⟩, ⟨23, 805, 512⟩]
theorem ky26p2z : ACalls Go.Proofs.Tryz.prog 12 [.int .i64 0, .int .i64 2, .int .i64 26, .int .i64 5] [] 0 (fun r _ _ => r = .tup [.tsl 7 (kl26p2z.map Sp.e), .int .i64 1505]) := (runOKX_sound hLd kT26p2_ok (by kernel_rfl : runOKX tr.find kX26p2 500 12 [.int .i64 0, .int .i64 2, .int .i64 26, .int .i64 5] (.tup [.tsl 7 (kl26p2z.map Sp.e), .int .i64 1505]) = true)).2
theorem ap26p2z : ACalls Go.Proofs.Tryz.prog 13 [.tsl 7 (kl26p2z.map Sp.e), .int .i64 5, .int .i64 1505] [] 0 (fun r _ _ => r = .bool true) := (runOKX_sound hLd rT3_ok (by kernel_rfl : runOKX tr.find rX 3000 13 [.tsl 7 (kl26p2z.map Sp.e), .int .i64 5, .int .i64 1505] (.bool true) = true)).2
theorem lw26p2z : ACalls Go.Proofs.Tryz.prog 4 [.int .i64 0, .int .i64 2, .int .i64 26] [] 0 (fun r _ _ => r = .bool true) := keys_zero 0 2 26 (-1024) kl26p2z 1505 cl26 ky26p2z ap26p2z (by decide) (by decide) (by decide) (by decide) rfl rfl (hg_of rfl) rfl rfl rfl

theorem sg26p3 : AV.pure (.tup [(.tsl 1 [[(.int .i64 4)], [(.int .i64 1)], [(.int .i64 5)]]), (.int .i64 0)]) = true ∧ ACalls Go.Proofs.Tryz.prog 28 [.int .i64 3, .int .i64 26] [] 0 (fun r _ _ => r = (.tup [(.tsl 1 [[(.int .i64 4)], [(.int .i64 1)], [(.int .i64 5)]]), (.int .i64 0)])) := runOKX_sound hLd hdT0_ok (by kernel_rfl : runOKX tr.find hdX0 500 28 [.int .i64 3, .int .i64 26] (.tup [(.tsl 1 [[(.int .i64 4)], [(.int .i64 1)], [(.int .i64 5)]]), (.int .i64 0)]) = true)
def kT26p3 : List (Nat × (List AV × AV)) := (28, ([.int .i64 3, .int .i64 26], (.tup [(.tsl 1 [[(.int .i64 4)], [(.int .i64 1)], [(.int .i64 5)]]), (.int .i64 0)]))) :: eT3
theorem kT26p3_ok : TOK Go.Proofs.Tryz.prog kT26p3 := TOK.cons sg26p3 eT3_ok
def kX26p3 : XP := ⟨hdZ, kT26p3, hdG, kp.find⟩
def kl26p3 : List Sp := [⟨21, 5, 2048⟩, ⟨21, 1125, 512⟩, ⟨21, 2245, 2560⟩]
theorem ky26p3 (b : Int) : ACalls Go.Proofs.Tryz.prog 12 [.int .i64 3, .int .i64 b, .int .i64 26, .int .i64 5] [] 0 (fun r _ _ => r = .tup [.tsl 7 (kl26p3.map Sp.e), .int .i64 3265]) := (runOKX_sound hLd kT26p3_ok (by kernel_rfl : runOKX tr.find kX26p3 500 12 [.int .i64 3, .int .i64 b, .int .i64 26, .int .i64 5] (.tup [.tsl 7 (kl26p3.map Sp.e), .int .i64 3265]) = true)).2
theorem ap26p3 : ACalls Go.Proofs.Tryz.prog 13 [.tsl 7 (kl26p3.map Sp.e), .int .i64 5, .int .i64 3265] [] 0 (fun r _ _ => r = .bool true) := (runOKX_sound hLd rT3_ok (by kernel_rfl : runOKX tr.find rX 3000 13 [.tsl 7 (kl26p3.map Sp.e), .int .i64 5, .int .i64 3265] (.bool true) = true)).2
theorem lw26p3 (b : Int) (h3 : -7 ≤ b) (h4 : b ≤ 7) : ACalls Go.Proofs.Tryz.prog 4 [.int .i64 3, .int .i64 b, .int .i64 26] [] 0 (fun r _ _ => r = .bool true) := keys_pos 3 b 26 (-1024) kl26p3 3265 cl26 (ky26p3 b) ap26p3 (by decide) (by decide) h3 h4 rfl rfl (hg_of rfl) (by decide) rfl

def kl26p3z : List Sp := [⟨23, 5, 2048⟩, ⟨23, 805, 512⟩, ⟨23, 1605, 2560⟩]
theorem ky26p3z : ACalls Go.Proofs.Tryz.prog 12 [.int .i64 0, .int .i64 3, .int .i64 26, .int .i64 5] [] 0 (fun r _ _ => r = .tup [.tsl 7 (kl26p3z.map Sp.e), .int .i64 2305]) := (runOKX_sound hLd kT26p3_ok (by kernel_rfl : runOKX tr.find kX26p3 500 12 [.int .i64 0, .int .i64 3, .int .i64 26, .int .i64 5] (.tup [.tsl 7 (kl26p3z.map Sp.e), .int .i64 2305]) = true)).2
theorem ap26p3z : ACalls Go.Proofs.Tryz.prog 13 [.tsl 7 (kl26p3z.map Sp.e), .int .i64 5, .int .i64 2305] [] 0 (fun r _ _ => r = .bool true) := (runOKX_sound hLd rT3_ok (by kernel_rfl : runOKX tr.find rX 3000 13 [.tsl 7 (kl26p3z.map Sp.e), .int .i64 5, .int .i64 2305] (.bool true) = true)).2
theorem lw26p3z : ACalls Go.Proofs.Tryz.prog 4 [.int .i64 0, .int .i64 3, .int .i64 26] [] 0 (fun r _ _ => r = .bool true) := keys_zero 0 3 26 (-1024) kl26p3z 2305 cl26 ky26p3z ap26p3z (by decide) (by decide) (by decide) (by decide) rfl rfl (hg_of rfl) rfl rfl rfl

theorem sg26p4 : AV.pure (.tup [(.tsl 1 [[(.int .i64 4)], [(.int .i64 1)], [(.int .i64 5)], [(.int .i64 2)]]), (.int .i64 0)]) = true ∧ ACalls Go.Proofs.Tryz.prog 28 [.int .i64 4, .int .i64 26] [] 0 (fun r _ _ => r = (.tup [(.tsl 1 [[(.int .i64 4)], [(.int .i64 1)], [(.int .i64 5)], [(.int .i64 2)]]), (.int .i64 0)])) := runOKX_sound hLd hdT0_ok (by kernel_rfl : runOKX tr.find hdX0 500 28 [.int .i64 4, .int .i64 26] (.tup [(.tsl 1 [[(.int .i64 4)], [(.int .i64 1)], [(.int .i64 5)], [(.int .i64 2)]]), (.int .i64 0)]) = true)
def kT26p4 : List (Nat × (List AV × AV)) := (28, ([.int .i64 4, .int .i64 26], (.tup [(.tsl 1 [[(.int .i64 4)], [(.int .i64 1)], [(.int .i64 5)], [(.int .i64 2)]]), (.int .i64 0)]))) :: eT3
theorem kT26p4_ok : TOK Go.Proofs.Tryz.prog kT26p4 := TOK.cons sg26p4 eT3_ok
def kX26p4 : XP := ⟨hdZ, kT26p4, hdG, kp.find⟩
def kl26p4 : List Sp := [⟨21, 5, 2048⟩, ⟨21, 1125, 512⟩, ⟨21, 2245, 2560⟩, ⟨21, 3365, 1024⟩]
theorem ky26p4 (b : Int) : ACalls Go.Proofs.Tryz.prog 12 [.int .i64 4, .int .i64 b, .int .i64 26, .int .i64 5] [] 0 (fun r _ _ => r = .tup [.tsl 7 (kl26p4.map Sp.e), .int .i64 4385]) := (runOKX_sound hLd kT26p4_ok (by kernel_rfl : runOKX tr.find kX26p4 500 12 [.int .i64 4, .int .i64 b, .int .i64 26, .int .i64 5] (.tup [.tsl 7 (kl26p4.map Sp.e), .int .i64 4385]) = true)).2
theorem ap26p4 : ACalls Go.Proofs.Tryz.prog 13 [.tsl 7 (kl26p4.map Sp.e), .int .i64 5, .int .i64 4385] [] 0 (fun r _ _ => r = .bool true) := (runOKX_sound hLd rT3_ok (by kernel_rfl : runOKX tr.find rX 3000 13 [.tsl 7 (kl26p4.map Sp.e), .int .i64 5, .int .i64 4385] (.bool true) = true)).2
theorem lw26p4 (b : Int) (h3 : -7 ≤ b) (h4 : b ≤ 7) : ACalls Go.Proofs.Tryz.prog 4 [.int .i64 4, .int .i64 b, .int .i64 26] [] 0 (fun r _ _ => r = .bool true) := keys_pos 4 b 26 (-1024) kl26p4 4385 cl26 (ky26p4 b) ap26p4 (by decide) (by decide) h3 h4 rfl rfl (hg_of rfl) (by decide) rfl

def kl26p4z : List Sp := [⟨23, 5, 2048⟩, ⟨23, 805, 512⟩, ⟨23, 1605, 2560⟩, ⟨23, 2405, 1024⟩]
theorem ky26p4z : ACalls Go.Proofs.Tryz.prog 12 [.int .i64 0, .int .i64 4, .int .i64 26, .int .i64 5] [] 0 (fun r _ _ => r = .tup [.tsl 7 (kl26p4z.map Sp.e), .int .i64 3105]) := (runOKX_sound hLd kT26p4_ok (by kernel_rfl : runOKX tr.find kX26p4 500 12 [.int .i64 0, .int .i64 4, .int .i64 26, .int .i64 5] (.tup [.tsl 7 (kl26p4z.map Sp.e), .int .i64 3105]) = true)).2
theorem ap26p4z : ACalls Go.Proofs.Tryz.prog 13 [.tsl 7 (kl26p4z.map Sp.e), .int .i64 5, .int .i64 3105] [] 0 (fun r _ _ => r = .bool true) := (runOKX_sound hLd rT3_ok (by kernel_rfl : runOKX tr.find rX 3000 13 [.tsl 7 (kl26p4z.map Sp.e), .int .i64 5, .int .i64 3105] (.bool true) = true)).2
theorem lw26p4z : ACalls Go.Proofs.Tryz.prog 4 [.int .i64 0, .int .i64 4, .int .i64 26] [] 0 (fun r _ _ => r = .bool true) := keys_zero 0 4 26 (-1024) kl26p4z 3105 cl26 ky26p4z ap26p4z (by decide) (by decide) (by decide) (by decide) rfl rfl (hg_of rfl) rfl rfl rfl

theorem sg26p5 : AV.pure (.tup [(.tsl 1 [[(.int .i64 4)], [(.int .i64 1)], [(.int .i64 5)], [(.int .i64 2)], [(.int .i64 (-1))]]), (.int .i64 0)]) = true ∧ ACalls Go.Proofs.Tryz.prog 28 [.int .i64 5, .int .i64 26] [] 0 (fun r _ _ => r = (.tup [(.tsl 1 [[(.int .i64 4)], [(.int .i64 1)], [(.int .i64 5)], [(.int .i64 2)], [(.int .i64 (-1))]]), (.int .i64 0)])) := runOKX_sound hLd hdT0_ok (by kernel_rfl : runOKX tr.find hdX0 500 28 [.int .i64 5, .int .i64 26] (.tup [(.tsl 1 [[(.int .i64 4)], [(.int .i64 1)], [(.int .i64 5)], [(.int .i64 2)], [(.int .i64 (-1))]]), (.int .i64 0)]) = true)
def kT26p5 : List (Nat × (List AV × AV)) := (28, ([.int .i64 5, .int .i64 26], (.tup [(.tsl 1 [[(.int .i64 4)], [(.int .i64 1)], [(.int .i64 5)], [(.int .i64 2)], [(.int .i64 (-1))]]), (.int .i64 0)]))) :: eT3
theorem kT26p5_ok : TOK Go.Proofs.Tryz.prog kT26p5 := TOK.cons sg26p5 eT3_ok
def kX26p5 : XP := ⟨hdZ, kT26p5, hdG, kp.find⟩
def kl26p5 : List Sp := [⟨21, 5, 2048⟩, ⟨21, 1125, 512⟩, ⟨21, 2245, 2560⟩, ⟨21, 3365, 1024⟩, ⟨21, 4485, (-512)⟩]
theorem ky26p5 (b : Int) : ACalls Go.Proofs.Tryz.prog 12 [.int .i64 5, .int .i64 b, .int .i64 26, .int .i64 5] [] 0 (fun r _ _ => r = .tup [.tsl 7 (kl26p5.map Sp.e), .int .i64 5505]) := (runOKX_sound hLd kT26p5_ok (by kernel_rfl : runOKX tr.find kX26p5 500 12 [.int .i64 5, .int .i64 b, .int .i64 26, .int .i64 5] (.tup [.tsl 7 (kl26p5.map Sp.e), .int .i64 5505]) = true)).2
theorem ap26p5 : ACalls Go.Proofs.Tryz.prog 13 [.tsl 7 (kl26p5.map Sp.e), .int .i64 5, .int .i64 5505] [] 0 (fun r _ _ => r = .bool true) := (runOKX_sound hLd rT3_ok (by kernel_rfl : runOKX tr.find rX 3000 13 [.tsl 7 (kl26p5.map Sp.e), .int .i64 5, .int .i64 5505] (.bool true) = true)).2
theorem lw26p5 (b : Int) (h3 : -7 ≤ b) (h4 : b ≤ 7) : ACalls Go.Proofs.Tryz.prog 4 [.int .i64 5, .int .i64 b, .int .i64 26] [] 0 (fun r _ _ => r = .bool true) := keys_pos 5 b 26 (-1024) kl26p5 5505 cl26 (ky26p5 b) ap26p5 (by decide) (by decide) h3 h4 rfl rfl (hg_of rfl) (by decide) rfl

def kl26p5z : List Sp := [⟨23, 5, 2048⟩, ⟨23, 805, 512⟩, ⟨23, 1605, 2560⟩, ⟨23, 2405, 1024⟩, ⟨23, 3205, (-512)⟩]
theorem ky26p5z : ACalls Go.Proofs.Tryz.prog 12 [.int .i64 0, .int .i64 5, .int .i64 26, .int .i64 5] [] 0 (fun r _ _ => r = .tup [.tsl 7 (kl26p5z.map Sp.e), .int .i64 3905]) := (runOKX_sound hLd kT26p5_ok (by kernel_rfl : runOKX tr.find kX26p5 500 12 [.int .i64 0, .int .i64 5, .int .i64 26, .int .i64 5] (.tup [.tsl 7 (kl26p5z.map Sp.e), .int .i64 3905]) = true)).2
theorem ap26p5z : ACalls Go.Proofs.Tryz.prog 13 [.tsl 7 (kl26p5z.map Sp.e), .int .i64 5, .int .i64 3905] [] 0 (fun r _ _ => r = .bool true) := (runOKX_sound hLd rT3_ok (by kernel_rfl : runOKX tr.find rX 3000 13 [.tsl 7 (kl26p5z.map Sp.e), .int .i64 5, .int .i64 3905] (.bool true) = true)).2
theorem lw26p5z : ACalls Go.Proofs.Tryz.prog 4 [.int .i64 0, .int .i64 5, .int .i64 26] [] 0 (fun r _ _ => r = .bool true) := keys_zero 0 5 26 (-1024) kl26p5z 3905 cl26 ky26p5z ap26p5z (by decide) (by decide) (by decide) (by decide) rfl rfl (hg_of rfl) rfl rfl rfl

theorem sg26p6 : AV.pure (.tup [(.tsl 1 [[(.int .i64 4)], [(.int .i64 1)], [(.int .i64 5)], [(.int .i64 2)], [(.int .i64 (-1))], [(.int .i64 3)]]), (.int .i64 0)]) = true ∧ ACalls Go.Proofs.Tryz.prog 28 [.int .i64 6, .int .i64 26] [] 0 (fun r _ _ => r = (.tup [(.tsl 1 [[(.int .i64 4)], [(.int .i64 1)], [(.int .i64 5)], [(.int .i64 2)], [(.int .i64 (-1))], [(.int .i64 3)]]), (.int .i64 0)])) := runOKX_sound hLd hdT0_ok (by kernel_rfl : runOKX tr.find hdX0 500 28 [.int .i64 6, .int .i64 26] (.tup [(.tsl 1 [[(.int .i64 4)], [(.int .i64 1)], [(.int .i64 5)], [(.int .i64 2)], [(.int .i64 (-1))], [(.int .i64 3)]]), (.int .i64 0)]) = true)
def kT26p6 : List (Nat × (List AV × AV)) := (28, ([.int .i64 6, .int .i64 26], (.tup [(.tsl 1 [[(.int .i64 4)], [(.int .i64 1)], [(.int .i64 5)], [(.int .i64 2)], [(.int .i64 (-1))], [(.int .i64 3)]]), (.int .i64 0)]))) :: eT3
theorem kT26p6_ok : TOK Go.Proofs.Tryz.prog kT26p6 := TOK.cons sg26p6 eT3_ok
def kX26p6 : XP := ⟨hdZ, kT26p6, hdG, kp.find⟩
def kl26p6 : List Sp := [⟨21, 5, 2048⟩, ⟨21, 1125, 512⟩, ⟨21, 2245, 2560⟩, ⟨21, 3365, 1024⟩, ⟨21, 4485, (-512)⟩, ⟨21, 5605, 1536⟩]
theorem ky26p6 (b : Int) : ACalls Go.Proofs.Tryz.prog 12 [.int .i64 6, .int .i64 b, .int .i64 26, .int .i64 5] [] 0 (fun r _ _ => r = .tup [.tsl 7 (kl26p6.map Sp.e), .int .i64 6625]) := (runOKX_sound hLd kT26p6_ok (by kernel_rfl : runOKX tr.find kX26p6 500 12 [.int .i64 6, .int .i64 b, .int .i64 26, .int .i64 5] (.tup [.tsl 7 (kl26p6.map Sp.e), .int .i64 6625]) = true)).2
theorem ap26p6 : ACalls Go.Proofs.Tryz.prog 13 [.tsl 7 (kl26p6.map Sp.e), .int .i64 5, .int .i64 6625] [] 0 (fun r _ _ => r = .bool true) := (runOKX_sound hLd rT3_ok (by kernel_rfl : runOKX tr.find rX 3000 13 [.tsl 7 (kl26p6.map Sp.e), .int .i64 5, .int .i64 6625] (.bool true) = true)).2
theorem lw26p6 (b : Int) (h3 : -7 ≤ b) (h4 : b ≤ 7) : ACalls Go.Proofs.Tryz.prog 4 [.int .i64 6, .int .i64 b, .int .i64 26] [] 0 (fun r _ _ => r = .bool true) := keys_pos 6 b 26 (-1024) kl26p6 6625 cl26 (ky26p6 b) ap26p6 (by decide) (by decide) h3 h4 rfl rfl (hg_of rfl) (by decide) rfl

def kl26p6z : List Sp := [⟨23, 5, 2048⟩, ⟨23, 805, 512⟩, ⟨23, 1605, 2560⟩, ⟨23, 2405, 1024⟩, ⟨23, 3205, (-512)⟩, ⟨23, 4005, 1536⟩]
theorem ky26p6z : ACalls Go.Proofs.Tryz.prog 12 [.int .i64 0, .int .i64 6, .int .i64 26, .int .i64 5] [] 0 (fun r _ _ => r = .tup [.tsl 7 (kl26p6z.map Sp.e), .int .i64 4705]) := (runOKX_sound hLd kT26p6_ok (by kernel_rfl : runOKX tr.find kX26p6 500 12 [.int .i64 0, .int .i64 6, .int .i64 26, .int .i64 5] (.tup [.tsl 7 (kl26p6z.map Sp.e), .int .i64 4705]) = true)).2
theorem ap26p6z : ACalls Go.Proofs.Tryz.prog 13 [.tsl 7 (kl26p6z.map Sp.e), .int .i64 5, .int .i64 4705] [] 0 (fun r _ _ => r = .bool true) := (runOKX_sound hLd rT3_ok (by kernel_rfl : runOKX tr.find rX 3000 13 [.tsl 7 (kl26p6z.map Sp.e), .int .i64 5, .int .i64 4705] (.bool true) = true)).2
theorem lw26p6z : ACalls Go.Proofs.Tryz.prog 4 [.int .i64 0, .int .i64 6, .int .i64 26] [] 0 (fun r _ _ => r = .bool true) := keys_zero 0 6 26 (-1024) kl26p6z 4705 cl26 ky26p6z ap26p6z (by decide) (by decide) (by decide) (by decide) rfl rfl (hg_of rfl) rfl rfl rfl

theorem sg26p7 : AV.pure (.tup [(.tsl 1 [[(.int .i64 4)], [(.int .i64 1)], [(.int .i64 5)], [(.int .i64 2)], [(.int .i64 (-1))], [(.int .i64 3)], [(.int .i64 0)]]), (.int .i64 0)]) = true ∧ ACalls Go.Proofs.Tryz.prog 28 [.int .i64 7, .int .i64 26] [] 0 (fun r _ _ => r = (.tup [(.tsl 1 [[(.int .i64 4)], [(.int .i64 1)], [(.int .i64 5)], [(.int .i64 2)], [(.int .i64 (-1))], [(.int .i64 3)], [(.int .i64 0)]]), (.int .i64 0)])) := runOKX_sound hLd hdT0_ok (by kernel_rfl : runOKX tr.find hdX0 500 28 [.int .i64 7, .int .i64 26] (.tup [(.tsl 1 [[(.int .i64 4)], [(.int .i64 1)], [(.int .i64 5)], [(.int .i64 2)], [(.int .i64 (-1))], [(.int .i64 3)], [(.int .i64 0)]]), (.int .i64 0)]) = true)
def kT26p7 : List (Nat × (List AV × AV)) := (28, ([.int .i64 7, .int .i64 26], (.tup [(.tsl 1 [[(.int .i64 4)], [(.int .i64 1)], [(.int .i64 5)], [(.int .i64 2)], [(.int .i64 (-1))], [(.int .i64 3)], [(.int .i64 0)]]), (.int .i64 0)]))) :: eT3
theorem kT26p7_ok : TOK Go.Proofs.Tryz.prog kT26p7 := TOK.cons sg26p7 eT3_ok
def kX26p7 : XP := ⟨hdZ, kT26p7, hdG, kp.find⟩
def kl26p7 : List Sp := [⟨21, 5, 2048⟩, ⟨21, 1125, 512⟩, ⟨21, 2245, 2560⟩, ⟨21, 3365, 1024⟩, ⟨21, 4485, (-512)⟩, ⟨21, 5605, 1536⟩, ⟨21, 6725, 0⟩]
theorem ky26p7 (b : Int) : ACalls Go.Proofs.Tryz.prog 12 [.int .i64 7, .int .i64 b, .int .i64 26, .int .i64 5] [] 0 (fun r _ _ => r = .tup [.tsl 7 (kl26p7.map Sp.e), .int .i64 7745]) := (runOKX_sound hLd kT26p7_ok (by kernel_rfl : runOKX tr.find kX26p7 500 12 [.int .i64 7, .int .i64 b, .int .i64 26, .int .i64 5] (.tup [.tsl 7 (kl26p7.map Sp.e), .int .i64 7745]) = true)).2
theorem ap26p7 : ACalls Go.Proofs.Tryz.prog 13 [.tsl 7 (kl26p7.map Sp.e), .int .i64 5, .int .i64 7745] [] 0 (fun r _ _ => r = .bool true) := (runOKX_sound hLd rT3_ok (by kernel_rfl : runOKX tr.find rX 3000 13 [.tsl 7 (kl26p7.map Sp.e), .int .i64 5, .int .i64 7745] (.bool true) = true)).2
theorem lw26p7 (b : Int) (h3 : -7 ≤ b) (h4 : b ≤ 7) : ACalls Go.Proofs.Tryz.prog 4 [.int .i64 7, .int .i64 b, .int .i64 26] [] 0 (fun r _ _ => r = .bool true) := keys_pos 7 b 26 (-1024) kl26p7 7745 cl26 (ky26p7 b) ap26p7 (by decide) (by decide) h3 h4 rfl rfl (hg_of rfl) (by decide) rfl

def kl26p7z : List Sp := [⟨23, 5, 2048⟩, ⟨23, 805, 512⟩, ⟨23, 1605, 2560⟩, ⟨23, 2405, 1024⟩, ⟨23, 3205, (-512)⟩, ⟨23, 4005, 1536⟩, ⟨23, 4805, 0⟩]
theorem ky26p7z : ACalls Go.Proofs.Tryz.prog 12 [.int .i64 0, .int .i64 7, .int .i64 26, .int .i64 5] [] 0 (fun r _ _ => r = .tup [.tsl 7 (kl26p7z.map Sp.e), .int .i64 5505]) := (runOKX_sound hLd kT26p7_ok (by kernel_rfl : runOKX tr.find kX26p7 500 12 [.int .i64 0, .int .i64 7, .int .i64 26, .int .i64 5] (.tup [.tsl 7 (kl26p7z.map Sp.e), .int .i64 5505]) = true)).2
theorem ap26p7z : ACalls Go.Proofs.Tryz.prog 13 [.tsl 7 (kl26p7z.map Sp.e), .int .i64 5, .int .i64 5505] [] 0 (fun r _ _ => r = .bool true) := (runOKX_sound hLd rT3_ok (by kernel_rfl : runOKX tr.find rX 3000 13 [.tsl 7 (kl26p7z.map Sp.e), .int .i64 5, .int .i64 5505] (.bool true) = true)).2
theorem lw26p7z : ACalls Go.Proofs.Tryz.prog 4 [.int .i64 0, .int .i64 7, .int .i64 26] [] 0 (fun r _ _ => r = .bool true) := keys_zero 0 7 26 (-1024) kl26p7z 5505 cl26 ky26p7z ap26p7z (by decide) (by decide) (by decide) (by decide) rfl rfl (hg_of rfl) rfl rfl rfl

theorem lw260 : ACalls Go.Proofs.Tryz.prog 4 [.int .i64 0, .int .i64 0, .int .i64 26] [] 0 (fun r _ _ => r = .bool true) := (runOKX_sound hLd hT_ok (by kernel_rfl : runOKX tr.find hX 500 4 [.int .i64 0, .int .i64 0, .int .i64 26] (.bool true) = true)).2

theorem all26 (f b : Int) (h1 : -7 ≤ f) (h2 : f ≤ 7) (h3 : -7 ≤ b) (h4 : b ≤ 7) : ACalls Go.Proofs.Tryz.prog 4 [.int .i64 f, .int .i64 b, .int .i64 26] [] 0 (fun r _ _ => r = .bool true) := by
  have hf : f = -7 ∨ f = -6 ∨ f = -5 ∨ f = -4 ∨ f = -3 ∨ f = -2 ∨ f = -1 ∨ f = 0 ∨ f = 1 ∨ f = 2 ∨ f = 3 ∨ f = 4 ∨ f = 5 ∨ f = 6 ∨ f = 7 := by omega
  rcases hf with rfl | rfl | rfl | rfl | rfl | rfl | rfl | rfl | rfl | rfl | rfl | rfl | rfl | rfl | rfl
  · exact lw26n7 b h3 h4
  · exact lw26n6 b h3 h4
  · exact lw26n5 b h3 h4
  · exact lw26n4 b h3 h4
  · exact lw26n3 b h3 h4
  · exact lw26n2 b h3 h4
  · exact lw26n1 b h3 h4
  · have hb : b = -7 ∨ b = -6 ∨ b = -5 ∨ b = -4 ∨ b = -3 ∨ b = -2 ∨ b = -1 ∨ b = 0 ∨ b = 1 ∨ b = 2 ∨ b = 3 ∨ b = 4 ∨ b = 5 ∨ b = 6 ∨ b = 7 := by omega
    rcases hb with rfl | rfl | rfl | rfl | rfl | rfl | rfl | rfl | rfl | rfl | rfl | rfl | rfl | rfl | rfl
    · exact lw26n7z
    · exact lw26n6z
    · exact lw26n5z
    · exact lw26n4z
    · exact lw26n3z
    · exact lw26n2z
    · exact lw26n1z
    · exact lw260
    · exact lw26p1z
    · exact lw26p2z
    · exact lw26p3z
    · exact lw26p4z
    · exact lw26p5z
    · exact lw26p6z
    · exact lw26p7z
  · exact lw26p1 b h3 h4
  · exact lw26p2 b h3 h4
  · exact lw26p3 b h3 h4
  · exact lw26p4 b h3 h4
  · exact lw26p5 b h3 h4
  · exact lw26p6 b h3 h4
  · exact lw26p7 b h3 h4
end
end Go.AM.Dz
