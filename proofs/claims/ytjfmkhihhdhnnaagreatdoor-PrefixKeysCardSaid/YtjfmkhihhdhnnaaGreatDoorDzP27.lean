/- A part of a proof about the given program: what its name says. No premise beyond the statements'. -/
import Derived.Test.YtjfmkhihhdhnnaaGreatDoorDzPT
import Derived.KernelRfl
set_option linter.unusedSimpArgs false
set_option linter.unusedVariables false
/- The signs of keys at one clef: known runs. -/
namespace Go.AM.Dz
open Go.AM
noncomputable section

theorem cl27 : ACalls Go.Proofs.Tryz.prog 10 [.int .i64 27] [] 0 (fun r _ _ => r = (.tup [(.int .i64 1024), (.bool true)])) := (runOKX_sound hLd hdT0_ok (by kernel_rfl : runOKX tr.find hdX0 200 10 [.int .i64 27] (.tup [(.int .i64 1024), (.bool true)]) = true)).2

theorem sg27n7 : AV.pure (.tup [(.tsl 1 [[(.int .i64 (-2))], [(.int .i64 1)], [(.int .i64 (-3))], [(.int .i64 0)], [(.int .i64 (-4))], [(.int .i64 (-1))], [(.int .i64 (-5))]]), (.int .i64 0)]) = true ∧ ACalls Go.Proofs.Tryz.prog 28 [.int .i64 (-7), .int .i64 27] [] 0 (fun r _ _ => r = (.tup [(.tsl 1 [[(.int .i64 (-2))], [(.int .i64 1)], [(.int .i64 (-3))], [(.int .i64 0)], [(.int .i64 (-4))], [(.int .i64 (-1))], [(.int .i64 (-5))]]), (.int .i64 0)])) := runOKX_sound hLd hdT0_ok (by kernel_rfl : runOKX tr.find hdX0 500 28 [.int .i64 (-7), .int .i64 27] (.tup [(.tsl 1 [[(.int .i64 (-2))], [(.int .i64 1)], [(.int .i64 (-3))], [(.int .i64 0)], [(.int .i64 (-4))], [(.int .i64 (-1))], [(.int .i64 (-5))]]), (.int .i64 0)]) = true)
def kT27n7 : List (Nat × (List AV × AV)) := (28, ([.int .i64 (-7), .int .i64 27], (.tup [(.tsl 1 [[(.int .i64 (-2))], [(.int .i64 1)], [(.int .i64 (-3))], [(.int .i64 0)], [(.int .i64 (-4))], [(.int .i64 (-1))], [(.int .i64 (-5))]]), (.int .i64 0)]))) :: eT3
theorem kT27n7_ok : TOK Go.Proofs.Tryz.prog kT27n7 := TOK.cons sg27n7 eT3_ok
def kX27n7 : XP := ⟨hdZ, kT27n7, hdG, kp.find⟩
def kl27n7 : List Sp := [⟨22, 5, (-1024)⟩, ⟨22, 1025, 512⟩, ⟨22, 2045, (-1536)⟩, ⟨22, 3065, 0⟩, ⟨22, 4085, (-2048)⟩, ⟨22, 5105, (-512)⟩, ⟨22, 6125, (-2560)⟩]
theorem ky27n7 (b : Int) : ACalls Go.Proofs.Tryz.prog 12 [.int .i64 (-7), .int .i64 b, .int .i64 27, .int .i64 5] [] 0 (fun r _ _ => r = .tup [.tsl 7 (kl27n7.map Sp.e), .int .i64 7045]) := (runOKX_sound hLd kT27n7_ok (by kernel_rfl : runOKX tr.find kX27n7 500 12 [.int .i64 (-7), .int .i64 b, .int .i64 27, .int .i64 5] (.tup [.tsl 7 (kl27n7.map Sp.e), .int .i64 7045]) = true)).2
theorem ap27n7 : ACalls Go.Proofs.Tryz.prog 13 [.tsl 7 (kl27n7.map Sp.e), .int .i64 5, .int .i64 7045] [] 0 (fun r _ _ => r = .bool true) := (runOKX_sound hLd rT3_ok (by kernel_rfl : runOKX tr.find rX 3000 13 [.tsl 7 (kl27n7.map Sp.e), .int .i64 5, .int .i64 7045] (.bool true) = true)).2
theorem lw27n7 (b : Int) (h3 : -7 ≤ b) (h4 : b ≤ 7) : ACalls Go.Proofs.Tryz.prog 4 [.int .i64 (-7), .int .i64 b, .int .i64 27] [] 0 (fun r _ _ => r = .bool true) := keys_neg (-7) b 27 1024 kl27n7 7045 cl27 (ky27n7 b) ap27n7 (by decide) (by decide) h3 h4 rfl rfl (hg_of rfl) (by decide) rfl

def kl27n7z : List Sp := [⟨23, 5, (-1024)⟩, ⟨23, 805, 512⟩, ⟨23, 1605, (-1536)⟩, ⟨23, 2405, 0⟩, ⟨23, 3205, (-2048)⟩, ⟨23, 4005, (-512)⟩, ⟨23, 4805, (-2560)⟩]
theorem ky27n7z : ACalls Go.Proofs.Tryz.prog 12 [.int .i64 0, .int .i64 (-7), .int .i64 27, .int .i64 5] [] 0 (fun r _ _ => r = .tup [.tsl 7 (kl27n7z.map Sp.e), .int .i64 5505]) := (runOKX_sound hLd kT27n7_ok (by kernel_rfl : runOKX tr.find kX27n7 500 12 [.int .i64 0, .int .i64 (-7), .int .i64 27, .int .i64 5] (.tup [.tsl 7 (kl27n7z.map Sp.e), .int .i64 5505]) = true)).2
theorem ap27n7z : ACalls Go.Proofs.Tryz.prog 13 [.tsl 7 (kl27n7z.map Sp.e), .int .i64 5, .int .i64 5505] [] 0 (fun r _ _ => r = .bool true) := (runOKX_sound hLd rT3_ok (by kernel_rfl : runOKX tr.find rX 3000 13 [.tsl 7 (kl27n7z.map Sp.e), .int .i64 5, .int .i64 5505] (.bool true) = true)).2
theorem lw27n7z : ACalls Go.Proofs.Tryz.prog 4 [.int .i64 0, .int .i64 (-7), .int .i64 27] [] 0 (fun r _ _ => r = .bool true) := keys_zero 0 (-7) 27 1024 kl27n7z 5505 cl27 ky27n7z ap27n7z (by decide) (by decide) (by decide) (by decide) rfl rfl (hg_of rfl) rfl rfl rfl

theorem sg27n6 : AV.pure (.tup [(.tsl 1 [[(.int .i64 (-2))], [(.int .i64 1)], [(.int .i64 (-3))], [(.int .i64 0)], [(.int .i64 (-4))], [(.int .i64 (-1))]]), (.int .i64 0)]) = true ∧ ACalls Go.Proofs.Tryz.prog 28 [.int .i64 (-6), .int .i64 27] [] 0 (fun r _ _ => r = (.tup [(.tsl 1 [[(.int .i64 (-2))], [(.int .i64 1)], [(.int .i64 (-3))], [(.int .i64 0)], [(.int .i64 (-4))], [(.int .i64 (-1))]]), (.int .i64 0)])) := runOKX_sound hLd hdT0_ok (by kernel_rfl : runOKX tr.find hdX0 500 28 [.int .i64 (-6), .int .i64 27] (.tup [(.tsl 1 [[(.int .i64 (-2))], [(.int .i64 1)], [(.int .i64 (-3))], [(.int .i64 0)], [(.int .i64 (-4))], [(.int .i64 (-1))]]), (.int .i64 0)]) = true)
def kT27n6 : List (Nat × (List AV × AV)) := (28, ([.int .i64 (-6), .int .i64 27], (.tup [(.tsl 1 [[(.int .i64 (-2))], [(.int .i64 1)], [(.int .i64 (-3))], [(.int .i64 0)], [(.int .i64 (-4))], [(.int .i64 (-1))]]), (.int .i64 0)]))) :: eT3
theorem kT27n6_ok : TOK Go.Proofs.Tryz.prog kT27n6 := TOK.cons sg27n6 eT3_ok
def kX27n6 : XP := ⟨hdZ, kT27n6, hdG, kp.find⟩
def kl27n6 : List Sp := [⟨22, 5, (-1024)⟩, ⟨22, 1025, 512⟩, ⟨22, 2045, (-1536)⟩, ⟨22, 3065, 0⟩, ⟨22, 4085, (-2048)⟩, ⟨22, 5105, (-512)⟩]
theorem ky27n6 (b : Int) : ACalls Go.Proofs.Tryz.prog 12 [.int .i64 (-6), .int .i64 b, .int .i64 27, .int .i64 5] [] 0 (fun r _ _ => r = .tup [.tsl 7 (kl27n6.map Sp.e), .int .i64 6025]) := (runOKX_sound hLd kT27n6_ok (by kernel_rfl : runOKX tr.find kX27n6 500 12 [.int .i64 (-6), .int .i64 b, .int .i64 27, .int .i64 5] (.tup [.tsl 7 (kl27n6.map Sp.e), .int .i64 6025]) = true)).2
theorem ap27n6 : ACalls Go.Proofs.Tryz.prog 13 [.tsl 7 (kl27n6.map Sp.e), .int .i64 5, .int .i64 6025] [] 0 (fun r _ _ => r = .bool true) := (runOKX_sound hLd rT3_ok (by kernel_rfl : runOKX tr.find rX 3000 13 [.tsl 7 (kl27n6.map Sp.e), .int .i64 5, .int .i64 6025] (.bool true) = true)).2
theorem lw27n6 (b : Int) (h3 : -7 ≤ b) (h4 : b ≤ 7) : ACalls Go.Proofs.Tryz.prog 4 [.int .i64 (-6), .int .i64 b, .int .i64 27] [] 0 (fun r _ _ => r = .bool true) := keys_neg (-6) b 27 1024 kl27n6 6025 cl27 (ky27n6 b) ap27n6 (by decide) (by decide) h3 h4 rfl rfl (hg_of rfl) (by decide) rfl

def kl27n6z : List Sp := [⟨23, 5, (-1024)⟩, ⟨23, 805, 512⟩, ⟨23, 1605, (-1536)⟩, ⟨23, 2405, 0⟩, ⟨23, 3205, (-2048)⟩, ⟨23, 4005, (-512)⟩]
theorem ky27n6z : ACalls Go.Proofs.Tryz.prog 12 [.int .i64 0, .int .i64 (-6), .int .i64 27, .int .i64 5] [] 0 (fun r _ _ => r = .tup [.tsl 7 (kl27n6z.map Sp.e), .int .i64 4705]) := (runOKX_sound hLd kT27n6_ok (by kernel_rfl : runOKX tr.find kX27n6 500 12 [.int .i64 0, .int .i64 (-6), .int .i64 27, .int .i64 5] (.tup [.tsl 7 (kl27n6z.map Sp.e), .int .i64 4705]) = true)).2
theorem ap27n6z : ACalls Go.Proofs.Tryz.prog 13 [.tsl 7 (kl27n6z.map Sp.e), .int .i64 5, .int .i64 4705] [] 0 (fun r _ _ => r = .bool true) := (runOKX_sound hLd rT3_ok (by kernel_rfl : runOKX tr.find rX 3000 13 [.tsl 7 (kl27n6z.map Sp.e), .int .i64 5, .int .i64 4705] (.bool true) = true)).2
theorem lw27n6z : ACalls Go.Proofs.Tryz.prog 4 [.int .i64 0, .int .i64 (-6), .int .i64 27] [] 0 (fun r _ _ => r = .bool true) := keys_zero 0 (-6) 27 1024 kl27n6z 4705 cl27 ky27n6z ap27n6z (by decide) (by decide) (by decide) (by decide) rfl rfl (hg_of rfl) rfl rfl rfl

theorem sg27n5 : AV.pure (.tup [(.tsl 1 [[(.int .i64 (-2))], [(.int .i64 1)], [(.int .i64 (-3))], [(.int .i64 0)], [(.int .i64 (-4))]]), (.int .i64 0)]) = true ∧ ACalls Go.Proofs.Tryz.prog 28 [.int .i64 (-5), .int .i64 27] [] 0 (fun r _ _ => r = (.tup [(.tsl 1 [[(.int .i64 (-2))], [(.int .i64 1)], [(.int .i64 (-3))], [(.int .i64 0)], [(.int .i64 (-4))]]), (.int .i64 0)])) := runOKX_sound hLd hdT0_ok (by kernel_rfl : runOKX tr.find hdX0 500 28 [.int .i64 (-5), .int .i64 27] (.tup [(.tsl 1 [[(.int .i64 (-2))], [(.int .i64 1)], [(.int .i64 (-3))], [(.int .i64 0)], [(.int .i64 (-4))]]), (.int .i64 0)]) = true)
def kT27n5 : List (Nat × (List AV × AV)) := (28, ([.int .i64 (-5), .int .i64 27], (.tup [(.tsl 1 [[(.int .i64 (-2))], [(.int .i64 1)], [(.int .i64 (-3))], [(.int .i64 0)], [(.int .i64 (-4))]]), (.int .i64 0)]))) :: eT3
theorem kT27n5_ok : TOK Go.Proofs.Tryz.prog kT27n5 := TOK.cons sg27n5 eT3_ok
def kX27n5 : XP := ⟨hdZ, kT27n5, hdG, kp.find⟩
def kl27n5 : List Sp := [⟨22, 5, (-1024)⟩, ⟨22, 1025, 512⟩, ⟨22, 2045, (-1536)⟩, ⟨22, 3065, 0⟩, ⟨22, 4085, (-2048)⟩]
theorem ky27n5 (b : Int) : ACalls Go.Proofs.Tryz.prog 12 [.int .i64 (-5), .int .i64 b, .int .i64 27, .int .i64 5] [] 0 (fun r _ _ => r = .tup [.tsl 7 (kl27n5.map Sp.e), .int .i64 5005]) := (runOKX_sound hLd kT27n5_ok (by kernel_rfl : runOKX tr.find kX27n5 500 12 [.int .i64 (-5), .int .i64 b, .int .i64 27, .int .i64 5] (.tup [.tsl 7 (kl27n5.map Sp.e), .int .i64 5005]) = true)).2
theorem ap27n5 : ACalls Go.Proofs.Tryz.prog 13 [.tsl 7 (kl27n5.map Sp.e), .int .i64 5, .int .i64 5005] [] 0 (fun r _ _ => r = .bool true) := (runOKX_sound hLd rT3_ok (by kernel_rfl : runOKX tr.find rX 3000 13 [.tsl 7 (kl27n5.map Sp.e), .int .i64 5, .int .i64 5005] (.bool true) = true)).2
theorem lw27n5 (b : Int) (h3 : -7 ≤ b) (h4 : b ≤ 7) : ACalls Go.Proofs.Tryz.prog 4 [.int .i64 (-5), .int .i64 b, .int .i64 27] [] 0 (fun r _ _ => r = .bool true) := keys_neg (-5) b 27 1024 kl27n5 5005 cl27 (ky27n5 b) ap27n5 (by decide) (by decide) h3 h4 rfl rfl (hg_of rfl) (by decide) rfl

def kl27n5z : List Sp := [⟨23, 5, (-1024)⟩, ⟨23, 805, 512⟩, ⟨23, 1605, (-1536)⟩, ⟨23, 2405, 0⟩, ⟨23, 3205, (-2048)⟩]
theorem ky27n5z : ACalls Go.Proofs.Tryz.prog 12 [.int .i64 0, .int .i64 (-5), .int .i64 27, .int .i64 5] [] 0 (fun r _ _ => r = .tup [.tsl 7 (kl27n5z.map Sp.e), .int .i64 3905]) := (runOKX_sound hLd kT27n5_ok (by kernel_rfl : runOKX tr.find kX27n5 500 12 [.int .i64 0, .int .i64 (-5), .int .i64 27, .int .i64 5] (.tup [.tsl 7 (kl27n5z.map Sp.e), .int .i64 3905]) = true)).2
theorem ap27n5z : ACalls Go.Proofs.Tryz.prog 13 [.tsl 7 (kl27n5z.map Sp.e), .int .i64 5, .int .i64 3905] [] 0 (fun r _ _ => r = .bool true) := (runOKX_sound hLd rT3_ok (by kernel_rfl : runOKX tr.find rX 3000 13 [.tsl 7 (kl27n5z.map Sp.e), .int .i64 5, .int .i64 3905] (.bool true) = true)).2
theorem lw27n5z : ACalls Go.Proofs.Tryz.prog 4 [.int .i64 0, .int .i64 (-5), .int .i64 27] [] 0 (fun r _ _ => r = .bool true) := keys_zero 0 (-5) 27 1024 kl27n5z 3905 cl27 ky27n5z ap27n5z (by decide) (by decide) (by decide) (by decide) rfl rfl (hg_of rfl) rfl rfl rfl

theorem sg27n4 : AV.pure (.tup [(.tsl 1 [[(.int .i64 (-2))], [(.int .i64 1)], [(.int .i64 (-3))], [(.int .i64 0)]]), (.int .i64 0)]) = true ∧ ACalls Go.Proofs.Tryz.prog 28 [.int .i64 (-4), .int .i64 27] [] 0 (fun r _ _ => r = (.tup [(.tsl 1 [[(.int .i64 (-2))], [(.int .i64 1)], [(.int .i64 (-3))], [(.int .i64 0)]]), (.int .i64 0)])) := runOKX_sound hLd hdT0_ok (by kernel_rfl : runOKX tr.find hdX0 500 28 [.int .i64 (-4), .int .i64 27] (.tup [(.tsl 1 [[(.int .i64 (-2))], [(.int .i64 1)], [(.int .i64 (-3))], [(.int .i64 0)]]), (.int .i64 0)]) = true)
def kT27n4 : List (Nat × (List AV × AV)) := (28, ([.int .i64 (-4), .int .i64 27], (.tup [(.tsl 1 [[(.int .i64 (-2))], [(.int .i64 1)], [(.int .i64 (-3))], [(.int .i64 0)]]), (.int .i64 0)]))) :: eT3
theorem kT27n4_ok : TOK Go.Proofs.Tryz.prog kT27n4 := TOK.cons sg27n4 eT3_ok
def kX27n4 : XP := ⟨hdZ, kT27n4, hdG, kp.find⟩
def kl27n4 : List Sp := [⟨22, 5, (-1024)⟩, ⟨22, 1025, 512⟩, ⟨22, 2045, (-1536)⟩, ⟨22, 3065, 0⟩]
theorem ky27n4 (b : Int) : ACalls Go.Proofs.Tryz.prog 12 [.int .i64 (-4), .int .i64 b, .int .i64 27, .int .i64 5] [] 0 (fun r _ _ => r = .tup [.tsl 7 (kl27n4.map Sp.e), .int .i64 3985]) := (runOKX_sound hLd kT27n4_ok (by kernel_rfl : runOKX tr.find kX27n4 500 12 [.int .i64 (-4), .int .i64 b, .int .i64 27, .int .i64 5] (.tup [.tsl 7 (kl27n4.map Sp.e), .int .i64 3985]) = true)).2
theorem ap27n4 : ACalls Go.Proofs.Tryz.prog 13 [.tsl 7 (kl27n4.map Sp.e), .int .i64 5, .int .i64 3985] [] 0 (fun r _ _ => r = .bool true) := (runOKX_sound hLd rT3_ok (by kernel_rfl : runOKX tr.find rX 3000 13 [.tsl 7 (kl27n4.map Sp.e), .int .i64 5, .int .i64 3985] (.bool true) = true)).2
theorem lw27n4 (b : Int) (h3 : -7 ≤ b) (h4 : b ≤ 7) : ACalls Go.Proofs.Tryz.prog 4 [.int .i64 (-4), .int .i64 b, .int .i64 27] [] 0 (fun r _ _ => r = .bool true) := keys_neg (-4) b 27 1024 kl27n4 3985 cl27 (ky27n4 b) ap27n4 (by decide) (by decide) h3 h4 rfl rfl (hg_of rfl) (by decide) rfl

def kl27n4z : List Sp := [⟨23, 5, (-1024)⟩, ⟨23, 805, 512⟩, ⟨23, 1605, (-1536)⟩, ⟨23, 2405, 0⟩]
theorem ky27n4z : ACalls Go.Proofs.Tryz.prog 12 [.int .i64 0, .int .i64 (-4), .int .i64 27, .int .i64 5] [] 0 (fun r _ _ => r = .tup [.tsl 7 (kl27n4z.map Sp.e), .int .i64 3105]) := (runOKX_sound hLd kT27n4_ok (by kernel_rfl : runOKX tr.find kX27n4 500 12 [.int .i64 0, .int .i64 (-4), .int .i64 27, .int .i64 5] (.tup [.tsl 7 (kl27n4z.map Sp.e), .int .i64 3105]) = true)).2
theorem ap27n4z : ACalls Go.Proofs.Tryz.prog 13 [.tsl 7 (kl27n4z.map Sp.e), .int .i64 5, .int .i64 3105] [] 0 (fun r _ _ => r = .bool true) := (runOKX_sound hLd rT3_ok (by kernel_rfl : runOKX tr.find rX 3000 13 [.tsl 7 (kl27n4z.map Sp.e), .int .i64 5, .int .i64 3105] (.bool true) = true)).2
theorem lw27n4z : ACalls Go.Proofs.Tryz.prog 4 [.int .i64 0, .int .i64 (-4), .int .i64 27] [] 0 (fun r _ _ => r = .bool true) := keys_zero 0 (-4) 27 1024 kl27n4z 3105 cl27 ky27n4z ap27n4z (by decide) (by decide) (by decide) (by decide) rfl rfl (hg_of rfl) rfl rfl rfl

theorem sg27n3 : AV.pure (.tup [(.tsl 1 [[(.int .i64 (-2))], [(.int .i64 1)], [(.int .i64 (-3))]]), (.int .i64 0)]) = true ∧ ACalls Go.Proofs.Tryz.prog 28 [.int .i64 (-3), .int .i64 27] [] 0 (fun r _ _ => r = (.tup [(.tsl 1 [[(.int .i64 (-2))], [(.int .i64 1)], [(.int .i64 (-3))]]), (.int .i64 0)])) := runOKX_sound hLd hdT0_ok (by kernel_rfl : runOKX tr.find hdX0 500 28 [.int .i64 (-3), .int .i64 27] (.tup [(.tsl 1 [[(.int .i64 (-2))], [(.int .i64 1)], [(.int .i64 (-3))]]), (.int .i64 0)]) = true)
def kT27n3 : List (Nat × (List AV × AV)) := (28, ([.int .i64 (-3), .int .i64 27], (.tup [(.tsl 1 [[(.int .i64 (-2))], [(.int .i64 1)], [(.int .i64 (-3))]]), (.int .i64 0)]))) :: eT3
theorem kT27n3_ok : TOK Go.Proofs.Tryz.prog kT27n3 := TOK.cons sg27n3 eT3_ok
def kX27n3 : XP := ⟨hdZ, kT27n3, hdG, kp.find⟩
def kl27n3 : List Sp := [⟨22, 5, (-1024)⟩, ⟨22, 1025, 512⟩, ⟨22, 2045, (-1536)⟩]
theorem ky27n3 (b : Int) : ACalls Go.Proofs.Tryz.prog 12 [.int .i64 (-3), .int .i64 b, .int .i64 27, .int .i64 5] [] 0 (fun r _ _ => r = .tup [.tsl 7 (kl27n3.map Sp.e), .int .i64 2965]) := (runOKX_sound hLd kT27n3_ok (by kernel_rfl : runOKX tr.find kX27n3 500 12 [.int .i64 (-3), .int .i64 b, .int .i64 27, .int .i64 5] (.tup [.tsl 7 (kl27n3.map Sp.e), .int .i64 2965]) = true)).2
theorem ap27n3 : ACalls Go.Proofs.Tryz.prog 13 [.tsl 7 (kl27n3.map Sp.e), .int .i64 5, .int .i64 2965] [] 0 (fun r _ _ => r = .bool true) := (runOKX_sound hLd rT3_ok (by kernel_rfl : runOKX tr.find rX 3000 13 [.tsl 7 (kl27n3.map Sp.e), .int .i64 5, .int .i64 2965] (.bool true) = true)).2
theorem lw27n3 (b : Int) (h3 : -7 ≤ b) (h4 : b ≤ 7) : ACalls Go.Proofs.Tryz.prog 4 [.int .i64 (-3), .int .i64 b, .int .i64 27] [] 0 (fun r _ _ => r = .bool true) := keys_neg (-3) b 27 1024 kl27n3 2965 cl27 (ky27n3 b) ap27n3 (by decide) (by decide) h3 h4 rfl rfl (hg_of rfl) (by decide) rfl

def kl27n3z : List Sp := [⟨23, 5, (-1024)⟩, ⟨23, 805, 512⟩, ⟨23, 1605, (-1536)⟩]
theorem ky27n3z : ACalls Go.Proofs.Tryz.prog 12 [.int .i64 0, .int .i64 (-3), .int .i64 27, .int .i64 5] [] 0 (fun r _ _ => r = .tup [.tsl 7 (kl27n3z.map Sp.e), .int .i64 2305]) := (runOKX_sound hLd kT27n3_ok (by kernel_rfl : runOKX tr.find kX27n3 500 12 [.int .i64 0, .int .i64 (-3), .int .i64 27, .int .i64 5] (.tup [.tsl 7 (kl27n3z.map Sp.e), .int .i64 2305]) = true)).2
theorem ap27n3z : ACalls Go.Proofs.Tryz.prog 13 [.tsl 7 (kl27n3z.map Sp.e), .int .i64 5, .int .i64 2305] [] 0 (fun r _ _ => r = .bool true) := (runOKX_sound hLd rT3_ok (by kernel_rfl : runOKX tr.find rX 3000 13 [.tsl 7 (kl27n3z.map Sp.e), .int .i64 5, .int .i64 2305] (.bool true) = true)).2
theorem lw27n3z : ACalls Go.Proofs.Tryz.prog 4 [.int .i64 0, .int .i64 (-3), .int .i64 27] [] 0 (fun r _ _ => r = .bool true) := keys_zero 0 (-3) 27 1024 kl27n3z 2305 cl27 ky27n3z ap27n3z (by decide) (by decide) (by decide) (by decide) rfl rfl (hg_of rfl) rfl rfl rfl

theorem sg27n2 : AV.pure (.tup [(.tsl 1 [[(.int .i64 (-2))], [(.int .i64 1)]]), (.int .i64 0)]) = true ∧ ACalls Go.Proofs.Tryz.prog 28 [.int .i64 (-2), .int .i64 27] [] 0 (fun r _ _ => r = (.tup [(.tsl 1 [[(.int .i64 (-2))], [(.int .i64 1)]]), (.int .i64 0)])) := runOKX_sound hLd hdT0_ok (by kernel_rfl : runOKX tr.find hdX0 500 28 [.int .i64 (-2), .int .i64 27] (.tup [(.tsl 1 [[(.int .i64 (-2))], [(.int .i64 1)]]), (.int .i64 0)]) = true)
def kT27n2 : List (Nat × (List AV × AV)) := (28, ([.int .i64 (-2), .int .i64 27], (.tup [(.tsl 1 [[(.int .i64 (-2))], [(.int .i64 1)]]), (.int .i64 0)]))) :: eT3
theorem kT27n2_ok : TOK Go.Proofs.Tryz.prog kT27n2 := TOK.cons sg27n2 eT3_ok
def kX27n2 : XP := ⟨hdZ, kT27n2, hdG, kp.find⟩
def kl27n2 : List Sp := [⟨22, 5, (-1024)⟩, ⟨22, 1025, 512⟩]
theorem ky27n2 (b : Int) : ACalls Go.Proofs.Tryz.prog 12 [.int .i64 (-2), .int .i64 b, .int .i64 27, .int .i64 5] [] 0 (fun r _ _ => r = .tup [.tsl 7 (kl27n2.map Sp.e), .int .i64 1945]) := (runOKX_sound hLd kT27n2_ok (by kernel_rfl : runOKX tr.find kX27n2 500 12 [.int .i64 (-2), .int .i64 b, .int .i64 27, .int .i64 5] (.tup [.tsl 7 (kl27n2.map Sp.e), .int .i64 1945]) = true)).2
theorem ap27n2 : ACalls Go.Proofs.Tryz.prog 13 [.tsl 7 (kl27n2.map Sp.e), .int .i64 5, .int .i64 1945] [] 0 (fun r _ _ => r = .bool true) := (runOKX_sound hLd rT3_ok (by kernel_rfl : runOKX tr.find rX 3000 13 [.tsl 7 (kl27n2.map Sp.e), .int .i64 5, .int .i64 1945] (.bool true) = true)).2
theorem lw27n2 (b : Int) (h3 : -7 ≤ b) (h4 : b ≤ 7) : ACalls Go.Proofs.Tryz.prog 4 [.int .i64 (-2), .int .i64 b, .int .i64 27] [] 0 (fun r _ _ => r = .bool true) := keys_neg (-2) b 27 1024 kl27n2 1945 cl27 (ky27n2 b) ap27n2 (by decide) (by decide) h3 h4 rfl rfl (hg_of rfl) (by decide) rfl

def kl27n2z : List Sp := [⟨23, 5, (-1024)⟩, ⟨23, 805, 512⟩]
theorem ky27n2z : ACalls Go.Proofs.Tryz.prog 12 [.int .i64 0, .int .i64 (-2), .int .i64 27, .int .i64 5] [] 0 (fun r _ _ => r = .tup [.tsl 7 (kl27n2z.map Sp.e), .int .i64 1505]) := (runOKX_sound hLd kT27n2_ok (by kernel_rfl : runOKX tr.find kX27n2 500 12 [.int .i64 0, .int .i64 (-2), .int .i64 27, .int .i64 5] (.tup [.tsl 7 (kl27n2z.map Sp.e), .int .i64 1505]) = true)).2
theorem ap27n2z : ACalls Go.Proofs.Tryz.prog 13 [.tsl 7 (kl27n2z.map Sp.e), .int .i64 5, .int .i64 1505] [] 0 (fun r _ _ => r = .bool true) := (runOKX_sound hLd rT3_ok (by kernel_rfl : runOKX tr.find rX 3000 13 [.tsl 7 (kl27n2z.map Sp.e), .int .i64 5, .int .i64 1505] (.bool true) = true)).2
theorem lw27n2z : ACalls Go.Proofs.Tryz.prog 4 [.int .i64 0, .int .i64 (-2), .int .i64 27] [] 0 (fun r _ _ => r = .bool true) := keys_zero 0 (-2) 27 1024 kl27n2z 1505 cl27 ky27n2z ap27n2z (by decide) (by decide) (by decide) (by decide) rfl rfl (hg_of rfl) rfl rfl rfl

theorem sg27n1 : AV.pure (.tup [(.tsl 1 [[(.int .i64 (-2))]]), (.int .i64 0)]) = true ∧ ACalls Go.Proofs.Tryz.prog 28 [.int .i64 (-1), .int .i64 27] [] 0 (fun r _ _ => r = (.tup [(.tsl 1 [[(.int .i64 (-2))]]), (.int .i64 0)])) := runOKX_sound hLd hdT0_ok (by kernel_rfl : runOKX tr.find hdX0 500 28 [.int .i64 (-1), .int .i64 27] (.tup [(.tsl 1 [[(.int .i64 (-2))]]), (.int .i64 0)]) = true)
def kT27n1 : List (Nat × (List AV × AV)) := (28, ([.int .i64 (-1), .int .i64 27], (.tup [(.tsl 1 [[(.int .i64 (-2))]]), (.int .i64 0)]))) :: eT3
theorem kT27n1_ok : TOK Go.Proofs.Tryz.prog kT27n1 := TOK.cons sg27n1 eT3_ok
def kX27n1 : XP := ⟨hdZ, kT27n1, hdG, kp.find⟩
def kl27n1 : List Sp := [⟨22, 5, (-1024)⟩]
theorem ky27n1 (b : Int) : ACalls Go.Proofs.Tryz.prog 12 [.int .i64 (-1), .int .i64 b, .int .i64 27, .int .i64 5] [] 0 (fun r _ _ => r = .tup [.tsl 7 (kl27n1.map Sp.e), .int .i64 925]) := (runOKX_sound hLd kT27n1_ok (by kernel_rfl : runOKX tr.find kX27n1 500 12 [.int .i64 (-1), .int .i64 b, .int .i64 27, .int .i64 5] (.tup [.tsl 7 (kl27n1.map Sp.e), .int .i64 925]) = true)).2
theorem ap27n1 : ACalls Go.Proofs.Tryz.prog 13 [.tsl 7 (kl27n1.map Sp.e), .int .i64 5, .int .i64 925] [] 0 (fun r _ _ => r = .bool true) := (runOKX_sound hLd rT3_ok (by kernel_rfl : runOKX tr.find rX 3000 13 [.tsl 7 (kl27n1.map Sp.e), .int .i64 5, .int .i64 925] (.bool true) = true)).2
theorem lw27n1 (b : Int) (h3 : -7 ≤ b) (h4 : b ≤ 7) : ACalls Go.Proofs.Tryz.prog 4 [.int .i64 (-1), .int .i64 b, .int .i64 27] [] 0 (fun r _ _ => r = .bool true) := keys_neg (-1) b 27 1024 kl27n1 925 cl27 (ky27n1 b) ap27n1 (by decide) (by decide) h3 h4 rfl rfl (hg_of rfl) (by decide) rfl

def kl27n1z : List Sp := [⟨23, 5, (-1024)⟩]
theorem ky27n1z : ACalls Go.Proofs.Tryz.prog 12 [.int .i64 0, .int .i64 (-1), .int .i64 27, .int .i64 5] [] 0 (fun r _ _ => r = .tup [.tsl 7 (kl27n1z.map Sp.e), .int .i64 705]) := (runOKX_sound hLd kT27n1_ok (by kernel_rfl : runOKX tr.find kX27n1 500 12 [.int .i64 0, .int .i64 (-1), .int .i64 27, .int .i64 5] (.tup [.tsl 7 (kl27n1z.map Sp.e), .int .i64 705]) = true)).2
theorem ap27n1z : ACalls Go.Proofs.Tryz.prog 13 [.tsl 7 (kl27n1z.map Sp.e), .int .i64 5, .int .i64 705] [] 0 (fun r _ _ => r = .bool true) := (runOKX_sound hLd rT3_ok (by kernel_rfl : runOKX tr.find rX 3000 13 [.tsl 7 (kl27n1z.map Sp.e), .int .i64 5, .int .i64 705] (.bool true) = true)).2
theorem lw27n1z : ACalls Go.Proofs.Tryz.prog 4 [.int .i64 0, .int .i64 (-1), .int .i64 27] [] 0 (fun r _ _ => r = .bool true) := keys_zero 0 (-1) 27 1024 kl27n1z 705 cl27 ky27n1z ap27n1z (by decide) (by decide) (by decide) (by decide) rfl rfl (hg_of rfl) rfl rfl rfl

theorem sg27p1 : AV.pure (.tup [(.tsl 1 [[(.int .i64 2)]]), (.int .i64 0)]) = true ∧ ACalls Go.Proofs.Tryz.prog 28 [.int .i64 1, .int .i64 27] [] 0 (fun r _ _ => r = (.tup [(.tsl 1 [[(.int .i64 2)]]), (.int .i64 0)])) := runOKX_sound hLd hdT0_ok (by kernel_rfl : runOKX tr.find hdX0 500 28 [.int .i64 1, .int .i64 27] (.tup [(.tsl 1 [[(.int .i64 2)]]), (.int .i64 0)]) = true)
def kT27p1 : List (Nat × (List AV × AV)) := (28, ([.int .i64 1, .int .i64 27], (.tup [(.tsl 1 [[(.int .i64 2)]]), (.int .i64 0)]))) :: eT3
theorem kT27p1_ok : TOK Go.Proofs.Tryz.prog kT27p1 := TOK.cons sg27p1 eT3_ok
def kX27p1 : XP := ⟨hdZ, kT27p1, hdG, kp.find⟩
def kl27p1 : List Sp := [⟨21, 5, 1024⟩]
theorem ky27p1 (b : Int) : ACalls Go.Proofs.Tryz.prog 12 [.int .i64 1, .int .i64 b, .int .i64 27, .int .i64 5] [] 0 (fun r _ _ => r = .tup [.tsl 7 (kl27p1.map Sp.e), .int .i64 1025]) := (runOKX_sound hLd kT27p1_ok (by kernel_rfl : runOKX tr.find kX27p1 500 12 [.int .i64 1, .int .i64 b, .int .i64 27, .int .i64 5] (.tup [.tsl 7 (kl27p1.map Sp.e), .int .i64 1025]) = true)).2
theorem ap27p1 : ACalls Go.Proofs.Tryz.prog 13 [.tsl 7 (kl27p1.map Sp.e), .int .i64 5, .int .i64 1025] [] 0 (fun r _ _ => r = .bool true) := (runOKX_sound hLd rT3_ok (by kernel_rfl : runOKX tr.find rX 3000 13 [.tsl 7 (kl27p1.map Sp.e), .int .i64 5, .int .i64 1025] (.bool true) = true)).2
theorem lw27p1 (b : Int) (h3 : -7 ≤ b) (h4 : b ≤ 7) : ACalls Go.Proofs.Tryz.prog 4 [.int .i64 1, .int .i64 b, .int .i64 27] [] 0 (fun r _ _ => r = .bool true) := keys_pos 1 b 27 1024 kl27p1 1025 cl27 (ky27p1 b) ap27p1 (by decide) (by decide) h3 h4 rfl rfl (hg_of rfl) (by decide) rfl

def kl27p1z : List Sp := [⟨23, 5, 1024⟩]
theorem ky27p1z : ACalls Go.Proofs.Tryz.prog 12 [.int .i64 0, .int .i64 1, .int .i64 27, .int .i64 5] [] 0 (fun r _ _ => r = .tup [.tsl 7 (kl27p1z.map Sp.e), .int .i64 705]) := (runOKX_sound hLd kT27p1_ok (by kernel_rfl : runOKX tr.find kX27p1 500 12 [.int .i64 0, .int .i64 1, .int .i64 27, .int .i64 5] (.tup [.tsl 7 (kl27p1z.map Sp.e), .int .i64 705]) = true)).2
theorem ap27p1z : ACalls Go.Proofs.Tryz.prog 13 [.tsl 7 (kl27p1z.map Sp.e), .int .i64 5, .int .i64 705] [] 0 (fun r _ _ => r = .bool true) := (runOKX_sound hLd rT3_ok (by kernel_rfl : runOKX tr.find rX 3000 13 [.tsl 7 (kl27p1z.map Sp.e), .int .i64 5, .int .i64 705] (.bool true) = true)).2
theorem lw27p1z : ACalls Go.Proofs.Tryz.prog 4 [.int .i64 0, .int .i64 1, .int .i64 27] [] 0 (fun r _ _ => r = .bool true) := keys_zero 0 1 27 1024 kl27p1z 705 cl27 ky27p1z ap27p1z (by decide) (by decide) (by decide) (by decide) rfl rfl (hg_of rfl) rfl rfl rfl

theorem sg27p2 : AV.pure (.tup [(.tsl 1 [[(.int .i64 2)], [(.int .i64 (-1))]]), (.int .i64 0)]) = true ∧ ACalls Go.Proofs.Tryz.prog 28 [.int .i64 2, .int .i64 27] [] 0 (fun r _ _ => r = (.tup [(.tsl 1 [[(.int .i64 2)], [(.int .i64 (-1))]]), (.int .i64 0)])) := runOKX_sound hLd hdT0_ok (by kernel_rfl : runOKX tr.find hdX0 500 28 [.int .i64 2, .int .i64 27] (.tup [(.tsl 1 [[(.int .i64 2)], [(.int .i64 (-1))]]), (.int .i64 0)]) = true)
def kT27p2 : List (Nat × (List AV × AV)) := (28, ([.int .i64 2, .int .i64 27], (.tup [(.tsl 1 [[(.int .i64 2)], [(.int .i64 (-1))]]), (.int .i64 0)]))) :: eT3
theorem kT27p2_ok : TOK Go.Proofs.Tryz.prog kT27p2 := TOK.cons sg27p2 eT3_ok
def kX27p2 : XP := ⟨hdZ, kT27p2, hdG, kp.find⟩
def kl27p2 : List Sp := [⟨21, 5, 1024⟩, ⟨21, 1125, (-512)⟩]
theorem ky27p2 (b : Int) : ACalls Go.Proofs.Tryz.prog 12 [.int .i64 2, .int .i64 b, .int .i64 27, .int .i64 5] [] 0 (fun r _ _ => r = .tup [.tsl 7 (kl27p2.map Sp.e), .int .i64 2145]) := (runOKX_sound hLd kT27p2_ok (by kernel_rfl : runOKX tr.find kX27p2 500 12 [.int .i64 2, .int .i64 b, .int .i64 27, .int .i64 5] (.tup [.tsl 7 (kl27p2.map Sp.e), .int .i64 2145]) = true)).2
theorem ap27p2 : ACalls Go.Proofs.Tryz.prog 13 [.tsl 7 (kl27p2.map Sp.e), .int .i64 5, .int .i64 2145] [] 0 (fun r _ _ => r = .bool true) := (runOKX_sound hLd rT3_ok (by kernel_rfl : runOKX tr.find rX 3000 13 [.tsl 7 (kl27p2.map Sp.e), .int .i64 5, .int .i64 2145] (.bool true) = true)).2
theorem lw27p2 (b : Int) (h3 : -7 ≤ b) (h4 : b ≤ 7) : ACalls Go.Proofs.Tryz.prog 4 [.int .i64 2, .int .i64 b, .int .i64 27] [] 0 (fun r _ _ => r = .bool true) := keys_pos 2 b 27 1024 kl27p2 2145 cl27 (ky27p2 b) ap27p2 (by decide) (by decide) h3 h4 rfl rfl (hg_of rfl) (by decide) rfl

def kl27p2z : List Sp := [⟨23, 5, 1024⟩, ⟨23, 805, (-512)⟩]
theorem ky27p2z : ACalls Go.Proofs.Tryz.prog 12 [.int .i64 0, .int .i64 2, .int .i64 27, .int .i64 5] [] 0 (fun r _ _ => r = .tup [.tsl 7 (kl27p2z.map Sp.e), .int .i64 1505]) := (runOKX_sound hLd kT27p2_ok (by kernel_rfl : runOKX tr.find kX27p2 500 12 [.int .i64 0, .int .i64 2, .int .i64 27, .int .i64 5] (.tup [.tsl 7 (kl27p2z.map Sp.e), .int .i64 1505]) = true)).2
theorem ap27p2z : ACalls Go.Proofs.Tryz.prog 13 [.tsl 7 (kl27p2z.map Sp.e), .int .i64 5, .int .i64 1505] [] 0 (fun r _ _ => r = .bool true) := (runOKX_sound hLd rT3_ok (by kernel_rfl : runOKX tr.find rX 3000 13 [.tsl 7 (kl27p2z.map Sp.e), .int .i64 5, .int .i64 1505] (.bool true) = true)).2
theorem lw27p2z : ACalls Go.Proofs.Tryz.prog 4 [.int .i64 0, .int .i64 2, .int .i64 27] [] 0 (fun r _ _ => r = .bool true) := keys_zero 0 2 27 1024 kl27p2z 1505 cl27 ky27p2z ap27p2z (by decide) (by decide) (by decide) (by decide) rfl rfl (hg_of rfl) rfl rfl rfl

theorem sg27p3 : AV.pure (.tup [(.tsl 1 [[(.int .i64 2)], [(.int .i64 (-1))], [(.int .i64 3)]]), (.int .i64 0)]) = true ∧ ACalls Go.Proofs.Tryz.prog 28 [.int .i64 3, .int .i64 27] [] 0 (fun r _ _ => r = (.tup [(.tsl 1 [[(.int .i64 2)], [(.int .i64 (-1))], [(.int .i64 3)]]), (.int .i64 0)])) := runOKX_sound hLd hdT0_ok (by kernel_rfl : runOKX tr.find hdX0 500 28 [.int .i64 3, .int .i64 27] (.tup [(.tsl 1 [[(.int .i64 2)], [(.int .i64 (-1))], [(.int .i64 3)]]), (.int .i64 0)]) = true)
def kT27p3 : List (Nat × (List AV × AV)) := (28, ([.int .i64 3, .int .i64 27], (.tup [(.tsl 1 [[(.int .i64 2)], [(.int .i64 (-1))], [(.int .i64 3)]]), (.int .i64 0)]))) :: eT3
theorem kT27p3_ok : TOK Go.Proofs.Tryz.prog kT27p3 := TOK.cons sg27p3 eT3_ok
def kX27p3 : XP := ⟨hdZ, kT27p3, hdG, kp.find⟩
def kl27p3 : List Sp := [⟨21, 5, 1024⟩, ⟨21, 1125, (-512)⟩, ⟨21, 2245, 1536⟩]
theorem ky27p3 (b : Int) : ACalls Go.Proofs.Tryz.prog 12 [.int .i64 3, .int .i64 b, .int .i64 27, .int .i64 5] [] 0 (fun r _ _ => r = .tup [.tsl 7 (kl27p3.map Sp.e), .int .i64 3265]) := (runOKX_sound hLd kT27p3_ok (by kernel_rfl : runOKX tr.find kX27p3 500 12 [.int .i64 3, .int .i64 b, .int .i64 27, .int .i64 5] (.tup [.tsl 7 (kl27p3.map Sp.e), .int .i64 3265]) = true)).2
theorem ap27p3 : ACalls Go.Proofs.Tryz.prog 13 [.tsl 7 (kl27p3.map Sp.e), .int .i64 5, .int .i64 3265] [] 0 (fun r _ _ => r = .bool true) := (runOKX_sound hLd rT3_ok (by kernel_rfl : runOKX tr.find rX 3000 13 [.tsl 7 (kl27p3.map Sp.e), .int .i64 5, .int .i64 3265] (.bool true) = true)).2
theorem lw27p3 (b : Int) (h3 : -7 ≤ b) (h4 : b ≤ 7) : ACalls Go.Proofs.Tryz.prog 4 [.int .i64 3, .int .i64 b, .int .i64 27] [] 0 (fun r _ _ => r = .bool true) := keys_pos 3 b 27 1024 kl27p3 3265 cl27 (ky27p3 b) ap27p3 (by decide) (by decide) h3 h4 rfl rfl (hg_of rfl) (by decide) rfl

def kl27p3z : List Sp := [⟨23, 5, 1024⟩, ⟨23, 805, (-512)⟩, ⟨23, 1605, 1536⟩]
theorem ky27p3z : ACalls Go.Proofs.Tryz.prog 12 [.int .i64 0, .int .i64 3, .int .i64 27, .int .i64 5] [] 0 (fun r _ _ => r = .tup [.tsl 7 (kl27p3z.map Sp.e), .int .i64 2305]) := (runOKX_sound hLd kT27p3_ok (by kernel_rfl : runOKX tr.find kX27p3 500 12 [.int .i64 0, .int .i64 3, .int .i64 27, .int .i64 5] (.tup [.tsl 7 (kl27p3z.map Sp.e), .int .i64 2305]) = true)).2
theorem ap27p3z : ACalls Go.Proofs.Tryz.prog 13 [.tsl 7 (kl27p3z.map Sp.e), .int .i64 5, .int .i64 2305] [] 0 (fun r _ _ => r = .bool true) := (runOKX_sound hLd rT3_ok (by kernel_rfl : runOKX tr.find rX 3000 13 [.tsl 7 (kl27p3z.map Sp.e), .int .i64 5, .int .i64 2305] (.bool true) = true)).2
theorem lw27p3z : ACalls Go.Proofs.Tryz.prog 4 [.int .i64 0, .int .i64 3, .int .i64 27] [] 0 (fun r _ _ => r = .bool true) := keys_zero 0 3 27 1024 kl27p3z 2305 cl27 ky27p3z ap27p3z (by decide) (by decide) (by decide) (by decide) rfl rfl (hg_of rfl) rfl rfl rfl

theorem sg27p4 : AV.pure (.tup [(.tsl 1 [[(.int .i64 2)], [(.int .i64 (-1))], [(.int .i64 3)], [(.int .i64 0)]]), (.int .i64 0)]) = true ∧ ACalls Go.Proofs.Tryz.prog 28 [.int .i64 4, .int .i64 27] [] 0 (fun r _ _ => r = (.tup [(.tsl 1 [[(.int .i64 2)], [(.int .i64 (-1))], [(.int .i64 3)], [(.int .i64 0)]]), (.int .i64 0)])) := runOKX_sound hLd hdT0_ok (by kernel_rfl : runOKX tr.find hdX0 500 28 [.int .i64 4, .int .i64 27] (.tup [(.tsl 1 [[(.int .i64 2)], [(.int .i64 (-1))], [(.int .i64 3)], [(.int .i64 0)]]), (.int .i64 0)]) = true)
def kT27p4 : List (Nat × (List AV × AV)) := (28, ([.int .i64 4, .int .i64 27], (.tup [(.tsl 1 [[(.int .i64 2)], [(.int .i64 (-1))], [(.int .i64 3)], [(.int .i64 0)]]), (.int .i64 0)]))) :: eT3
theorem kT27p4_ok : TOK Go.Proofs.Tryz.prog kT27p4 := TOK.cons sg27p4 eT3_ok
def kX27p4 : XP := ⟨hdZ, kT27p4, hdG, kp.find⟩
def kl27p4 : List Sp := [⟨21, 5, 1024⟩, ⟨21, 1125, (-512)⟩, ⟨21, 2245, 1536⟩, ⟨21, 3365, 0⟩]
theorem ky27p4 (b : Int) : ACalls Go.Proofs.Tryz.prog 12 [.int .i64 4, .int .i64 b, .int .i64 27, .int .i64 5] [] 0 (fun r _ _ => r = .tup [.tsl 7 (kl27p4.map Sp.e), .int .i64 4385]) := (runOKX_sound hLd kT27p4_ok (by kernel_rfl : runOKX tr.find kX27p4 500 12 [.int .i64 4, .int .i64 b, .int .i64 27, .int .i64 5] (.tup [.tsl 7 (kl27p4.map Sp.e), .int .i64 4385]) = true)).2
theorem ap27p4 : ACalls Go.Proofs.Tryz.prog 13 [.tsl 7 (kl27p4.map Sp.e), .int .i64 5, .int .i64 4385] [] 0 (fun r _ _ => r = .bool true) := (runOKX_sound hLd rT3_ok (by kernel_rfl : runOKX tr.find rX 3000 13 [.tsl 7 (kl27p4.map Sp.e), .int .i64 5, .int .i64 4385] (.bool true) = true)).2
theorem lw27p4 (b : Int) (h3 : -7 ≤ b) (h4 : b ≤ 7) : ACalls Go.Proofs.Tryz.prog 4 [.int .i64 4, .int .i64 b, .int .i64 27] [] 0 (fun r _ _ => r = .bool true) := keys_pos 4 b 27 1024 kl27p4 4385 cl27 (ky27p4 b) ap27p4 (by decide) (by decide) h3 h4 rfl rfl (hg_of rfl) (by decide) rfl

def kl27p4z : List Sp := [⟨23, 5, 1024⟩, ⟨23, 805, (-512)⟩, ⟨23, 1605, 1536⟩, ⟨23, 2405, 0⟩]
theorem ky27p4z : ACalls Go.Proofs.Tryz.prog 12 [.int .i64 0, .int .i64 4, .int .i64 27, .int .i64 5] [] 0 (fun r _ _ => r = .tup [.tsl 7 (kl27p4z.map Sp.e), .int .i64 3105]) := (runOKX_sound hLd kT27p4_ok (by kernel_rfl : runOKX tr.find kX27p4 500 12 [.int .i64 0, .int .i64 4, .int .i64 27, .int .i64 5] (.tup [.tsl 7 (kl27p4z.map Sp.e), .int .i64 3105]) = true)).2
theorem ap27p4z : ACalls Go.Proofs.Tryz.prog 13 [.tsl 7 (kl27p4z.map Sp.e), .int .i64 5, .int .i64 3105] [] 0 (fun r _ _ => r = .bool true) := (runOKX_sound hLd rT3_ok (by kernel_rfl : runOKX tr.find rX 3000 13 [.tsl 7 (kl27p4z.map Sp.e), .int .i64 5, .int .i64 3105] (.bool true) = true)).2
theorem lw27p4z : ACalls Go.Proofs.Tryz.prog 4 [.int .i64 0, .int .i64 4, .int .i64 27] [] 0 (fun r _ _ => r = .bool true) := keys_zero 0 4 27 1024 kl27p4z 3105 cl27 ky27p4z ap27p4z (by decide) (by decide) (by decide) (by decide) rfl rfl (hg_of rfl) rfl rfl rfl

theorem sg27p5 : AV.pure (.tup [(.tsl 1 [[(.int .i64 2)], [(.int .i64 (-1))], [(.int .i64 3)], [(.int .i64 0)], [(.int .i64 (-3))]]), (.int .i64 0)]) = true ∧ ACalls Go.Proofs.Tryz.prog 28 [.int .i64 5, .int .i64 27] [] 0 (fun r _ _ => r = (.tup [(.tsl 1 [[(.int .i64 2)], [(.int .i64 (-1))], [(.int .i64 3)], [(.int .i64 0)], [(.int .i64 (-3))]]), (.int .i64 0)])) := runOKX_sound hLd hdT0_ok (by kernel_rfl : runOKX tr.find hdX0 500 28 [.int .i64 5, .int .i64 27] (.tup [(.tsl 1 [[(.int .i64 2)], [(.int .i64 (-1))], [(.int .i64 3)], [(.int .i64 0)], [(.int .i64 (-3))]]), (.int .i64 0)]) = true)
def kT27p5 : List (Nat × (List AV × AV)) := (28, ([.int .i64 5, .int .i64 27], (.tup [(.tsl 1 [[(.int .i64 2)], [(.int .i64 (-1))], [(.int .i64 3)], [(.int .i64 0)], [(.int .i64 (-3))]]), (.int .i64 0)]))) :: eT3
theorem kT27p5_ok : TOK Go.Proofs.Tryz.prog kT27p5 := TOK.cons sg27p5 eT3_ok
def kX27p5 : XP := ⟨hdZ, kT27p5, hdG, kp.find⟩
def kl27p5 : List Sp := [⟨21, 5, 1024⟩, ⟨21, 1125, (-512)⟩, ⟨21, 2245, 1536⟩, ⟨21, 3365, 0⟩, ⟨21, 4485, (-1536)⟩]
theorem ky27p5 (b : Int) : ACalls Go.Proofs.Tryz.prog 12 [.int .i64 5, .int .i64 b, .int .i64 27, .int .i64 5] [] 0 (fun r _ _ => r = .tup [.tsl 7 (kl27p5.map Sp.e), .int .i64 5505]) := (runOKX_sound hLd kT27p5_ok (by kernel_rfl : runOKX tr.find kX27p5 500 12 [.int .i64 5, .int .i64 b, .int .i64 27, .int .i64 5] (.tup [.tsl 7 (kl27p5.map Sp.e), .int .i64 5505]) = true)).2
theorem ap27p5 : ACalls Go.Proofs.Tryz.prog 13 [.tsl 7 (kl27p5.map Sp.e), .int .i64 5, .int .i64 5505] [] 0 (fun r _ _ => r = .bool true) := (runOKX_sound hLd rT3_ok (by kernel_rfl : runOKX tr.find rX 3000 13 [.tsl 7 (kl27p5.map Sp.e), .int .i64 5, .int .i64 5505] (.bool true) = true)).2
theorem lw27p5 (b : Int) (h3 : -7 ≤ b) (h4 : b ≤ 7) : ACalls Go.Proofs.Tryz.prog 4 [.int .i64 5, .int .i64 b, .int .i64 27] [] 0 (fun r _ _ => r = .bool true) := keys_pos 5 b 27 1024 kl27p5 5505 cl27 (ky27p5 b) ap27p5 (by decide) (by decide) h3 h4 rfl rfl (hg_of rfl) (by decide) rfl

def kl27p5z : List Sp := [⟨23, 5, 1024⟩, ⟨23, 805, (-512)⟩, ⟨23, 1605, 1536⟩, ⟨23, 2405, 0⟩, ⟨23, 3205, (-1536)⟩]
theorem ky27p5z : ACalls Go.Proofs.Tryz.prog 12 [.int .i64 0, .int .i64 5, .int .i64 27, .int .i64 5] [] 0 (fun r _ _ => r = .tup [.tsl 7 (kl27p5z.map Sp.e), .int .i64 3905]) := (runOKX_sound hLd kT27p5_ok (by kernel_rfl : runOKX tr.find kX27p5 500 12 [.int .i64 0, .int .i64 5, .int .i64 27, .int .i64 5] (.tup [.tsl 7 (kl27p5z.map Sp.e), .int .i64 3905]) = true)).2
theorem ap27p5z : ACalls Go.Proofs.Tryz.prog 13 [.tsl 7 (kl27p5z.map Sp.e), .int .i64 5, .int .i64 3905] [] 0 (fun r _ _ => r = .bool true) := (runOKX_sound hLd rT3_ok (by kernel_rfl : runOKX tr.find rX 3000 13 [.tsl 7 (kl27p5z.map Sp.e), .int .i64 5, .int .i64 3905] (.bool true) = true)).2
theorem lw27p5z : ACalls Go.Proofs.Tryz.prog 4 [.int .i64 0, .int .i64 5, .int .i64 27] [] 0 (fun r _ _ => r = .bool true) := keys_zero 0 5 27 1024 kl27p5z 3905 cl27 ky27p5z ap27p5z (by decide) (by decide) (by decide) (by decide) rfl rfl (hg_of rfl) rfl rfl rfl

theorem sg27p6 : AV.pure (.tup [(.tsl 1 [[(.int .i64 2)], [(.int .i64 (-1))], [(.int .i64 3)], [(.int .i64 0)], [(.int .i64 (-3))], [(.int .i64 1)]]), (.int .i64 0)]) = true ∧ ACalls Go.Proofs.Tryz.prog 28 [.int .i64 6, .int .i64 27] [] 0 (fun r _ _ => r = (.tup [(.tsl 1 [[(.int .i64 2)], [(.int .i64 (-1))], [(.int .i64 3)], [(.int .i64 0)], [(.int .i64 (-3))], [(.int .i64 1)]]), (.int .i64 0)])) := runOKX_sound hLd hdT0_ok (by kernel_rfl : runOKX tr.find hdX0 500 28 [.int .i64 6, .int .i64 27] (.tup [(.tsl 1 [[(.int .i64 2)], [(.int .i64 (-1))], [(.int .i64 3)], [(.int .i64 0)], [(.int .i64 (-3))], [(.int .i64 1)]]), (.int .i64 0)]) = true)
def kT27p6 : List (Nat × (List AV × AV)) := (28, ([.int .i64 6, .int .i64 27], (.tup [(.tsl 1 [[(.int .i64 2)], [(.int .i64 (-1))], [(.int .i64 3)], [(.int .i64 0)], [(.int .i64 (-3))], [(.int .i64 1)]]), (.int .i64 0)]))) :: eT3
theorem kT27p6_ok : TOK Go.Proofs.Tryz.prog kT27p6 := TOK.cons sg27p6 eT3_ok
def kX27p6 : XP := ⟨hdZ, kT27p6, hdG, kp.find⟩
def kl27p6 : List Sp := [⟨21, 5, 1024⟩, ⟨21, 1125, (-512)⟩, ⟨21, 2245, 1536⟩, ⟨21, 3365, 0⟩, ⟨21, 4485, (-1536)⟩, ⟨21, 5605, 512⟩]
theorem ky27p6 (b : Int) : ACalls Go.Proofs.Tryz.prog 12 [.int .i64 6, .int .i64 b, .int .i64 27, .int .i64 5] [] 0 (fun r _ _ => r = .tup [.tsl 7 (kl27p6.map Sp.e), .int .i64 6625]) := (runOKX_sound hLd kT27p6_ok (by kernel_rfl : runOKX tr.find kX27p6 500 12 [.int .i64 6, .int .i64 b, .int .i64 27, .int .i64 5] (.tup [.tsl 7 (kl27p6.map Sp.e), .int .i64 6625]) = true)).2
theorem ap27p6 : ACalls Go.Proofs.Tryz.prog 13 [.tsl 7 (kl27p6.map Sp.e), .int .i64 5, .int .i64 6625] [] 0 (fun r _ _ => r = .bool true) := (runOKX_sound hLd rT3_ok (by kernel_rfl : runOKX tr.find rX 3000 13 [.tsl 7 (kl27p6.map Sp.e), .int .i64 5, .int .i64 6625] (.bool true) = true)).2
theorem lw27p6 (b : Int) (h3 : -7 ≤ b) (h4 : b ≤ 7) : ACalls Go.Proofs.Tryz.prog 4 [.int .i64 6, .int .i64 b, .int .i64 27] [] 0 (fun r _ _ => r = .bool true) := keys_pos 6 b 27 1024 kl27p6 6625 cl27 (ky27p6 b) ap27p6 (by decide) (by decide) h3 h4 rfl rfl (hg_of rfl) (by decide) rfl

def kl27p6z : List Sp := [⟨23, 5, 1024⟩, ⟨23, 805, (-512)⟩, ⟨23, 1605, 1536⟩, ⟨23, 2405, 0⟩, ⟨23, 3205, (-1536)⟩, ⟨23, 4005, 512⟩]
theorem ky27p6z : ACalls Go.Proofs.Tryz.prog 12 [.int .i64 0, .int .i64 6, .int .i64 27, .int .i64 5] [] 0 (fun r _ _ => r = .tup [.tsl 7 (kl27p6z.map Sp.e), .int .i64 4705]) := (runOKX_sound hLd kT27p6_ok (by kernel_rfl : runOKX tr.find kX27p6 500 12 [.int .i64 0, .int .i64 6, .int .i64 27, .int .i64 5] (.tup [.tsl 7 (kl27p6z.map Sp.e), .int .i64 4705]) = true)).2
theorem ap27p6z : ACalls Go.Proofs.Tryz.prog 13 [.tsl 7 (kl27p6z.map Sp.e), .int .i64 5, .int .i64 4705] [] 0 (fun r _ _ => r = .bool true) := (runOKX_sound hLd rT3_ok (by kernel_rfl : runOKX tr.find rX 3000 13 [.tsl 7 (kl27p6z.map Sp.e), .int .i64 5, .int .i64 4705] (.bool true) = true)).2
theorem lw27p6z : ACalls Go.Proofs.Tryz.prog 4 [.int .i64 0, .int .i64 6, .int .i64 27] [] 0 (fun r _ _ => r = .bool true) := keys_zero 0 6 27 1024 kl27p6z 4705 cl27 ky27p6z ap27p6z (by decide) (by decide) (by decide) (by decide) rfl rfl (hg_of rfl) rfl rfl rfl

theorem sg27p7 : AV.pure (.tup [(.tsl 1 [[(.int .i64 2)], [(.int .i64 (-1))], [(.int .i64 3)], [(.int .i64 0)], [(.int .i64 (-3))], [(.int .i64 1)], [(.int .i64 (-2))]]), (.int .i64 0)]) = true ∧ ACalls Go.Proofs.Tryz.prog 28 [.int .i64 7, .int .i64 27] [] 0 (fun r _ _ => r = (.tup [(.tsl 1 [[(.int .i64 2)], [(.int .i64 (-1))], [(.int .i64 3)], [(.int .i64 0)], [(.int .i64 (-3))], [(.int .i64 1)], [(.int .i64 (-2))]]), (.int .i64 0)])) := runOKX_sound hLd hdT0_ok (by kernel_rfl : runOKX tr.find hdX0 500 28 [.int .i64 7, .int .i64 27] (.tup [(.tsl 1 [[(.int .i64 2)], [(.int .i64 (-1))], [(.int .i64 3)], [(.int .i64 0)], [(.int .i64 (-3))], [(.int .i64 1)], [(.int .i64 (-2))]]), (.int .i64 0)]) = true)
def kT27p7 : List (Nat × (List AV × AV)) := (28, ([.int .i64 7, .int .i64 27], (.tup [(.tsl 1 [[(.int .i64 2)], [(.int .i64 (-1))], [(.int .i64 3)], [(.int .i64 0)], [(.int .i64 (-3))], [(.int .i64 1)], [(.int .i64 (-2))]]), (.int .i64 0)]))) :: eT3
theorem kT27p7_ok : TOK Go.Proofs.Tryz.prog kT27p7 := TOK.cons sg27p7 eT3_ok
def kX27p7 : XP := ⟨hdZ, kT27p7, hdG, kp.find⟩
def kl27p7 : List Sp := [⟨21, 5, 1024⟩, ⟨21, 1125, (-512)⟩, ⟨21, 2245, 1536⟩, ⟨21, 3365, 0⟩, ⟨21, 4485, (-1536)⟩, ⟨21, 5605, 512⟩, ⟨21, 6725, (-1024)⟩]
theorem ky27p7 (b : Int) : ACalls Go.Proofs.Tryz.prog 12 [.int .i64 7, .int .i64 b, .int .i64 27, .int .i64 5] [] 0 (fun r _ _ => r = .tup [.tsl 7 (kl27p7.map Sp.e), .int .i64 7745]) := (runOKX_sound hLd kT27p7_ok (by kernel_rfl : runOKX tr.find kX27p7 500 12 [.int .i64 7, .int .i64 b, .int .i64 27, .int .i64 5] (.tup [.tsl 7 (kl27p7.map Sp.e), .int .i64 7745]) = true)).2
theorem ap27p7 : ACalls Go.Proofs.Tryz.prog 13 [.tsl 7 (kl27p7.map Sp.e), .int .i64 5, .int .i64 7745] [] 0 (fun r _ _ => r = .bool true) := (runOKX_sound hLd rT3_ok (by kernel_rfl : runOKX tr.find rX 3000 13 [.tsl 7 (kl27p7.map Sp.e), .int .i64 5, .int .i64 7745] (.bool true) = true)).2
theorem lw27p7 (b : Int) (h3 : -7 ≤ b) (h4 : b ≤ 7) : ACalls Go.Proofs.Tryz.prog 4 [.int .i64 7, .int .i64 b, .int .i64 27] [] 0 (fun r _ _ => r = .bool true) := keys_pos 7 b 27 1024 kl27p7 7745 cl27 (ky27p7 b) ap27p7 (by decide) (by decide) h3 h4 rfl rfl (hg_of rfl) (by decide) rfl

def kl27p7z : List Sp := [⟨23, 5, 1024⟩, ⟨23, 805, (-512)⟩, ⟨23, 1605, 1536⟩, ⟨23, 2405, 0⟩, ⟨23, 3205, (-1536)⟩, ⟨23, 4005, 512⟩, ⟨23, 4805, (-1024)⟩]
theorem ky27p7z : ACalls Go.Proofs.Tryz.prog 12 [.int .i64 0, .int .i64 7, .int .i64 27, .int .i64 5] [] 0 (fun r _ _ => r = .tup [.tsl 7 (kl27p7z.map Sp.e), .int .i64 5505]) := (runOKX_sound hLd kT27p7_ok (by kernel_rfl : runOKX tr.find kX27p7 500 12 [.int .i64 0, .int .i64 7, .int .i64 27, .int .i64 5] (.tup [.tsl 7 (kl27p7z.map Sp.e), .int .i64 5505]) = true)).2
theorem ap27p7z : ACalls Go.Proofs.Tryz.prog 13 [.tsl 7 (kl27p7z.map Sp.e), .int .i64 5, .int .i64 5505] [] 0 (fun r _ _ => r = .bool true) := (runOKX_sound hLd rT3_ok (by kernel_rfl : runOKX tr.find rX 3000 13 [.tsl 7 (kl27p7z.map Sp.e), .int .i64 5, .int .i64 5505] (.bool true) = true)).2
theorem lw27p7z : ACalls Go.Proofs.Tryz.prog 4 [.int .i64 0, .int .i64 7, .int .i64 27] [] 0 (fun r _ _ => r = .bool true) := keys_zero 0 7 27 1024 kl27p7z 5505 cl27 ky27p7z ap27p7z (by decide) (by decide) (by decide) (by decide) rfl rfl (hg_of rfl) rfl rfl rfl

theorem lw270 : ACalls Go.Proofs.Tryz.prog 4 [.int .i64 0, .int .i64 0, .int .i64 27] [] 0 (fun r _ _ => r = .bool true) := (runOKX_sound hLd hT_ok (by kernel_rfl : runOKX tr.find hX 500 4 [.int .i64 0, .int .i64 0, .int .i64 27] (.bool true) = true)).2

theorem all27 (f b : Int) (h1 : -7 ≤ f) (h2 : f ≤ 7) (h3 : -7 ≤ b) (h4 : b ≤ 7) : ACalls Go.Proofs.Tryz.prog 4 [.int .i64 f, .int .i64 b, .int .i64 27] [] 0 (fun r _ _ => r = .bool true) := by
  have hf : f = -7 ∨ f = -6 ∨ f = -5 ∨ f = -4 ∨ f = -3 ∨ f = -2 ∨ f = -1 ∨ f = 0 ∨ f = 1 ∨ f = 2 ∨ f = 3 ∨ f = 4 ∨ f = 5 ∨ f = 6 ∨ f = 7 := by omega
  rcases hf with rfl | rfl | rfl | rfl | rfl | rfl | rfl | rfl | rfl | rfl | rfl | rfl | rfl | rfl | rfl
  · exact lw27n7 b h3 h4
  · exact lw27n6 b h3 h4
  · exact lw27n5 b h3 h4
  · exact lw27n4 b h3 h4
  · exact lw27n3 b h3 h4
  · exact lw27n2 b h3 h4
  · exact lw27n1 b h3 h4
  · have hb : b = -7 ∨ b = -6 ∨ b = -5 ∨ b = -4 ∨ b = -3 ∨ b = -2 ∨ b = -1 ∨ b = 0 ∨ b = 1 ∨ b = 2 ∨ b = 3 ∨ b = 4 ∨ b = 5 ∨ b = 6 ∨ b = 7 := by omega
    rcases hb with rfl | rfl | rfl | rfl | rfl | rfl | rfl | rfl | rfl | rfl | rfl | rfl | rfl | rfl | rfl
    · exact lw27n7z
    · exact lw27n6z
    · exact lw27n5z
    · exact lw27n4z
    · exact lw27n3z
    · exact lw27n2z
    · exact lw27n1z
    · exact lw270
    · exact lw27p1z
    · exact lw27p2z
    · exact lw27p3z
    · exact lw27p4z
    · exact lw27p5z
    · exact lw27p6z
    · exact lw27p7z
  · exact lw27p1 b h3 h4
  · exact lw27p2 b h3 h4
  · exact lw27p3 b h3 h4
  · exact lw27p4 b h3 h4
  · exact lw27p5 b h3 h4
  · exact lw27p6 b h3 h4
  · exact lw27p7 b h3 h4
end
end Go.AM.Dz
