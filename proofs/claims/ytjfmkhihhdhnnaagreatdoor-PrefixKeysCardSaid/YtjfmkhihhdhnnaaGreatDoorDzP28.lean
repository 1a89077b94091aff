/- A part of a proof about the given program: what its name says. No premise beyond the statements'. -/
import Derived.Test.YtjfmkhihhdhnnaaGreatDoorDzPT
import Derived.KernelRfl
set_option linter.unusedSimpArgs false
set_option linter.unusedVariables false
/- The signs of keys at one clef: known runs. -/
namespace Go.AM.Dz
open Go.AM
noncomputable section

theorem cl28 : ACalls Go.Proofs.Tryz.prog 10 [.int .i64 28] [] 0 (fun r _ _ => r = (.tup [(.int .i64 0), (.bool true)])) := (runOKX_sound hLd hdT0_ok (by kernel_rfl : runOKX tr.find hdX0 200 10 [.int .i64 28] (.tup [(.int .i64 0), (.bool true)]) = true)).2

theorem sg28n7 : AV.pure (.tup [(.tsl 1 [[(.int .i64 (-1))], [(.int .i64 2)], [(.int .i64 (-2))], [(.int .i64 1)], [(.int .i64 (-3))], [(.int .i64 0)], [(.int .i64 (-4))]]), (.int .i64 0)]) = true ∧ ACalls Go.Proofs.Tryz.prog 28 [.int .i64 (-7), .int .i64 28] [] 0 (fun r _ _ => r = (.tup [(.tsl 1 [[(.int .i64 (-1))], [(.int .i64 2)], [(.int .i64 (-2))], [(.int .i64 1)], [(.int .i64 (-3))], [(.int .i64 0)], [(.int .i64 (-4))]]), (.int .i64 0)])) := runOKX_sound hLd hdT0_ok (by kernel_rfl : runOKX tr.find hdX0 500 28 [.int .i64 (-7), .int .i64 28] (.tup [(.tsl 1 [[(.int .i64 (-1))], [(.int .i64 2)], [(.int .i64 (-2))], [(.int .i64 1)], [(.int .i64 (-3))], [(.int .i64 0)], [(.int .i64 (-4))]]), (.int .i64 0)]) = true)
def kT28n7 : List (Nat × (List AV × AV)) := (28, ([.int .i64 (-7), .int .i64 28], (.tup [(.tsl 1 [[(.int .i64 (-1))], [(.int .i64 2)], [(.int .i64 (-2))], [(.int .i64 1)], [(.int .i64 (-3))], [(.int .i64 0)], [(.int .i64 (-4))]]), (.int .i64 0)]))) :: eT3
theorem kT28n7_ok : TOK Go.Proofs.Tryz.prog kT28n7 := TOK.cons sg28n7 eT3_ok
def kX28n7 : XP := ⟨hdZ, kT28n7, hdG, kp.find⟩
def kl28n7 : List Sp := [⟨22, 5, (-512)⟩, ⟨22, 1025, 1024⟩, ⟨22, 2045, (-1024)⟩, ⟨22, 3065, 512⟩, ⟨22, 4085, (-1536)⟩, ⟨22, 5105, 0⟩, ⟨22, 6125, (-2048)⟩]
theorem ky28n7 (b : Int) : ACalls Go.Proofs.Tryz.prog 12 [.int .i64 (-7), .int .i64 b, .int .i64 28, .int .i64 5] [] 0 (fun r _ _ => r = .tup [.tsl 7 (kl28n7.map Sp.e), .int .i64 7045]) := (runOKX_sound hLd kT28n7_ok (by kernel_rfl : runOKX tr.find kX28n7 500 12 [.int .i64 (-7), .int .i64 b, .int .i64 28, .int .i64 5] (.tup [.tsl 7 (kl28n7.map Sp.e), .int .i64 7045]) = true)).2
theorem ap28n7 : ACalls Go.Proofs.Tryz.prog 13 [.tsl 7 (kl28n7.map Sp.e), .int .i64 5, .int .i64 7045] [] 0 (fun r _ _ => r = .bool true) := (runOKX_sound hLd rT3_ok (by kernel_rfl : runOKX tr.find rX 3000 13 [.tsl 7 (kl28n7.map Sp.e), .int .i64 5, .int .i64 7045] (.bool true) = true)).2
theorem lw28n7 (b : Int) (h3 : -7 ≤ b) (h4 : b ≤ 7) : ACalls Go.Proofs.Tryz.prog 4 [.int .i64 (-7), .int .i64 b, .int .i64 28] [] 0 (fun r _ _ => r = .bool true) := keys_neg (-7) b 28 0 kl28n7 7045 cl28 (ky28n7 b) ap28n7 (by decide) (by decide) h3 h4 rfl rfl (hg_of rfl) (by decide) rfl

def kl28n7z : List Sp := [⟨23, 5, (-512)⟩, ⟨23, 805, 1024⟩, ⟨23, 1605, (-1024)⟩, ⟨23, 2405, 512⟩, ⟨23, 3205, (-1536)⟩, ⟨23, 4005, 0⟩, ⟨23, 4805, (-2048)⟩]
theorem ky28n7z : ACalls Go.Proofs.Tryz.prog 12 [.int .i64 0, .int .i64 (-7), .int .i64 28, .int .i64 5] [] 0 (fun r _ _ => r = .tup [.tsl 7 (kl28n7z.map Sp.e), .int .i64 5505]) := (runOKX_sound hLd kT28n7_ok (by kernel_rfl : runOKX tr.find kX28n7 500 12 [.int .i64 0, .int .i64 (-7), .int .i64 28, .int .i64 5] (.tup [.tsl 7 (kl28n7z.map Sp.e), .int .i64 5505]) = true)).2
theorem ap28n7z : ACalls Go.Proofs.Tryz.prog 13 [.tsl 7 (kl28n7z.map Sp.e), .int .i64 5, .int .i64 5505] [] 0 (fun r _ _ => r = .bool true) := (runOKX_sound hLd rT3_ok (by kernel_rfl : runOKX tr.find rX 3000 13 [.tsl 7 (kl28n7z.map Sp.e), .int .i64 5, .int .i64 5505] (.bool true) = true)).2
theorem lw28n7z : ACalls Go.Proofs.Tryz.prog 4 [.int .i64 0, .int .i64 (-7), .int .i64 28] [] 0 (fun r _ _ => r = .bool true) := keys_zero 0 (-7) 28 0 kl28n7z 5505 cl28 ky28n7z ap28n7z (by decide) (by decide) (by decide) (by decide) rfl rfl (hg_of rfl) rfl rfl rfl

theorem sg28n6 : AV.pure (.tup [(.tsl 1 [[(.int .i64 (-1))], [(.int .i64 2)], [(.int .i64 (-2))], [(.int .i64 1)], [(.int .i64 (-3))], [(.int .i64 0)]]), (.int .i64 0)]) = true ∧ ACalls Go.Proofs.Tryz.prog 28 [.int .i64 (-6), .int .i64 28] [] 0 (fun r _ _ => r = (.tup [(.tsl 1 [[(.int .i64 (-1))], [(.int .i64 2)], [(.int .i64 (-2))], [(.int .i64 1)], [(.int .i64 (-3))], [(.int .i64 0)]]), (.int .i64 0)])) := runOKX_sound hLd hdT0_ok (by kernel_rfl : runOKX tr.find hdX0 500 28 [.int .i64 (-6), .int .i64 28] (.tup [(.tsl 1 [[(.int .i64 (-1))], [(.int .i64 2)], [(.int .i64 (-2))], [(.int .i64 1)], [(.int .i64 (-3))], [(.int .i64 0)]]), (.int .i64 0)]) = true)
def kT28n6 : List (Nat × (List AV × AV)) := (28, ([.int .i64 (-6), .int .i64 28], (.tup [(.tsl 1 [[(.int .i64 (-1))], [(.int .i64 2)], [(.int .i64 (-2))], [(.int .i64 1)], [(.int .i64 (-3))], [(.int .i64 0)]]), (.int .i64 0)]))) :: eT3
theorem kT28n6_ok : TOK Go.Proofs.Tryz.prog kT28n6 := TOK.cons sg28n6 eT3_ok
def kX28n6 : XP := ⟨hdZ, kT28n6, hdG, kp.find⟩
def kl28n6 : List Sp := [⟨22, 5, (-512)⟩, ⟨22, 1025, 1024⟩, ⟨22, 2045, (-1024)⟩, ⟨22, 3065, 512⟩, ⟨22, 4085, (-1536)⟩, ⟨22, 5105, 0⟩]
theorem ky28n6 (b : Int) : ACalls Go.Proofs.Tryz.prog 12 [.int .i64 (-6), .int .i64 b, .int .i64 28, .int .i64 5] [] 0 (fun r _ _ => r = .tup [.tsl 7 (kl28n6.map Sp.e), .int .i64 6025]) := (runOKX_sound hLd kT28n6_ok (by kernel_rfl : runOKX tr.find kX28n6 500 12 [.int .i64 (-6), .int .i64 b, .int .i64 28, .int .i64 5] (.tup [.tsl 7 (kl28n6.map Sp.e), .int .i64 6025]) = true)).2
theorem ap28n6 : ACalls Go.Proofs.Tryz.prog 13 [.tsl 7 (kl28n6.map Sp.e), .int .i64 5, .int .i64 6025] [] 0 (fun r _ _ => r = .bool true) := (runOKX_sound hLd rT3_ok (by kernel_rfl : runOKX tr.find rX 3000 13 [.tsl 7 (kl28n6.map Sp.e), .int .i64 5, .int .i64 6025] (.bool true) = true)).2
theorem lw28n6 (b : Int) (h3 : -7 ≤ b) (h4 : b ≤ 7) : ACalls Go.Proofs.Tryz.prog 4 [.int .i64 (-6), .int .i64 b, .int .i64 28] [] 0 (fun r _ _ => r = .bool true) := keys_neg (-6) b 28 0 kl28n6 6025 cl28 (ky28n6 b) ap28n6 (by decide) (by decide) h3 h4 rfl rfl (hg_of rfl) (by decide) rfl

def kl28n6z : List Sp := [⟨23, 5, (-512)⟩, ⟨23, 805, 1024⟩, ⟨23, 1605, (-1024)⟩, ⟨23, 2405, 512⟩, ⟨23, 3205, (-1536)⟩, ⟨23, 4005, 0⟩]
theorem ky28n6z : ACalls Go.Proofs.Tryz.prog 12 [.int .i64 0, .int .i64 (-6), .int .i64 28, .int .i64 5] [] 0 (fun r _ _ => r = .tup [.tsl 7 (kl28n6z.map Sp.e), .int .i64 4705]) := (runOKX_sound hLd kT28n6_ok (by kernel_rfl : runOKX tr.find kX28n6 500 12 [.int .i64 0, .int .i64 (-6), .int .i64 28, .int .i64 5] (.tup [.tsl 7 (kl28n6z.map Sp.e), .int .i64 4705]) = true)).2
theorem ap28n6z : ACalls Go.Proofs.Tryz.prog 13 [.tsl 7 (kl28n6z.map Sp.e), .int .i64 5, .int .i64 4705] [] 0 (fun r _ _ => r = .bool true) := (runOKX_sound hLd rT3_ok (by kernel_rfl : runOKX tr.find rX 3000 13 [.tsl 7 (kl28n6z.map Sp.e), .int .i64 5, .int .i64 4705] (.bool true) = true)).2
theorem lw28n6z : ACalls Go.Proofs.Tryz.prog 4 [.int .i64 0, .int .i64 (-6), .int .i64 28] [] 0 (fun r _ _ => r = .bool true) := keys_zero 0 (-6) 28 0 kl28n6z 4705 cl28 ky28n6z ap28n6z (by decide) (by decide) (by decide) (by decide) rfl rfl (hg_of rfl) rfl rfl rfl

theorem sg28n5 : AV.pure (.tup [(.tsl 1 [[(.int .i64 (-1))], [(.int .i64 2)], [(.int .i64 (-2))], [(.int .i64 1)], [(.int .i64 (-3))]]), (.int .i64 0)]) = true ∧ ACalls Go.Proofs.Tryz.prog 28 [.int .i64 (-5), .int .i64 28] [] 0 (fun r _ _ => r = (.tup [(.tsl 1 [[(.int .i64 (-1))], [(.int .i64 2)], [(.int .i64 (-2))], [(.int .i64 1)], [(.int .i64 (-3))]]), (.int .i64 0)])) := runOKX_sound hLd hdT0_ok (by kernel_rfl : runOKX tr.find hdX0 500 28 [.int .i64 (-5), .int .i64 28] (.tup [(.tsl 1 [[(.int .i64 (-1))], [(.int .i64 2)], [(.int .i64 (-2))], [(.int .i64 1)], [(.int .i64 (-3))]]), (.int .i64 0)]) = true)
def kT28n5 : List (Nat × (List AV × AV)) := (28, ([.int .i64 (-5), .int .i64 28], (.tup [(.tsl 1 [[(.int .i64 (-1))], [(.int .i64 2)], [(.int .i64 (-2))], [(.int .i64 1)], [(.int .i64 (-3))]]), (.int .i64 0)]))) :: eT3
theorem kT28n5_ok : TOK Go.Proofs.Tryz.prog kT28n5 := TOK.cons sg28n5 eT3_ok
def kX28n5 : XP := ⟨hdZ, kT28n5, hdG, kp.find⟩
def kl28n5 : List Sp := [⟨22, 5, (-512)⟩, ⟨22, 1025, 1024⟩, ⟨22, 2045, (-1024)⟩, ⟨22, 3065, 512⟩, ⟨22, 4085, (-1536)⟩]
theorem ky28n5 (b : Int) : ACalls Go.Proofs.Tryz.prog 12 [.int .i64 (-5), .int .i64 b, .int .i64 28, .int .i64 5] [] 0 (fun r _ _ => r = .tup [.tsl 7 (kl28n5.map Sp.e), .int .i64 5005]) := (runOKX_sound hLd kT28n5_ok (by kernel_rfl : runOKX tr.find kX28n5 500 12 [.int .i64 (-5), .int .i64 b, .int .i64 28, .int .i64 5] (.tup [.tsl 7 (kl28n5.map Sp.e), .int .i64 5005]) = true)).2
theorem ap28n5 : ACalls Go.Proofs.Tryz.prog 13 [.tsl 7 (kl28n5.map Sp.e), .int .i64 5, .int .i64 5005] [] 0 (fun r _ _ => r = .bool true) := (runOKX_sound hLd rT3_ok (by kernel_rfl : runOKX tr.find rX 3000 13 [.tsl 7 (kl28n5.map Sp.e), .int .i64 5, .int .i64 5005] (.bool true) = true)).2
theorem lw28n5 (b : Int) (h3 : -7 ≤ b) (h4 : b ≤ 7) : ACalls Go.Proofs.Tryz.prog 4 [.int .i64 (-5), .int .i64 b, .int .i64 28] [] 0 (fun r _ _ => r = .bool true) := keys_neg (-5) b 28 0 kl28n5 5005 cl28 (ky28n5 b) ap28n5 (by decide) (by decide) h3 h4 rfl rfl (hg_of rfl) (by decide) rfl

def kl28n5z : List Sp := [⟨23, 5, (-512)⟩, ⟨23, 805, 1024⟩, ⟨23, 1605, (-1024)⟩, ⟨23, 2405, 512⟩, ⟨23, 3205, (-1536)⟩]
theorem ky28n5z : ACalls Go.Proofs.Tryz.prog 12 [.int .i64 0, .int .i64 (-5), .int .i64 28, .int .i64 5] [] 0 (fun r _ _ => r = .tup [.tsl 7 (kl28n5z.map Sp.e), .int .i64 3905]) := (runOKX_sound hLd kT28n5_ok (by kernel_rfl : runOKX tr.find kX28n5 500 12 [.int .i64 0, .int .i64 (-5), .int .i64 28, .int .i64 5] (.tup [.tsl 7 (kl28n5z.map Sp.e), .int .i64 3905]) = true)).2
theorem ap28n5z : ACalls Go.Proofs.Tryz.prog 13 [.tsl 7 (kl28n5z.map Sp.e), .int .i64 5, .int .i64 3905] [] 0 (fun r _ _ => r = .bool true) := (runOKX_sound hLd rT3_ok (by kernel_rfl : runOKX tr.find rX 3000 13 [.tsl 7 (kl28n5z.map Sp.e), .int .i64 5, .int .i64 3905] (.bool true) = true)).2
theorem lw28n5z : ACalls Go.Proofs.Tryz.prog 4 [.int .i64 0, .int .i64 (-5), .int .i64 28] [] 0 (fun r _ _ => r = .bool true) := keys_zero 0 (-5) 28 0 kl28n5z 3905 cl28 ky28n5z ap28n5z (by decide) (by decide) (by decide) (by decide) rfl rfl (hg_of rfl) rfl rfl rfl

theorem sg28n4 : AV.pure (.tup [(.tsl 1 [[(.int .i64 (-1))], [(.int .i64 2)], [(.int .i64 (-2))], [(.int .i64 1)]]), (.int .i64 0)]) = true ∧ ACalls Go.Proofs.Tryz.prog 28 [.int .i64 (-4), .int .i64 28] [] 0 (fun r _ _ => r = (.tup [(.tsl 1 [[(.int .i64 (-1))], [(.int .i64 2)], [(.int .i64 (-2))], [(.int .i64 1)]]), (.int .i64 0)])) := runOKX_sound hLd hdT0_ok (by kernel_rfl : runOKX tr.find hdX0 500 28 [.int .i64 (-4), .int .i64 28] (.tup [(.tsl 1 [[(.int .i64 (-1))], [(.int .i64 2)], [(.int .i64 (-2))], [(.int .i64 1)]]), (.int .i64 0)]) = true)
def kT28n4 : List (Nat × (List AV × AV)) := (28, ([.int .i64 (-4), .int .i64 28], (.tup [(.tsl 1 [[(.int .i64 (-1))], [(.int .i64 2)], [(.int .i64 (-2))], [(.int .i64 1)]]), (.int .i64 0)]))) :: eT3
theorem kT28n4_ok : TOK Go.Proofs.Tryz.prog kT28n4 := TOK.cons sg28n4 eT3_ok
def kX28n4 : XP := ⟨hdZ, kT28n4, hdG, kp.find⟩
def kl28n4 : List Sp := [⟨22, 5, (-512)⟩, ⟨22, 1025, 1024⟩, ⟨22, 2045, (-1024)⟩, ⟨22, 3065, 512⟩]
theorem ky28n4 (b : Int) : ACalls Go.Proofs.Tryz.prog 12 [.int .i64 (-4), .int .i64 b, .int .i64 28, .int .i64 5] [] 0 (fun r _ _ => r = .tup [.tsl 7 (kl28n4.map Sp.e), .int .i64 3985]) := (runOKX_sound hLd kT28n4_ok (by kernel_rfl : runOKX tr.find kX28n4 500 12 [.int .i64 (-4), .int .i64 b, .int .i64 28, .int .i64 5] (.tup [.tsl 7 (kl28n4.map Sp.e), .int .i64 3985]) = true)).2
theorem ap28n4 : ACalls Go.Proofs.Tryz.prog 13 [.tsl 7 (kl28n4.map Sp.e), .int .i64 5, .int .i64 3985] [] 0 (fun r _ _ => r = .bool true) := (runOKX_sound hLd rT3_ok (by kernel_rfl : runOKX tr.find rX 3000 13 [.tsl 7 (kl28n4.map Sp.e), .int .i64 5, .int .i64 3985] (.bool true) = true)).2
theorem lw28n4 (b : Int) (h3 : -7 ≤ b) (h4 : b ≤ 7) : ACalls Go.Proofs.Tryz.prog 4 [.int .i64 (-4), .int .i64 b, .int .i64 28] [] 0 (fun r _ _ => r = .bool true) := keys_neg (-4) b 28 0 kl28n4 3985 cl28 (ky28n4 b) ap28n4 (by decide) (by decide) h3 h4 rfl rfl (hg_of rfl) (by decide) rfl

def kl28n4z : List Sp := [⟨23, 5, (-512)⟩, ⟨23, 805, 1024⟩, ⟨23, 1605, (-1024)⟩, ⟨23, 2405, 512⟩]
theorem ky28n4z : ACalls Go.Proofs.Tryz.prog 12 [.int .i64 0, .int .i64 (-4), .int .i64 28, .int .i64 5] [] 0 (fun r _ _ => r = .tup [.tsl 7 (kl28n4z.map Sp.e), .int .i64 3105]) := (runOKX_sound hLd kT28n4_ok (by kernel_rfl : runOKX tr.find kX28n4 500 12 [.int .i64 0, .int .i64 (-4), .int .i64 28, .int .i64 5] (.tup [.tsl 7 (kl28n4z.map Sp.e), .int .i64 3105]) = true)).2
theorem ap28n4z : ACalls Go.Proofs.Tryz.prog 13 [.tsl 7 (kl28n4z.map Sp.e), .int .i64 5, .int .i64 3105] [] 0 (fun r _ _ => r = .bool true) := (runOKX_sound hLd rT3_ok (by kernel_rfl : runOKX tr.find rX 3000 13 [.tsl 7 (kl28n4z.map Sp.e), .int .i64 5, .int .i64 3105] (.bool true) = true)).2
theorem lw28n4z : ACalls Go.Proofs.Tryz.prog 4 [.int .i64 0, .int .i64 (-4), .int .i64 28] [] 0 (fun r _ _ => r = .bool true) := keys_zero 0 (-4) 28 0 kl28n4z 3105 cl28 ky28n4z ap28n4z (by decide) (by decide) (by decide) (by decide) rfl rfl (hg_of rfl) rfl rfl rfl

theorem sg28n3 : AV.pure (.tup [(.tsl 1 [[(.int .i64 (-1))], [(.int .i64 2)], [(.int .i64 (-2))]]), (.int .i64 0)]) = true ∧ ACalls Go.Proofs.Tryz.prog 28 [.int .i64 (-3), .int .i64 28] [] 0 (fun r _ _ => r = (.tup [(.tsl 1 [[(.int .i64 (-1))], [(.int .i64 2)], [(.int .i64 (-2))]]), (.int .i64 0)])) := runOKX_sound hLd hdT0_ok (by kernel_rfl : runOKX tr.find hdX0 500 28 [.int .i64 (-3), .int .i64 28] (.tup [(.tsl 1 [[(.int .i64 (-1))], [(.int .i64 2)], [(.int .i64 (-2))]]), (.int .i64 0)]) = true)
def kT28n3 : List (Nat × (List AV × AV)) := (28, ([.int .i64 (-3), .int .i64 28], (.tup [(.tsl 1 [[(.int .i64 (-1))], [(.int .i64 2)], [(.int .i64 (-2))]]), (.int .i64 0)]))) :: eT3
theorem kT28n3_ok : TOK Go.Proofs.Tryz.prog kT28n3 := TOK.cons sg28n3 eT3_ok
def kX28n3 : XP := ⟨hdZ, kT28n3, hdG, kp.find⟩
def kl28n3 : List Sp := [⟨22, 5, (-512)⟩, ⟨22, 1025, 1024⟩, ⟨22, 2045, (-1024)⟩]
theorem ky28n3 (b : Int) : ACalls Go.Proofs.Tryz.prog 12 [.int .i64 (-3), .int .i64 b, .int .i64 28, .int .i64 5] [] 0 (fun r _ _ => r = .tup [.tsl 7 (kl28n3.map Sp.e), .int .i64 2965]) := (runOKX_sound hLd kT28n3_ok (by kernel_rfl : runOKX tr.find kX28n3 500 12 [.int .i64 (-3), .int .i64 b, .int .i64 28, .int .i64 5] (.tup [.tsl 7 (kl28n3.map Sp.e), .int .i64 2965]) = true)).2
theorem ap28n3 : ACalls Go.Proofs.Tryz.prog 13 [.tsl 7 (kl28n3.map Sp.e), .int .i64 5, .int .i64 2965] [] 0 (fun r _ _ => r = .bool true) := (runOKX_sound hLd rT3_ok (by kernel_rfl : runOKX tr.find rX 3000 13 [.tsl 7 (kl28n3.map Sp.e), .int .i64 5, .int .i64 2965] (.bool true) = true)).2
theorem lw28n3 (b : Int) (h3 : -7 ≤ b) (h4 : b ≤ 7) : ACalls Go.Proofs.Tryz.prog 4 [.int .i64 (-3), .int .i64 b, .int .i64 28] [] 0 (fun r _ _ => r = .bool true) := keys_neg (-3) b 28 0 kl28n3 2965 cl28 (ky28n3 b) ap28n3 (by decide) (by decide) h3 h4 rfl rfl (hg_of rfl) (by decide) rfl

def kl28n3z : List Sp := [⟨23, 5, (-512)⟩, ⟨23, 805, 1024⟩, ⟨23, 1605, (-1024)⟩]
theorem ky28n3z : ACalls Go.Proofs.Tryz.prog 12 [.int .i64 0, .int .i64 (-3), .int .i64 28, .int .i64 5] [] 0 (fun r _ _ => r = .tup [.tsl 7 (kl28n3z.map Sp.e), .int .i64 2305]) := (runOKX_sound hLd kT28n3_ok (by kernel_rfl : runOKX tr.find kX28n3 500 12 [.int .i64 0, .int .i64 (-3), .int .i64 28, .int .i64 5] (.tup [.tsl 7 (kl28n3z.map Sp.e), .int .i64 2305]) = true)).2
theorem ap28n3z : ACalls Go.Proofs.Tryz.prog 13 [.tsl 7 (kl28n3z.map Sp.e), .int .i64 5, .int .i64 2305] [] 0 (fun r _ _ => r = .bool true) := (runOKX_sound hLd rT3_ok (by kernel_rfl : runOKX tr.find rX 3000 13 [.tsl 7 (kl28n3z.map Sp.e), .int .i64 5, .int .i64 2305] (.bool true) = true)).2
theorem lw28n3z : ACalls Go.Proofs.Tryz.prog 4 [.int .i64 0, .int .i64 (-3), .int .i64 28] [] 0 (fun r _ _ => r = .bool true) := keys_zero 0 (-3) 28 0 kl28n3z 2305 cl28 ky28n3z ap28n3z (by decide) (by decide) (by decide) (by decide) rfl rfl (hg_of rfl) rfl rfl rfl

theorem sg28n2 : AV.pure (.tup [(.tsl 1 [[(.int .i64 (-1))], [(.int .i64 2)]]), (.int .i64 0)]) = true ∧ ACalls Go.Proofs.Tryz.prog 28 [.int .i64 (-2), .int .i64 28] [] 0 (fun r _ _ => r = (.tup [(.tsl 1 [[(.int .i64 (-1))], [(.int .i64 2)]]), (.int .i64 0)])) := runOKX_sound hLd hdT0_ok (by kernel_rfl : runOKX tr.find hdX0 500 28 [.int .i64 (-2), .int .i64 28] (.tup [(.tsl 1 [[(.int .i64 (-1))], [(.int .i64 2)]]), (.int .i64 0)]) = true)
def kT28n2 : List (Nat × (List AV × AV)) := (28, ([.int .i64 (-2), .int .i64 28], (.tup [(.tsl 1 [[(.int .i64 (-1))], [(.int .i64 2)]]), (.int .i64 0)]))) :: eT3
theorem kT28n2_ok : TOK Go.Proofs.Tryz.prog kT28n2 := TOK.cons sg28n2 eT3_ok
def kX28n2 : XP := ⟨hdZ, kT28n2, hdG, kp.find⟩
def kl28n2 : List Sp := [⟨22, 5, (-512)⟩, ⟨22, 1025, 1024⟩]
theorem ky28n2 (b : Int) : ACalls Go.Proofs.Tryz.prog 12 [.int .i64 (-2), .int .i64 b, .int .i64 28, .int .i64 5] [] 0 (fun r _ _ => r = .tup [.tsl 7 (kl28n2.map Sp.e), .int .i64 1945]) := (runOKX_sound hLd kT28n2_ok (by kernel_rfl : runOKX tr.find kX28n2 500 12 [.int .i64 (-2), .int .i64 b, .int .i64 28, .int .i64 5] (.tup [.tsl 7 (kl28n2.map Sp.e), .int .i64 1945]) = true)).2
theorem ap28n2 : ACalls Go.Proofs.Tryz.prog 13 [.tsl 7 (kl28n2.map Sp.e), .int .i64 5, .int .i64 1945] [] 0 (fun r _ _ => r = .bool true) := (runOKX_sound hLd rT3_ok (by kernel_rfl : runOKX tr.find rX 3000 13 [.tsl 7 (kl28n2.map Sp.e), .int .i64 5, .int .i64 1945] (.bool true) = true)).2
theorem lw28n2 (b : Int) (h3 : -7 ≤ b) (h4 : b ≤ 7) : ACalls Go.Proofs.Tryz.prog 4 [.int .i64 (-2), .int .i64 b, .int .i64 28] [] 0 (fun r _ _ => r = .bool true) := keys_neg (-2) b 28 0 kl28n2 1945 cl28 (ky28n2 b) ap28n2 (by decide) (by decide) h3 h4 rfl rfl (hg_of rfl) (by decide) rfl

def kl28n2z : List Sp := [⟨23, 5, (-512)⟩, ⟨23, 805, 1024⟩]
theorem ky28n2z : ACalls Go.Proofs.Tryz.prog 12 [.int .i64 0, .int .i64 (-2), .int .i64 28, .int .i64 5] [] 0 (fun r _ _ => r = .tup [.tsl 7 (kl28n2z.map Sp.e), .int .i64 1505]) := (runOKX_sound hLd kT28n2_ok (by kernel_rfl : runOKX tr.find kX28n2 500 12 [.int .i64 0, .int .i64 (-2), .int .i64 28, .int .i64 5] (.tup [.tsl 7 (kl28n2z.map Sp.e), .int .i64 1505]) = true)).2
theorem ap28n2z : ACalls Go.Proofs.Tryz.prog 13 [.tsl 7 (kl28n2z.map Sp.e), .int .i64 5, .int .i64 1505] [] 0 (fun r _ _ => r = .bool true) := (runOKX_sound hLd rT3_ok (by kernel_rfl : runOKX tr.find rX 3000 13 [.tsl 7 (kl28n2z.map Sp.e), .int .i64 5, .int .i64 1505] (.bool true) = true)).2
theorem lw28n2z : ACalls Go.Proofs.Tryz.prog 4 [.int .i64 0, .int .i64 (-2), .int .i64 28] [] 0 (fun r _ _ => r = .bool true) := keys_zero 0 (-2) 28 0 kl28n2z 1505 cl28 ky28n2z ap28n2z (by decide) (by decide) (by decide) (by decide) rfl rfl (hg_of rfl) rfl rfl rfl

theorem sg28n1 : AV.pure (.tup [(.tsl 1 [[(.int .i64 (-1))]]), (.int .i64 0)]) = true ∧ ACalls Go.Proofs.Tryz.prog 28 [.int .i64 (-1), .int .i64 28] [] 0 (fun r _ _ => r = (.tup [(.tsl 1 [[(.int .i64 (-1))]]), (.int .i64 0)])) := runOKX_sound hLd hdT0_ok (by kernel_rfl : runOKX tr.find hdX0 500 28 [.int .i64 (-1), .int .i64 28] (.tup [(.tsl 1 [[(.int .i64 (-1))]]), (.int .i64 0)]) = true)
def kT28n1 : List (Nat × (List AV × AV)) := (28, ([.int .i64 (-1), .int .i64 28], (.tup [(.tsl 1 [[(.int .i64 (-1))]]), (.int .i64 0)]))) :: eT3
theorem kT28n1_ok : TOK Go.Proofs.Tryz.prog kT28n1 := TOK.cons sg28n1 eT3_ok
def kX28n1 : XP := ⟨hdZ, kT28n1, hdG, kp.find⟩
def kl28n1 : List Sp := [⟨22, 5, (-512)⟩]
theorem ky28n1 (b : Int) : ACalls Go.Proofs.Tryz.prog 12 [.int .i64 (-1), .int .i64 b, .int .i64 28, .int .i64 5] [] 0 (fun r _ _ => r = .tup [.tsl 7 (kl28n1.map Sp.e), .int .i64 925]) := (runOKX_sound hLd kT28n1_ok (by kernel_rfl : runOKX tr.find kX28n1 500 12 [.int .i64 (-1), .int .i64 b, .int .i64 28, .int .i64 5] (.tup [.tsl 7 (kl28n1.map Sp.e), .int .i64 925]) = true)).2
theorem ap28n1 : ACalls Go.Proofs.Tryz.prog 13 [.tsl 7 (kl28n1.map Sp.e), .int .i64 5, .int .i64 925] [] 0 (fun r _ _ => r = .bool true) := (runOKX_sound hLd rT3_ok (by kernel_rfl : runOKX tr.find rX 3000 13 [.tsl 7 (kl28n1.map Sp.e), .int .i64 5, .int .i64 925] (.bool true) = true)).2
theorem lw28n1 (b : Int) (h3 : -7 ≤ b) (h4 : b ≤ 7) : ACalls Go.Proofs.Tryz.prog 4 [.int .i64 (-1), .int .i64 b, .int .i64 28] [] 0 (fun r _ _ => r = .bool true) := keys_neg (-1) b 28 0 kl28n1 925 cl28 (ky28n1 b) ap28n1 (by decide) (by decide) h3 h4 rfl rfl (hg_of rfl) (by decide) rfl

def kl28n1z : List Sp := [⟨23, 5, (-512)⟩]
theorem ky28n1z : ACalls Go.Proofs.Tryz.prog 12 [.int .i64 0, .int .i64 (-1), .int .i64 28, .int .i64 5] [] 0 (fun r _ _ => r = .tup [.tsl 7 (kl28n1z.map Sp.e), .int .i64 705]) := (runOKX_sound hLd kT28n1_ok (by kernel_rfl : runOKX tr.find kX28n1 500 12 [.int .i64 0, .int .i64 (-1), .int .i64 28, .int .i64 5] (.tup [.tsl 7 (kl28n1z.map Sp.e), .int .i64 705]) = true)).2
theorem ap28n1z : ACalls Go.Proofs.Tryz.prog 13 [.tsl 7 (kl28n1z.map Sp.e), .int .i64 5, .int .i64 705] [] 0 (fun r _ _ => r = .bool true) := (runOKX_sound hLd rT3_ok (by kernel_rfl : runOKX tr.find rX 3000 13 [.tsl 7 (kl28n1z.map Sp.e), .int .i64 5, .int .i64 705] (.bool true) = true)).2
theorem lw28n1z : ACalls Go.Proofs.Tryz.prog 4 [.int .i64 0, .int .i64 (-1), .int .i64 28] [] 0 (fun r _ _ => r = .bool true) := keys_zero 0 (-1) 28 0 kl28n1z 705 cl28 ky28n1z ap28n1z (by decide) (by decide) (by decide) (by decide) rfl rfl (hg_of rfl) rfl rfl rfl

theorem sg28p1 : AV.pure (.tup [(.tsl 1 [[(.int .i64 3)]]), (.int .i64 0)]) = true ∧ ACalls Go.Proofs.Tryz.prog 28 [.int .i64 1, .int .i64 28] [] 0 (fun r _ _ => r = (.tup [(.tsl 1 [[(.int .i64 3)]]), (.int .i64 0)])) := runOKX_sound hLd hdT0_ok (by kernel_rfl : runOKX tr.find hdX0 500 28 [.int .i64 1, .int .i64 28] (.tup [(.tsl 1 [[(.int .i64 3)]]), (.int .i64 0)]) = true)
def kT28p1 : List (Nat × (List AV × AV)) := (28, ([.int .i64 1, .int .i64 28], (.tup [(.tsl 1 [[(.int .i64 3)]]), (.int .i64 0)]))) :: eT3
theorem kT28p1_ok : TOK Go.Proofs.Tryz.prog kT28p1 := TOK.cons sg28p1 eT3_ok
def kX28p1 : XP := ⟨hdZ, kT28p1, hdG, kp.find⟩
def kl28p1 : List Sp := [⟨21, 5, 1536⟩]
theorem ky28p1 (b : Int) : ACalls Go.Proofs.Tryz.prog 12 [.int .i64 1, .int .i64 b, .int .i64 28, .int .i64 5] [] 0 (fun r _ _ => r = .tup [.tsl 7 (kl28p1.map Sp.e), .int .i64 1025]) := (runOKX_sound hLd kT28p1_ok (by kernel_rfl : runOKX tr.find kX28p1 500 12 [.int .i64 1, .int .i64 b, .int .i64 28, .int .i64 5] (.tup [.tsl 7 (kl28p1.map Sp.e), .int .i64 1025]) = true)).2
theorem ap28p1 : ACalls Go.Proofs.Tryz.prog 13 [.tsl 7 (kl28p1.map Sp.e), .int .i64 5, .int .i64 1025] [] 0 (fun r _ _ => r = .bool true) := (runOKX_sound hLd rT3_ok (by kernel_rfl : runOKX tr.find rX 3000 13 [.tsl 7 (kl28p1.map Sp.e), .int .i64 5, .int .i64 1025] (.bool true) = true)).2
theorem lw28p1 (b : Int) (h3 : -7 ≤ b) (h4 : b ≤ 7) : ACalls Go.Proofs.Tryz.prog 4 [.int .i64 1, .int .i64 b, .int .i64 28] [] 0 (fun r _ _ => r = .bool true) := keys_pos 1 b 28 0 kl28p1 1025 cl28 (ky28p1 b) ap28p1 (by decide) (by decide) h3 h4 rfl rfl (hg_of rfl) (by decide) rfl

def kl28p1z : List Sp := [⟨23, 5, 1536⟩]
theorem ky28p1z : ACalls Go.Proofs.Tryz.prog 12 [.int .i64 0, .int .i64 1, .int .i64 28, .int .i64 5] [] 0 (fun r _ _ => r = .tup [.tsl 7 (kl28p1z.map Sp.e), .int .i64 705]) := (runOKX_sound hLd kT28p1_ok (by kernel_rfl : runOKX tr.find kX28p1 500 12 [.int .i64 0, .int .i64 1, .int .i64 28, .int .i64 5] (.tup [.tsl 7 (kl28p1z.map Sp.e), .int .i64 705]) = true)).2
theorem ap28p1z : ACalls Go.Proofs.Tryz.prog 13 [.tsl 7 (kl28p1z.map Sp.e), .int .i64 5, .int .i64 705] [] 0 (fun r _ _ => r = .bool true) := (runOKX_sound hLd rT3_ok (by kernel_rfl : runOKX tr.find rX 3000 13 [.tsl 7 (kl28p1z.map Sp.e), .int .i64 5, .int .i64 705] (.bool true) = true)).2
theorem lw28p1z : ACalls Go.Proofs.Tryz.prog 4 [.int .i64 0, .int .i64 1, .int .i64 28] [] 0 (fun r _ _ => r = .bool true) := keys_zero 0 1 28 0 kl28p1z 705 cl28 ky28p1z ap28p1z (by decide) (by decide) (by decide) (by decide) rfl rfl (hg_of rfl) rfl rfl rfl

theorem sg28p2 : AV.pure (.tup [(.tsl 1 [[(.int .i64 3)], [(.int .i64 0)]]), (.int .i64 0)]) = true ∧ ACalls Go.Proofs.Tryz.prog 28 [.int .i64 2, .int .i64 28] [] 0 (fun r _ _ => r = (.tup [(.tsl 1 [[(.int .i64 3)], [(.int .i64 0)]]), (.int .i64 0)])) := runOKX_sound hLd hdT0_ok (by kernel_rfl : runOKX tr.find hdX0 500 28 [.int .i64 2, .int .i64 28] (.tup [(.tsl 1 [[(.int .i64 3)], [(.int .i64 0)]]), (.int .i64 0)]) = true)
def kT28p2 : List (Nat × (List AV × AV)) := (28, ([.int .i64 2, .int .i64 28], (.tup [(.tsl 1 [[(.int .i64 3)], [(.int .i64 0)]]), (.int .i64 0)]))) :: eT3
theorem kT28p2_ok : TOK Go.Proofs.Tryz.prog kT28p2 := TOK.cons sg28p2 eT3_ok
def kX28p2 : XP := ⟨hdZ, kT28p2, hdG, kp.find⟩
def kl28p2 : List Sp := [⟨21, 5, 1536⟩, ⟨21, 1125, 0⟩]
theorem ky28p2 (b : Int) : ACalls Go.Proofs.Tryz.prog 12 [.int .i64 2, .int .i64 b, .int .i64 28, .int .i64 5] [] 0 (fun r _ _ => r = .tup [.tsl 7 (kl28p2.map Sp.e), .int .i64 2145]) := (runOKX_sound hLd kT28p2_ok (by kernel_rfl : runOKX tr.find kX28p2 500 12 [.int .i64 2, .int .i64 b, .int .i64 28, .int .i64 5] (.tup [.tsl 7 (kl28p2.map Sp.e), .int .i64 2145]) = true)).2
theorem ap28p2 : ACalls Go.Proofs.Tryz.prog 13 [.tsl 7 (kl28p2.map Sp.e), .int .i64 5, .int .i64 2145] [] 0 (fun r _ _ => r = .bool true) := (runOKX_sound hLd rT3_ok (by kernel_rfl : runOKX tr.find rX 3000 13 [.tsl 7 (kl28p2.map Sp.e), .int .i64 5, .int .i64 2145] (.bool true) = true)).2
theorem lw28p2 (b : Int) (h3 : -7 ≤ b) (h4 : b ≤ 7) : ACalls Go.Proofs.Tryz.prog 4 [.int .i64 2, .int .i64 b, .int .i64 28] [] 0 (fun r _ _ => r = .bool true) := keys_pos 2 b 28 0 kl28p2 2145 cl28 (ky28p2 b) ap28p2 (by decide) (by decide) h3 h4 rfl rfl (hg_of rfl) (by decide) rfl

def kl28p2z : List Sp := [⟨23, 5, 1536⟩, ⟨23, 805, 0⟩]
theorem ky28p2z : ACalls Go.Proofs.Tryz.prog 12 [.int .i64 0, .int .i64 2, .int .i64 28, .int .i64 5] [] 0 (fun r _ _ => r = .tup [.tsl 7 (kl28p2z.map Sp.e), .int .i64 1505]) := (runOKX_sound hLd kT28p2_ok (by kernel_rfl : runOKX tr.find kX28p2 500 12 [.int .i64 0, .int .i64 2, .int .i64 28, .int .i64 5] (.tup [.tsl 7 (kl28p2z.map Sp.e), .int .i64 1505]) = true)).2
theorem ap28p2z : ACalls Go.Proofs.Tryz.prog 13 [.tsl 7 (kl28p2z.map Sp.e), .int .i64 5, .int .i64 1505] [] 0 (fun r _ _ => r = .bool true) := (runOKX_sound hLd rT3_ok (by kernel_rfl : runOKX tr.find rX 3000 13 [.tsl 7 (kl28p2z.map Sp.e), .int .i64 5, .int .i64 1505] (.bool true) = true)).2
theorem lw28p2z : ACalls Go.Proofs.Tryz.prog 4 [.int .i64 0, .int .i64 2, .int .i64 28] [] 0 (fun r _ _ => r = .bool true) := keys_zero 0 2 28 0 kl28p2z 1505 cl28 ky28p2z ap28p2z (by decide) (by decide) (by decide) (by decide) rfl rfl (hg_of rfl) rfl rfl rfl

theorem sg28p3 : AV.pure (.tup [(.tsl 1 [[(.int .i64 3)], [(.int .i64 0)], [(.int .i64 4)]]), (.int .i64 0)]) = true ∧ ACalls Go.Proofs.Tryz.prog 28 [.int .i64 3, .int .i64 28] [] 0 (fun r _ _ => r = (.tup [(.tsl 1 [[(.int .i64 3)], [(.int .i64 0)], [(.int .i64 4)]]), (.int .i64 0)])) := runOKX_sound hLd hdT0_ok (by kernel_rfl : runOKX tr.find hdX0 500 28 [.int .i64 3, .int .i64 28] (.tup [(.tsl 1 [[(.int .i64 3)], [(.int .i64 0)], [(.int .i64 4)]]), (.int .i64 0)]) = true)
def kT28p3 : List (Nat × (List AV × AV)) := (28, ([.int .i64 3, .int .i64 28], (.tup [(.tsl 1 [[(.int .i64 3)], [(.int .i64 0)], [(.int .i64 4)]]), (.int .i64 0)]))) :: eT3
theorem kT28p3_ok : TOK Go.Proofs.Tryz.prog kT28p3 := TOK.cons sg28p3 eT3_ok
def kX28p3 : XP := ⟨hdZ, kT28p3, hdG, kp.find⟩
def kl28p3 : List Sp := [⟨21, 5, 1536⟩, ⟨21, 1125, 0⟩, ⟨21, 2245, 2048⟩]
theorem ky28p3 (b : Int) : ACalls Go.Proofs.Tryz.prog 12 [.int .i64 3, .int .i64 b, .int .i64 28, .int .i64 5] [] 0 (fun r _ _ => r = .tup [.tsl 7 (kl28p3.map Sp.e), .int .i64 3265]) := (runOKX_sound hLd kT28p3_ok (by kernel_rfl : runOKX tr.find kX28p3 500 12 [.int .i64 3, .int .i64 b, .int .i64 28, .int .i64 5] (.tup [.tsl 7 (kl28p3.map Sp.e), .int .i64 3265]) = true)).2
theorem ap28p3 : ACalls Go.Proofs.Tryz.prog 13 [.tsl 7 (kl28p3.map Sp.e), .int .i64 5, .int .i64 3265] [] 0 (fun r _ _ => r = .bool true) := (runOKX_sound hLd rT3_ok (by kernel_rfl : runOKX tr.find rX 3000 13 [.tsl 7 (kl28p3.map Sp.e), .int .i64 5, .int .i64 3265] (.bool true) = true)).2
theorem lw28p3 (b : Int) (h3 : -7 ≤ b) (h4 : b ≤ 7) : ACalls Go.Proofs.Tryz.prog 4 [.int .i64 3, .int .i64 b, .int .i64 28] [] 0 (fun r _ _ => r = .bool true) := keys_pos 3 b 28 0 kl28p3 3265 cl28 (ky28p3 b) ap28p3 (by decide) (by decide) h3 h4 rfl rfl (hg_of rfl) (by decide) rfl

def kl28p3z : List Sp := [⟨23, 5, 1536⟩, ⟨23, 805, 0⟩, ⟨23, 1605, 2048⟩]
theorem ky28p3z : ACalls Go.Proofs.Tryz.prog 12 [.int .i64 0, .int .i64 3, .int .i64 28, .int .i64 5] [] 0 (fun r _ _ => r = .tup [.tsl 7 (kl28p3z.map Sp.e), .int .i64 2305]) := (runOKX_sound hLd kT28p3_ok (by kernel_rfl : runOKX tr.find kX28p3 500 12 [.int .i64 0, .int .i64 3, .int .i64 28, .int .i64 5] (.tup [.tsl 7 (kl28p3z.map Sp.e), .int .i64 2305]) = true)).2
theorem ap28p3z : ACalls Go.Proofs.Tryz.prog 13 [.tsl 7 (kl28p3z.map Sp.e), .int .i64 5, .int .i64 2305] [] 0 (fun r _ _ => r = .bool true) := (runOKX_sound hLd rT3_ok (by kernel_rfl : runOKX tr.find rX 3000 13 [.tsl 7 (kl28p3z.map Sp.e), .int .i64 5, .int .i64 2305] (.bool true) = true)).2
theorem lw28p3z : ACalls Go.Proofs.Tryz.prog 4 [.int .i64 0, .int .i64 3, .int .i64 28] [] 0 (fun r _ _ => r = .bool true) := keys_zero 0 3 28 0 kl28p3z 2305 cl28 ky28p3z ap28p3z (by decide) (by decide) (by decide) (by decide) rfl rfl (hg_of rfl) rfl rfl rfl

theorem sg28p4 : AV.pure (.tup [(.tsl 1 [[(.int .i64 3)], [(.int .i64 0)], [(.int .i64 4)], [(.int .i64 1)]]), (.int .i64 0)]) = true ∧ ACalls Go.Proofs.Tryz.prog 28 [.int .i64 4, .int .i64 28] [] 0 (fun r _ _ => r = (.tup [(.tsl 1 [[(.int .i64 3)], [(.int .i64 0)], [(.int .i64 4)], [(.int .i64 1)]]), (.int .i64 0)])) := runOKX_sound hLd hdT0_ok (by kernel_rfl : runOKX tr.find hdX0 500 28 [.int .i64 4, .int .i64 28] (.tup [(.tsl 1 [[(.int .i64 3)], [(.int .i64 0)], [(.int .i64 4)], [(.int .i64 1)]]), (.int .i64 0)]) = true)
def kT28p4 : List (Nat × (List AV × AV)) := (28, ([.int .i64 4, .int .i64 28], (.tup [(.tsl 1 [[(.int .i64 3)], [(.int .i64 0)], [(.int .i64 4)], [(.int .i64 1)]]), (.int .i64 0)]))) :: eT3
theorem kT28p4_ok : TOK Go.Proofs.Tryz.prog kT28p4 := TOK.cons sg28p4 eT3_ok
def kX28p4 : XP := ⟨hdZ, kT28p4, hdG, kp.find⟩
def kl28p4 : List Sp := [⟨21, 5, 1536⟩, ⟨21, 1125, 0⟩, ⟨21, 2245, 2048⟩, ⟨21, 3365, 512⟩]
theorem ky28p4 (b : Int) : ACalls Go.Proofs.Tryz.prog 12 [.int .i64 4, .int .i64 b, .int .i64 28, .int .i64 5] [] 0 (fun r _ _ => r = .tup [.tsl 7 (kl28p4.map Sp.e), .int .i64 4385]) := (runOKX_sound hLd kT28p4_ok (by kernel_rfl : runOKX tr.find kX28p4 500 12 [.int .i64 4, .int .i64 b, .int .i64 28, .int .i64 5] (.tup [.tsl 7 (kl28p4.map Sp.e), .int .i64 4385]) = true)).2
theorem ap28p4 : ACalls Go.Proofs.Tryz.prog 13 [.tsl 7 (kl28p4.map Sp.e), .int .i64 5, .int .i64 4385] [] 0 (fun r _ _ => r = .bool true) := (runOKX_sound hLd rT3_ok (by kernel_rfl : runOKX tr.find rX 3000 13 [.tsl 7 (kl28p4.map Sp.e), .int .i64 5, .int .i64 4385] (.bool true) = true)).2
theorem lw28p4 (b : Int) (h3 : -7 ≤ b) (h4 : b ≤ 7) : ACalls Go.Proofs.Tryz.prog 4 [.int .i64 4, .int .i64 b, .int .i64 28] [] 0 (fun r _ _ => r = .bool true) := keys_pos 4 b 28 0 kl28p4 4385 cl28 (ky28p4 b) ap28p4 (by decide) (by decide) h3 h4 rfl rfl (hg_of rfl) (by decide) rfl

def kl28p4z : List Sp := [⟨23, 5, 1536⟩, ⟨23, 805, 0⟩, ⟨23, 1605, 2048⟩, ⟨23, 2405, 512⟩]
theorem ky28p4z : ACalls Go.Proofs.Tryz.prog 12 [.int .i64 0, .int .i64 4, .int .i64 28, .int .i64 5] [] 0 (fun r _ _ => r = .tup [.tsl 7 (kl28p4z.map Sp.e), .int .i64 3105]) := (runOKX_sound hLd kT28p4_ok (by kernel_rfl : runOKX tr.find kX28p4 500 12 [.int .i64 0, .int .i64 4, .int .i64 28, .int .i64 5] (.tup [.tsl 7 (kl28p4z.map Sp.e), .int .i64 3105]) = true)).2
theorem ap28p4z : ACalls Go.Proofs.Tryz.prog 13 [.tsl 7 (kl28p4z.map Sp.e), .int .i64 5, .int .i64 3105] [] 0 (fun r _ _ => r = .bool true) := (runOKX_sound hLd rT3_ok (by kernel_rfl : runOKX tr.find rX 3000 13 [.tsl 7 (kl28p4z.map Sp.e), .int .i64 5, .int .i64 3105] (.bool true) = true)).2
theorem lw28p4z : ACalls Go.Proofs.Tryz.prog 4 [.int .i64 0, .int .i64 4, .int .i64 28] [] 0 (fun r _ _ => r = .bool true) := keys_zero 0 4 28 0 kl28p4z 3105 cl28 ky28p4z ap28p4z (by decide) (by decide) (by decide) (by decide) rfl rfl (hg_of rfl) rfl rfl rfl

theorem sg28p5 : AV.pure (.tup [(.tsl 1 [[(.int .i64 3)], [(.int .i64 0)], [(.int .i64 4)], [(.int .i64 1)], [(.int .i64 (-2))]]), (.int .i64 0)]) = true ∧ ACalls Go.Proofs.Tryz.prog 28 [.int .i64 5, .int .i64 28] [] 0 (fun r _ _ => r = (.tup [(.tsl 1 [[(.int .i64 3)], [(.int .i64 0)], [(.int .i64 4)], [(.int .i64 1)], [(.int .i64 (-2))]]), (.int .i64 0)])) := runOKX_sound hLd hdT0_ok (by kernel_rfl : runOKX tr.find hdX0 500 28 [.int .i64 5, .int .i64 28] (.tup [(.tsl 1 [[(.int .i64 3)], [(.int .i64 0)], [(.int .i64 4)], [(.int .i64 1)], [(.int .i64 (-2))]]), (.int .i64 0)]) = true)
def kT28p5 : List (Nat × (List AV × AV)) := (28, ([.int .i64 5, .int .i64 28], (.tup [(.tsl 1 [[(.int .i64 3)], [(.int .i64 0)], [(.int .i64 4)], [(.int .i64 1)], [(.int .i64 (-2))]]), (.int .i64 0)]))) :: eT3
theorem kT28p5_ok : TOK Go.Proofs.Tryz.prog kT28p5 := TOK.cons sg28p5 eT3_ok
def kX28p5 : XP := ⟨hdZ, kT28p5, hdG, kp.find⟩
def kl28p5 : List Sp := [⟨21, 5, 1536⟩, ⟨21, 1125, 0⟩, ⟨21, 2245, 2048⟩, ⟨21, 3365, 512⟩, ⟨21, 4485, (-1024)⟩]
theorem ky28p5 (b : Int) : ACalls Go.Proofs.Tryz.prog 12 [.int .i64 5, .int .i64 b, .int .i64 28, .int .i64 5] [] 0 (fun r _ _ => r = .tup [.tsl 7 (kl28p5.map Sp.e), .int .i64 5505]) := (runOKX_sound hLd kT28p5_ok (by kernel_rfl : runOKX tr.find kX28p5 500 12 [.int .i64 5, .int .i64 b, .int .i64 28, .int .i64 5] (.tup [.tsl 7 (kl28p5.map Sp.e), .int .i64 5505]) = true)).2
theorem ap28p5 : ACalls Go.Proofs.Tryz.prog 13 [.tsl 7 (kl28p5.map Sp.e), .int .i64 5, .int .i64 5505] [] 0 (fun r _ _ => r = .bool true) := (runOKX_sound hLd rT3_ok (by kernel_rfl : runOKX tr.find rX 3000 13 [.tsl 7 (kl28p5.map Sp.e), .int .i64 5, .int .i64 5505] (.bool true) = true)).2
theorem lw28p5 (b : Int) (h3 : -7 ≤ b) (h4 : b ≤ 7) : ACalls Go.Proofs.Tryz.prog 4 [.int .i64 5, .int .i64 b, .int .i64 28] [] 0 (fun r _ _ => r = .bool true) := keys_pos 5 b 28 0 kl28p5 5505 cl28 (ky28p5 b) ap28p5 (by decide) (by decide) h3 h4 rfl rfl (hg_of rfl) (by decide) rfl

def kl28p5z : List Sp := [⟨23, 5, 1536⟩, ⟨23, 805, 0⟩, ⟨23, 1605, 2048⟩, ⟨23, 2405, 512⟩, ⟨23, 3205, (-1024)⟩]
theorem ky28p5z : ACalls Go.Proofs.Tryz.prog 12 [.int .i64 0, .int .i64 5, .int .i64 28, .int .i64 5] [] 0 (fun r _ _ => r = .tup [.tsl 7 (kl28p5z.map Sp.e), .int .i64 3905]) := (runOKX_sound hLd kT28p5_ok (by kernel_rfl : runOKX tr.find kX28p5 500 12 [.int .i64 0, .int .i64 5, .int .i64 28, .int .i64 5] (.tup [.tsl 7 (kl28p5z.map Sp.e), .int .i64 3905]) = true)).2
theorem ap28p5z : ACalls Go.Proofs.Tryz.prog 13 [.tsl 7 (kl28p5z.map Sp.e), .int .i64 5, .int .i64 3905] [] 0 (fun r _ _ => r = .bool true) := (runOKX_sound hLd rT3_ok (by kernel_rfl : runOKX tr.find rX 3000 13 [.tsl 7 (kl28p5z.map Sp.e), .int .i64 5, .int .i64 3905] (.bool true) = true)).2
theorem lw28p5z : ACalls Go.Proofs.Tryz.prog 4 [.int .i64 0, .int .i64 5, .int .i64 28] [] 0 (fun r _ _ => r = .bool true) := keys_zero 0 5 28 0 kl28p5z 3905 cl28 ky28p5z ap28p5z (by decide) (by decide) (by decide) (by decide) rfl rfl (hg_of rfl) rfl rfl rfl

theorem sg28p6 : AV.pure (.tup [(.tsl 1 [[(.int .i64 3)], [(.int .i64 0)], [(.int .i64 4)], [(.int .i64 1)], [(.int .i64 (-2))], [(.int .i64 2)]]), (.int .i64 0)]) = true ∧ ACalls Go.Proofs.Tryz.prog 28 [.int .i64 6, .int .i64 28] [] 0 (fun r _ _ => r = (.tup [(.tsl 1 [[(.int .i64 3)], [(.int .i64 0)], [(.int .i64 4)], [(.int .i64 1)], [(.int .i64 (-2))], [(.int .i64 2)]]), (.int .i64 0)])) := runOKX_sound hLd hdT0_ok (by kernel_rfl : runOKX tr.find hdX0 500 28 [.int .i64 6, .int .i64 28] (.tup [(.tsl 1 [[(.int .i64 3)], [(.int .i64 0)], [(.int .i64 4)], [(.int .i64 1)], [(.int .i64 (-2))], [(.int .i64 2)]]), (.int .i64 0)]) = true)
def kT28p6 : List (Nat × (List AV × AV)) := (28, ([.int .i64 6, .int .i64 28], (.tup [(.tsl 1 [[(.int .i64 3)], [(.int .i64 0)], [(.int .i64 4)], [(.int .i64 1)], [(.int .i64 (-2))], [(.int .i64 2)]]), (.int .i64 0)]))) :: eT3
theorem kT28p6_ok : TOK Go.Proofs.Tryz.prog kT28p6 := TOK.cons sg28p6 eT3_ok
def kX28p6 : XP := ⟨hdZ, kT28p6, hdG, kp.find⟩
def kl28p6 : List Sp := [⟨21, 5, 1536⟩, ⟨21, 1125, 0⟩, ⟨21, 2245, 2048⟩, ⟨21, 3365, 512⟩, ⟨21, 4485, (-1024)⟩, ⟨21, 5605, 1024⟩]
theorem ky28p6 (b : Int) : ACalls Go.Proofs.Tryz.prog 12 [.int .i64 6, .int .i64 b, .int .i64 28, .int .i64 5] [] 0 (fun r _ _ => r = .tup [.tsl 7 (kl28p6.map Sp.e), .int .i64 6625]) := (runOKX_sound hLd kT28p6_ok (by kernel_rfl : runOKX tr.find kX28p6 500 12 [.int .i64 6, .int .i64 b, .int .i64 28, .int .i64 5] (.tup [.tsl 7 (kl28p6.map Sp.e), .int .i64 6625]) = true)).2
theorem ap28p6 : ACalls Go.Proofs.Tryz.prog 13 [.tsl 7 (kl28p6.map Sp.e), .int .i64 5, .int .i64 6625] [] 0 (fun r _ _ => r = .bool true) := (runOKX_sound hLd rT3_ok (by kernel_rfl : runOKX tr.find rX 3000 13 [.tsl 7 (kl28p6.map Sp.e), .int .i64 5, .int .i64 6625] (.bool true) = true)).2
theorem lw28p6 (b : Int) (h3 : -7 ≤ b) (h4 : b ≤ 7) : ACalls Go.Proofs.Tryz.prog 4 [.int .i64 6, .int .i64 b, .int .i64 28] [] 0 (fun r _ _ => r = .bool true) := keys_pos 6 b 28 0 kl28p6 6625 cl28 (ky28p6 b) ap28p6 (by decide) (by decide) h3 h4 rfl rfl (hg_of rfl) (by decide) rfl

def kl28p6z : List Sp := [⟨23, 5, 1536⟩, ⟨23, 805, 0⟩, ⟨23, 1605, 2048⟩, ⟨23, 2405, 512⟩, ⟨23, 3205, (-1024)⟩, ⟨23, 4005, 1024⟩]
theorem ky28p6z : ACalls Go.Proofs.Tryz.prog 12 [.int .i64 0, .int .i64 6, .int .i64 28, .int .i64 5] [] 0 (fun r _ _ => r = .tup [.tsl 7 (kl28p6z.map Sp.e), .int .i64 4705]) := (runOKX_sound hLd kT28p6_ok (by kernel_rfl : runOKX tr.find kX28p6 500 12 [.int .i64 0, .int .i64 6, .int .i64 28, .int .i64 5] (.tup [.tsl 7 (kl28p6z.map Sp.e), .int .i64 4705]) = true)).2
theorem ap28p6z : ACalls Go.Proofs.Tryz.prog 13 [.tsl 7 (kl28p6z.map Sp.e), .int .i64 5, .int .i64 4705] [] 0 (fun r _ _ => r = .bool true) := (runOKX_sound hLd rT3_ok (by kernel_rfl : runOKX tr.find rX 3000 13 [.tsl 7 (kl28p6z.map Sp.e), .int .i64 5, .int .i64 4705] (.bool true) = true)).2
theorem lw28p6z : ACalls Go.Proofs.Tryz.prog 4 [.int .i64 0, .int .i64 6, .int .i64 28] [] 0 (fun r _ _ => r = .bool true) := keys_zero 0 6 28 0 kl28p6z 4705 cl28 ky28p6z ap28p6z (by decide) (by decide) (by decide) (by decide) rfl rfl (hg_of rfl) rfl rfl rfl

theorem sg28p7 : AV.pure (.tup [(.tsl 1 [[(.int .i64 3)], [(.int .i64 0)], [(.int .i64 4)], [(.int .i64 1)], [(.int .i64 (-2))], [(.int .i64 2)], [(.int .i64 (-1))]]), (.int .i64 0)]) = true ∧ ACalls Go.Proofs.Tryz.prog 28 [.int .i64 7, .int .i64 28] [] 0 (fun r _ _ => r = (.tup [(.tsl 1 [[(.int .i64 3)], [(.int .i64 0)], [(.int .i64 4)], [(.int .i64 1)], [(.int .i64 (-2))], [(.int .i64 2)], [(.int .i64 (-1))]]), (.int .i64 0)])) := runOKX_sound hLd hdT0_ok (by kernel_rfl : runOKX tr.find hdX0 500 28 [.int .i64 7, .int .i64 28] (.tup [(.tsl 1 [[(.int .i64 3)], [(.int .i64 0)], [(.int .i64 4)], [(.int .i64 1)], [(.int .i64 (-2))], [(.int .i64 2)], [(.int .i64 (-1))]]), (.int .i64 0)]) = true)
def kT28p7 : List (Nat × (List AV × AV)) := (28, ([.int .i64 7, .int .i64 28], (.tup [(.tsl 1 [[(.int .i64 3)], [(.int .i64 0)], [(.int .i64 4)], [(.int .i64 1)], [(.int .i64 (-2))], [(.int .i64 2)], [(.int .i64 (-1))]]), (.int .i64 0)]))) :: eT3
theorem kT28p7_ok : TOK Go.Proofs.Tryz.prog kT28p7 := TOK.cons sg28p7 eT3_ok
def kX28p7 : XP := ⟨hdZ, kT28p7, hdG, kp.find⟩
def kl28p7 : List Sp := [⟨21, 5, 1536⟩, ⟨21, 1125, 0⟩, ⟨21, 2245, 2048⟩, ⟨21, 3365, 512⟩, ⟨21, 4485, (-1024)⟩, ⟨21, 5605, 1024⟩, ⟨21, 6725, (-512)⟩]
theorem ky28p7 (b : Int) : ACalls Go.Proofs.Tryz.prog 12 [.int .i64 7, .int .i64 b, .int .i64 28, .int .i64 5] [] 0 (fun r _ _ => r = .tup [.tsl 7 (kl28p7.map Sp.e), .int .i64 7745]) := (runOKX_sound hLd kT28p7_ok (by kernel_rfl : runOKX tr.find kX28p7 500 12 [.int .i64 7, .int .i64 b, .int .i64 28, .int .i64 5] (.tup [.tsl 7 (kl28p7.map Sp.e), .int .i64 7745]) = true)).2
theorem ap28p7 : ACalls Go.Proofs.Tryz.prog 13 [.tsl 7 (kl28p7.map Sp.e), .int .i64 5, .int .i64 7745] [] 0 (fun r _ _ => r = .bool true) := (runOKX_sound hLd rT3_ok (by kernel_rfl : runOKX tr.find rX 3000 13 [.tsl 7 (kl28p7.map Sp.e), .int .i64 5, .int .i64 7745] (.bool true) = true)).2
theorem lw28p7 (b : Int) (h3 : -7 ≤ b) (h4 : b ≤ 7) : ACalls Go.Proofs.Tryz.prog 4 [.int .i64 7, .int .i64 b, .int .i64 28] [] 0 (fun r _ _ => r = .bool true) := keys_pos 7 b 28 0 kl28p7 7745 cl28 (ky28p7 b) ap28p7 (by decide) (by decide) h3 h4 rfl rfl (hg_of rfl) (by decide) rfl

def kl28p7z : List Sp := [⟨23, 5, 1536⟩, ⟨23, 805, 0⟩, ⟨23, 1605, 2048⟩, ⟨23, 2405, 512⟩, ⟨23, 3205, (-1024)⟩, ⟨23, 4005, 1024⟩, ⟨23, 4805, (-512)⟩]
theorem ky28p7z : ACalls Go.Proofs.Tryz.prog 12 [.int .i64 0, .int .i64 7, .int .i64 28, .int .i64 5] [] 0 (fun r _ _ => r = .tup [.tsl 7 (kl28p7z.map Sp.e), .int .i64 5505]) := (runOKX_sound hLd kT28p7_ok (by kernel_rfl : runOKX tr.find kX28p7 500 12 [.int .i64 0, .int .i64 7, .int .i64 28, .int .i64 5] (.tup [.tsl 7 (kl28p7z.map Sp.e), .int .i64 5505]) = true)).2
theorem ap28p7z : ACalls Go.Proofs.Tryz.prog 13 [.tsl 7 (kl28p7z.map Sp.e), .int .i64 5, .int .i64 5505] [] 0 (fun r _ _ => r = .bool true) := (runOKX_sound hLd rT3_ok (by kernel_rfl : runOKX tr.find rX 3000 13 [.tsl 7 (kl28p7z.map Sp.e), .int .i64 5, .int .i64 5505] (.bool true) = true)).2
theorem lw28p7z : ACalls Go.Proofs.Tryz.prog 4 [.int .i64 0, .int .i64 7, .int .i64 28] [] 0 (fun r _ _ => r = .bool true) := keys_zero 0 7 28 0 kl28p7z 5505 cl28 ky28p7z ap28p7z (by decide) (by decide) (by decide) (by decide) rfl rfl (hg_of rfl) rfl rfl rfl

theorem lw280 : ACalls Go.Proofs.Tryz.prog 4 [.int .i64 0, .int .i64 0, .int .i64 28] [] 0 (fun r _ _ => r = .bool true) := (runOKX_sound hLd hT_ok (by kernel_rfl : runOKX tr.find hX 500 4 [.int .i64 0, .int .i64 0, .int .i64 28] (.bool true) = true)).2

theorem all28 (f b : Int) (h1 : -7 ≤ f) (h2 : f ≤ 7) (h3 : -7 ≤ b) (h4 : b ≤ 7) : ACalls Go.Proofs.Tryz.prog 4 [.int .i64 f, .int .i64 b, .int .i64 28] [] 0 (fun r _ _ => r = .bool true) := by
  have hf : f = -7 ∨ f = -6 ∨ f = -5 ∨ f = -4 ∨ f = -3 ∨ f = -2 ∨ f = -1 ∨ f = 0 ∨ f = 1 ∨ f = 2 ∨ f = 3 ∨ f = 4 ∨ f = 5 ∨ f = 6 ∨ f = 7 := by omega
  rcases hf with rfl | rfl | rfl | rfl | rfl | rfl | rfl | rfl | rfl | rfl | rfl | rfl | rfl | rfl | rfl
  · exact lw28n7 b h3 h4
  · exact lw28n6 b h3 h4
  · exact lw28n5 b h3 h4
  · exact lw28n4 b h3 h4
  · exact lw28n3 b h3 h4
  · exact lw28n2 b h3 h4
  · exact lw28n1 b h3 h4
  · have hb : b = -7 ∨ b = -6 ∨ b = -5 ∨ b = -4 ∨ b = -3 ∨ b = -2 ∨ b = -1 ∨ b = 0 ∨ b = 1 ∨ b = 2 ∨ b = 3 ∨ b = 4 ∨ b = 5 ∨ b = 6 ∨ b = 7 := by omega
    rcases hb with rfl | rfl | rfl | rfl | rfl | rfl | rfl | rfl | rfl | rfl | rfl | rfl | rfl | rfl | rfl
    · exact lw28n7z
    · exact lw28n6z
    · exact lw28n5z
    · exact lw28n4z
    · exact lw28n3z
    · exact lw28n2z
    · exact lw28n1z
    · exact lw280
    · exact lw28p1z
    · exact lw28p2z
    · exact lw28p3z
    · exact lw28p4z
    · exact lw28p5z
    · exact lw28p6z
    · exact lw28p7z
  · exact lw28p1 b h3 h4
  · exact lw28p2 b h3 h4
  · exact lw28p3 b h3 h4
  · exact lw28p4 b h3 h4
  · exact lw28p5 b h3 h4
  · exact lw28p6 b h3 h4
  · exact lw28p7 b h3 h4
end
end Go.AM.Dz
