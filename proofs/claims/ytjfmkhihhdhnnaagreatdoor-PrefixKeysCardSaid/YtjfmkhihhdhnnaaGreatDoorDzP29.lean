/- A part of a proof about the given program: what its name says. No premise beyond the statements'. -/
import Derived.Test.YtjfmkhihhdhnnaaGreatDoorDzPT
import Derived.KernelRfl
set_option linter.unusedSimpArgs false
set_option linter.unusedVariables false
/- The signs of keys at one clef: known runs. -/
namespace Go.AM.Dz
open Go.AM
noncomputable section

theorem cl29 : ACalls Go.Proofs.Tryz.prog 10 [.int .i64 29] [] 0 (fun r _ _ => r = (.tup [(.int .i64 1024), (.bool true)])) := (runOKX_sound hLd hdT0_ok (by kernel_rfl : runOKX tr.find hdX0 200 10 [.int .i64 29] (.tup [(.int .i64 1024), (.bool true)]) = true)).2

theorem sg29n7 : AV.pure (.tup [(.tsl 1 [[(.int .i64 1)], [(.int .i64 4)], [(.int .i64 0)], [(.int .i64 3)], [(.int .i64 (-1))], [(.int .i64 2)], [(.int .i64 (-2))]]), (.int .i64 0)]) = true ∧ ACalls Go.Proofs.Tryz.prog 28 [.int .i64 (-7), .int .i64 29] [] 0 (fun r _ _ => r = (.tup [(.tsl 1 [[(.int .i64 1)], [(.int .i64 4)], [(.int .i64 0)], [(.int .i64 3)], [(.int .i64 (-1))], [(.int .i64 2)], [(.int .i64 (-2))]]), (.int .i64 0)])) := runOKX_sound hLd hdT0_ok (by kernel_rfl : runOKX tr.find hdX0 500 28 [.int .i64 (-7), .int .i64 29] (.tup [(.tsl 1 [[(.int .i64 1)], [(.int .i64 4)], [(.int .i64 0)], [(.int .i64 3)], [(.int .i64 (-1))], [(.int .i64 2)], [(.int .i64 (-2))]]), (.int .i64 0)]) = true)
def kT29n7 : List (Nat × (List AV × AV)) := (28, ([.int .i64 (-7), .int .i64 29], (.tup [(.tsl 1 [[(.int .i64 1)], [(.int .i64 4)], [(.int .i64 0)], [(.int .i64 3)], [(.int .i64 (-1))], [(.int .i64 2)], [(.int .i64 (-2))]]), (.int .i64 0)]))) :: eT3
theorem kT29n7_ok : TOK Go.Proofs.Tryz.prog kT29n7 := TOK.cons sg29n7 eT3_ok
def kX29n7 : XP := ⟨hdZ, kT29n7, hdG, kp.find⟩
def kl29n7 : List Sp := [⟨22, 5, 512⟩, ⟨22, 1025, 2048⟩, ⟨22, 2045, 0⟩, ⟨22, 3065, 1536⟩, ⟨22, 4085, (-512)⟩, ⟨22, 5105, 1024⟩, ⟨22, 6125, (-1024)⟩]
theorem ky29n7 (b : Int) : ACalls Go.Proofs.Tryz.prog 12 [.int .i64 (-7), .int .i64 b, .int .i64 29, .int .i64 5] [] 0 (fun r _ _ => r = .tup [.tsl 7 (kl29n7.map Sp.e), .int .i64 7045]) := (runOKX_sound hLd kT29n7_ok (by kernel_rfl : runOKX tr.find kX29n7 500 12 [.int .i64 (-7), .int .i64 b, .int .i64 29, .int .i64 5] (.tup [.tsl 7 (kl29n7.map Sp.e), .int .i64 7045]) = true)).2
theorem ap29n7 : ACalls Go.Proofs.Tryz.prog 13 [.tsl 7 (kl29n7.map Sp.e), .int .i64 5, .int .i64 7045] [] 0 (fun r _ _ => r = .bool true) := (runOKX_sound hLd rT3_ok (by kernel_rfl : runOKX tr.find rX 3000 13 [.tsl 7 (kl29n7.map Sp.e), .int .i64 5, .int .i64 7045] (.bool true) = true)).2
theorem lw29n7 (b : Int) (h3 : -7 ≤ b) (h4 : b ≤ 7) : ACalls Go.Proofs.Tryz.prog 4 [.int .i64 (-7), .int .i64 b, .int .i64 29] [] 0 (fun r _ _ => r = .bool true) := keys_neg (-7) b 29 1024 kl29n7 7045 cl29 (ky29n7 b) ap29n7 (by decide) (by decide) h3 h4 rfl rfl (hg_of rfl) (by decide) rfl

def kl29n7z : List Sp := [⟨23, 5, 512⟩, ⟨23, 805, 2048⟩, ⟨23, 1605, 0⟩, ⟨23, 2405, 1536⟩, ⟨23, 3205, (-512)⟩, ⟨23, 4005, 1024⟩, ⟨23, 4805, (-1024)⟩]
theorem ky29n7z : ACalls Go.Proofs.Tryz.prog 12 [.int .i64 0, .int .i64 (-7), .int .i64 29, .int .i64 5] [] 0 (fun r _ _ => r = .tup [.tsl 7 (kl29n7z.map Sp.e), .int .i64 5505]) := (runOKX_sound hLd kT29n7_ok (by kernel_rfl : runOKX tr.find kX29n7 500 12 [.int .i64 0, .int .i64 (-7), .int .i64 29, .int .i64 5] (.tup [.tsl 7 (kl29n7z.map Sp.e), .int .i64 5505]) = true)).2
theorem ap29n7z : ACalls Go.Proofs.Tryz.prog 13 [.tsl 7 (kl29n7z.map Sp.e), .int .i64 5, .int .i64 5505] [] 0 (fun r _ _ => r = .bool true) := (runOKX_sound hLd rT3_ok (by kernel_rfl : runOKX tr.find rX 3000 13 [.tsl 7 (kl29n7z.map Sp.e), .int .i64 5, .int .i64 5505] (.bool true) = true)).2
theorem lw29n7z : ACalls Go.Proofs.Tryz.prog 4 [.int .i64 0, .int .i64 (-7), .int .i64 29] [] 0 (fun r _ _ => r = .bool true) := keys_zero 0 (-7) 29 1024 kl29n7z 5505 cl29 ky29n7z ap29n7z (by decide) (by decide) (by decide) (by decide) rfl rfl (hg_of rfl) rfl rfl rfl

theorem sg29n6 : AV.pure (.tup [(.tsl 1 [[(.int .i64 1)], [(.int .i64 4)], [(.int .i64 0)], [(.int .i64 3)], [(.int .i64 (-1))], [(.int .i64 2)]]), (.int .i64 0)]) = true ∧ ACalls Go.Proofs.Tryz.prog 28 [.int .i64 (-6), .int .i64 29] [] 0 (fun r _ _ => r = (.tup [(.tsl 1 [[(.int .i64 1)], [(.int .i64 4)], [(.int .i64 0)], [(.int .i64 3)], [(.int .i64 (-1))], [(.int .i64 2)]]), (.int .i64 0)])) := runOKX_sound hLd hdT0_ok (by kernel_rfl : runOKX tr.find hdX0 500 28 [.int .i64 (-6), .int .i64 29] (.tup [(.tsl 1 [[(.int .i64 1)], [(.int .i64 4)], [(.int .i64 0)], [(.int .i64 3)], [(.int .i64 (-1))], [(.int .i64 2)]]), (.int .i64 0)]) = true)
def kT29n6 : List (Nat × (List AV × AV)) := (28, ([.int .i64 (-6), .int .i64 29], (.tup [(.tsl 1 [[(.int .i64 1)], [(.int .i64 4)], [(.int .i64 0)], [(.int .i64 3)], [(.int .i64 (-1))], [(.int .i64 2)]]), (.int .i64 0)]))) :: eT3
theorem kT29n6_ok : TOK Go.Proofs.Tryz.prog kT29n6 := TOK.cons sg29n6 eT3_ok
def kX29n6 : XP := ⟨hdZ, kT29n6, hdG, kp.find⟩
def kl29n6 : List Sp := [⟨22, 5, 512⟩, ⟨22, 1025, 2048⟩, ⟨22, 2045, 0⟩, ⟨22, 3065, 1536⟩, ⟨22, 4085, (-512)⟩, ⟨22, 5105, 1024⟩]
theorem ky29n6 (b : Int) : ACalls Go.Proofs.Tryz.prog 12 [.int .i64 (-6), .int .i64 b, .int .i64 29, .int .i64 5] [] 0 (fun r _ _ => r = .tup [.tsl 7 (kl29n6.map Sp.e), .int .i64 6025]) := (runOKX_sound hLd kT29n6_ok (by kernel_rfl : runOKX tr.find kX29n6 500 12 [.int .i64 (-6), .int .i64 b, .int .i64 29, .int .i64 5] (.tup [.tsl 7 (kl29n6.map Sp.e), .int .i64 6025]) = true)).2
theorem ap29n6 : ACalls Go.Proofs.Tryz.prog 13 [.tsl 7 (kl29n6.map Sp.e), .int .i64 5, .int .i64 6025] [] 0 (fun r _ _ => r = .bool true) := (runOKX_sound hLd rT3_ok (by kernel_rfl : runOKX tr.find rX 3000 13 [.tsl 7 (kl29n6.map Sp.e), .int .i64 5, .int .i64 6025] (.bool true) = true)).2
theorem lw29n6 (b : Int) (h3 : -7 ≤ b) (h4 : b ≤ 7) : ACalls Go.Proofs.Tryz.prog 4 [.int .i64 (-6), .int .i64 b, .int .i64 29] [] 0 (fun r _ _ => r = .bool true) := keys_neg (-6) b 29 1024 kl29n6 6025 cl29 (ky29n6 b) ap29n6 (by decide) (by decide) h3 h4 rfl rfl (hg_of rfl) (by decide) rfl

def kl29n6z : List Sp := [⟨23, 5, 512⟩, ⟨23, 805, 2048⟩, ⟨23, 1605, 0⟩, ⟨23, 2405, 1536⟩, ⟨23, 3205, (-512)⟩, ⟨23, 4005, 1024⟩]
theorem ky29n6z : ACalls Go.Proofs.Tryz.prog 12 [.int .i64 0, .int .i64 (-6), .int .i64 29, .int .i64 5] [] 0 (fun r _ _ => r = .tup [.tsl 7 (kl29n6z.map Sp.e), .int .i64 4705]) := (runOKX_sound hLd kT29n6_ok (by kernel_rfl : runOKX tr.find kX29n6 500 12 [.int .i64 0, .int .i64 (-6), .int .i64 29, .int .i64 5] (.tup [.tsl 7 (kl29n6z.map Sp.e), .int .i64 4705]) = true)).2
theorem ap29n6z : ACalls Go.Proofs.Tryz.prog 13 [.tsl 7 (kl29n6z.map Sp.e), .int .i64 5, .int .i64 4705] [] 0 (fun r _ _ => r = .bool true) := (runOKX_sound hLd rT3_ok (by kernel_rfl : runOKX tr.find rX 3000 13 [.tsl 7 (kl29n6z.map Sp.e), .int .i64 5, .int .i64 4705] (.bool true) = true)).2
theorem lw29n6z : ACalls Go.Proofs.Tryz.prog 4 [.int .i64 0, .int .i64 (-6), .int .i64 29] [] 0 (fun r _ _ => r = .bool true) := keys_zero 0 (-6) 29 1024 kl29n6z 4705 cl29 ky29n6z ap29n6z (by decide) (by decide) (by decide) (by decide) rfl rfl (hg_of rfl) rfl rfl rfl

theorem sg29n5 : AV.pure (.tup [(.tsl 1 [[(.int .i64 1)], [(.int .i64 4)], [(.int .i64 0)], [(.int .i64 3)], [(.int .i64 (-1))]]), (.int .i64 0)]) = true ∧ ACalls Go.Proofs.Tryz.prog 28 [.int .i64 (-5), .int .i64 29] [] 0 (fun r _ _ => r = (.tup [(.tsl 1 [[(.int .i64 1)], [(.int .i64 4)], [(.int .i64 0)], [(.int .i64 3)], [(.int .i64 (-1))]]), (.int .i64 0)])) := runOKX_sound hLd hdT0_ok (by kernel_rfl : runOKX tr.find hdX0 500 28 [.int .i64 (-5), .int .i64 29] (.tup [(.tsl 1 [[(.int .i64 1)], [(.int .i64 4)], [(.int .i64 0)], [(.int .i64 3)], [(.int .i64 (-1))]]), (.int .i64 0)]) = true)
def kT29n5 : List (Nat × (List AV × AV)) := (28, ([.int .i64 (-5), .int .i64 29], (.tup [(.tsl 1 [[(.int .i64 1)], [(.int .i64 4)], [(.int .i64 0)], [(.int .i64 3)], [(.int .i64 (-1))]]), (.int .i64 0)]))) :: eT3
theorem kT29n5_ok : TOK Go.Proofs.Tryz.prog kT29n5 := TOK.cons sg29n5 eT3_ok
def kX29n5 : XP := ⟨hdZ, kT29n5, hdG, kp.find⟩
def kl29n5 : List Sp := [⟨22, 5, 512⟩, ⟨22, 1025, 2048⟩, ⟨22, 2045, 0⟩, ⟨22, 3065, 1536⟩, ⟨22, 4085, (-512)⟩]
theorem ky29n5 (b : Int) : ACalls Go.Proofs.Tryz.prog 12 [.int .i64 (-5), .int .i64 b, .int .i64 29, .int .i64 5] [] 0 (fun r _ _ => r = .tup [.tsl 7 (kl29n5.map Sp.e), .int .i64 5005]) := (runOKX_sound hLd kT29n5_ok (by kernel_rfl : runOKX tr.find kX29n5 500 12 [.int .i64 (-5), .int .i64 b, .int .i64 29, .int .i64 5] (.tup [.tsl 7 (kl29n5.map Sp.e), .int .i64 5005]) = true)).2
theorem ap29n5 : ACalls Go.Proofs.Tryz.prog 13 [.tsl 7 (kl29n5.map Sp.e), .int .i64 5, .int .i64 5005] [] 0 (fun r _ _ => r = .bool true) := (runOKX_sound hLd rT3_ok (by kernel_rfl : runOKX tr.find rX 3000 13 [.tsl 7 (kl29n5.map Sp.e), .int .i64 5, .int .i64 5005] (.bool true) = true)).2
theorem lw29n5 (b : Int) (h3 : -7 ≤ b) (h4 : b ≤ 7) : ACalls Go.Proofs.Tryz.prog 4 [.int .i64 (-5), .int .i64 b, .int .i64 29] [] 0 (fun r _ _ => r = .bool true) := keys_neg (-5) b 29 1024 kl29n5 5005 cl29 (ky29n5 b) ap29n5 (by decide) (by decide) h3 h4 rfl rfl (hg_of rfl) (by decide) rfl

def kl29n5z : List Sp := [⟨23, 5, 512⟩, ⟨23, 805, 2048⟩, ⟨23, 1605, 0⟩, ⟨23, 2405, 1536⟩, ⟨23, 3205, (-512)⟩]
theorem ky29n5z : ACalls Go.Proofs.Tryz.prog 12 [.int .i64 0, .int .i64 (-5), .int .i64 29, .int .i64 5] [] 0 (fun r _ _ => r = .tup [.tsl 7 (kl29n5z.map Sp.e), .int .i64 3905]) := (runOKX_sound hLd kT29n5_ok (by kernel_rfl : runOKX tr.find kX29n5 500 12 [.int .i64 0, .int .i64 (-5), .int .i64 29, .int .i64 5] (.tup [.tsl 7 (kl29n5z.map Sp.e), .int .i64 3905]) = true)).2
theorem ap29n5z : ACalls Go.Proofs.Tryz.prog 13 [.tsl 7 (kl29n5z.map Sp.e), .int .i64 5, .int .i64 3905] [] 0 (fun r _ _ => r = .bool true) := (runOKX_sound hLd rT3_ok (by kernel_rfl : runOKX tr.find rX 3000 13 [.tsl 7 (kl29n5z.map Sp.e), .int .i64 5, .int .i64 3905] (.bool true) = true)).2
theorem lw29n5z : ACalls Go.Proofs.Tryz.prog 4 [.int .i64 0, .int .i64 (-5), .int .i64 29] [] 0 (fun r _ _ => r = .bool true) := keys_zero 0 (-5) 29 1024 kl29n5z 3905 cl29 ky29n5z ap29n5z (by decide) (by decide) (by decide) (by decide) rfl rfl (hg_of rfl) rfl rfl rfl

theorem sg29n4 : AV.pure (.tup [(.tsl 1 [[(.int .i64 1)], [(.int .i64 4)], [(.int .i64 0)], [(.int .i64 3)]]), (.int .i64 0)]) = true ∧ ACalls Go.Proofs.Tryz.prog 28 [.int .i64 (-4), .int .i64 29] [] 0 (fun r _ _ => r = (.tup [(.tsl 1 [[(.int .i64 1)], [(.int .i64 4)], [(.int .i64 0)], [(.int .i64 3)]]), (.int .i64 0)])) := runOKX_sound hLd hdT0_ok (by kernel_rfl : runOKX tr.find hdX0 500 28 [.int .i64 (-4), .int .i64 29] (.tup [(.tsl 1 [[(.int .i64 1)], [(.int .i64 4)], [(.int .i64 0)], [(.int .i64 3)]]), (.int .i64 0)]) = true)
def kT29n4 : List (Nat × (List AV × AV)) := (28, ([.int .i64 (-4), .int .i64 29], (.tup [(.tsl 1 [[(.int .i64 1)], [(.int .i64 4)], [(.int .i64 0)], [(.int .i64 3)]]), (.int .i64 0)]))) :: eT3
theorem kT29n4_ok : TOK Go.Proofs.Tryz.prog kT29n4 := TOK.cons sg29n4 eT3_ok
def kX29n4 : XP := ⟨hdZ, kT29n4, hdG, kp.find⟩
def kl29n4 : List Sp := [⟨22, 5, 512⟩, ⟨22, 1025, 2048⟩, ⟨22, 2045, 0⟩, ⟨22, 3065, 1536⟩]
theorem ky29n4 (b : Int) : ACalls Go.Proofs.Tryz.prog 12 [.int .i64 (-4), .int .i64 b, .int .i64 29, .int .i64 5] [] 0 (fun r _ _ => r = .tup [.tsl 7 (kl29n4.map Sp.e), .int .i64 3985]) := (runOKX_sound hLd kT29n4_ok (by kernel_rfl : runOKX tr.find kX29n4 500 12 [.int .i64 (-4), .int .i64 b, .int .i64 29, .int .i64 5] (.tup [.tsl 7 (kl29n4.map Sp.e), .int .i64 3985]) = true)).2
theorem ap29n4 : ACalls Go.Proofs.Tryz.prog 13 [.tsl 7 (kl29n4.map Sp.e), .int .i64 5, .int .i64 3985] [] 0 (fun r _ _ => r = .bool true) := (runOKX_sound hLd rT3_ok (by kernel_rfl : runOKX tr.find rX 3000 13 [.tsl 7 (kl29n4.map Sp.e), .int .i64 5, .int .i64 3985] (.bool true) = true)).2
theorem lw29n4 (b : Int) (h3 : -7 ≤ b) (h4 : b ≤ 7) : ACalls Go.Proofs.Tryz.prog 4 [.int .i64 (-4), .int .i64 b, .int .i64 29] [] 0 (fun r _ _ => r = .bool true) := keys_neg (-4) b 29 1024 kl29n4 3985 cl29 (ky29n4 b) ap29n4 (by decide) (by decide) h3 h4 rfl rfl (hg_of rfl) (by decide) rfl

def kl29n4z : List Sp := [⟨23, 5, 512⟩, ⟨23, 805, 2048⟩, ⟨23, 1605, 0⟩, ⟨23, 2405, 1536⟩]
theorem ky29n4z : ACalls Go.Proofs.Tryz.prog 12 [.int .i64 0, .int .i64 (-4), .int .i64 29, .int .i64 5] [] 0 (fun r _ _ => r = .tup [.tsl 7 (kl29n4z.map Sp.e), .int .i64 3105]) := (runOKX_sound hLd kT29n4_ok (by kernel_rfl : runOKX tr.find kX29n4 500 12 [.int .i64 0, .int .i64 (-4), .int .i64 29, .int .i64 5] (.tup [.tsl 7 (kl29n4z.map Sp.e), .int .i64 3105]) = true)).2
theorem ap29n4z : ACalls Go.Proofs.Tryz.prog 13 [.tsl 7 (kl29n4z.map Sp.e), .int .i64 5, .int .i64 3105] [] 0 (fun r _ _ => r = .bool true) := (runOKX_sound hLd rT3_ok (by kernel_rfl : runOKX tr.find rX 3000 13 [.tsl 7 (kl29n4z.map Sp.e), .int .i64 5, .int .i64 3105] (.bool true) = true)).2
theorem lw29n4z : ACalls Go.Proofs.Tryz.prog 4 [.int .i64 0, .int .i64 (-4), .int .i64 29] [] 0 (fun r _ _ => r = .bool true) := keys_zero 0 (-4) 29 1024 kl29n4z 3105 cl29 ky29n4z ap29n4z (by decide) (by decide) (by decide) (by decide) rfl rfl (hg_of rfl) rfl rfl rfl

theorem sg29n3 : AV.pure (.tup [(.tsl 1 [[(.int .i64 1)], [(.int .i64 4)], [(.int .i64 0)]]), (.int .i64 0)]) = true ∧ ACalls Go.Proofs.Tryz.prog 28 [.int .i64 (-3), .int .i64 29] [] 0 (fun r _ _ => r = (.tup [(.tsl 1 [[(.int .i64 1)], [(.int .i64 4)], [(.int .i64 0)]]), (.int .i64 0)])) := runOKX_sound hLd hdT0_ok (by kernel_rfl : runOKX tr.find hdX0 500 28 [.int .i64 (-3), .int .i64 29] (.tup [(.tsl 1 [[(.int .i64 1)], [(.int .i64 4)], [(.int .i64 0)]]), (.int .i64 0)]) = true)
def kT29n3 : List (Nat × (List AV × AV)) := (28, ([.int .i64 (-3), .int .i64 29], (.tup [(.tsl 1 [[(.int .i64 1)], [(.int .i64 4)], [(.int .i64 0)]]), (.int .i64 0)]))) :: eT3
theorem kT29n3_ok : TOK Go.Proofs.Tryz.prog kT29n3 := TOK.cons sg29n3 eT3_ok
def kX29n3 : XP := ⟨hdZ, kT29n3, hdG, kp.find⟩
def kl29n3 : List Sp := [⟨22, 5, 512⟩, ⟨22, 1025, 2048⟩, ⟨22, 2045, 0⟩]
theorem ky29n3 (b : Int) : ACalls Go.Proofs.Tryz.prog 12 [.int .i64 (-3), .int .i64 b, .int .i64 29, .int .i64 5] [] 0 (fun r _ _ => r = .tup [.tsl 7 (kl29n3.map Sp.e), .int .i64 2965]) := (runOKX_sound hLd kT29n3_ok (by kernel_rfl : runOKX tr.find kX29n3 500 12 [.int .i64 (-3), .int .i64 b, .int .i64 29, .int .i64 5] (.tup [.tsl 7 (kl29n3.map Sp.e), .int .i64 2965]) = true)).2
theorem ap29n3 : ACalls Go.Proofs.Tryz.prog 13 [.tsl 7 (kl29n3.map Sp.e), .int .i64 5, .int .i64 2965] [] 0 (fun r _ _ => r = .bool true) := (runOKX_sound hLd rT3_ok (by kernel_rfl : runOKX tr.find rX 3000 13 [.tsl 7 (kl29n3.map Sp.e), .int .i64 5, .int .i64 2965] (.bool true) = true)).2
theorem lw29n3 (b : Int) (h3 : -7 ≤ b) (h4 : b ≤ 7) : ACalls Go.Proofs.Tryz.prog 4 [.int .i64 (-3), .int .i64 b, .int .i64 29] [] 0 (fun r _ _ => r = .bool true) := keys_neg (-3) b 29 1024 kl29n3 2965 cl29 (ky29n3 b) ap29n3 (by decide) (by decide) h3 h4 rfl rfl (hg_of rfl) (by decide) rfl

def kl29n3z : List Sp := [⟨23, 5, 512⟩, ⟨23, 805, 2048⟩, ⟨23, 1605, 0⟩]
theorem ky29n3z : ACalls Go.Proofs.Tryz.prog 12 [.int .i64 0, .int .i64 (-3), .int .i64 29, .int .i64 5] [] 0 (fun r _ _ => r = .tup [.tsl 7 (kl29n3z.map Sp.e), .int .i64 2305]) := (runOKX_sound hLd kT29n3_ok (by kernel_rfl : runOKX tr.find kX29n3 500 12 [.int .i64 0, .int .i64 (-3), .int .i64 29, .int .i64 5] (.tup [.tsl 7 (kl29n3z.map Sp.e), .int .i64 2305]) = true)).2
theorem ap29n3z : ACalls Go.Proofs.Tryz.prog 13 [.tsl 7 (kl29n3z.map Sp.e), .int .i64 5, .int .i64 2305] [] 0 (fun r _ _ => r = .bool true) := (runOKX_sound hLd rT3_ok (by kernel_rfl : runOKX tr.find rX 3000 13 [.tsl 7 (kl29n3z.map Sp.e), .int .i64 5, .int .i64 2305] (.bool true) = true)).2
theorem lw29n3z : ACalls Go.Proofs.Tryz.prog 4 [.int .i64 0, .int .i64 (-3), .int .i64 29] [] 0 (fun r _ _ => r = .bool true) := keys_zero 0 (-3) 29 1024 kl29n3z 2305 cl29 ky29n3z ap29n3z (by decide) (by decide) (by decide) (by decide) rfl rfl (hg_of rfl) rfl rfl rfl

theorem sg29n2 : AV.pure (.tup [(.tsl 1 [[(.int .i64 1)], [(.int .i64 4)]]), (.int .i64 0)]) = true ∧ ACalls Go.Proofs.Tryz.prog 28 [.int .i64 (-2), .int .i64 29] [] 0 (fun r _ _ => r = (.tup [(.tsl 1 [[(.int .i64 1)], [(.int .i64 4)]]), (.int .i64 0)])) := runOKX_sound hLd hdT0_ok (by kernel_rfl : runOKX tr.find hdX0 500 28 [.int .i64 (-2), .int .i64 29] (.tup [(.tsl 1 [[(.int .i64 1)], [(.int .i64 4)]]), (.int .i64 0)]) = true)
def kT29n2 : List (Nat × (List AV × AV)) := (28, ([.int .i64 (-2), .int .i64 29], (.tup [(.tsl 1 [[(.int .i64 1)], [(.int .i64 4)]]), (.int .i64 0)]))) :: eT3
theorem kT29n2_ok : TOK Go.Proofs.Tryz.prog kT29n2 := TOK.cons sg29n2 eT3_ok
def kX29n2 : XP := ⟨hdZ, kT29n2, hdG, kp.find⟩
def kl29n2 : List Sp := [⟨22, 5, 512⟩, ⟨22, 1025, 2048⟩]
theorem ky29n2 (b : Int) : ACalls Go.Proofs.Tryz.prog 12 [.int .i64 (-2), .int .i64 b, .int .i64 29, .int .i64 5] [] 0 (fun r _ _ => r = .tup [.tsl 7 (kl29n2.map Sp.e), .int .i64 1945]) := (runOKX_sound hLd kT29n2_ok (by kernel_rfl : runOKX tr.find kX29n2 500 12 [.int .i64 (-2), .int .i64 b, .int .i64 29, .int .i64 5] (.tup [.tsl 7 (kl29n2.map Sp.e), .int .i64 1945]) = true)).2
theorem ap29n2 : ACalls Go.Proofs.Tryz.prog 13 [.tsl 7 (kl29n2.map Sp.e), .int .i64 5, .int .i64 1945] [] 0 (fun r _ _ => r = .bool true) := (runOKX_sound hLd rT3_ok (by kernel_rfl : runOKX tr.find rX 3000 13 [.tsl 7 (kl29n2.map Sp.e), .int .i64 5, .int .i64 1945] (.bool true) = true)).2
theorem lw29n2 (b : Int) (h3 : -7 ≤ b) (h4 : b ≤ 7) : ACalls Go.Proofs.Tryz.prog 4 [.int .i64 (-2), .int .i64 b, .int .i64 29] [] 0 (fun r _ _ => r = .bool true) := keys_neg (-2) b 29 1024 kl29n2 1945 cl29 (ky29n2 b) ap29n2 (by decide) (by decide) h3 h4 rfl rfl (hg_of rfl) (by decide) rfl

def kl29n2z : List Sp := [⟨23, 5, 512⟩, ⟨23, 805, 2048⟩]
theorem ky29n2z : ACalls Go.Proofs.Tryz.prog 12 [.int .i64 0, .int .i64 (-2), .int .i64 29, .int .i64 5] [] 0 (fun r _ _ => r = .tup [.tsl 7 (kl29n2z.map Sp.e), .int .i64 1505]) := (runOKX_sound hLd kT29n2_ok (by kernel_rfl : runOKX tr.find kX29n2 500 12 [.int .i64 0, .int .i64 (-2), .int .i64 29, .int .i64 5] (.tup [.tsl 7 (kl29n2z.map Sp.e), .int .i64 1505]) = true)).2
theorem ap29n2z : ACalls Go.Proofs.Tryz.prog 13 [.tsl 7 (kl29n2z.map Sp.e), .int .i64 5, .int .i64 1505] [] 0 (fun r _ _ => r = .bool true) := (runOKX_sound hLd rT3_ok (by kernel_rfl : runOKX tr.find rX 3000 13 [.tsl 7 (kl29n2z.map Sp.e), .int .i64 5, .int .i64 1505] (.bool true) = true)).2
theorem lw29n2z : ACalls Go.Proofs.Tryz.prog 4 [.int .i64 0, .int .i64 (-2), .int .i64 29] [] 0 (fun r _ _ => r = .bool true) := keys_zero 0 (-2) 29 1024 kl29n2z 1505 cl29 ky29n2z ap29n2z (by decide) (by decide) (by decide) (by decide) rfl rfl (hg_of rfl) rfl rfl rfl

theorem sg29n1 : AV.pure (.tup [(.tsl 1 [[(.int .i64 1)]]), (.int .i64 0)]) = true ∧ ACalls Go.Proofs.Tryz.prog 28 [.int .i64 (-1), .int .i64 29] [] 0 (fun r _ _ => r = (.tup [(.tsl 1 [[(.int .i64 1)]]), (.int .i64 0)])) := runOKX_sound hLd hdT0_ok (by kernel_rfl : runOKX tr.find hdX0 500 28 [.int .i64 (-1), .int .i64 29] (.tup [(.tsl 1 [[(.int .i64 1)]]), (.int .i64 0)]) = true)
def kT29n1 : List (Nat × (List AV × AV)) := (28, ([.int .i64 (-1), .int .i64 29], (.tup [(.tsl 1 [[(.int .i64 1)]]), (.int .i64 0)]))) :: eT3
theorem kT29n1_ok : TOK Go.Proofs.Tryz.prog kT29n1 := TOK.cons sg29n1 eT3_ok
def kX29n1 : XP := ⟨hdZ, kT29n1, hdG, kp.find⟩
def kl29n1 : List Sp := [⟨22, 5, 512⟩]
theorem ky29n1 (b : Int) : ACalls Go.Proofs.Tryz.prog 12 [.int .i64 (-1), .int .i64 b, .int .i64 29, .int .i64 5] [] 0 (fun r _ _ => r = .tup [.tsl 7 (kl29n1.map Sp.e), .int .i64 925]) := (runOKX_sound hLd kT29n1_ok (by kernel_rfl : runOKX tr.find kX29n1 500 12 [.int .i64 (-1), .int .i64 b, .int .i64 29, .int .i64 5] (.tup [.tsl 7 (kl29n1.map Sp.e), .int .i64 925]) = true)).2
theorem ap29n1 : ACalls Go.Proofs.Tryz.prog 13 [.tsl 7 (kl29n1.map Sp.e), .int .i64 5, .int .i64 925] [] 0 (fun r _ _ => r = .bool true) := (runOKX_sound hLd rT3_ok (by kernel_rfl : runOKX tr.find rX 3000 13 [.tsl 7 (kl29n1.map Sp.e), .int .i64 5, .int .i64 925] (.bool true) = true)).2
theorem lw29n1 (b : Int) (h3 : -7 ≤ b) (h4 : b ≤ 7) : ACalls Go.Proofs.Tryz.prog 4 [.int .i64 (-1), .int .i64 b, .int .i64 29] [] 0 (fun r _ _ => r = .bool true) := keys_neg (-1) b 29 1024 kl29n1 925 cl29 (ky29n1 b) ap29n1 (by decide) (by decide) h3 h4 rfl rfl (hg_of rfl) (by decide) rfl

def kl29n1z : List Sp := [⟨23, 5, 512⟩]
theorem ky29n1z : ACalls Go.Proofs.Tryz.prog 12 [.int .i64 0, .int .i64 (-1), .int .i64 29, .int .i64 5] [] 0 (fun r _ _ => r = .tup [.tsl 7 (kl29n1z.map Sp.e), .int .i64 705]) := (runOKX_sound hLd kT29n1_ok (by kernel_rfl : runOKX tr.find kX29n1 500 12 [.int .i64 0, .int .i64 (-1), .int .i64 29, .int .i64 5] (.tup [.tsl 7 (kl29n1z.map Sp.e), .int .i64 705]) = true)).2
theorem ap29n1z : ACalls Go.Proofs.Tryz.prog 13 [.tsl 7 (kl29n1z.map Sp.e), .int .i64 5, .int .i64 705] [] 0 (fun r _ _ => r = .bool true) := (runOKX_sound hLd rT3_ok (by kernel_rfl : runOKX tr.find rX 3000 13 [.tsl 7 (kl29n1z.map Sp.e), .int .i64 5, .int .i64 705] (.bool true) = true)).2
theorem lw29n1z : ACalls Go.Proofs.Tryz.prog 4 [.int .i64 0, .int .i64 (-1), .int .i64 29] [] 0 (fun r _ _ => r = .bool true) := keys_zero 0 (-1) 29 1024 kl29n1z 705 cl29 ky29n1z ap29n1z (by decide) (by decide) (by decide) (by decide) rfl rfl (hg_of rfl) rfl rfl rfl

theorem sg29p1 : AV.pure (.tup [(.tsl 1 [[(.int .i64 (-2))]]), (.int .i64 0)]) = true ∧ ACalls Go.Proofs.Tryz.prog 28 [.int .i64 1, .int .i64 29] [] 0 (fun r _ _ => r = (.tup [(.tsl 1 [[(.int .i64 (-2))]]), (.int .i64 0)])) := runOKX_sound hLd hdT0_ok (by kernel_rfl : runOKX tr.find hdX0 500 28 [.int .i64 1, .int .i64 29] (.tup [(.tsl 1 [[(.int .i64 (-2))]]), (.int .i64 0)]) = true)
def kT29p1 : List (Nat × (List AV × AV)) := (28, ([.int .i64 1, .int .i64 29], (.tup [(.tsl 1 [[(.int .i64 (-2))]]), (.int .i64 0)]))) :: eT3
theorem kT29p1_ok : TOK Go.Proofs.Tryz.prog kT29p1 := TOK.cons sg29p1 eT3_ok
def kX29p1 : XP := ⟨hdZ, kT29p1, hdG, kp.find⟩
def kl29p1 : List Sp := [⟨21, 5, (-1024)⟩]
theorem ky29p1 (b : Int) : ACalls Go.Proofs.Tryz.prog 12 [.int .i64 1, .int .i64 b, .int .i64 29, .int .i64 5] [] 0 (fun r _ _ => r = .tup [.tsl 7 (kl29p1.map Sp.e), .int .i64 1025]) := (runOKX_sound hLd kT29p1_ok (by kernel_rfl : runOKX tr.find kX29p1 500 12 [.int .i64 1, .int .i64 b, .int .i64 29, .int .i64 5] (.tup [.tsl 7 (kl29p1.map Sp.e), .int .i64 1025]) = true)).2
theorem ap29p1 : ACalls Go.Proofs.Tryz.prog 13 [.tsl 7 (kl29p1.map Sp.e), .int .i64 5, .int .i64 1025] [] 0 (fun r _ _ => r = .bool true) := (runOKX_sound hLd rT3_ok (by kernel_rfl : runOKX tr.find rX 3000 13 [.tsl 7 (kl29p1.map Sp.e), .int .i64 5, .int .i64 1025] (.bool true) = true)).2
theorem lw29p1 (b : Int) (h3 : -7 ≤ b) (h4 : b ≤ 7) : ACalls Go.Proofs.Tryz.prog 4 [.int .i64 1, .int .i64 b, .int .i64 29] [] 0 (fun r _ _ => r = .bool true) := keys_pos 1 b 29 1024 kl29p1 1025 cl29 (ky29p1 b) ap29p1 (by decide) (by decide) h3 h4 rfl rfl (hg_of rfl) (by decide) rfl

def kl29p1z : List Sp := [⟨23, 5, (-1024)⟩]
theorem ky29p1z : ACalls Go.Proofs.Tryz.prog 12 [.int .i64 0, .int .i64 1, .int .i64 29, .int .i64 5] [] 0 (fun r _ _ => r = .tup [.tsl 7 (kl29p1z.map Sp.e), .int .i64 705]) := (runOKX_sound hLd kT29p1_ok (by kernel_rfl : runOKX tr.find kX29p1 500 12 [.int .i64 0, .int .i64 1, .int .i64 29, .int .i64 5] (.tup [.tsl 7 (kl29p1z.map Sp.e), .int .i64 705]) = true)).2
theorem ap29p1z : ACalls Go.Proofs.Tryz.prog 13 [.tsl 7 (kl29p1z.map Sp.e), .int .i64 5, .int .i64 705] [] 0 (fun r _ _ => r = .bool true) := (runOKX_sound hLd rT3_ok (by kernel_rfl : runOKX tr.find rX 3000 13 [.tsl 7 (kl29p1z.map Sp.e), .int .i64 5, .int .i64 705] (.bool true) = true)).2
theorem lw29p1z : ACalls Go.Proofs.Tryz.prog 4 [.int .i64 0, .int .i64 1, .int .i64 29] [] 0 (fun r _ _ => r = .bool true) := keys_zero 0 1 29 1024 kl29p1z 705 cl29 ky29p1z ap29p1z (by decide) (by decide) (by decide) (by decide) rfl rfl (hg_of rfl) rfl rfl rfl

theorem sg29p2 : AV.pure (.tup [(.tsl 1 [[(.int .i64 (-2))], [(.int .i64 2)]]), (.int .i64 0)]) = true ∧ ACalls Go.Proofs.Tryz.prog 28 [.int .i64 2, .int .i64 29] [] 0 (fun r _ _ => r = (.tup [(.tsl 1 [[(.int .i64 (-2))], [(.int .i64 2)]]), (.int .i64 0)])) := runOKX_sound hLd hdT0_ok (by kernel_rfl : runOKX tr.find hdX0 500 28 [.int .i64 2, .int .i64 29] (.tup [(.tsl 1 [[(.int .i64 (-2))], [(.int .i64 2)]]), (.int .i64 0)]) = true)
def kT29p2 : List (Nat × (List AV × AV)) := (28, ([.int .i64 2, .int .i64 29], (.tup [(.tsl 1 [[(.int .i64 (-2))], [(.int .i64 2)]]), (.int .i64 0)]))) :: eT3
theorem kT29p2_ok : TOK Go.Proofs.Tryz.prog kT29p2 := TOK.cons sg29p2 eT3_ok
def kX29p2 : XP := ⟨hdZ, kT29p2, hdG, kp.find⟩
def kl29p2 : List Sp := [⟨21, 5, (-1024)⟩, ⟨21, 1125, 1024⟩]
theorem ky29p2 (b : Int) : ACalls Go.Proofs.Tryz.prog 12 [.int .i64 2, .int .i64 b, .int .i64 29, .int .i64 5] [] 0 (fun r _ _ => r = .tup [.tsl 7 (kl29p2.map Sp.e), .int .i64 2145]) := (runOKX_sound hLd kT29p2_ok (by kernel_rfl : runOKX tr.find kX29p2 500 12 [.int .i64 2, .int .i64 b, .int .i64 29, .int .i64 5] (.tup [.tsl 7 (kl29p2.map Sp.e), .int .i64 2145]) = true)).2
theorem ap29p2 : ACalls Go.Proofs.Tryz.prog 13 [.tsl 7 (kl29p2.map Sp.e), .int .i64 5, .int .i64 2145] [] 0 (fun r _ _ => r = .bool true) := (runOKX_sound hLd rT3_ok (by kernel_rfl : runOKX tr.find rX 3000 13 [.tsl 7 (kl29p2.map Sp.e), .int .i64 5, .int .i64 2145] (.bool true) = true)).2
theorem lw29p2 (b : Int) (h3 : -7 ≤ b) (h4 : b ≤ 7) : ACalls Go.Proofs.Tryz.prog 4 [.int .i64 2, .int .i64 b, .int .i64 29] [] 0 (fun r _ _ => r = .bool true) := keys_pos 2 b 29 1024 kl29p2 2145 cl29 (ky29p2 b) ap29p2 (by decide) (by decide) h3 h4 rfl rfl (hg_of rfl) (by decide) rfl

def kl29p2z : List Sp := [⟨23, 5, (-1024)⟩, ⟨23, 805, 1024⟩]
theorem ky29p2z : ACalls Go.Proofs.Tryz.prog 12 [.int .i64 0, .int .i64 2, .int .i64 29, .int .i64 5] [] 0 (fun r _ _ => r = .tup [.tsl 7 (kl29p2z.map Sp.e), .int .i64 1505]) := (runOKX_sound hLd kT29p2_ok (by kernel_rfl : runOKX tr.find kX29p2 500 12 [.int .i64 0, .int .i64 2, .int .i64 29, .int .i64 5] (.tup [.tsl 7 (kl29p2z.map Sp.e), .int .i64 1505]) = true)).2
theorem ap29p2z : ACalls Go.Proofs.Tryz.prog 13 [.tsl 7 (kl29p2z.map Sp.e), .int .i64 5, .int .i64 1505] [] 0 (fun r _ _ => r = .bool true) := (runOKX_sound hLd rT3_ok (by kernel_rfl : runOKX tr.find rX 3000 13 [.tsl 7 (kl29p2z.map Sp.e), .int .i64 5, .int .i64 1505] (.bool true) = true)).2
theorem lw29p2z : ACalls Go.Proofs.Tryz.prog 4 [.int .i64 0, .int .i64 2, .int .i64 29] [] 0 (fun r _ _ => r = .bool true) := keys_zero 0 2 29 1024 kl29p2z 1505 cl29 ky29p2z ap29p2z (by decide) (by decide) (by decide) (by decide) rfl rfl (hg_of rfl) rfl rfl rfl

theorem sg29p3 : AV.pure (.tup [(.tsl 1 [[(.int .i64 (-2))], [(.int .i64 2)], [(.int .i64 (-1))]]), (.int .i64 0)]) = true ∧ ACalls Go.Proofs.Tryz.prog 28 [.int .i64 3, .int .i64 29] [] 0 (fun r _ _ => r = (.tup [(.tsl 1 [[(.int .i64 (-2))], [(.int .i64 2)], [(.int .i64 (-1))]]), (.int .i64 0)])) := runOKX_sound hLd hdT0_ok (by kernel_rfl : runOKX tr.find hdX0 500 28 [.int .i64 3, .int .i64 29] (.tup [(.tsl 1 [[(.int .i64 (-2))], [(.int .i64 2)], [(.int .i64 (-1))]]), (.int .i64 0)]) = true)
def kT29p3 : List (Nat × (List AV × AV)) := (28, ([.int .i64 3, .int .i64 29], (.tup [(.tsl 1 [[(.int .i64 (-2))], [(.int .i64 2)], [(.int .i64 (-1))]]), (.int .i64 0)]))) :: eT3
theorem kT29p3_ok : TOK Go.Proofs.Tryz.prog kT29p3 := TOK.cons sg29p3 eT3_ok
def kX29p3 : XP := ⟨hdZ, kT29p3, hdG, kp.find⟩
def kl29p3 : List Sp := [⟨21, 5, (-1024)⟩, ⟨21, 1125, 1024⟩, ⟨21, 2245, (-512)⟩]
theorem ky29p3 (b : Int) : ACalls Go.Proofs.Tryz.prog 12 [.int .i64 3, .int .i64 b, .int .i64 29, .int .i64 5] [] 0 (fun r _ _ => r = .tup [.tsl 7 (kl29p3.map Sp.e), .int .i64 3265]) := (runOKX_sound hLd kT29p3_ok (by kernel_rfl : runOKX tr.find kX29p3 500 12 [.int .i64 3, .int .i64 b, .int .i64 29, .int .i64 5] (.tup [.tsl 7 (kl29p3.map Sp.e), .int .i64 3265]) = true)).2
theorem ap29p3 : ACalls Go.Proofs.Tryz.prog 13 [.tsl 7 (kl29p3.map Sp.e), .int .i64 5, .int .i64 3265] [] 0 (fun r _ _ => r = .bool true) := (runOKX_sound hLd rT3_ok (by kernel_rfl : runOKX tr.find rX 3000 13 [.tsl 7 (kl29p3.map Sp.e), .int .i64 5, .int .i64 3265] (.bool true) = true)).2
theorem lw29p3 (b : Int) (h3 : -7 ≤ b) (h4 : b ≤ 7) : ACalls Go.Proofs.Tryz.prog 4 [.int .i64 3, .int .i64 b, .int .i64 29] [] 0 (fun r _ _ => r = .bool true) := keys_pos 3 b 29 1024 kl29p3 3265 cl29 (ky29p3 b) ap29p3 (by decide) (by decide) h3 h4 rfl rfl (hg_of rfl) (by decide) rfl

def kl29p3z : List Sp := [⟨23, 5, (-1024)⟩, ⟨23, 805, 1024⟩, ⟨23, 1605, (-512)⟩]
theorem ky29p3z : ACalls Go.Proofs.Tryz.prog 12 [.int .i64 0, .int .i64 3, .int .i64 29, .int .i64 5] [] 0 (fun r _ _ => r = .tup [.tsl 7 (kl29p3z.map Sp.e), .int .i64 2305]) := (runOKX_sound hLd kT29p3_ok (by kernel_rfl : runOKX tr.find kX29p3 500 12 [.int .i64 0, .int .i64 3, .int .i64 29, .int .i64 5] (.tup [.tsl 7 (kl29p3z.map Sp.e), .int .i64 2305]) = true)).2
theorem ap29p3z : ACalls Go.Proofs.Tryz.prog 13 [.tsl 7 (kl29p3z.map Sp.e), .int .i64 5, .int .i64 2305] [] 0 (fun r _ _ => r = .bool true) := (runOKX_sound hLd rT3_ok (by kernel_rfl : runOKX tr.find rX 3000 13 [.tsl 7 (kl29p3z.map Sp.e), .int .i64 5, .int .i64 2305] (.bool true) = true)).2
theorem lw29p3z : ACalls Go.Proofs.Tryz.prog 4 [.int .i64 0, .int .i64 3, .int .i64 29] [] 0 (fun r _ _ => r = .bool true) := keys_zero 0 3 29 1024 kl29p3z 2305 cl29 ky29p3z ap29p3z (by decide) (by decide) (by decide) (by decide) rfl rfl (hg_of rfl) rfl rfl rfl

theorem sg29p4 : AV.pure (.tup [(.tsl 1 [[(.int .i64 (-2))], [(.int .i64 2)], [(.int .i64 (-1))], [(.int .i64 3)]]), (.int .i64 0)]) = true ∧ ACalls Go.Proofs.Tryz.prog 28 [.int .i64 4, .int .i64 29] [] 0 (fun r _ _ => r = (.tup [(.tsl 1 [[(.int .i64 (-2))], [(.int .i64 2)], [(.int .i64 (-1))], [(.int .i64 3)]]), (.int .i64 0)])) := runOKX_sound hLd hdT0_ok (by kernel_rfl : runOKX tr.find hdX0 500 28 [.int .i64 4, .int .i64 29] (.tup [(.tsl 1 [[(.int .i64 (-2))], [(.int .i64 2)], [(.int .i64 (-1))], [(.int .i64 3)]]), (.int .i64 0)]) = true)
def kT29p4 : List (Nat × (List AV × AV)) := (28, ([.int .i64 4, .int .i64 29], (.tup [(.tsl 1 [[(.int .i64 (-2))], [(.int .i64 2)], [(.int .i64 (-1))], [(.int .i64 3)]]), (.int .i64 0)]))) :: eT3
theorem kT29p4_ok : TOK Go.Proofs.Tryz.prog kT29p4 := TOK.cons sg29p4 eT3_ok
def kX29p4 : XP := ⟨hdZ, kT29p4, hdG, kp.find⟩
def kl29p4 : List Sp := [⟨21, 5, (-1024)⟩, ⟨21, 1125, 1024⟩, ⟨21, 2245, (-512)⟩, ⟨21, 3365, 1536⟩]
theorem ky29p4 (b : Int) : ACalls Go.Proofs.Tryz.prog 12 [.int .i64 4, .int .i64 b, .int .i64 29, .int .i64 5] [] 0 (fun r _ _ => r = .tup [.tsl 7 (kl29p4.map Sp.e), .int .i64 4385]) := (runOKX_sound hLd kT29p4_ok (by kernel_rfl : runOKX tr.find kX29p4 500 12 [.int .i64 4, .int .i64 b, .int .i64 29, .int .i64 5] (.tup [.tsl 7 (kl29p4.map Sp.e), .int .i64 4385]) = true)).2
theorem ap29p4 : ACalls Go.Proofs.Tryz.prog 13 [.tsl 7 (kl29p4.map Sp.e), .int .i64 5, .int .i64 4385] [] 0 (fun r _ _ => r = .bool true) := (runOKX_sound hLd rT3_ok (by kernel_rfl : runOKX tr.find rX 3000 13 [.tsl 7 (kl29p4.map Sp.e), .int .i64 5, .int .i64 4385] (.bool true) = true)).2
theorem lw29p4 (b : Int) (h3 : -7 ≤ b) (h4 : b ≤ 7) : ACalls Go.Proofs.Tryz.prog 4 [.int .i64 4, .int .i64 b, .int .i64 29] [] 0 (fun r _ _ => r = .bool true) := keys_pos 4 b 29 1024 kl29p4 4385 cl29 (ky29p4 b) ap29p4 (by decide) (by decide) h3 h4 rfl rfl (hg_of rfl) (by decide) rfl

def kl29p4z : List Sp := [⟨23, 5, (-1024)⟩, ⟨23, 805, 1024⟩, ⟨23, 1605, (-512)⟩, ⟨23, 2405, 1536⟩]
theorem ky29p4z : ACalls Go.Proofs.Tryz.prog 12 [.int .i64 0, .int .i64 4, .int .i64 29, .int .i64 5] [] 0 (fun r _ _ => r = .tup [.tsl 7 (kl29p4z.map Sp.e), .int .i64 3105]) := (runOKX_sound hLd kT29p4_ok (by kernel_rfl : runOKX tr.find kX29p4 500 12 [.int .i64 0, .int .i64 4, .int .i64 29, .int .i64 5] (.tup [.tsl 7 (kl29p4z.map Sp.e), .int .i64 3105]) = true)).2
theorem ap29p4z : ACalls Go.Proofs.Tryz.prog 13 [.tsl 7 (kl29p4z.map Sp.e), .int .i64 5, .int .i64 3105] [] 0 (fun r _ _ => r = .bool true) := (runOKX_sound hLd rT3_ok (by kernel_rfl : runOKX tr.find rX 3000 13 [.tsl 7 (kl29p4z.map Sp.e), .int .i64 5, .int .i64 3105] (.bool true) = true)).2
theorem lw29p4z : ACalls Go.Proofs.Tryz.prog 4 [.int .i64 0, .int .i64 4, .int .i64 29] [] 0 (fun r _ _ => r = .bool true) := keys_zero 0 4 29 1024 kl29p4z 3105 cl29 ky29p4z ap29p4z (by decide) (by decide) (by decide) (by decide) rfl rfl (hg_of rfl) rfl rfl rfl

theorem sg29p5 : AV.pure (.tup [(.tsl 1 [[(.int .i64 (-2))], [(.int .i64 2)], [(.int .i64 (-1))], [(.int .i64 3)], [(.int .i64 0)]]), (.int .i64 0)]) = true ∧ ACalls Go.Proofs.Tryz.prog 28 [.int .i64 5, .int .i64 29] [] 0 (fun r _ _ => r = (.tup [(.tsl 1 [[(.int .i64 (-2))], [(.int .i64 2)], [(.int .i64 (-1))], [(.int .i64 3)], [(.int .i64 0)]]), (.int .i64 0)])) := runOKX_sound hLd hdT0_ok (by kernel_rfl : runOKX tr.find hdX0 500 28 [.int .i64 5, .int .i64 29] (.tup [(.tsl 1 [[(.int .i64 (-2))], [(.int .i64 2)], [(.int .i64 (-1))], [(.int .i64 3)], [(.int .i64 0)]]), (.int .i64 0)]) = true)
def kT29p5 : List (Nat × (List AV × AV)) := (28, ([.int .i64 5, .int .i64 29], (.tup [(.tsl 1 [[(.int .i64 (-2))], [(.int .i64 2)], [(.int .i64 (-1))], [(.int .i64 3)], [(.int .i64 0)]]), (.int .i64 0)]))) :: eT3
theorem kT29p5_ok : TOK Go.Proofs.Tryz.prog kT29p5 := TOK.cons sg29p5 eT3_ok
def kX29p5 : XP := ⟨hdZ, kT29p5, hdG, kp.find⟩
def kl29p5 : List Sp := [⟨21, 5, (-1024)⟩, ⟨21, 1125, 1024⟩, ⟨21, 2245, (-512)⟩, ⟨21, 3365, 1536⟩, ⟨21, 4485, 0⟩]
theorem ky29p5 (b : Int) : ACalls Go.Proofs.Tryz.prog 12 [.int .i64 5, .int .i64 b, .int .i64 29, .int .i64 5] [] 0 (fun r _ _ => r = .tup [.tsl 7 (kl29p5.map Sp.e), .int .i64 5505]) := (runOKX_sound hLd kT29p5_ok (by kernel_rfl : runOKX tr.find kX29p5 500 12 [.int .i64 5, .int .i64 b, .int .i64 29, .int .i64 5] (.tup [.tsl 7 (kl29p5.map Sp.e), .int .i64 5505]) = true)).2
theorem ap29p5 : ACalls Go.Proofs.Tryz.prog 13 [.tsl 7 (kl29p5.map Sp.e), .int .i64 5, .int .i64 5505] [] 0 (fun r _ _ => r = .bool true) := (runOKX_sound hLd rT3_ok (by kernel_rfl : runOKX tr.find rX 3000 13 [.tsl 7 (kl29p5.map Sp.e), .int .i64 5, .int .i64 5505] (.bool true) = true)).2
theorem lw29p5 (b : Int) (h3 : -7 ≤ b) (h4 : b ≤ 7) : ACalls Go.Proofs.Tryz.prog 4 [.int .i64 5, .int .i64 b, .int .i64 29] [] 0 (fun r _ _ => r = .bool true) := keys_pos 5 b 29 1024 kl29p5 5505 cl29 (ky29p5 b) ap29p5 (by decide) (by decide) h3 h4 rfl rfl (hg_of rfl) (by decide) rfl

def kl29p5z : List Sp := [⟨23, 5, (-1024)⟩, ⟨23, 805, 1024⟩, ⟨23, 1605, (-512)⟩, ⟨23, 2405, 1536⟩, ⟨23, 3205, 0⟩]
theorem ky29p5z : ACalls Go.Proofs.Tryz.prog 12 [.int .i64 0, .int .i64 5, .int .i64 29, .int .i64 5] [] 0 (fun r _ _ => r = .tup [.tsl 7 (kl29p5z.map Sp.e), .int .i64 3905]) := (runOKX_sound hLd kT29p5_ok (by kernel_rfl : runOKX tr.find kX29p5 500 12 [.int .i64 0, .int .i64 5, .int .i64 29, .int .i64 5] (.tup [.tsl 7 (kl29p5z.map Sp.e), .int .i64 3905]) = true)).2
theorem ap29p5z : ACalls Go.Proofs.Tryz.prog 13 [.tsl 7 (kl29p5z.map Sp.e), .int .i64 5, .int .i64 3905] [] 0 (fun r _ _ => r = .bool true) := (runOKX_sound hLd rT3_ok (by kernel_rfl : runOKX tr.find rX 3000 13 [.tsl 7 (kl29p5z.map Sp.e), .int .i64 5, .int .i64 3905] (.bool true) = true)).2
theorem lw29p5z : ACalls Go.Proofs.Tryz.prog 4 [.int .i64 0, .int .i64 5, .int .i64 29] [] 0 (fun r _ _ => r = .bool true) := keys_zero 0 5 29 1024 kl29p5z 3905 cl29 ky29p5z ap29p5z (by decide) (by decide) (by decide) (by decide) rfl rfl (hg_of rfl) rfl rfl rfl

theorem sg29p6 : AV.pure (.tup [(.tsl 1 [[(.int .i64 (-2))], [(.int .i64 2)], [(.int .i64 (-1))], [(.int .i64 3)], [(.int .i64 0)], [(.int .i64 4)]]), (.int .i64 0)]) = true ∧ ACalls Go.Proofs.Tryz.prog 28 [.int .i64 6, .int .i64 29] [] 0 (fun r _ _ => r = (.tup [(.tsl 1 [[(.int .i64 (-2))], [(.int .i64 2)], [(.int .i64 (-1))], [(.int .i64 3)], [(.int .i64 0)], [(.int .i64 4)]]), (.int .i64 0)])) := runOKX_sound hLd hdT0_ok (by kernel_rfl : runOKX tr.find hdX0 500 28 [.int .i64 6, .int .i64 29] (.tup [(.tsl 1 [[(.int .i64 (-2))], [(.int .i64 2)], [(.int .i64 (-1))], [(.int .i64 3)], [(.int .i64 0)], [(.int .i64 4)]]), (.int .i64 0)]) = true)
def kT29p6 : List (Nat × (List AV × AV)) := (28, ([.int .i64 6, .int .i64 29], (.tup [(.tsl 1 [[(.int .i64 (-2))], [(.int .i64 2)], [(.int .i64 (-1))], [(.int .i64 3)], [(.int .i64 0)], [(.int .i64 4)]]), (.int .i64 0)]))) :: eT3
theorem kT29p6_ok : TOK Go.Proofs.Tryz.prog kT29p6 := TOK.cons sg29p6 eT3_ok
def kX29p6 : XP := ⟨hdZ, kT29p6, hdG, kp.find⟩
def kl29p6 : List Sp := [⟨21, 5, (-1024)⟩, ⟨21, 1125, 1024⟩, ⟨21, 2245, (-512)⟩, ⟨21, 3365, 1536⟩, ⟨21, 4485, 0⟩, ⟨21, 5605, 2048⟩]
theorem ky29p6 (b : Int) : ACalls Go.Proofs.Tryz.prog 12 [.int .i64 6, .int .i64 b, .int .i64 29, .int .i64 5] [] 0 (fun r _ _ => r = .tup [.tsl 7 (kl29p6.map Sp.e), .int .i64 6625]) := (runOKX_sound hLd kT29p6_ok (by kernel_rfl : runOKX tr.find kX29p6 500 12 [.int .i64 6, .int .i64 b, .int .i64 29, .int .i64 5] (.tup [.tsl 7 (kl29p6.map Sp.e), .int .i64 6625]) = true)).2
theorem ap29p6 : ACalls Go.Proofs.Tryz.prog 13 [.tsl 7 (kl29p6.map Sp.e), .int .i64 5, .int .i64 6625] [] 0 (fun r _ _ => r = .bool true) := (runOKX_sound hLd rT3_ok (by kernel_rfl : runOKX tr.find rX 3000 13 [.tsl 7 (kl29p6.map Sp.e), .int .i64 5, .int .i64 6625] (.bool true) = true)).2
theorem lw29p6 (b : Int) (h3 : -7 ≤ b) (h4 : b ≤ 7) : ACalls Go.Proofs.Tryz.prog 4 [.int .i64 6, .int .i64 b, .int .i64 29] [] 0 (fun r _ _ => r = .bool true) := keys_pos 6 b 29 1024 kl29p6 6625 cl29 (ky29p6 b) ap29p6 (by decide) (by decide) h3 h4 rfl rfl (hg_of rfl) (by decide) rfl

def kl29p6z : List Sp := [⟨23, 5, (-1024)⟩, ⟨23, 805, 1024⟩, ⟨23, 1605, (-512)⟩, ⟨23, 2405, 1536⟩, ⟨23, 3205, 0⟩, ⟨23, 4005, 2048⟩]
theorem ky29p6z : ACalls Go.Proofs.Tryz.prog 12 [.int .i64 0, .int .i64 6, .int .i64 29, .int .i64 5] [] 0 (fun r _ _ => r = .tup [.tsl 7 (kl29p6z.map Sp.e), .int .i64 4705]) := (runOKX_sound hLd kT29p6_ok (by kernel_rfl : runOKX tr.find kX29p6 500 12 [.int .i64 0, .int .i64 6, .int .i64 29, .int .i64 5] (.tup [.tsl 7 (kl29p6z.map Sp.e), .int .i64 4705]) = true)).2
theorem ap29p6z : ACalls Go.Proofs.Tryz.prog 13 [.tsl 7 (kl29p6z.map Sp.e), .int .i64 5, .int .i64 4705] [] 0 (fun r _ _ => r = .bool true) := (runOKX_sound hLd rT3_ok (by kernel_rfl : runOKX tr.find rX 3000 13 [.tsl 7 (kl29p6z.map Sp.e), .int .i64 5, .int .i64 4705] (.bool true) = true)).2
theorem lw29p6z : ACalls Go.Proofs.Tryz.prog 4 [.int .i64 0, .int .i64 6, .int .i64 29] [] 0 (fun r _ _ => r = .bool true) := keys_zero 0 6 29 1024 kl29p6z 4705 cl29 ky29p6z ap29p6z (by decide) (by decide) (by decide) (by decide) rfl rfl (hg_of rfl) rfl rfl rfl

theorem sg29p7 : AV.pure (.tup [(.tsl 1 [[(.int .i64 (-2))], [(.int .i64 2)], [(.int .i64 (-1))], [(.int .i64 3)], [(.int .i64 0)], [(.int .i64 4)], [(.int .i64 1)]]), (.int .i64 0)]) = true ∧ ACalls Go.Proofs.Tryz.prog 28 [.int .i64 7, .int .i64 29] [] 0 (fun r _ _ => r = (.tup [(.tsl 1 [[(.int .i64 (-2))], [(.int .i64 2)], [(.int .i64 (-1))], [(.int .i64 3)], [(.int .i64 0)], [(.int .i64 4)], [(.int .i64 1)]]), (.int .i64 0)])) := runOKX_sound hLd hdT0_ok (by kernel_rfl : runOKX tr.find hdX0 500 28 [.int .i64 7, .int .i64 29] (.tup [(.tsl 1 [[(.int .i64 (-2))], [(.int .i64 2)], [(.int .i64 (-1))], [(.int .i64 3)], [(.int .i64 0)], [(.int .i64 4)], [(.int .i64 1)]]), (.int .i64 0)]) = true)
def kT29p7 : List (Nat × (List AV × AV)) := (28, ([.int .i64 7, .int .i64 29], (.tup [(.tsl 1 [[(.int .i64 (-2))], [(.int .i64 2)], [(.int .i64 (-1))], [(.int .i64 3)], [(.int .i64 0)], [(.int .i64 4)], [(.int .i64 1)]]), (.int .i64 0)]))) :: eT3
theorem kT29p7_ok : TOK Go.Proofs.Tryz.prog kT29p7 := TOK.cons sg29p7 eT3_ok
def kX29p7 : XP := ⟨hdZ, kT29p7, hdG, kp.find⟩
def kl29p7 : List Sp := [⟨21, 5, (-1024)⟩, ⟨21, 1125, 1024⟩, ⟨21, 2245, (-512)⟩, ⟨21, 3365, 1536⟩, ⟨21, 4485, 0⟩, ⟨21, 5605, 2048⟩, ⟨21, 6725, 512⟩]
theorem ky29p7 (b : Int) : ACalls Go.Proofs.Tryz.prog 12 [.int .i64 7, .int .i64 b, .int .i64 29, .int .i64 5] [] 0 (fun r _ _ => r = .tup [.tsl 7 (kl29p7.map Sp.e), .int .i64 7745]) := (runOKX_sound hLd kT29p7_ok (by kernel_rfl : runOKX tr.find kX29p7 500 12 [.int .i64 7, .int .i64 b, .int .i64 29, .int .i64 5] (.tup [.tsl 7 (kl29p7.map Sp.e), .int .i64 7745]) = true)).2
theorem ap29p7 : ACalls Go.Proofs.Tryz.prog 13 [.tsl 7 (kl29p7.map Sp.e), .int .i64 5, .int .i64 7745] [] 0 (fun r _ _ => r = .bool true) := (runOKX_sound hLd rT3_ok (by kernel_rfl : runOKX tr.find rX 3000 13 [.tsl 7 (kl29p7.map Sp.e), .int .i64 5, .int .i64 7745] (.bool true) = true)).2
theorem lw29p7 (b : Int) (h3 : -7 ≤ b) (h4 : b ≤ 7) : ACalls Go.Proofs.Tryz.prog 4 [.int .i64 7, .int .i64 b, .int .i64 29] [] 0 (fun r _ _ => r = .bool true) := keys_pos 7 b 29 1024 kl29p7 7745 cl29 (ky29p7 b) ap29p7 (by decide) (by decide) h3 h4 rfl rfl (hg_of rfl) (by decide) rfl

def kl29p7z : List Sp := [⟨23, 5, (-1024)⟩, ⟨23, 805, 1024⟩, ⟨23, 1605, (-512)⟩, ⟨23, 2405, 1536⟩, ⟨23, 3205, 0⟩, ⟨23, 4005, 2048⟩, ⟨23, 4805, 512⟩]
theorem ky29p7z : ACalls Go.Proofs.Tryz.prog 12 [.int .i64 0, .int .i64 7, .int .i64 29, .int .i64 5] [] 0 (fun r _ _ => r = .tup [.tsl 7 (kl29p7z.map Sp.e), .int .i64 5505]) := (runOKX_sound hLd kT29p7_ok (by kernel_rfl : runOKX tr.find kX29p7 500 12 [.int .i64 0, .int .i64 7, .int .i64 29, .int .i64 5] (.tup [.tsl 7 (kl29p7z.map Sp.e), .int .i64 5505]) = true)).2
theorem ap29p7z : ACalls Go.Proofs.Tryz.prog 13 [.tsl 7 (kl29p7z.map Sp.e), .int .i64 5, .int .i64 5505] [] 0 (fun r _ _ => r = .bool true) := (runOKX_sound hLd rT3_ok (by kernel_rfl : runOKX tr.find rX 3000 13 [.tsl 7 (kl29p7z.map Sp.e), .int .i64 5, .int .i64 5505] (.bool true) = true)).2
theorem lw29p7z : ACalls Go.Proofs.Tryz.prog 4 [.int .i64 0, .int .i64 7, .int .i64 29] [] 0 (fun r _ _ => r = .bool true) := keys_zero 0 7 29 1024 kl29p7z 5505 cl29 ky29p7z ap29p7z (by decide) (by decide) (by decide) (by decide) rfl rfl (hg_of rfl) rfl rfl rfl

theorem lw290 : ACalls Go.Proofs.Tryz.prog 4 [.int .i64 0, .int .i64 0, .int .i64 29] [] 0 (fun r _ _ => r = .bool true) := (runOKX_sound hLd hT_ok (by kernel_rfl : runOKX tr.find hX 500 4 [.int .i64 0, .int .i64 0, .int .i64 29] (.bool true) = true)).2

theorem all29 (f b : Int) (h1 : -7 ≤ f) (h2 : f ≤ 7) (h3 : -7 ≤ b) (h4 : b ≤ 7) : ACalls Go.Proofs.Tryz.prog 4 [.int .i64 f, .int .i64 b, .int .i64 29] [] 0 (fun r _ _ => r = .bool true) := by
  have hf : f = -7 ∨ f = -6 ∨ f = -5 ∨ f = -4 ∨ f = -3 ∨ f = -2 ∨ f = -1 ∨ f = 0 ∨ f = 1 ∨ f = 2 ∨ f = 3 ∨ f = 4 ∨ f = 5 ∨ f = 6 ∨ f = 7 := by omega
  rcases hf with rfl | rfl | rfl | rfl | rfl | rfl | rfl | rfl | rfl | rfl | rfl | rfl | rfl | rfl | rfl
  · exact lw29n7 b h3 h4
  · exact lw29n6 b h3 h4
  · exact lw29n5 b h3 h4
  · exact lw29n4 b h3 h4
  · exact lw29n3 b h3 h4
  · exact lw29n2 b h3 h4
  · exact lw29n1 b h3 h4
  · have hb : b = -7 ∨ b = -6 ∨ b = -5 ∨ b = -4 ∨ b = -3 ∨ b = -2 ∨ b = -1 ∨ b = 0 ∨ b = 1 ∨ b = 2 ∨ b = 3 ∨ b = 4 ∨ b = 5 ∨ b = 6 ∨ b = 7 := by omega
    rcases hb with rfl | rfl | rfl | rfl | rfl | rfl | rfl | rfl | rfl | rfl | rfl | rfl | rfl | rfl | rfl
    · exact lw29n7z
    · exact lw29n6z
    · exact lw29n5z
    · exact lw29n4z
    · exact lw29n3z
    · exact lw29n2z
    · exact lw29n1z
    · exact lw290
    · exact lw29p1z
    · exact lw29p2z
    · exact lw29p3z
    · exact lw29p4z
    · exact lw29p5z
    · exact lw29p6z
    · exact lw29p7z
  · exact lw29p1 b h3 h4
  · exact lw29p2 b h3 h4
  · exact lw29p3 b h3 h4
  · exact lw29p4 b h3 h4
  · exact lw29p5 b h3 h4
  · exact lw29p6 b h3 h4
  · exact lw29p7 b h3 h4
end
end Go.AM.Dz
