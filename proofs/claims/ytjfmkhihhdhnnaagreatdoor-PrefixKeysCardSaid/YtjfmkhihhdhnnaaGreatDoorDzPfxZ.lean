/- A part of a proof about the given program: what its name says. No premise beyond the statements'. -/
import Derived.Test.YtjfmkhihhdhnnaaGreatDoorDzP26
import Derived.Test.YtjfmkhihhdhnnaaGreatDoorDzP27
import Derived.Test.YtjfmkhihhdhnnaaGreatDoorDzP28
import Derived.Test.YtjfmkhihhdhnnaaGreatDoorDzP29
import Derived.Test.YtjfmkhihhdhnnaaGreatDoorFC
set_option linter.unusedSimpArgs false
set_option linter.unusedVariables false
/- The law on keys' signs: for every three numbers it answers true. -/
namespace Go.AM.Dz
open Go.AM
open Go.Proofs.Tryz
theorem prefixKeys_ok (f b c : Int) : ACalls prog 4 [.int .i64 f, .int .i64 b, .int .i64 c] [] 0 (fun r _ _ => r = .bool true) := by
  by_cases hc : c = 26 ∨ c = 27 ∨ c = 28 ∨ c = 29
  · by_cases hr : f < -7 ∨ 7 < f ∨ b < -7 ∨ 7 < b
    · rcases hc with rfl | rfl | rfl | rfl
      · exact keys_rng f b 26 _ [] 0 cl26 hr
      · exact keys_rng f b 27 _ [] 0 cl27 hr
      · exact keys_rng f b 28 _ [] 0 cl28 hr
      · exact keys_rng f b 29 _ [] 0 cl29 hr
    · rcases hc with rfl | rfl | rfl | rfl
      · exact all26 f b (by omega) (by omega) (by omega) (by omega)
      · exact all27 f b (by omega) (by omega) (by omega) (by omega)
      · exact all28 f b (by omega) (by omega) (by omega) (by omega)
      · exact all29 f b (by omega) (by omega) (by omega) (by omega)
  · exact keys_no f b c 0 [] 0 (clef_out c (beqF (by omega)) (beqF (by omega)) (beqF (by omega)) (beqF (by omega)))
set_option maxRecDepth 100000 in
theorem prefixKeys_all (l : List AV) (h : wtAll prog [3, 3, 57] l) : ACalls prog 4 l [] 0 (fun r _ _ => r = .bool true) := by
  match l, h with
  | [a, b, c], ⟨⟨_, ha⟩, ⟨_, hb⟩, ⟨_, hc⟩, _⟩ =>
    obtain ⟨x, rfl, _⟩ := wtA_int underlying3 ha
    obtain ⟨y, rfl, _⟩ := wtA_int underlying3 hb
    obtain ⟨z, rfl, _⟩ := wtA_int underlying57 hc
    exact prefixKeys_ok x y z
end Go.AM.Dz
