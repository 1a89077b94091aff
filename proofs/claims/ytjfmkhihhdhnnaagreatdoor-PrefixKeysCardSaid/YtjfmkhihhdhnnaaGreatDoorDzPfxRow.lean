/- A part of a proof about the given program: what its name says. No premise beyond the statements'. -/
import Derived.Test.YtjfmkhihhdhnnaaGreatDoorDzPfxRc
import Derived.Test.YtjfmkhihhdhnnaaGreatDoorDzPfxK1
import Derived.Test.YtjfmkhihhdhnnaaGreatDoorDzPfxK2
import Derived.Test.YtjfmkhihhdhnnaaGreatDoorDzPfxK3
set_option linter.unusedSimpArgs false
set_option linter.unusedVariables false
/- The card of the law on keys' signs. -/
namespace Go.Proofs.YtjfmkhihhdhnnaaGreatDoor
open Go
/-- The tied card. -/
theorem prefixKeys_holds : Rows.PrefixKeysCardSaid :=
  Claim7.holds_tied_plain_at .later [] [.handle] true (true, "c51a6e5a502a0d023c89d317966d54a2d0ae95386b2d8f05d3ce0c4dac0ff77b") true
    prefixKeys.over (fun _ h => by cases h) prefixKeys.cw (fun _ h => by cases h) prefixKeys_row_tie rfl ⟨rfl, rfl⟩ (by kernel_rfl) rfl
    (fun f fn hf hfn => by
      obtain rfl : f = 4 := Option.some.inj (prefixKeys.named4.symm.trans hf) |>.symm
      obtain rfl : fn = Tryz.f4 := (Option.some.inj (Tryz.func4.symm.trans hfn)).symm
      exact ⟨prefixKeys.cl, fun j t ht => by
        rw [Tryz.params4] at ht
        have h3 : t = 3 ∨ t = 57 := by
          rcases j with _ | _ | _ | j
          · left; simpa using ht.symm
          · left; simpa using ht.symm
          · right; simpa using ht.symm
          · simp at ht
        rcases h3 with rfl | rfl
        · exact (show Tryz.prog.wantsStandIn 3 = false by kernel_rfl)
        · exact (show Tryz.prog.wantsStandIn 57 = false by kernel_rfl)⟩)
    prefixKeys.cg
end Go.Proofs.YtjfmkhihhdhnnaaGreatDoor
