/-
  DERIVED. GIVEN WITH THE SEED: THE CARDS: each row of YtjfmkhihhdhnnaaGreatDoorRows.lean that lists a variable, with what it lists TIED to the program's text (the seventh form; the later family's looks); each row that meets fmt, with fmt's text TOLD by the authors' own Lean function (tested against real Go, not proved from fmt's source: count such statements apart). THE CARD IS WHAT COUNTS. Prove the row's statement (the work); the ties are given (YtjfmkhihhdhnnaaGreatDoorTie.lean); close each card by the builder's one call (the guide's Derived/Test/ToyasCard.lean, 'card_holds'). Laid BY PROGRAM, IN A SANDBOX (cutbox-door.mjs). By AI agents, Wed Nov 11 2026. No macro, syntax, notation, axiom, sorry.
-/
import Derived.Test.YtjfmkhihhdhnnaaGreatDoorRows
import GoSem.ClaimSeven
namespace Go.Proofs.YtjfmkhihhdhnnaaGreatDoor
namespace Rows

/-- THE TIED CARD OF 'neumelaw12.OctaveBack'. -/
def octaveBackCard : Claim7 := { stood := { row := octaveBackRow, standIns := [], harness := (true, "c51a6e5a502a0d023c89d317966d54a2d0ae95386b2d8f05d3ce0c4dac0ff77b"), looks := true }, kinds := [], alts := [], laidByText := true, laidKinds := [.data, .pinned], laidTests := true, laidLooks := .later }
def OctaveBackCardSaid : Prop := Claim7.holds Tryz.pinned (.plain (OpenSpec.ofChange octaveBackSpec)) octaveBackCard

/-- THE TIED CARD OF 'neumelaw26.PrefixKeys'. -/
def prefixKeysCard : Claim7 := { stood := { row := prefixKeysRow, standIns := [], harness := (true, "c51a6e5a502a0d023c89d317966d54a2d0ae95386b2d8f05d3ce0c4dac0ff77b"), looks := true }, kinds := [], alts := [], laidByText := true, laidKinds := [.handle], laidTests := true, laidLooks := .later }
def PrefixKeysCardSaid : Prop := Claim7.holds Tryz.pinned (.plain (OpenSpec.ofChange prefixKeysSpec)) prefixKeysCard

/-- THE SECOND FORM's CARD OF 'neumelaw12.OctaveBack'. -/
def octaveBackUptoCard : Claim7 := { stood := { row := octaveBackUptoRow, standIns := [], harness := (true, "c51a6e5a502a0d023c89d317966d54a2d0ae95386b2d8f05d3ce0c4dac0ff77b"), looks := true }, kinds := [], alts := [], laidByText := true, laidKinds := [.data, .pinned], laidTests := true, laidLooks := .later }
def OctaveBackUptoCardSaid : Prop := Claim7.holds Tryz.pinned (.plain (OpenSpec.upto octaveBackSpec)) octaveBackUptoCard

/-- THE SECOND FORM's CARD OF 'neumelaw26.PrefixKeys'. -/
def prefixKeysUptoCard : Claim7 := { stood := { row := prefixKeysUptoRow, standIns := [], harness := (true, "c51a6e5a502a0d023c89d317966d54a2d0ae95386b2d8f05d3ce0c4dac0ff77b"), looks := true }, kinds := [], alts := [], laidByText := true, laidKinds := [.handle], laidTests := true, laidLooks := .later }
def PrefixKeysUptoCardSaid : Prop := Claim7.holds Tryz.pinned (.plain (OpenSpec.upto prefixKeysSpec)) prefixKeysUptoCard
end Rows
end Go.Proofs.YtjfmkhihhdhnnaaGreatDoor
