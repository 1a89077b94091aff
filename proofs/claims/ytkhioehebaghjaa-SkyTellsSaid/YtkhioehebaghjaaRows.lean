/-
  No cell of these rows narrows 'for every input' (looked for: loops, veiled, ifaces, maps, wideKeys, modest, calm, conditions, laid).
  DERIVED. THE GIVEN ROWS OF THIS SEAT. 5 by the template 'for every input the law returns true; each argument reads behind the call as it read before'; 0 by the template 'total and deterministic' (their statements: YtkhioehebaghjaaTotals.lean).
  GIVEN WITH THE SEED: the statements are not yours to turn. If you find one false, say at which input.
  Laid BY PROGRAM, IN A SANDBOX (cutbox-rows.mjs): the forced cells as the released guide's own fill.sh prints them over the translation 1ff50245db4bcafc… (all of the seat's roots in one cut). By AI agents, Wed Nov 11 2026. No macro, syntax, notation, axiom, sorry.
-/
import Derived.Test.YtkhioehebaghjaaChecked
import GoSem.Claim
import GoSem.ClaimJoined
import GoSem.ClaimMapViews
import Derived.JoinedTies
import Derived.KernelRfl
namespace Go.Proofs.Ytkhioehebaghjaa
/- THE CELL 'sum', in the pinned program and in every row, IS THE sha256 OF THE DUMP (.gsa) THAT YtkhioehebaghjaaProg.lean LOADS. Nothing in Lean hashes anything: it is a label: what it is worth is what the hold of that sum in a sandbox is worth. -/
noncomputable def Try.pinned : Pinned := { name := "ytkhioehebaghjaa", sum := "1ff50245db4bcafceb7788b85b4cdfa511ccd3f0388f6b56041a3e38a1cf79e7", checked := Try.checked }
namespace Rows
def none {H : Type} : Left H := { results := [], args := [] }

/-- 'neumelaw04.SkyBoxes': WHATEVER THE INPUT: true; the input reads as it did. -/
def skyBoxesSpec : ChangeSpec := { name := "skyBoxes", fn := fun _ => fun
  | [d] => { results := [.lit (.bool true)], args := [d] }
  | _ => none }
def skyBoxesRow : OpenClaim := { program := "ytkhioehebaghjaa", sum := "1ff50245db4bcafceb7788b85b4cdfa511ccd3f0388f6b56041a3e38a1cf79e7", func := "neume/neumelaw04.SkyBoxes", spec := "skyBoxes", unfollowed := true, recurses := true, apart := false }
def SkyBoxesSaid : Prop := skyBoxesRow.holds Try.pinned (OpenSpec.ofChange skyBoxesSpec)

/-- ITS FALSE NEIGHBOUR: 'it returns false'. Refute it at one input. -/
def skyBoxesWrong : ChangeSpec := { name := "skyBoxes", fn := fun _ => fun
  | [d] => { results := [.lit (.bool false)], args := [d] }
  | _ => none }
def SkyBoxesWrongFalsely : Prop := skyBoxesRow.holds Try.pinned (OpenSpec.ofChange skyBoxesWrong)

/-- 'neumelaw04.SkyTells': WHATEVER THE INPUT: true; the input reads as it did. -/
def skyTellsSpec : ChangeSpec := { name := "skyTells", fn := fun _ => fun
  | [d1, d2, d3, d4] => { results := [.lit (.bool true)], args := [d1, d2, d3, d4] }
  | _ => none }
def skyTellsRow : OpenClaim := { program := "ytkhioehebaghjaa", sum := "1ff50245db4bcafceb7788b85b4cdfa511ccd3f0388f6b56041a3e38a1cf79e7", func := "neume/neumelaw04.SkyTells", spec := "skyTells", unfollowed := true, recurses := true, apart := false }
def SkyTellsSaid : Prop := skyTellsRow.holds Try.pinned (OpenSpec.ofChange skyTellsSpec)

/-- ITS FALSE NEIGHBOUR: 'it returns false'. Refute it at one input. -/
def skyTellsWrong : ChangeSpec := { name := "skyTells", fn := fun _ => fun
  | [d1, d2, d3, d4] => { results := [.lit (.bool false)], args := [d1, d2, d3, d4] }
  | _ => none }
def SkyTellsWrongFalsely : Prop := skyTellsRow.holds Try.pinned (OpenSpec.ofChange skyTellsWrong)

/-- 'neumelaw04.SkyCovers': WHATEVER THE INPUT: true; the input reads as it did. -/
def skyCoversSpec : ChangeSpec := { name := "skyCovers", fn := fun _ => fun
  | [d1, d2] => { results := [.lit (.bool true)], args := [d1, d2] }
  | _ => none }
def skyCoversRow : OpenClaim := { program := "ytkhioehebaghjaa", sum := "1ff50245db4bcafceb7788b85b4cdfa511ccd3f0388f6b56041a3e38a1cf79e7", func := "neume/neumelaw04.SkyCovers", spec := "skyCovers", unfollowed := true, recurses := true, apart := false }
def SkyCoversSaid : Prop := skyCoversRow.holds Try.pinned (OpenSpec.ofChange skyCoversSpec)

/-- ITS FALSE NEIGHBOUR: 'it returns false'. Refute it at one input. -/
def skyCoversWrong : ChangeSpec := { name := "skyCovers", fn := fun _ => fun
  | [d1, d2] => { results := [.lit (.bool false)], args := [d1, d2] }
  | _ => none }
def SkyCoversWrongFalsely : Prop := skyCoversRow.holds Try.pinned (OpenSpec.ofChange skyCoversWrong)

/-- 'neumelaw04.SkyMerges': WHATEVER THE INPUT: true; the input reads as it did. -/
def skyMergesSpec : ChangeSpec := { name := "skyMerges", fn := fun _ => fun
  | [d1, d2, d3] => { results := [.lit (.bool true)], args := [d1, d2, d3] }
  | _ => none }
def skyMergesRow : OpenClaim := { program := "ytkhioehebaghjaa", sum := "1ff50245db4bcafceb7788b85b4cdfa511ccd3f0388f6b56041a3e38a1cf79e7", func := "neume/neumelaw04.SkyMerges", spec := "skyMerges", unfollowed := true, recurses := true, apart := false }
def SkyMergesSaid : Prop := skyMergesRow.holds Try.pinned (OpenSpec.ofChange skyMergesSpec)

/-- ITS FALSE NEIGHBOUR: 'it returns false'. Refute it at one input. -/
def skyMergesWrong : ChangeSpec := { name := "skyMerges", fn := fun _ => fun
  | [d1, d2, d3] => { results := [.lit (.bool false)], args := [d1, d2, d3] }
  | _ => none }
def SkyMergesWrongFalsely : Prop := skyMergesRow.holds Try.pinned (OpenSpec.ofChange skyMergesWrong)

/-- 'neumelaw04.SkyApart': WHATEVER THE INPUT: true; the input reads as it did. -/
def skyApartSpec : ChangeSpec := { name := "skyApart", fn := fun _ => fun
  | [d1, d2] => { results := [.lit (.bool true)], args := [d1, d2] }
  | _ => none }
def skyApartRow : OpenClaim := { program := "ytkhioehebaghjaa", sum := "1ff50245db4bcafceb7788b85b4cdfa511ccd3f0388f6b56041a3e38a1cf79e7", func := "neume/neumelaw04.SkyApart", spec := "skyApart", unfollowed := true, recurses := true, apart := false }
def SkyApartSaid : Prop := skyApartRow.holds Try.pinned (OpenSpec.ofChange skyApartSpec)

/-- ITS FALSE NEIGHBOUR: 'it returns false'. Refute it at one input. -/
def skyApartWrong : ChangeSpec := { name := "skyApart", fn := fun _ => fun
  | [d1, d2] => { results := [.lit (.bool false)], args := [d1, d2] }
  | _ => none }
def SkyApartWrongFalsely : Prop := skyApartRow.holds Try.pinned (OpenSpec.ofChange skyApartWrong)

/- THE SECOND FORM. 'bulk': how many values and letters a reading holds, each counted each time it is reached (what is shared counts as often as it is met; a slice's spare places count too). A statement '..UptoSaid' is the law's where the arguments, and the package variables that the reading takes, are together of bulk at most 1048576: NARROWER than '..Said'. Prove '..Said' where nothing that the law and all that it calls make is longer than what came in: it says more and counts as full. Else prove '..UptoSaid'. A law counts once. -/
mutual
def uptoBulk {H : Type} : DataW H → Nat
  | .lit (.string bytes) => bytes.length + 1
  | .lit _ => 1
  | .nil => 1
  | .ptr d => uptoBulk d + 1
  | .slice elems spare => uptoBulkAll elems + uptoBulkAll spare + 1
  | .agg parts => uptoBulkAll parts + 1
  | .iface _ d => uptoBulk d + 1
  | .map entries => uptoBulkEntries entries + 1
  | .held _ => 1
def uptoBulkAll {H : Type} : List (DataW H) → Nat
  | [] => 0
  | d :: r => uptoBulk d + uptoBulkAll r
def uptoBulkEntries {H : Type} : List (Lit × DataW H) → Nat
  | [] => 0
  | x :: r => uptoBulkEntry x + uptoBulkEntries r
def uptoBulkEntry {H : Type} : Lit × DataW H → Nat
  | (.string bytes, d) => bytes.length + uptoBulk d + 1
  | (_, d) => uptoBulk d + 1
 end
def uptoSmall : (H : Type) → List (DataW H) → Bool := fun _ ds => decide (uptoBulkAll ds ≤ 1048576)
def OpenSpec.upto (s : _root_.Go.ChangeSpec) : _root_.Go.OpenSpec := { _root_.Go.OpenSpec.ofChange s with cond := some uptoSmall }

/-- 'neumelaw04.SkyBoxes', WHERE WHAT IT READS IS OF BULK AT MOST 1048576: true; the input reads as it did. -/
def skyBoxesUptoRow : OpenClaim := { program := "ytkhioehebaghjaa", sum := "1ff50245db4bcafceb7788b85b4cdfa511ccd3f0388f6b56041a3e38a1cf79e7", func := "neume/neumelaw04.SkyBoxes", spec := "skyBoxes", unfollowed := true, recurses := true, apart := false, narrowed := true }
def SkyBoxesUptoSaid : Prop := skyBoxesUptoRow.holds Try.pinned (OpenSpec.upto skyBoxesSpec)

/-- 'neumelaw04.SkyTells', WHERE WHAT IT READS IS OF BULK AT MOST 1048576: true; the input reads as it did. -/
def skyTellsUptoRow : OpenClaim := { program := "ytkhioehebaghjaa", sum := "1ff50245db4bcafceb7788b85b4cdfa511ccd3f0388f6b56041a3e38a1cf79e7", func := "neume/neumelaw04.SkyTells", spec := "skyTells", unfollowed := true, recurses := true, apart := false, narrowed := true }
def SkyTellsUptoSaid : Prop := skyTellsUptoRow.holds Try.pinned (OpenSpec.upto skyTellsSpec)

/-- 'neumelaw04.SkyCovers', WHERE WHAT IT READS IS OF BULK AT MOST 1048576: true; the input reads as it did. -/
def skyCoversUptoRow : OpenClaim := { program := "ytkhioehebaghjaa", sum := "1ff50245db4bcafceb7788b85b4cdfa511ccd3f0388f6b56041a3e38a1cf79e7", func := "neume/neumelaw04.SkyCovers", spec := "skyCovers", unfollowed := true, recurses := true, apart := false, narrowed := true }
def SkyCoversUptoSaid : Prop := skyCoversUptoRow.holds Try.pinned (OpenSpec.upto skyCoversSpec)

/-- 'neumelaw04.SkyMerges', WHERE WHAT IT READS IS OF BULK AT MOST 1048576: true; the input reads as it did. -/
def skyMergesUptoRow : OpenClaim := { program := "ytkhioehebaghjaa", sum := "1ff50245db4bcafceb7788b85b4cdfa511ccd3f0388f6b56041a3e38a1cf79e7", func := "neume/neumelaw04.SkyMerges", spec := "skyMerges", unfollowed := true, recurses := true, apart := false, narrowed := true }
def SkyMergesUptoSaid : Prop := skyMergesUptoRow.holds Try.pinned (OpenSpec.upto skyMergesSpec)

/-- 'neumelaw04.SkyApart', WHERE WHAT IT READS IS OF BULK AT MOST 1048576: true; the input reads as it did. -/
def skyApartUptoRow : OpenClaim := { program := "ytkhioehebaghjaa", sum := "1ff50245db4bcafceb7788b85b4cdfa511ccd3f0388f6b56041a3e38a1cf79e7", func := "neume/neumelaw04.SkyApart", spec := "skyApart", unfollowed := true, recurses := true, apart := false, narrowed := true }
def SkyApartUptoSaid : Prop := skyApartUptoRow.holds Try.pinned (OpenSpec.upto skyApartSpec)

end Rows
end Go.Proofs.Ytkhioehebaghjaa
