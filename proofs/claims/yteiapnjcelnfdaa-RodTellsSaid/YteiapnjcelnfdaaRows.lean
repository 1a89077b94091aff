/-
  No cell of these rows narrows 'for every input' (looked for: loops, veiled, ifaces, maps, wideKeys, modest, calm, conditions, laid).
  DERIVED. THE GIVEN ROWS OF THIS SEAT. 5 by the template 'for every input the law returns true; each argument reads behind the call as it read before'; 0 by the template 'total and deterministic' (their statements: YteiapnjcelnfdaaTotals.lean).
  GIVEN WITH THE SEED: the statements are not yours to turn. If you find one false, say at which input.
  Laid BY PROGRAM, IN A SANDBOX (cutbox-rows.mjs): the forced cells as the released guide's own fill.sh prints them over the translation 967bdff50a02b1f6… (all of the seat's roots in one cut). By AI agents, Wed Nov 11 2026. No macro, syntax, notation, axiom, sorry.
-/
import Derived.Test.YteiapnjcelnfdaaChecked
import GoSem.Claim
import GoSem.ClaimJoined
import GoSem.ClaimMapViews
import Derived.JoinedTies
import Derived.KernelRfl
namespace Go.Proofs.Yteiapnjcelnfdaa
/- THE CELL 'sum', in the pinned program and in every row, IS THE sha256 OF THE DUMP (.gsa) THAT YteiapnjcelnfdaaProg.lean LOADS. Nothing in Lean hashes anything: it is a label: what it is worth is what the hold of that sum in a sandbox is worth. -/
noncomputable def Try.pinned : Pinned := { name := "yteiapnjcelnfdaa", sum := "967bdff50a02b1f6e746412153c0454e7e08c6bfd654fb140859baad1b20d3d1", checked := Try.checked }
namespace Rows
def none {H : Type} : Left H := { results := [], args := [] }

/-- 'neumelaw27.RodRods': WHATEVER THE INPUT: true; the input reads as it did. -/
def rodRodsSpec : ChangeSpec := { name := "rodRods", fn := fun _ => fun
  | [d1, d2] => { results := [.lit (.bool true)], args := [d1, d2] }
  | _ => none }
def rodRodsRow : OpenClaim := { program := "yteiapnjcelnfdaa", sum := "967bdff50a02b1f6e746412153c0454e7e08c6bfd654fb140859baad1b20d3d1", func := "neume/neumelaw27.RodRods", spec := "rodRods", unfollowed := true, recurses := true, plainKeys := false, apart := false }
def RodRodsSaid : Prop := rodRodsRow.holds Try.pinned (OpenSpec.ofChange rodRodsSpec)

/-- ITS FALSE NEIGHBOUR: 'it returns false'. Refute it at one input. -/
def rodRodsWrong : ChangeSpec := { name := "rodRods", fn := fun _ => fun
  | [d1, d2] => { results := [.lit (.bool false)], args := [d1, d2] }
  | _ => none }
def RodRodsWrongFalsely : Prop := rodRodsRow.holds Try.pinned (OpenSpec.ofChange rodRodsWrong)

/-- 'neumelaw27.RodTells': WHATEVER THE INPUT: true; the input reads as it did. -/
def rodTellsSpec : ChangeSpec := { name := "rodTells", fn := fun _ => fun
  | [d1, d2, d3] => { results := [.lit (.bool true)], args := [d1, d2, d3] }
  | _ => none }
def rodTellsRow : OpenClaim := { program := "yteiapnjcelnfdaa", sum := "967bdff50a02b1f6e746412153c0454e7e08c6bfd654fb140859baad1b20d3d1", func := "neume/neumelaw27.RodTells", spec := "rodTells", unfollowed := true, recurses := true, plainKeys := false, apart := false }
def RodTellsSaid : Prop := rodTellsRow.holds Try.pinned (OpenSpec.ofChange rodTellsSpec)

/-- ITS FALSE NEIGHBOUR: 'it returns false'. Refute it at one input. -/
def rodTellsWrong : ChangeSpec := { name := "rodTells", fn := fun _ => fun
  | [d1, d2, d3] => { results := [.lit (.bool false)], args := [d1, d2, d3] }
  | _ => none }
def RodTellsWrongFalsely : Prop := rodTellsRow.holds Try.pinned (OpenSpec.ofChange rodTellsWrong)

/-- 'neumelaw27.RodLeast': WHATEVER THE INPUT: true; the input reads as it did. -/
def rodLeastSpec : ChangeSpec := { name := "rodLeast", fn := fun _ => fun
  | [d1, d2] => { results := [.lit (.bool true)], args := [d1, d2] }
  | _ => none }
def rodLeastRow : OpenClaim := { program := "yteiapnjcelnfdaa", sum := "967bdff50a02b1f6e746412153c0454e7e08c6bfd654fb140859baad1b20d3d1", func := "neume/neumelaw27.RodLeast", spec := "rodLeast", unfollowed := true, recurses := true, plainKeys := false, apart := false }
def RodLeastSaid : Prop := rodLeastRow.holds Try.pinned (OpenSpec.ofChange rodLeastSpec)

/-- ITS FALSE NEIGHBOUR: 'it returns false'. Refute it at one input. -/
def rodLeastWrong : ChangeSpec := { name := "rodLeast", fn := fun _ => fun
  | [d1, d2] => { results := [.lit (.bool false)], args := [d1, d2] }
  | _ => none }
def RodLeastWrongFalsely : Prop := rodLeastRow.holds Try.pinned (OpenSpec.ofChange rodLeastWrong)

/-- 'neumelaw27.RodSure': WHATEVER THE INPUT: true; the input reads as it did. -/
def rodSureSpec : ChangeSpec := { name := "rodSure", fn := fun _ => fun
  | [d1, d2] => { results := [.lit (.bool true)], args := [d1, d2] }
  | _ => none }
def rodSureRow : OpenClaim := { program := "yteiapnjcelnfdaa", sum := "967bdff50a02b1f6e746412153c0454e7e08c6bfd654fb140859baad1b20d3d1", func := "neume/neumelaw27.RodSure", spec := "rodSure", unfollowed := true, recurses := true, plainKeys := false, apart := false }
def RodSureSaid : Prop := rodSureRow.holds Try.pinned (OpenSpec.ofChange rodSureSpec)

/-- ITS FALSE NEIGHBOUR: 'it returns false'. Refute it at one input. -/
def rodSureWrong : ChangeSpec := { name := "rodSure", fn := fun _ => fun
  | [d1, d2] => { results := [.lit (.bool false)], args := [d1, d2] }
  | _ => none }
def RodSureWrongFalsely : Prop := rodSureRow.holds Try.pinned (OpenSpec.ofChange rodSureWrong)

/-- 'neumelaw27.RodApart': WHATEVER THE INPUT: true; the input reads as it did. -/
def rodApartSpec : ChangeSpec := { name := "rodApart", fn := fun _ => fun
  | [d1, d2, d3] => { results := [.lit (.bool true)], args := [d1, d2, d3] }
  | _ => none }
def rodApartRow : OpenClaim := { program := "yteiapnjcelnfdaa", sum := "967bdff50a02b1f6e746412153c0454e7e08c6bfd654fb140859baad1b20d3d1", func := "neume/neumelaw27.RodApart", spec := "rodApart", unfollowed := true, recurses := true, plainKeys := false, apart := false }
def RodApartSaid : Prop := rodApartRow.holds Try.pinned (OpenSpec.ofChange rodApartSpec)

/-- ITS FALSE NEIGHBOUR: 'it returns false'. Refute it at one input. -/
def rodApartWrong : ChangeSpec := { name := "rodApart", fn := fun _ => fun
  | [d1, d2, d3] => { results := [.lit (.bool false)], args := [d1, d2, d3] }
  | _ => none }
def RodApartWrongFalsely : Prop := rodApartRow.holds Try.pinned (OpenSpec.ofChange rodApartWrong)

/- THE SECOND FORM. 'bulk': how many values and letters a reading holds, each counted each time it is reached (what is shared counts as often as it is met; a slice's spare places count too). A statement '..UptoSaid' is the law's where the arguments, and the package variables that the reading takes, are together of bulk at most 1048576: NARROWER than '..Said'. Prove '..Said' where nothing that the law and all that it calls make is longer than what came in: it says more and counts as full. Else prove '..UptoSaid'. A law counts once. -/
mutual
def uptoBulk {H : Type} : DataW H → Nat
  | .lit (.string bytes) => bytes.length + 1
  | .lit _ => 1
  | .nil => 1
  | .ptr d => uptoBulk d + 1
  | .slice elems spare => uptoBulkAll elems + uptoBulkAll spare + 1
  | .agg parts => uptoBulkAll parts + 1
  | .iface _ d => uptoBulk d + 1
  | .map entries => uptoBulkEntries entries + 1
  | .held _ => 1
def uptoBulkAll {H : Type} : List (DataW H) → Nat
  | [] => 0
  | d :: r => uptoBulk d + uptoBulkAll r
def uptoBulkEntries {H : Type} : List (Lit × DataW H) → Nat
  | [] => 0
  | x :: r => uptoBulkEntry x + uptoBulkEntries r
def uptoBulkEntry {H : Type} : Lit × DataW H → Nat
  | (.string bytes, d) => bytes.length + uptoBulk d + 1
  | (_, d) => uptoBulk d + 1
 end
def uptoSmall : (H : Type) → List (DataW H) → Bool := fun _ ds => decide (uptoBulkAll ds ≤ 1048576)
def OpenSpec.upto (s : _root_.Go.ChangeSpec) : _root_.Go.OpenSpec := { _root_.Go.OpenSpec.ofChange s with cond := some uptoSmall }

/-- 'neumelaw27.RodRods', WHERE WHAT IT READS IS OF BULK AT MOST 1048576: true; the input reads as it did. -/
def rodRodsUptoRow : OpenClaim := { program := "yteiapnjcelnfdaa", sum := "967bdff50a02b1f6e746412153c0454e7e08c6bfd654fb140859baad1b20d3d1", func := "neume/neumelaw27.RodRods", spec := "rodRods", unfollowed := true, recurses := true, plainKeys := false, apart := false, narrowed := true }
def RodRodsUptoSaid : Prop := rodRodsUptoRow.holds Try.pinned (OpenSpec.upto rodRodsSpec)

/-- 'neumelaw27.RodTells', WHERE WHAT IT READS IS OF BULK AT MOST 1048576: true; the input reads as it did. -/
def rodTellsUptoRow : OpenClaim := { program := "yteiapnjcelnfdaa", sum := "967bdff50a02b1f6e746412153c0454e7e08c6bfd654fb140859baad1b20d3d1", func := "neume/neumelaw27.RodTells", spec := "rodTells", unfollowed := true, recurses := true, plainKeys := false, apart := false, narrowed := true }
def RodTellsUptoSaid : Prop := rodTellsUptoRow.holds Try.pinned (OpenSpec.upto rodTellsSpec)

/-- 'neumelaw27.RodLeast', WHERE WHAT IT READS IS OF BULK AT MOST 1048576: true; the input reads as it did. -/
def rodLeastUptoRow : OpenClaim := { program := "yteiapnjcelnfdaa", sum := "967bdff50a02b1f6e746412153c0454e7e08c6bfd654fb140859baad1b20d3d1", func := "neume/neumelaw27.RodLeast", spec := "rodLeast", unfollowed := true, recurses := true, plainKeys := false, apart := false, narrowed := true }
def RodLeastUptoSaid : Prop := rodLeastUptoRow.holds Try.pinned (OpenSpec.upto rodLeastSpec)

/-- 'neumelaw27.RodSure', WHERE WHAT IT READS IS OF BULK AT MOST 1048576: true; the input reads as it did. -/
def rodSureUptoRow : OpenClaim := { program := "yteiapnjcelnfdaa", sum := "967bdff50a02b1f6e746412153c0454e7e08c6bfd654fb140859baad1b20d3d1", func := "neume/neumelaw27.RodSure", spec := "rodSure", unfollowed := true, recurses := true, plainKeys := false, apart := false, narrowed := true }
def RodSureUptoSaid : Prop := rodSureUptoRow.holds Try.pinned (OpenSpec.upto rodSureSpec)

/-- 'neumelaw27.RodApart', WHERE WHAT IT READS IS OF BULK AT MOST 1048576: true; the input reads as it did. -/
def rodApartUptoRow : OpenClaim := { program := "yteiapnjcelnfdaa", sum := "967bdff50a02b1f6e746412153c0454e7e08c6bfd654fb140859baad1b20d3d1", func := "neume/neumelaw27.RodApart", spec := "rodApart", unfollowed := true, recurses := true, plainKeys := false, apart := false, narrowed := true }
def RodApartUptoSaid : Prop := rodApartUptoRow.holds Try.pinned (OpenSpec.upto rodApartSpec)

end Rows
end Go.Proofs.Yteiapnjcelnfdaa
