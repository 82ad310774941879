/-
  No cell of these rows narrows 'for every input' (looked for: loops, veiled, ifaces, maps, wideKeys, modest, calm, conditions, laid).
  DERIVED. THE GIVEN ROWS OF THIS SEAT. 8 by the template 'for every input the law returns true; each argument reads behind the call as it read before'; 0 by the template 'total and deterministic' (their statements: YtiaddipbjigaiaaTotals.lean).
  GIVEN WITH THE SEED: the statements are not yours to turn. If you find one false, say at which input.
  Laid BY PROGRAM, IN A SANDBOX (cutbox-rows.mjs): the forced cells as the released guide's own fill.sh prints them over the translation 0ee6a724cf121fb2… (all of the seat's roots in one cut). By AI agents, Wed Nov 11 2026. No macro, syntax, notation, axiom, sorry.
-/
import Derived.Test.YtiaddipbjigaiaaChecked
import GoSem.Claim
import GoSem.ClaimJoined
import GoSem.ClaimMapViews
import Derived.JoinedTies
import Derived.KernelRfl
namespace Go.Proofs.Ytiaddipbjigaiaa
/- THE CELL 'sum', in the pinned program and in every row, IS THE sha256 OF THE DUMP (.gsa) THAT YtiaddipbjigaiaaProg.lean LOADS. Nothing in Lean hashes anything: it is a label: what it is worth is what the hold of that sum in a sandbox is worth. -/
noncomputable def Try.pinned : Pinned := { name := "ytiaddipbjigaiaa", sum := "0ee6a724cf121fb2e005166d810e8ec26b667c48eb7e64af1fb95b5775d33e8c", checked := Try.checked }
namespace Rows
def none {H : Type} : Left H := { results := [], args := [] }

/-- 'ballastlaw34.EffortOfs': WHATEVER THE INPUT: true; the input reads as it did. -/
def effortOfsSpec : ChangeSpec := { name := "effortOfs", fn := fun _ => fun
  | [d1, d2] => { results := [.lit (.bool true)], args := [d1, d2] }
  | _ => none }
def effortOfsRow : OpenClaim := { program := "ytiaddipbjigaiaa", sum := "0ee6a724cf121fb2e005166d810e8ec26b667c48eb7e64af1fb95b5775d33e8c", func := "ballast/ballastlaw34.EffortOfs", spec := "effortOfs", unfollowed := true, recurses := true, apart := false }
def EffortOfsSaid : Prop := effortOfsRow.holds Try.pinned (OpenSpec.ofChange effortOfsSpec)

/-- ITS FALSE NEIGHBOUR: 'it returns false'. Refute it at one input. -/
def effortOfsWrong : ChangeSpec := { name := "effortOfs", fn := fun _ => fun
  | [d1, d2] => { results := [.lit (.bool false)], args := [d1, d2] }
  | _ => none }
def EffortOfsWrongFalsely : Prop := effortOfsRow.holds Try.pinned (OpenSpec.ofChange effortOfsWrong)

/-- 'ballastlaw34.EffortOrder': WHATEVER THE INPUT: true; the input reads as it did. -/
def effortOrderSpec : ChangeSpec := { name := "effortOrder", fn := fun _ => fun
  | [d1, d2] => { results := [.lit (.bool true)], args := [d1, d2] }
  | _ => none }
def effortOrderRow : OpenClaim := { program := "ytiaddipbjigaiaa", sum := "0ee6a724cf121fb2e005166d810e8ec26b667c48eb7e64af1fb95b5775d33e8c", func := "ballast/ballastlaw34.EffortOrder", spec := "effortOrder", unfollowed := true, recurses := true, apart := false }
def EffortOrderSaid : Prop := effortOrderRow.holds Try.pinned (OpenSpec.ofChange effortOrderSpec)

/-- ITS FALSE NEIGHBOUR: 'it returns false'. Refute it at one input. -/
def effortOrderWrong : ChangeSpec := { name := "effortOrder", fn := fun _ => fun
  | [d1, d2] => { results := [.lit (.bool false)], args := [d1, d2] }
  | _ => none }
def EffortOrderWrongFalsely : Prop := effortOrderRow.holds Try.pinned (OpenSpec.ofChange effortOrderWrong)

/-- 'ballastlaw26.BreaksPlaces': WHATEVER THE INPUT: true; the input reads as it did. -/
def breaksPlacesSpec : ChangeSpec := { name := "breaksPlaces", fn := fun _ => fun
  | [d1, d2] => { results := [.lit (.bool true)], args := [d1, d2] }
  | _ => none }
def breaksPlacesRow : OpenClaim := { program := "ytiaddipbjigaiaa", sum := "0ee6a724cf121fb2e005166d810e8ec26b667c48eb7e64af1fb95b5775d33e8c", func := "ballast/ballastlaw26.BreaksPlaces", spec := "breaksPlaces", unfollowed := true, recurses := true, apart := false }
def BreaksPlacesSaid : Prop := breaksPlacesRow.holds Try.pinned (OpenSpec.ofChange breaksPlacesSpec)

/-- ITS FALSE NEIGHBOUR: 'it returns false'. Refute it at one input. -/
def breaksPlacesWrong : ChangeSpec := { name := "breaksPlaces", fn := fun _ => fun
  | [d1, d2] => { results := [.lit (.bool false)], args := [d1, d2] }
  | _ => none }
def BreaksPlacesWrongFalsely : Prop := breaksPlacesRow.holds Try.pinned (OpenSpec.ofChange breaksPlacesWrong)

/-- 'ballastlaw26.BreaksNames': WHATEVER THE INPUT: true; the input reads as it did. -/
def breaksNamesSpec : ChangeSpec := { name := "breaksNames", fn := fun _ => fun
  | [] => { results := [.lit (.bool true)], args := [] }
  | _ => none }
def breaksNamesRow : OpenClaim := { program := "ytiaddipbjigaiaa", sum := "0ee6a724cf121fb2e005166d810e8ec26b667c48eb7e64af1fb95b5775d33e8c", func := "ballast/ballastlaw26.BreaksNames", spec := "breaksNames", unfollowed := true, recurses := true, apart := false }
def BreaksNamesSaid : Prop := breaksNamesRow.holds Try.pinned (OpenSpec.ofChange breaksNamesSpec)

/-- ITS FALSE NEIGHBOUR: 'it returns false'. Refute it at one input. -/
def breaksNamesWrong : ChangeSpec := { name := "breaksNames", fn := fun _ => fun
  | [] => { results := [.lit (.bool false)], args := [] }
  | _ => none }
def BreaksNamesWrongFalsely : Prop := breaksNamesRow.holds Try.pinned (OpenSpec.ofChange breaksNamesWrong)

/-- 'ballastlaw26.BreaksOrder': WHATEVER THE INPUT: true; the input reads as it did. -/
def breaksOrderSpec : ChangeSpec := { name := "breaksOrder", fn := fun _ => fun
  | [d1, d2] => { results := [.lit (.bool true)], args := [d1, d2] }
  | _ => none }
def breaksOrderRow : OpenClaim := { program := "ytiaddipbjigaiaa", sum := "0ee6a724cf121fb2e005166d810e8ec26b667c48eb7e64af1fb95b5775d33e8c", func := "ballast/ballastlaw26.BreaksOrder", spec := "breaksOrder", unfollowed := true, recurses := true, apart := false }
def BreaksOrderSaid : Prop := breaksOrderRow.holds Try.pinned (OpenSpec.ofChange breaksOrderSpec)

/-- ITS FALSE NEIGHBOUR: 'it returns false'. Refute it at one input. -/
def breaksOrderWrong : ChangeSpec := { name := "breaksOrder", fn := fun _ => fun
  | [d1, d2] => { results := [.lit (.bool false)], args := [d1, d2] }
  | _ => none }
def BreaksOrderWrongFalsely : Prop := breaksOrderRow.holds Try.pinned (OpenSpec.ofChange breaksOrderWrong)

/-- 'ballastlaw26.BreaksFree': WHATEVER THE INPUT: true; the input reads as it did. -/
def breaksFreeSpec : ChangeSpec := { name := "breaksFree", fn := fun _ => fun
  | [d1, d2, d3, d4] => { results := [.lit (.bool true)], args := [d1, d2, d3, d4] }
  | _ => none }
def breaksFreeRow : OpenClaim := { program := "ytiaddipbjigaiaa", sum := "0ee6a724cf121fb2e005166d810e8ec26b667c48eb7e64af1fb95b5775d33e8c", func := "ballast/ballastlaw26.BreaksFree", spec := "breaksFree", unfollowed := true, recurses := true, apart := false }
def BreaksFreeSaid : Prop := breaksFreeRow.holds Try.pinned (OpenSpec.ofChange breaksFreeSpec)

/-- ITS FALSE NEIGHBOUR: 'it returns false'. Refute it at one input. -/
def breaksFreeWrong : ChangeSpec := { name := "breaksFree", fn := fun _ => fun
  | [d1, d2, d3, d4] => { results := [.lit (.bool false)], args := [d1, d2, d3, d4] }
  | _ => none }
def BreaksFreeWrongFalsely : Prop := breaksFreeRow.holds Try.pinned (OpenSpec.ofChange breaksFreeWrong)

/-- 'ballastlaw26.BreaksParts': WHATEVER THE INPUT: true; the input reads as it did. -/
def breaksPartsSpec : ChangeSpec := { name := "breaksParts", fn := fun _ => fun
  | [d1, d2, d3] => { results := [.lit (.bool true)], args := [d1, d2, d3] }
  | _ => none }
def breaksPartsRow : OpenClaim := { program := "ytiaddipbjigaiaa", sum := "0ee6a724cf121fb2e005166d810e8ec26b667c48eb7e64af1fb95b5775d33e8c", func := "ballast/ballastlaw26.BreaksParts", spec := "breaksParts", unfollowed := true, recurses := true, apart := false }
def BreaksPartsSaid : Prop := breaksPartsRow.holds Try.pinned (OpenSpec.ofChange breaksPartsSpec)

/-- ITS FALSE NEIGHBOUR: 'it returns false'. Refute it at one input. -/
def breaksPartsWrong : ChangeSpec := { name := "breaksParts", fn := fun _ => fun
  | [d1, d2, d3] => { results := [.lit (.bool false)], args := [d1, d2, d3] }
  | _ => none }
def BreaksPartsWrongFalsely : Prop := breaksPartsRow.holds Try.pinned (OpenSpec.ofChange breaksPartsWrong)

/-- 'ballastlaw34.EffortMade': WHATEVER THE INPUT: true; the input reads as it did. -/
def effortMadeSpec : ChangeSpec := { name := "effortMade", fn := fun _ => fun
  | [d1, d2] => { results := [.lit (.bool true)], args := [d1, d2] }
  | _ => none }
def effortMadeRow : OpenClaim := { program := "ytiaddipbjigaiaa", sum := "0ee6a724cf121fb2e005166d810e8ec26b667c48eb7e64af1fb95b5775d33e8c", func := "ballast/ballastlaw34.EffortMade", spec := "effortMade", unfollowed := true, recurses := true, apart := false }
def EffortMadeSaid : Prop := effortMadeRow.holds Try.pinned (OpenSpec.ofChange effortMadeSpec)

/-- ITS FALSE NEIGHBOUR: 'it returns false'. Refute it at one input. -/
def effortMadeWrong : ChangeSpec := { name := "effortMade", fn := fun _ => fun
  | [d1, d2] => { results := [.lit (.bool false)], args := [d1, d2] }
  | _ => none }
def EffortMadeWrongFalsely : Prop := effortMadeRow.holds Try.pinned (OpenSpec.ofChange effortMadeWrong)

/- THE SECOND FORM. 'bulk': how many values and letters a reading holds, each counted each time it is reached (what is shared counts as often as it is met; a slice's spare places count too). A statement '..UptoSaid' is the law's where the arguments, and the package variables that the reading takes, are together of bulk at most 1048576: NARROWER than '..Said'. Prove '..Said' where nothing that the law and all that it calls make is longer than what came in: it says more and counts as full. Else prove '..UptoSaid'. A law counts once. -/
mutual
def uptoBulk {H : Type} : DataW H → Nat
  | .lit (.string bytes) => bytes.length + 1
  | .lit _ => 1
  | .nil => 1
  | .ptr d => uptoBulk d + 1
  | .slice elems spare => uptoBulkAll elems + uptoBulkAll spare + 1
  | .agg parts => uptoBulkAll parts + 1
  | .iface _ d => uptoBulk d + 1
  | .map entries => uptoBulkEntries entries + 1
  | .held _ => 1
def uptoBulkAll {H : Type} : List (DataW H) → Nat
  | [] => 0
  | d :: r => uptoBulk d + uptoBulkAll r
def uptoBulkEntries {H : Type} : List (Lit × DataW H) → Nat
  | [] => 0
  | x :: r => uptoBulkEntry x + uptoBulkEntries r
def uptoBulkEntry {H : Type} : Lit × DataW H → Nat
  | (.string bytes, d) => bytes.length + uptoBulk d + 1
  | (_, d) => uptoBulk d + 1
 end
def uptoSmall : (H : Type) → List (DataW H) → Bool := fun _ ds => decide (uptoBulkAll ds ≤ 1048576)
def OpenSpec.upto (s : _root_.Go.ChangeSpec) : _root_.Go.OpenSpec := { _root_.Go.OpenSpec.ofChange s with cond := some uptoSmall }

/-- 'ballastlaw34.EffortOfs', WHERE WHAT IT READS IS OF BULK AT MOST 1048576: true; the input reads as it did. -/
def effortOfsUptoRow : OpenClaim := { program := "ytiaddipbjigaiaa", sum := "0ee6a724cf121fb2e005166d810e8ec26b667c48eb7e64af1fb95b5775d33e8c", func := "ballast/ballastlaw34.EffortOfs", spec := "effortOfs", unfollowed := true, recurses := true, apart := false, narrowed := true }
def EffortOfsUptoSaid : Prop := effortOfsUptoRow.holds Try.pinned (OpenSpec.upto effortOfsSpec)

/-- 'ballastlaw34.EffortOrder', WHERE WHAT IT READS IS OF BULK AT MOST 1048576: true; the input reads as it did. -/
def effortOrderUptoRow : OpenClaim := { program := "ytiaddipbjigaiaa", sum := "0ee6a724cf121fb2e005166d810e8ec26b667c48eb7e64af1fb95b5775d33e8c", func := "ballast/ballastlaw34.EffortOrder", spec := "effortOrder", unfollowed := true, recurses := true, apart := false, narrowed := true }
def EffortOrderUptoSaid : Prop := effortOrderUptoRow.holds Try.pinned (OpenSpec.upto effortOrderSpec)

/-- 'ballastlaw26.BreaksPlaces', WHERE WHAT IT READS IS OF BULK AT MOST 1048576: true; the input reads as it did. -/
def breaksPlacesUptoRow : OpenClaim := { program := "ytiaddipbjigaiaa", sum := "0ee6a724cf121fb2e005166d810e8ec26b667c48eb7e64af1fb95b5775d33e8c", func := "ballast/ballastlaw26.BreaksPlaces", spec := "breaksPlaces", unfollowed := true, recurses := true, apart := false, narrowed := true }
def BreaksPlacesUptoSaid : Prop := breaksPlacesUptoRow.holds Try.pinned (OpenSpec.upto breaksPlacesSpec)

/-- 'ballastlaw26.BreaksNames', WHERE WHAT IT READS IS OF BULK AT MOST 1048576: true; the input reads as it did. -/
def breaksNamesUptoRow : OpenClaim := { program := "ytiaddipbjigaiaa", sum := "0ee6a724cf121fb2e005166d810e8ec26b667c48eb7e64af1fb95b5775d33e8c", func := "ballast/ballastlaw26.BreaksNames", spec := "breaksNames", unfollowed := true, recurses := true, apart := false, narrowed := true }
def BreaksNamesUptoSaid : Prop := breaksNamesUptoRow.holds Try.pinned (OpenSpec.upto breaksNamesSpec)

/-- 'ballastlaw26.BreaksOrder', WHERE WHAT IT READS IS OF BULK AT MOST 1048576: true; the input reads as it did. -/
def breaksOrderUptoRow : OpenClaim := { program := "ytiaddipbjigaiaa", sum := "0ee6a724cf121fb2e005166d810e8ec26b667c48eb7e64af1fb95b5775d33e8c", func := "ballast/ballastlaw26.BreaksOrder", spec := "breaksOrder", unfollowed := true, recurses := true, apart := false, narrowed := true }
def BreaksOrderUptoSaid : Prop := breaksOrderUptoRow.holds Try.pinned (OpenSpec.upto breaksOrderSpec)

/-- 'ballastlaw26.BreaksFree', WHERE WHAT IT READS IS OF BULK AT MOST 1048576: true; the input reads as it did. -/
def breaksFreeUptoRow : OpenClaim := { program := "ytiaddipbjigaiaa", sum := "0ee6a724cf121fb2e005166d810e8ec26b667c48eb7e64af1fb95b5775d33e8c", func := "ballast/ballastlaw26.BreaksFree", spec := "breaksFree", unfollowed := true, recurses := true, apart := false, narrowed := true }
def BreaksFreeUptoSaid : Prop := breaksFreeUptoRow.holds Try.pinned (OpenSpec.upto breaksFreeSpec)

/-- 'ballastlaw26.BreaksParts', WHERE WHAT IT READS IS OF BULK AT MOST 1048576: true; the input reads as it did. -/
def breaksPartsUptoRow : OpenClaim := { program := "ytiaddipbjigaiaa", sum := "0ee6a724cf121fb2e005166d810e8ec26b667c48eb7e64af1fb95b5775d33e8c", func := "ballast/ballastlaw26.BreaksParts", spec := "breaksParts", unfollowed := true, recurses := true, apart := false, narrowed := true }
def BreaksPartsUptoSaid : Prop := breaksPartsUptoRow.holds Try.pinned (OpenSpec.upto breaksPartsSpec)

/-- 'ballastlaw34.EffortMade', WHERE WHAT IT READS IS OF BULK AT MOST 1048576: true; the input reads as it did. -/
def effortMadeUptoRow : OpenClaim := { program := "ytiaddipbjigaiaa", sum := "0ee6a724cf121fb2e005166d810e8ec26b667c48eb7e64af1fb95b5775d33e8c", func := "ballast/ballastlaw34.EffortMade", spec := "effortMade", unfollowed := true, recurses := true, apart := false, narrowed := true }
def EffortMadeUptoSaid : Prop := effortMadeUptoRow.holds Try.pinned (OpenSpec.upto effortMadeSpec)

end Rows
end Go.Proofs.Ytiaddipbjigaiaa
