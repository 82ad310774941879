/-
  No cell of these rows narrows 'for every input' (looked for: loops, veiled, ifaces, maps, wideKeys, modest, calm, conditions, laid).
  DERIVED. THE GIVEN ROWS OF THIS SEAT. 12 by the template 'for every input the law returns true; each argument reads behind the call as it read before'; 0 by the template 'total and deterministic' (their statements: YtkcancjalpjbgaaTotals.lean).
  GIVEN WITH THE SEED: the statements are not yours to turn. If you find one false, say at which input.
  Laid BY PROGRAM, IN A SANDBOX (cutbox-rows.mjs): the forced cells as the released guide's own fill.sh prints them over the translation cba689afd0da4cf2… (all of the seat's roots in one cut). By AI agents, Wed Nov 11 2026. No macro, syntax, notation, axiom, sorry.
-/
import Derived.Test.YtkcancjalpjbgaaChecked
import GoSem.Claim
import GoSem.ClaimJoined
import GoSem.ClaimMapViews
import Derived.JoinedTies
import Derived.KernelRfl
namespace Go.Proofs.Ytkcancjalpjbgaa
/- THE CELL 'sum', in the pinned program and in every row, IS THE sha256 OF THE DUMP (.gsa) THAT YtkcancjalpjbgaaProg.lean LOADS. Nothing in Lean hashes anything: it is a label: what it is worth is what the hold of that sum in a sandbox is worth. -/
noncomputable def Try.pinned : Pinned := { name := "ytkcancjalpjbgaa", sum := "cba689afd0da4cf2e642f3298d7bcacc3e9264620123fa78b3434b897500c8e1", checked := Try.checked }
namespace Rows
def none {H : Type} : Left H := { results := [], args := [] }

/-- 'ballastlaw30.CursorNexts': WHATEVER THE INPUT: true; the input reads as it did. -/
def cursorNextsSpec : ChangeSpec := { name := "cursorNexts", fn := fun _ => fun
  | [d1, d2] => { results := [.lit (.bool true)], args := [d1, d2] }
  | _ => none }
def cursorNextsRow : OpenClaim := { program := "ytkcancjalpjbgaa", sum := "cba689afd0da4cf2e642f3298d7bcacc3e9264620123fa78b3434b897500c8e1", func := "ballast/ballastlaw30.CursorNexts", spec := "cursorNexts", apart := false }
def CursorNextsSaid : Prop := cursorNextsRow.holds Try.pinned (OpenSpec.ofChange cursorNextsSpec)

/-- ITS FALSE NEIGHBOUR: 'it returns false'. Refute it at one input. -/
def cursorNextsWrong : ChangeSpec := { name := "cursorNexts", fn := fun _ => fun
  | [d1, d2] => { results := [.lit (.bool false)], args := [d1, d2] }
  | _ => none }
def CursorNextsWrongFalsely : Prop := cursorNextsRow.holds Try.pinned (OpenSpec.ofChange cursorNextsWrong)

/-- 'ballastlaw27.ForwardTold': WHATEVER THE INPUT: true; the input reads as it did. -/
def forwardToldSpec : ChangeSpec := { name := "forwardTold", fn := fun _ => fun
  | [d1, d2, d3, d4, d5] => { results := [.lit (.bool true)], args := [d1, d2, d3, d4, d5] }
  | _ => none }
def forwardToldRow : OpenClaim := { program := "ytkcancjalpjbgaa", sum := "cba689afd0da4cf2e642f3298d7bcacc3e9264620123fa78b3434b897500c8e1", func := "ballast/ballastlaw27.ForwardTold", spec := "forwardTold", unfollowed := true, recurses := true, apart := false }
def ForwardToldSaid : Prop := forwardToldRow.holds Try.pinned (OpenSpec.ofChange forwardToldSpec)

/-- ITS FALSE NEIGHBOUR: 'it returns false'. Refute it at one input. -/
def forwardToldWrong : ChangeSpec := { name := "forwardTold", fn := fun _ => fun
  | [d1, d2, d3, d4, d5] => { results := [.lit (.bool false)], args := [d1, d2, d3, d4, d5] }
  | _ => none }
def ForwardToldWrongFalsely : Prop := forwardToldRow.holds Try.pinned (OpenSpec.ofChange forwardToldWrong)

/-- 'ballastlaw27.ForwardOn': WHATEVER THE INPUT: true; the input reads as it did. -/
def forwardOnSpec : ChangeSpec := { name := "forwardOn", fn := fun _ => fun
  | [d1, d2, d3, d4] => { results := [.lit (.bool true)], args := [d1, d2, d3, d4] }
  | _ => none }
def forwardOnRow : OpenClaim := { program := "ytkcancjalpjbgaa", sum := "cba689afd0da4cf2e642f3298d7bcacc3e9264620123fa78b3434b897500c8e1", func := "ballast/ballastlaw27.ForwardOn", spec := "forwardOn", unfollowed := true, recurses := true, apart := false }
def ForwardOnSaid : Prop := forwardOnRow.holds Try.pinned (OpenSpec.ofChange forwardOnSpec)

/-- ITS FALSE NEIGHBOUR: 'it returns false'. Refute it at one input. -/
def forwardOnWrong : ChangeSpec := { name := "forwardOn", fn := fun _ => fun
  | [d1, d2, d3, d4] => { results := [.lit (.bool false)], args := [d1, d2, d3, d4] }
  | _ => none }
def ForwardOnWrongFalsely : Prop := forwardOnRow.holds Try.pinned (OpenSpec.ofChange forwardOnWrong)

/-- 'ballastlaw29.SlideWords': WHATEVER THE INPUT: true; the input reads as it did. -/
def slideWordsSpec : ChangeSpec := { name := "slideWords", fn := fun _ => fun
  | [d1, d2, d3] => { results := [.lit (.bool true)], args := [d1, d2, d3] }
  | _ => none }
def slideWordsRow : OpenClaim := { program := "ytkcancjalpjbgaa", sum := "cba689afd0da4cf2e642f3298d7bcacc3e9264620123fa78b3434b897500c8e1", func := "ballast/ballastlaw29.SlideWords", spec := "slideWords", unfollowed := true, recurses := true, apart := false }
def SlideWordsSaid : Prop := slideWordsRow.holds Try.pinned (OpenSpec.ofChange slideWordsSpec)

/-- ITS FALSE NEIGHBOUR: 'it returns false'. Refute it at one input. -/
def slideWordsWrong : ChangeSpec := { name := "slideWords", fn := fun _ => fun
  | [d1, d2, d3] => { results := [.lit (.bool false)], args := [d1, d2, d3] }
  | _ => none }
def SlideWordsWrongFalsely : Prop := slideWordsRow.holds Try.pinned (OpenSpec.ofChange slideWordsWrong)

/-- 'ballastlaw29.SlideBehind': WHATEVER THE INPUT: true; the input reads as it did. -/
def slideBehindSpec : ChangeSpec := { name := "slideBehind", fn := fun _ => fun
  | [d1, d2, d3] => { results := [.lit (.bool true)], args := [d1, d2, d3] }
  | _ => none }
def slideBehindRow : OpenClaim := { program := "ytkcancjalpjbgaa", sum := "cba689afd0da4cf2e642f3298d7bcacc3e9264620123fa78b3434b897500c8e1", func := "ballast/ballastlaw29.SlideBehind", spec := "slideBehind", unfollowed := true, recurses := true, apart := false }
def SlideBehindSaid : Prop := slideBehindRow.holds Try.pinned (OpenSpec.ofChange slideBehindSpec)

/-- ITS FALSE NEIGHBOUR: 'it returns false'. Refute it at one input. -/
def slideBehindWrong : ChangeSpec := { name := "slideBehind", fn := fun _ => fun
  | [d1, d2, d3] => { results := [.lit (.bool false)], args := [d1, d2, d3] }
  | _ => none }
def SlideBehindWrongFalsely : Prop := slideBehindRow.holds Try.pinned (OpenSpec.ofChange slideBehindWrong)

/-- 'ballastlaw27.ForwardNames': WHATEVER THE INPUT: true; the input reads as it did. -/
def forwardNamesSpec : ChangeSpec := { name := "forwardNames", fn := fun _ => fun
  | [] => { results := [.lit (.bool true)], args := [] }
  | _ => none }
def forwardNamesRow : OpenClaim := { program := "ytkcancjalpjbgaa", sum := "cba689afd0da4cf2e642f3298d7bcacc3e9264620123fa78b3434b897500c8e1", func := "ballast/ballastlaw27.ForwardNames", spec := "forwardNames", unfollowed := true, recurses := true, apart := false }
def ForwardNamesSaid : Prop := forwardNamesRow.holds Try.pinned (OpenSpec.ofChange forwardNamesSpec)

/-- ITS FALSE NEIGHBOUR: 'it returns false'. Refute it at one input. -/
def forwardNamesWrong : ChangeSpec := { name := "forwardNames", fn := fun _ => fun
  | [] => { results := [.lit (.bool false)], args := [] }
  | _ => none }
def ForwardNamesWrongFalsely : Prop := forwardNamesRow.holds Try.pinned (OpenSpec.ofChange forwardNamesWrong)

/-- 'ballastlaw27.ForwardBack': WHATEVER THE INPUT: true; the input reads as it did. -/
def forwardBackSpec : ChangeSpec := { name := "forwardBack", fn := fun _ => fun
  | [d] => { results := [.lit (.bool true)], args := [d] }
  | _ => none }
def forwardBackRow : OpenClaim := { program := "ytkcancjalpjbgaa", sum := "cba689afd0da4cf2e642f3298d7bcacc3e9264620123fa78b3434b897500c8e1", func := "ballast/ballastlaw27.ForwardBack", spec := "forwardBack", unfollowed := true, recurses := true, apart := false }
def ForwardBackSaid : Prop := forwardBackRow.holds Try.pinned (OpenSpec.ofChange forwardBackSpec)

/-- ITS FALSE NEIGHBOUR: 'it returns false'. Refute it at one input. -/
def forwardBackWrong : ChangeSpec := { name := "forwardBack", fn := fun _ => fun
  | [d] => { results := [.lit (.bool false)], args := [d] }
  | _ => none }
def ForwardBackWrongFalsely : Prop := forwardBackRow.holds Try.pinned (OpenSpec.ofChange forwardBackWrong)

/-- 'ballastlaw25.MarkJust': WHATEVER THE INPUT: true; the input reads as it did. -/
def markJustSpec : ChangeSpec := { name := "markJust", fn := fun _ => fun
  | [d] => { results := [.lit (.bool true)], args := [d] }
  | _ => none }
def markJustRow : OpenClaim := { program := "ytkcancjalpjbgaa", sum := "cba689afd0da4cf2e642f3298d7bcacc3e9264620123fa78b3434b897500c8e1", func := "ballast/ballastlaw25.MarkJust", spec := "markJust", unfollowed := true, recurses := true, apart := false }
def MarkJustSaid : Prop := markJustRow.holds Try.pinned (OpenSpec.ofChange markJustSpec)

/-- ITS FALSE NEIGHBOUR: 'it returns false'. Refute it at one input. -/
def markJustWrong : ChangeSpec := { name := "markJust", fn := fun _ => fun
  | [d] => { results := [.lit (.bool false)], args := [d] }
  | _ => none }
def MarkJustWrongFalsely : Prop := markJustRow.holds Try.pinned (OpenSpec.ofChange markJustWrong)

/-- 'ballastlaw25.MarkPuts': WHATEVER THE INPUT: true; the input reads as it did. -/
def markPutsSpec : ChangeSpec := { name := "markPuts", fn := fun _ => fun
  | [d] => { results := [.lit (.bool true)], args := [d] }
  | _ => none }
def markPutsRow : OpenClaim := { program := "ytkcancjalpjbgaa", sum := "cba689afd0da4cf2e642f3298d7bcacc3e9264620123fa78b3434b897500c8e1", func := "ballast/ballastlaw25.MarkPuts", spec := "markPuts", unfollowed := true, recurses := true, apart := false }
def MarkPutsSaid : Prop := markPutsRow.holds Try.pinned (OpenSpec.ofChange markPutsSpec)

/-- ITS FALSE NEIGHBOUR: 'it returns false'. Refute it at one input. -/
def markPutsWrong : ChangeSpec := { name := "markPuts", fn := fun _ => fun
  | [d] => { results := [.lit (.bool false)], args := [d] }
  | _ => none }
def MarkPutsWrongFalsely : Prop := markPutsRow.holds Try.pinned (OpenSpec.ofChange markPutsWrong)

/-- 'ballastlaw25.MarkMarks': WHATEVER THE INPUT: true; the input reads as it did. -/
def markMarksSpec : ChangeSpec := { name := "markMarks", fn := fun _ => fun
  | [d1, d2] => { results := [.lit (.bool true)], args := [d1, d2] }
  | _ => none }
def markMarksRow : OpenClaim := { program := "ytkcancjalpjbgaa", sum := "cba689afd0da4cf2e642f3298d7bcacc3e9264620123fa78b3434b897500c8e1", func := "ballast/ballastlaw25.MarkMarks", spec := "markMarks", unfollowed := true, recurses := true, apart := false }
def MarkMarksSaid : Prop := markMarksRow.holds Try.pinned (OpenSpec.ofChange markMarksSpec)

/-- ITS FALSE NEIGHBOUR: 'it returns false'. Refute it at one input. -/
def markMarksWrong : ChangeSpec := { name := "markMarks", fn := fun _ => fun
  | [d1, d2] => { results := [.lit (.bool false)], args := [d1, d2] }
  | _ => none }
def MarkMarksWrongFalsely : Prop := markMarksRow.holds Try.pinned (OpenSpec.ofChange markMarksWrong)

/-- 'ballastlaw25.MarkNames': WHATEVER THE INPUT: true; the input reads as it did. -/
def markNamesSpec : ChangeSpec := { name := "markNames", fn := fun _ => fun
  | [] => { results := [.lit (.bool true)], args := [] }
  | _ => none }
def markNamesRow : OpenClaim := { program := "ytkcancjalpjbgaa", sum := "cba689afd0da4cf2e642f3298d7bcacc3e9264620123fa78b3434b897500c8e1", func := "ballast/ballastlaw25.MarkNames", spec := "markNames", unfollowed := true, recurses := true, apart := false }
def MarkNamesSaid : Prop := markNamesRow.holds Try.pinned (OpenSpec.ofChange markNamesSpec)

/-- ITS FALSE NEIGHBOUR: 'it returns false'. Refute it at one input. -/
def markNamesWrong : ChangeSpec := { name := "markNames", fn := fun _ => fun
  | [] => { results := [.lit (.bool false)], args := [] }
  | _ => none }
def MarkNamesWrongFalsely : Prop := markNamesRow.holds Try.pinned (OpenSpec.ofChange markNamesWrong)

/-- 'ballastlaw30.CursorBack': WHATEVER THE INPUT: true; the input reads as it did. -/
def cursorBackSpec : ChangeSpec := { name := "cursorBack", fn := fun _ => fun
  | [d1, d2, d3, d4] => { results := [.lit (.bool true)], args := [d1, d2, d3, d4] }
  | _ => none }
def cursorBackRow : OpenClaim := { program := "ytkcancjalpjbgaa", sum := "cba689afd0da4cf2e642f3298d7bcacc3e9264620123fa78b3434b897500c8e1", func := "ballast/ballastlaw30.CursorBack", spec := "cursorBack", unfollowed := true, recurses := true, apart := false }
def CursorBackSaid : Prop := cursorBackRow.holds Try.pinned (OpenSpec.ofChange cursorBackSpec)

/-- ITS FALSE NEIGHBOUR: 'it returns false'. Refute it at one input. -/
def cursorBackWrong : ChangeSpec := { name := "cursorBack", fn := fun _ => fun
  | [d1, d2, d3, d4] => { results := [.lit (.bool false)], args := [d1, d2, d3, d4] }
  | _ => none }
def CursorBackWrongFalsely : Prop := cursorBackRow.holds Try.pinned (OpenSpec.ofChange cursorBackWrong)

/- THE SECOND FORM. 'bulk': how many values and letters a reading holds, each counted each time it is reached (what is shared counts as often as it is met; a slice's spare places count too). A statement '..UptoSaid' is the law's where the arguments, and the package variables that the reading takes, are together of bulk at most 1048576: NARROWER than '..Said'. Prove '..Said' where nothing that the law and all that it calls make is longer than what came in: it says more and counts as full. Else prove '..UptoSaid'. A law counts once. -/
mutual
def uptoBulk {H : Type} : DataW H → Nat
  | .lit (.string bytes) => bytes.length + 1
  | .lit _ => 1
  | .nil => 1
  | .ptr d => uptoBulk d + 1
  | .slice elems spare => uptoBulkAll elems + uptoBulkAll spare + 1
  | .agg parts => uptoBulkAll parts + 1
  | .iface _ d => uptoBulk d + 1
  | .map entries => uptoBulkEntries entries + 1
  | .held _ => 1
def uptoBulkAll {H : Type} : List (DataW H) → Nat
  | [] => 0
  | d :: r => uptoBulk d + uptoBulkAll r
def uptoBulkEntries {H : Type} : List (Lit × DataW H) → Nat
  | [] => 0
  | x :: r => uptoBulkEntry x + uptoBulkEntries r
def uptoBulkEntry {H : Type} : Lit × DataW H → Nat
  | (.string bytes, d) => bytes.length + uptoBulk d + 1
  | (_, d) => uptoBulk d + 1
 end
def uptoSmall : (H : Type) → List (DataW H) → Bool := fun _ ds => decide (uptoBulkAll ds ≤ 1048576)
def OpenSpec.upto (s : _root_.Go.ChangeSpec) : _root_.Go.OpenSpec := { _root_.Go.OpenSpec.ofChange s with cond := some uptoSmall }

/-- 'ballastlaw30.CursorNexts', WHERE WHAT IT READS IS OF BULK AT MOST 1048576: true; the input reads as it did. -/
def cursorNextsUptoRow : OpenClaim := { program := "ytkcancjalpjbgaa", sum := "cba689afd0da4cf2e642f3298d7bcacc3e9264620123fa78b3434b897500c8e1", func := "ballast/ballastlaw30.CursorNexts", spec := "cursorNexts", apart := false, narrowed := true }
def CursorNextsUptoSaid : Prop := cursorNextsUptoRow.holds Try.pinned (OpenSpec.upto cursorNextsSpec)

/-- 'ballastlaw27.ForwardTold', WHERE WHAT IT READS IS OF BULK AT MOST 1048576: true; the input reads as it did. -/
def forwardToldUptoRow : OpenClaim := { program := "ytkcancjalpjbgaa", sum := "cba689afd0da4cf2e642f3298d7bcacc3e9264620123fa78b3434b897500c8e1", func := "ballast/ballastlaw27.ForwardTold", spec := "forwardTold", unfollowed := true, recurses := true, apart := false, narrowed := true }
def ForwardToldUptoSaid : Prop := forwardToldUptoRow.holds Try.pinned (OpenSpec.upto forwardToldSpec)

/-- 'ballastlaw27.ForwardOn', WHERE WHAT IT READS IS OF BULK AT MOST 1048576: true; the input reads as it did. -/
def forwardOnUptoRow : OpenClaim := { program := "ytkcancjalpjbgaa", sum := "cba689afd0da4cf2e642f3298d7bcacc3e9264620123fa78b3434b897500c8e1", func := "ballast/ballastlaw27.ForwardOn", spec := "forwardOn", unfollowed := true, recurses := true, apart := false, narrowed := true }
def ForwardOnUptoSaid : Prop := forwardOnUptoRow.holds Try.pinned (OpenSpec.upto forwardOnSpec)

/-- 'ballastlaw29.SlideWords', WHERE WHAT IT READS IS OF BULK AT MOST 1048576: true; the input reads as it did. -/
def slideWordsUptoRow : OpenClaim := { program := "ytkcancjalpjbgaa", sum := "cba689afd0da4cf2e642f3298d7bcacc3e9264620123fa78b3434b897500c8e1", func := "ballast/ballastlaw29.SlideWords", spec := "slideWords", unfollowed := true, recurses := true, apart := false, narrowed := true }
def SlideWordsUptoSaid : Prop := slideWordsUptoRow.holds Try.pinned (OpenSpec.upto slideWordsSpec)

/-- 'ballastlaw29.SlideBehind', WHERE WHAT IT READS IS OF BULK AT MOST 1048576: true; the input reads as it did. -/
def slideBehindUptoRow : OpenClaim := { program := "ytkcancjalpjbgaa", sum := "cba689afd0da4cf2e642f3298d7bcacc3e9264620123fa78b3434b897500c8e1", func := "ballast/ballastlaw29.SlideBehind", spec := "slideBehind", unfollowed := true, recurses := true, apart := false, narrowed := true }
def SlideBehindUptoSaid : Prop := slideBehindUptoRow.holds Try.pinned (OpenSpec.upto slideBehindSpec)

/-- 'ballastlaw27.ForwardNames', WHERE WHAT IT READS IS OF BULK AT MOST 1048576: true; the input reads as it did. -/
def forwardNamesUptoRow : OpenClaim := { program := "ytkcancjalpjbgaa", sum := "cba689afd0da4cf2e642f3298d7bcacc3e9264620123fa78b3434b897500c8e1", func := "ballast/ballastlaw27.ForwardNames", spec := "forwardNames", unfollowed := true, recurses := true, apart := false, narrowed := true }
def ForwardNamesUptoSaid : Prop := forwardNamesUptoRow.holds Try.pinned (OpenSpec.upto forwardNamesSpec)

/-- 'ballastlaw27.ForwardBack', WHERE WHAT IT READS IS OF BULK AT MOST 1048576: true; the input reads as it did. -/
def forwardBackUptoRow : OpenClaim := { program := "ytkcancjalpjbgaa", sum := "cba689afd0da4cf2e642f3298d7bcacc3e9264620123fa78b3434b897500c8e1", func := "ballast/ballastlaw27.ForwardBack", spec := "forwardBack", unfollowed := true, recurses := true, apart := false, narrowed := true }
def ForwardBackUptoSaid : Prop := forwardBackUptoRow.holds Try.pinned (OpenSpec.upto forwardBackSpec)

/-- 'ballastlaw25.MarkJust', WHERE WHAT IT READS IS OF BULK AT MOST 1048576: true; the input reads as it did. -/
def markJustUptoRow : OpenClaim := { program := "ytkcancjalpjbgaa", sum := "cba689afd0da4cf2e642f3298d7bcacc3e9264620123fa78b3434b897500c8e1", func := "ballast/ballastlaw25.MarkJust", spec := "markJust", unfollowed := true, recurses := true, apart := false, narrowed := true }
def MarkJustUptoSaid : Prop := markJustUptoRow.holds Try.pinned (OpenSpec.upto markJustSpec)

/-- 'ballastlaw25.MarkPuts', WHERE WHAT IT READS IS OF BULK AT MOST 1048576: true; the input reads as it did. -/
def markPutsUptoRow : OpenClaim := { program := "ytkcancjalpjbgaa", sum := "cba689afd0da4cf2e642f3298d7bcacc3e9264620123fa78b3434b897500c8e1", func := "ballast/ballastlaw25.MarkPuts", spec := "markPuts", unfollowed := true, recurses := true, apart := false, narrowed := true }
def MarkPutsUptoSaid : Prop := markPutsUptoRow.holds Try.pinned (OpenSpec.upto markPutsSpec)

/-- 'ballastlaw25.MarkMarks', WHERE WHAT IT READS IS OF BULK AT MOST 1048576: true; the input reads as it did. -/
def markMarksUptoRow : OpenClaim := { program := "ytkcancjalpjbgaa", sum := "cba689afd0da4cf2e642f3298d7bcacc3e9264620123fa78b3434b897500c8e1", func := "ballast/ballastlaw25.MarkMarks", spec := "markMarks", unfollowed := true, recurses := true, apart := false, narrowed := true }
def MarkMarksUptoSaid : Prop := markMarksUptoRow.holds Try.pinned (OpenSpec.upto markMarksSpec)

/-- 'ballastlaw25.MarkNames', WHERE WHAT IT READS IS OF BULK AT MOST 1048576: true; the input reads as it did. -/
def markNamesUptoRow : OpenClaim := { program := "ytkcancjalpjbgaa", sum := "cba689afd0da4cf2e642f3298d7bcacc3e9264620123fa78b3434b897500c8e1", func := "ballast/ballastlaw25.MarkNames", spec := "markNames", unfollowed := true, recurses := true, apart := false, narrowed := true }
def MarkNamesUptoSaid : Prop := markNamesUptoRow.holds Try.pinned (OpenSpec.upto markNamesSpec)

/-- 'ballastlaw30.CursorBack', WHERE WHAT IT READS IS OF BULK AT MOST 1048576: true; the input reads as it did. -/
def cursorBackUptoRow : OpenClaim := { program := "ytkcancjalpjbgaa", sum := "cba689afd0da4cf2e642f3298d7bcacc3e9264620123fa78b3434b897500c8e1", func := "ballast/ballastlaw30.CursorBack", spec := "cursorBack", unfollowed := true, recurses := true, apart := false, narrowed := true }
def CursorBackUptoSaid : Prop := cursorBackUptoRow.holds Try.pinned (OpenSpec.upto cursorBackSpec)

end Rows
end Go.Proofs.Ytkcancjalpjbgaa
