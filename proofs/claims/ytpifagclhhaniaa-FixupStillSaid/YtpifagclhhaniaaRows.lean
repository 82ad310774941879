/-
  No cell of these rows narrows 'for every input' (looked for: loops, veiled, ifaces, maps, wideKeys, modest, calm, conditions, laid).
  DERIVED. THE GIVEN ROWS OF THIS SEAT. 12 by the template 'for every input the law returns true; each argument reads behind the call as it read before'; 0 by the template 'total and deterministic' (their statements: YtpifagclhhaniaaTotals.lean).
  GIVEN WITH THE SEED: the statements are not yours to turn. If you find one false, say at which input.
  Laid BY PROGRAM, IN A SANDBOX (cutbox-rows.mjs): the forced cells as the released guide's own fill.sh prints them over the translation 2939fd95353a364b… (all of the seat's roots in one cut). By AI agents, Wed Nov 11 2026. No macro, syntax, notation, axiom, sorry.
-/
import Derived.Test.YtpifagclhhaniaaChecked
import GoSem.Claim
import GoSem.ClaimJoined
import GoSem.ClaimMapViews
import Derived.JoinedTies
import Derived.KernelRfl
namespace Go.Proofs.Ytpifagclhhaniaa
/- THE CELL 'sum', in the pinned program and in every row, IS THE sha256 OF THE DUMP (.gsa) THAT YtpifagclhhaniaaProg.lean LOADS. Nothing in Lean hashes anything: it is a label: what it is worth is what the hold of that sum in a sandbox is worth. -/
noncomputable def Try.pinned : Pinned := { name := "ytpifagclhhaniaa", sum := "2939fd95353a364b9e94ab2a3da4cce03460dd8e95bd90da590d239b1423caed", checked := Try.checked }
namespace Rows
def none {H : Type} : Left H := { results := [], args := [] }

/-- 'ballastlaw25.MarkJust': WHATEVER THE INPUT: true; the input reads as it did. -/
def markJustSpec : ChangeSpec := { name := "markJust", fn := fun _ => fun
  | [d] => { results := [.lit (.bool true)], args := [d] }
  | _ => none }
def markJustRow : OpenClaim := { program := "ytpifagclhhaniaa", sum := "2939fd95353a364b9e94ab2a3da4cce03460dd8e95bd90da590d239b1423caed", func := "ballast/ballastlaw25.MarkJust", spec := "markJust", unfollowed := true, recurses := true, apart := false }
def MarkJustSaid : Prop := markJustRow.holds Try.pinned (OpenSpec.ofChange markJustSpec)

/-- ITS FALSE NEIGHBOUR: 'it returns false'. Refute it at one input. -/
def markJustWrong : ChangeSpec := { name := "markJust", fn := fun _ => fun
  | [d] => { results := [.lit (.bool false)], args := [d] }
  | _ => none }
def MarkJustWrongFalsely : Prop := markJustRow.holds Try.pinned (OpenSpec.ofChange markJustWrong)

/-- 'ballastlaw25.MarkPuts': WHATEVER THE INPUT: true; the input reads as it did. -/
def markPutsSpec : ChangeSpec := { name := "markPuts", fn := fun _ => fun
  | [d] => { results := [.lit (.bool true)], args := [d] }
  | _ => none }
def markPutsRow : OpenClaim := { program := "ytpifagclhhaniaa", sum := "2939fd95353a364b9e94ab2a3da4cce03460dd8e95bd90da590d239b1423caed", func := "ballast/ballastlaw25.MarkPuts", spec := "markPuts", unfollowed := true, recurses := true, apart := false }
def MarkPutsSaid : Prop := markPutsRow.holds Try.pinned (OpenSpec.ofChange markPutsSpec)

/-- ITS FALSE NEIGHBOUR: 'it returns false'. Refute it at one input. -/
def markPutsWrong : ChangeSpec := { name := "markPuts", fn := fun _ => fun
  | [d] => { results := [.lit (.bool false)], args := [d] }
  | _ => none }
def MarkPutsWrongFalsely : Prop := markPutsRow.holds Try.pinned (OpenSpec.ofChange markPutsWrong)

/-- 'ballastlaw25.MarkMarks': WHATEVER THE INPUT: true; the input reads as it did. -/
def markMarksSpec : ChangeSpec := { name := "markMarks", fn := fun _ => fun
  | [d1, d2] => { results := [.lit (.bool true)], args := [d1, d2] }
  | _ => none }
def markMarksRow : OpenClaim := { program := "ytpifagclhhaniaa", sum := "2939fd95353a364b9e94ab2a3da4cce03460dd8e95bd90da590d239b1423caed", func := "ballast/ballastlaw25.MarkMarks", spec := "markMarks", unfollowed := true, recurses := true, apart := false }
def MarkMarksSaid : Prop := markMarksRow.holds Try.pinned (OpenSpec.ofChange markMarksSpec)

/-- ITS FALSE NEIGHBOUR: 'it returns false'. Refute it at one input. -/
def markMarksWrong : ChangeSpec := { name := "markMarks", fn := fun _ => fun
  | [d1, d2] => { results := [.lit (.bool false)], args := [d1, d2] }
  | _ => none }
def MarkMarksWrongFalsely : Prop := markMarksRow.holds Try.pinned (OpenSpec.ofChange markMarksWrong)

/-- 'ballastlaw30.CursorBack': WHATEVER THE INPUT: true; the input reads as it did. -/
def cursorBackSpec : ChangeSpec := { name := "cursorBack", fn := fun _ => fun
  | [d1, d2, d3, d4] => { results := [.lit (.bool true)], args := [d1, d2, d3, d4] }
  | _ => none }
def cursorBackRow : OpenClaim := { program := "ytpifagclhhaniaa", sum := "2939fd95353a364b9e94ab2a3da4cce03460dd8e95bd90da590d239b1423caed", func := "ballast/ballastlaw30.CursorBack", spec := "cursorBack", unfollowed := true, recurses := true, apart := false }
def CursorBackSaid : Prop := cursorBackRow.holds Try.pinned (OpenSpec.ofChange cursorBackSpec)

/-- ITS FALSE NEIGHBOUR: 'it returns false'. Refute it at one input. -/
def cursorBackWrong : ChangeSpec := { name := "cursorBack", fn := fun _ => fun
  | [d1, d2, d3, d4] => { results := [.lit (.bool false)], args := [d1, d2, d3, d4] }
  | _ => none }
def CursorBackWrongFalsely : Prop := cursorBackRow.holds Try.pinned (OpenSpec.ofChange cursorBackWrong)

/-- 'ballastlaw30.CursorLeft': WHATEVER THE INPUT: true; the input reads as it did. -/
def cursorLeftSpec : ChangeSpec := { name := "cursorLeft", fn := fun _ => fun
  | [d] => { results := [.lit (.bool true)], args := [d] }
  | _ => none }
def cursorLeftRow : OpenClaim := { program := "ytpifagclhhaniaa", sum := "2939fd95353a364b9e94ab2a3da4cce03460dd8e95bd90da590d239b1423caed", func := "ballast/ballastlaw30.CursorLeft", spec := "cursorLeft", unfollowed := true, recurses := true, apart := false }
def CursorLeftSaid : Prop := cursorLeftRow.holds Try.pinned (OpenSpec.ofChange cursorLeftSpec)

/-- ITS FALSE NEIGHBOUR: 'it returns false'. Refute it at one input. -/
def cursorLeftWrong : ChangeSpec := { name := "cursorLeft", fn := fun _ => fun
  | [d] => { results := [.lit (.bool false)], args := [d] }
  | _ => none }
def CursorLeftWrongFalsely : Prop := cursorLeftRow.holds Try.pinned (OpenSpec.ofChange cursorLeftWrong)

/-- 'ballastlaw28.FixupOnce': WHATEVER THE INPUT: true; the input reads as it did. -/
def fixupOnceSpec : ChangeSpec := { name := "fixupOnce", fn := fun _ => fun
  | [d1, d2] => { results := [.lit (.bool true)], args := [d1, d2] }
  | _ => none }
def fixupOnceRow : OpenClaim := { program := "ytpifagclhhaniaa", sum := "2939fd95353a364b9e94ab2a3da4cce03460dd8e95bd90da590d239b1423caed", func := "ballast/ballastlaw28.FixupOnce", spec := "fixupOnce", unfollowed := true, recurses := true, apart := false }
def FixupOnceSaid : Prop := fixupOnceRow.holds Try.pinned (OpenSpec.ofChange fixupOnceSpec)

/-- ITS FALSE NEIGHBOUR: 'it returns false'. Refute it at one input. -/
def fixupOnceWrong : ChangeSpec := { name := "fixupOnce", fn := fun _ => fun
  | [d1, d2] => { results := [.lit (.bool false)], args := [d1, d2] }
  | _ => none }
def FixupOnceWrongFalsely : Prop := fixupOnceRow.holds Try.pinned (OpenSpec.ofChange fixupOnceWrong)

/-- 'ballastlaw28.FixupSlots': WHATEVER THE INPUT: true; the input reads as it did. -/
def fixupSlotsSpec : ChangeSpec := { name := "fixupSlots", fn := fun _ => fun
  | [d] => { results := [.lit (.bool true)], args := [d] }
  | _ => none }
def fixupSlotsRow : OpenClaim := { program := "ytpifagclhhaniaa", sum := "2939fd95353a364b9e94ab2a3da4cce03460dd8e95bd90da590d239b1423caed", func := "ballast/ballastlaw28.FixupSlots", spec := "fixupSlots", unfollowed := true, recurses := true, apart := false }
def FixupSlotsSaid : Prop := fixupSlotsRow.holds Try.pinned (OpenSpec.ofChange fixupSlotsSpec)

/-- ITS FALSE NEIGHBOUR: 'it returns false'. Refute it at one input. -/
def fixupSlotsWrong : ChangeSpec := { name := "fixupSlots", fn := fun _ => fun
  | [d] => { results := [.lit (.bool false)], args := [d] }
  | _ => none }
def FixupSlotsWrongFalsely : Prop := fixupSlotsRow.holds Try.pinned (OpenSpec.ofChange fixupSlotsWrong)

/-- 'ballastlaw30.CursorLine': WHATEVER THE INPUT: true; the input reads as it did. -/
def cursorLineSpec : ChangeSpec := { name := "cursorLine", fn := fun _ => fun
  | [d] => { results := [.lit (.bool true)], args := [d] }
  | _ => none }
def cursorLineRow : OpenClaim := { program := "ytpifagclhhaniaa", sum := "2939fd95353a364b9e94ab2a3da4cce03460dd8e95bd90da590d239b1423caed", func := "ballast/ballastlaw30.CursorLine", spec := "cursorLine", unfollowed := true, recurses := true, apart := false }
def CursorLineSaid : Prop := cursorLineRow.holds Try.pinned (OpenSpec.ofChange cursorLineSpec)

/-- ITS FALSE NEIGHBOUR: 'it returns false'. Refute it at one input. -/
def cursorLineWrong : ChangeSpec := { name := "cursorLine", fn := fun _ => fun
  | [d] => { results := [.lit (.bool false)], args := [d] }
  | _ => none }
def CursorLineWrongFalsely : Prop := cursorLineRow.holds Try.pinned (OpenSpec.ofChange cursorLineWrong)

/-- 'ballastlaw32.FinishWhen': WHATEVER THE INPUT: true; the input reads as it did. -/
def finishWhenSpec : ChangeSpec := { name := "finishWhen", fn := fun _ => fun
  | [d] => { results := [.lit (.bool true)], args := [d] }
  | _ => none }
def finishWhenRow : OpenClaim := { program := "ytpifagclhhaniaa", sum := "2939fd95353a364b9e94ab2a3da4cce03460dd8e95bd90da590d239b1423caed", func := "ballast/ballastlaw32.FinishWhen", spec := "finishWhen", unfollowed := true, recurses := true, apart := false }
def FinishWhenSaid : Prop := finishWhenRow.holds Try.pinned (OpenSpec.ofChange finishWhenSpec)

/-- ITS FALSE NEIGHBOUR: 'it returns false'. Refute it at one input. -/
def finishWhenWrong : ChangeSpec := { name := "finishWhen", fn := fun _ => fun
  | [d] => { results := [.lit (.bool false)], args := [d] }
  | _ => none }
def FinishWhenWrongFalsely : Prop := finishWhenRow.holds Try.pinned (OpenSpec.ofChange finishWhenWrong)

/-- 'ballastlaw32.FinishOne': WHATEVER THE INPUT: true; the input reads as it did. -/
def finishOneSpec : ChangeSpec := { name := "finishOne", fn := fun _ => fun
  | [d] => { results := [.lit (.bool true)], args := [d] }
  | _ => none }
def finishOneRow : OpenClaim := { program := "ytpifagclhhaniaa", sum := "2939fd95353a364b9e94ab2a3da4cce03460dd8e95bd90da590d239b1423caed", func := "ballast/ballastlaw32.FinishOne", spec := "finishOne", unfollowed := true, recurses := true, apart := false }
def FinishOneSaid : Prop := finishOneRow.holds Try.pinned (OpenSpec.ofChange finishOneSpec)

/-- ITS FALSE NEIGHBOUR: 'it returns false'. Refute it at one input. -/
def finishOneWrong : ChangeSpec := { name := "finishOne", fn := fun _ => fun
  | [d] => { results := [.lit (.bool false)], args := [d] }
  | _ => none }
def FinishOneWrongFalsely : Prop := finishOneRow.holds Try.pinned (OpenSpec.ofChange finishOneWrong)

/-- 'ballastlaw32.FinishFew': WHATEVER THE INPUT: true; the input reads as it did. -/
def finishFewSpec : ChangeSpec := { name := "finishFew", fn := fun _ => fun
  | [d] => { results := [.lit (.bool true)], args := [d] }
  | _ => none }
def finishFewRow : OpenClaim := { program := "ytpifagclhhaniaa", sum := "2939fd95353a364b9e94ab2a3da4cce03460dd8e95bd90da590d239b1423caed", func := "ballast/ballastlaw32.FinishFew", spec := "finishFew", unfollowed := true, recurses := true, apart := false }
def FinishFewSaid : Prop := finishFewRow.holds Try.pinned (OpenSpec.ofChange finishFewSpec)

/-- ITS FALSE NEIGHBOUR: 'it returns false'. Refute it at one input. -/
def finishFewWrong : ChangeSpec := { name := "finishFew", fn := fun _ => fun
  | [d] => { results := [.lit (.bool false)], args := [d] }
  | _ => none }
def FinishFewWrongFalsely : Prop := finishFewRow.holds Try.pinned (OpenSpec.ofChange finishFewWrong)

/-- 'ballastlaw28.FixupStill': WHATEVER THE INPUT: true; the input reads as it did. -/
def fixupStillSpec : ChangeSpec := { name := "fixupStill", fn := fun _ => fun
  | [d] => { results := [.lit (.bool true)], args := [d] }
  | _ => none }
def fixupStillRow : OpenClaim := { program := "ytpifagclhhaniaa", sum := "2939fd95353a364b9e94ab2a3da4cce03460dd8e95bd90da590d239b1423caed", func := "ballast/ballastlaw28.FixupStill", spec := "fixupStill", unfollowed := true, recurses := true, apart := false }
def FixupStillSaid : Prop := fixupStillRow.holds Try.pinned (OpenSpec.ofChange fixupStillSpec)

/-- ITS FALSE NEIGHBOUR: 'it returns false'. Refute it at one input. -/
def fixupStillWrong : ChangeSpec := { name := "fixupStill", fn := fun _ => fun
  | [d] => { results := [.lit (.bool false)], args := [d] }
  | _ => none }
def FixupStillWrongFalsely : Prop := fixupStillRow.holds Try.pinned (OpenSpec.ofChange fixupStillWrong)

/- THE SECOND FORM. 'bulk': how many values and letters a reading holds, each counted each time it is reached (what is shared counts as often as it is met; a slice's spare places count too). A statement '..UptoSaid' is the law's where the arguments, and the package variables that the reading takes, are together of bulk at most 1048576: NARROWER than '..Said'. Prove '..Said' where nothing that the law and all that it calls make is longer than what came in: it says more and counts as full. Else prove '..UptoSaid'. A law counts once. -/
mutual
def uptoBulk {H : Type} : DataW H → Nat
  | .lit (.string bytes) => bytes.length + 1
  | .lit _ => 1
  | .nil => 1
  | .ptr d => uptoBulk d + 1
  | .slice elems spare => uptoBulkAll elems + uptoBulkAll spare + 1
  | .agg parts => uptoBulkAll parts + 1
  | .iface _ d => uptoBulk d + 1
  | .map entries => uptoBulkEntries entries + 1
  | .held _ => 1
def uptoBulkAll {H : Type} : List (DataW H) → Nat
  | [] => 0
  | d :: r => uptoBulk d + uptoBulkAll r
def uptoBulkEntries {H : Type} : List (Lit × DataW H) → Nat
  | [] => 0
  | x :: r => uptoBulkEntry x + uptoBulkEntries r
def uptoBulkEntry {H : Type} : Lit × DataW H → Nat
  | (.string bytes, d) => bytes.length + uptoBulk d + 1
  | (_, d) => uptoBulk d + 1
 end
def uptoSmall : (H : Type) → List (DataW H) → Bool := fun _ ds => decide (uptoBulkAll ds ≤ 1048576)
def OpenSpec.upto (s : _root_.Go.ChangeSpec) : _root_.Go.OpenSpec := { _root_.Go.OpenSpec.ofChange s with cond := some uptoSmall }

/-- 'ballastlaw25.MarkJust', WHERE WHAT IT READS IS OF BULK AT MOST 1048576: true; the input reads as it did. -/
def markJustUptoRow : OpenClaim := { program := "ytpifagclhhaniaa", sum := "2939fd95353a364b9e94ab2a3da4cce03460dd8e95bd90da590d239b1423caed", func := "ballast/ballastlaw25.MarkJust", spec := "markJust", unfollowed := true, recurses := true, apart := false, narrowed := true }
def MarkJustUptoSaid : Prop := markJustUptoRow.holds Try.pinned (OpenSpec.upto markJustSpec)

/-- 'ballastlaw25.MarkPuts', WHERE WHAT IT READS IS OF BULK AT MOST 1048576: true; the input reads as it did. -/
def markPutsUptoRow : OpenClaim := { program := "ytpifagclhhaniaa", sum := "2939fd95353a364b9e94ab2a3da4cce03460dd8e95bd90da590d239b1423caed", func := "ballast/ballastlaw25.MarkPuts", spec := "markPuts", unfollowed := true, recurses := true, apart := false, narrowed := true }
def MarkPutsUptoSaid : Prop := markPutsUptoRow.holds Try.pinned (OpenSpec.upto markPutsSpec)

/-- 'ballastlaw25.MarkMarks', WHERE WHAT IT READS IS OF BULK AT MOST 1048576: true; the input reads as it did. -/
def markMarksUptoRow : OpenClaim := { program := "ytpifagclhhaniaa", sum := "2939fd95353a364b9e94ab2a3da4cce03460dd8e95bd90da590d239b1423caed", func := "ballast/ballastlaw25.MarkMarks", spec := "markMarks", unfollowed := true, recurses := true, apart := false, narrowed := true }
def MarkMarksUptoSaid : Prop := markMarksUptoRow.holds Try.pinned (OpenSpec.upto markMarksSpec)

/-- 'ballastlaw30.CursorBack', WHERE WHAT IT READS IS OF BULK AT MOST 1048576: true; the input reads as it did. -/
def cursorBackUptoRow : OpenClaim := { program := "ytpifagclhhaniaa", sum := "2939fd95353a364b9e94ab2a3da4cce03460dd8e95bd90da590d239b1423caed", func := "ballast/ballastlaw30.CursorBack", spec := "cursorBack", unfollowed := true, recurses := true, apart := false, narrowed := true }
def CursorBackUptoSaid : Prop := cursorBackUptoRow.holds Try.pinned (OpenSpec.upto cursorBackSpec)

/-- 'ballastlaw30.CursorLeft', WHERE WHAT IT READS IS OF BULK AT MOST 1048576: true; the input reads as it did. -/
def cursorLeftUptoRow : OpenClaim := { program := "ytpifagclhhaniaa", sum := "2939fd95353a364b9e94ab2a3da4cce03460dd8e95bd90da590d239b1423caed", func := "ballast/ballastlaw30.CursorLeft", spec := "cursorLeft", unfollowed := true, recurses := true, apart := false, narrowed := true }
def CursorLeftUptoSaid : Prop := cursorLeftUptoRow.holds Try.pinned (OpenSpec.upto cursorLeftSpec)

/-- 'ballastlaw28.FixupOnce', WHERE WHAT IT READS IS OF BULK AT MOST 1048576: true; the input reads as it did. -/
def fixupOnceUptoRow : OpenClaim := { program := "ytpifagclhhaniaa", sum := "2939fd95353a364b9e94ab2a3da4cce03460dd8e95bd90da590d239b1423caed", func := "ballast/ballastlaw28.FixupOnce", spec := "fixupOnce", unfollowed := true, recurses := true, apart := false, narrowed := true }
def FixupOnceUptoSaid : Prop := fixupOnceUptoRow.holds Try.pinned (OpenSpec.upto fixupOnceSpec)

/-- 'ballastlaw28.FixupSlots', WHERE WHAT IT READS IS OF BULK AT MOST 1048576: true; the input reads as it did. -/
def fixupSlotsUptoRow : OpenClaim := { program := "ytpifagclhhaniaa", sum := "2939fd95353a364b9e94ab2a3da4cce03460dd8e95bd90da590d239b1423caed", func := "ballast/ballastlaw28.FixupSlots", spec := "fixupSlots", unfollowed := true, recurses := true, apart := false, narrowed := true }
def FixupSlotsUptoSaid : Prop := fixupSlotsUptoRow.holds Try.pinned (OpenSpec.upto fixupSlotsSpec)

/-- 'ballastlaw30.CursorLine', WHERE WHAT IT READS IS OF BULK AT MOST 1048576: true; the input reads as it did. -/
def cursorLineUptoRow : OpenClaim := { program := "ytpifagclhhaniaa", sum := "2939fd95353a364b9e94ab2a3da4cce03460dd8e95bd90da590d239b1423caed", func := "ballast/ballastlaw30.CursorLine", spec := "cursorLine", unfollowed := true, recurses := true, apart := false, narrowed := true }
def CursorLineUptoSaid : Prop := cursorLineUptoRow.holds Try.pinned (OpenSpec.upto cursorLineSpec)

/-- 'ballastlaw32.FinishWhen', WHERE WHAT IT READS IS OF BULK AT MOST 1048576: true; the input reads as it did. -/
def finishWhenUptoRow : OpenClaim := { program := "ytpifagclhhaniaa", sum := "2939fd95353a364b9e94ab2a3da4cce03460dd8e95bd90da590d239b1423caed", func := "ballast/ballastlaw32.FinishWhen", spec := "finishWhen", unfollowed := true, recurses := true, apart := false, narrowed := true }
def FinishWhenUptoSaid : Prop := finishWhenUptoRow.holds Try.pinned (OpenSpec.upto finishWhenSpec)

/-- 'ballastlaw32.FinishOne', WHERE WHAT IT READS IS OF BULK AT MOST 1048576: true; the input reads as it did. -/
def finishOneUptoRow : OpenClaim := { program := "ytpifagclhhaniaa", sum := "2939fd95353a364b9e94ab2a3da4cce03460dd8e95bd90da590d239b1423caed", func := "ballast/ballastlaw32.FinishOne", spec := "finishOne", unfollowed := true, recurses := true, apart := false, narrowed := true }
def FinishOneUptoSaid : Prop := finishOneUptoRow.holds Try.pinned (OpenSpec.upto finishOneSpec)

/-- 'ballastlaw32.FinishFew', WHERE WHAT IT READS IS OF BULK AT MOST 1048576: true; the input reads as it did. -/
def finishFewUptoRow : OpenClaim := { program := "ytpifagclhhaniaa", sum := "2939fd95353a364b9e94ab2a3da4cce03460dd8e95bd90da590d239b1423caed", func := "ballast/ballastlaw32.FinishFew", spec := "finishFew", unfollowed := true, recurses := true, apart := false, narrowed := true }
def FinishFewUptoSaid : Prop := finishFewUptoRow.holds Try.pinned (OpenSpec.upto finishFewSpec)

/-- 'ballastlaw28.FixupStill', WHERE WHAT IT READS IS OF BULK AT MOST 1048576: true; the input reads as it did. -/
def fixupStillUptoRow : OpenClaim := { program := "ytpifagclhhaniaa", sum := "2939fd95353a364b9e94ab2a3da4cce03460dd8e95bd90da590d239b1423caed", func := "ballast/ballastlaw28.FixupStill", spec := "fixupStill", unfollowed := true, recurses := true, apart := false, narrowed := true }
def FixupStillUptoSaid : Prop := fixupStillUptoRow.holds Try.pinned (OpenSpec.upto fixupStillSpec)

end Rows
end Go.Proofs.Ytpifagclhhaniaa
