/-
  No cell of these rows narrows 'for every input' (looked for: loops, veiled, ifaces, maps, wideKeys, modest, calm, conditions, laid).
  DERIVED. THE GIVEN ROWS OF THIS SEAT. 8 by the template 'for every input the law returns true; each argument reads behind the call as it read before'; 0 by the template 'total and deterministic' (their statements: YtpcajamacpbjcaaGreatTotals.lean).
  GIVEN WITH THE SEED: the statements are not yours to turn. If you find one false, say at which input.
  Laid BY PROGRAM, IN A SANDBOX (cutbox-rows.mjs): the forced cells as the released guide's own fill.sh prints them over the translation 551869120c1ef3a8… (all of the seat's roots in one cut). By AI agents, Wed Nov 11 2026. No macro, syntax, notation, axiom, sorry.
-/
import Derived.Test.YtpcajamacpbjcaaGreatChecked
import GoSem.Claim
import GoSem.ClaimJoined
import GoSem.ClaimMapViews
import Derived.JoinedTies
import Derived.KernelRfl
namespace Go.Proofs.YtpcajamacpbjcaaGreat
/- THE CELL 'sum', in the pinned program and in every row, IS THE sha256 OF THE DUMP (.gsa) THAT YtpcajamacpbjcaaGreatProg.lean LOADS. Nothing in Lean hashes anything: it is a label: what it is worth is what the hold of that sum in a sandbox is worth. -/
noncomputable def Tryz.pinned : Pinned := { name := "ytpcajamacpbjcaagreat", sum := "551869120c1ef3a8149b99fe1db133f2a0bbd4cf00b7db61e4c64584778f0d39", checked := Tryz.checked }
namespace Rows
def none {H : Type} : Left H := { results := [], args := [] }

/-- 'ballasttop.TopCompact': WHATEVER THE INPUT: true; the input reads as it did. -/
def topCompactSpec : ChangeSpec := { name := "topCompact", fn := fun _ => fun
  | [d1, d2] => { results := [.lit (.bool true)], args := [d1, d2] }
  | _ => none }
def topCompactRow : OpenClaim := { program := "ytpcajamacpbjcaagreat", sum := "551869120c1ef3a8149b99fe1db133f2a0bbd4cf00b7db61e4c64584778f0d39", func := "ballast/ballasttop.TopCompact", spec := "topCompact", inPlace := ["slices.overlaps[ballast/api.Dirty]"], unfollowed := true, recurses := true, apart := false }
def TopCompactSaid : Prop := topCompactRow.holds Tryz.pinned (OpenSpec.ofChange topCompactSpec)

/-- ITS FALSE NEIGHBOUR: 'it returns false'. Refute it at one input. -/
def topCompactWrong : ChangeSpec := { name := "topCompact", fn := fun _ => fun
  | [d1, d2] => { results := [.lit (.bool false)], args := [d1, d2] }
  | _ => none }
def TopCompactWrongFalsely : Prop := topCompactRow.holds Tryz.pinned (OpenSpec.ofChange topCompactWrong)

/-- 'ballastlaw35.CompactHandles': WHATEVER THE INPUT: true; the input reads as it did. -/
def compactHandlesSpec : ChangeSpec := { name := "compactHandles", fn := fun _ => fun
  | [d] => { results := [.lit (.bool true)], args := [d] }
  | _ => none }
def compactHandlesRow : OpenClaim := { program := "ytpcajamacpbjcaagreat", sum := "551869120c1ef3a8149b99fe1db133f2a0bbd4cf00b7db61e4c64584778f0d39", func := "ballast/ballastlaw35.CompactHandles", spec := "compactHandles", unfollowed := true, recurses := true, apart := false }
def CompactHandlesSaid : Prop := compactHandlesRow.holds Tryz.pinned (OpenSpec.ofChange compactHandlesSpec)

/-- ITS FALSE NEIGHBOUR: 'it returns false'. Refute it at one input. -/
def compactHandlesWrong : ChangeSpec := { name := "compactHandles", fn := fun _ => fun
  | [d] => { results := [.lit (.bool false)], args := [d] }
  | _ => none }
def CompactHandlesWrongFalsely : Prop := compactHandlesRow.holds Tryz.pinned (OpenSpec.ofChange compactHandlesWrong)

/-- 'ballastlaw35.CompactViews': WHATEVER THE INPUT: true; the input reads as it did. -/
def compactViewsSpec : ChangeSpec := { name := "compactViews", fn := fun _ => fun
  | [d] => { results := [.lit (.bool true)], args := [d] }
  | _ => none }
def compactViewsRow : OpenClaim := { program := "ytpcajamacpbjcaagreat", sum := "551869120c1ef3a8149b99fe1db133f2a0bbd4cf00b7db61e4c64584778f0d39", func := "ballast/ballastlaw35.CompactViews", spec := "compactViews", unfollowed := true, recurses := true, apart := false }
def CompactViewsSaid : Prop := compactViewsRow.holds Tryz.pinned (OpenSpec.ofChange compactViewsSpec)

/-- ITS FALSE NEIGHBOUR: 'it returns false'. Refute it at one input. -/
def compactViewsWrong : ChangeSpec := { name := "compactViews", fn := fun _ => fun
  | [d] => { results := [.lit (.bool false)], args := [d] }
  | _ => none }
def CompactViewsWrongFalsely : Prop := compactViewsRow.holds Tryz.pinned (OpenSpec.ofChange compactViewsWrong)

/-- 'ballastlaw35.CompactModel': WHATEVER THE INPUT: true; the input reads as it did. -/
def compactModelSpec : ChangeSpec := { name := "compactModel", fn := fun _ => fun
  | [d] => { results := [.lit (.bool true)], args := [d] }
  | _ => none }
def compactModelRow : OpenClaim := { program := "ytpcajamacpbjcaagreat", sum := "551869120c1ef3a8149b99fe1db133f2a0bbd4cf00b7db61e4c64584778f0d39", func := "ballast/ballastlaw35.CompactModel", spec := "compactModel", unfollowed := true, recurses := true, apart := false }
def CompactModelSaid : Prop := compactModelRow.holds Tryz.pinned (OpenSpec.ofChange compactModelSpec)

/-- ITS FALSE NEIGHBOUR: 'it returns false'. Refute it at one input. -/
def compactModelWrong : ChangeSpec := { name := "compactModel", fn := fun _ => fun
  | [d] => { results := [.lit (.bool false)], args := [d] }
  | _ => none }
def CompactModelWrongFalsely : Prop := compactModelRow.holds Tryz.pinned (OpenSpec.ofChange compactModelWrong)

/-- 'ballastlaw35.CompactRuns': WHATEVER THE INPUT: true; the input reads as it did. -/
def compactRunsSpec : ChangeSpec := { name := "compactRuns", fn := fun _ => fun
  | [d] => { results := [.lit (.bool true)], args := [d] }
  | _ => none }
def compactRunsRow : OpenClaim := { program := "ytpcajamacpbjcaagreat", sum := "551869120c1ef3a8149b99fe1db133f2a0bbd4cf00b7db61e4c64584778f0d39", func := "ballast/ballastlaw35.CompactRuns", spec := "compactRuns", inPlace := ["slices.overlaps[ballast/api.Dirty]"], unfollowed := true, recurses := true, apart := false }
def CompactRunsSaid : Prop := compactRunsRow.holds Tryz.pinned (OpenSpec.ofChange compactRunsSpec)

/-- ITS FALSE NEIGHBOUR: 'it returns false'. Refute it at one input. -/
def compactRunsWrong : ChangeSpec := { name := "compactRuns", fn := fun _ => fun
  | [d] => { results := [.lit (.bool false)], args := [d] }
  | _ => none }
def CompactRunsWrongFalsely : Prop := compactRunsRow.holds Tryz.pinned (OpenSpec.ofChange compactRunsWrong)

/-- 'ballastlaw35.CompactCrash': WHATEVER THE INPUT: true; the input reads as it did. -/
def compactCrashSpec : ChangeSpec := { name := "compactCrash", fn := fun _ => fun
  | [d1, d2] => { results := [.lit (.bool true)], args := [d1, d2] }
  | _ => none }
def compactCrashRow : OpenClaim := { program := "ytpcajamacpbjcaagreat", sum := "551869120c1ef3a8149b99fe1db133f2a0bbd4cf00b7db61e4c64584778f0d39", func := "ballast/ballastlaw35.CompactCrash", spec := "compactCrash", inPlace := ["slices.overlaps[ballast/api.Dirty]"], unfollowed := true, recurses := true, apart := false }
def CompactCrashSaid : Prop := compactCrashRow.holds Tryz.pinned (OpenSpec.ofChange compactCrashSpec)

/-- ITS FALSE NEIGHBOUR: 'it returns false'. Refute it at one input. -/
def compactCrashWrong : ChangeSpec := { name := "compactCrash", fn := fun _ => fun
  | [d1, d2] => { results := [.lit (.bool false)], args := [d1, d2] }
  | _ => none }
def CompactCrashWrongFalsely : Prop := compactCrashRow.holds Tryz.pinned (OpenSpec.ofChange compactCrashWrong)

/-- 'ballastlaw35.CompactNames': WHATEVER THE INPUT: true; the input reads as it did. -/
def compactNamesSpec : ChangeSpec := { name := "compactNames", fn := fun _ => fun
  | [] => { results := [.lit (.bool true)], args := [] }
  | _ => none }
def compactNamesRow : OpenClaim := { program := "ytpcajamacpbjcaagreat", sum := "551869120c1ef3a8149b99fe1db133f2a0bbd4cf00b7db61e4c64584778f0d39", func := "ballast/ballastlaw35.CompactNames", spec := "compactNames", inPlace := ["slices.overlaps[ballast/api.Dirty]"], unfollowed := true, recurses := true, apart := false }
def CompactNamesSaid : Prop := compactNamesRow.holds Tryz.pinned (OpenSpec.ofChange compactNamesSpec)

/-- ITS FALSE NEIGHBOUR: 'it returns false'. Refute it at one input. -/
def compactNamesWrong : ChangeSpec := { name := "compactNames", fn := fun _ => fun
  | [] => { results := [.lit (.bool false)], args := [] }
  | _ => none }
def CompactNamesWrongFalsely : Prop := compactNamesRow.holds Tryz.pinned (OpenSpec.ofChange compactNamesWrong)

/-- 'ballastlaw35.CompactDevice': WHATEVER THE INPUT: true; the input reads as it did. -/
def compactDeviceSpec : ChangeSpec := { name := "compactDevice", fn := fun _ => fun
  | [d] => { results := [.lit (.bool true)], args := [d] }
  | _ => none }
def compactDeviceRow : OpenClaim := { program := "ytpcajamacpbjcaagreat", sum := "551869120c1ef3a8149b99fe1db133f2a0bbd4cf00b7db61e4c64584778f0d39", func := "ballast/ballastlaw35.CompactDevice", spec := "compactDevice", inPlace := ["slices.overlaps[ballast/api.Dirty]"], unfollowed := true, recurses := true, apart := false }
def CompactDeviceSaid : Prop := compactDeviceRow.holds Tryz.pinned (OpenSpec.ofChange compactDeviceSpec)

/-- ITS FALSE NEIGHBOUR: 'it returns false'. Refute it at one input. -/
def compactDeviceWrong : ChangeSpec := { name := "compactDevice", fn := fun _ => fun
  | [d] => { results := [.lit (.bool false)], args := [d] }
  | _ => none }
def CompactDeviceWrongFalsely : Prop := compactDeviceRow.holds Tryz.pinned (OpenSpec.ofChange compactDeviceWrong)

/- THE SECOND FORM. 'bulk': how many values and letters a reading holds, each counted each time it is reached (what is shared counts as often as it is met; a slice's spare places count too). A statement '..UptoSaid' is the law's where the arguments, and the package variables that the reading takes, are together of bulk at most 1048576: NARROWER than '..Said'. Prove '..Said' where nothing that the law and all that it calls make is longer than what came in: it says more and counts as full. Else prove '..UptoSaid'. A law counts once. -/
mutual
def uptoBulk {H : Type} : DataW H → Nat
  | .lit (.string bytes) => bytes.length + 1
  | .lit _ => 1
  | .nil => 1
  | .ptr d => uptoBulk d + 1
  | .slice elems spare => uptoBulkAll elems + uptoBulkAll spare + 1
  | .agg parts => uptoBulkAll parts + 1
  | .iface _ d => uptoBulk d + 1
  | .map entries => uptoBulkEntries entries + 1
  | .held _ => 1
def uptoBulkAll {H : Type} : List (DataW H) → Nat
  | [] => 0
  | d :: r => uptoBulk d + uptoBulkAll r
def uptoBulkEntries {H : Type} : List (Lit × DataW H) → Nat
  | [] => 0
  | x :: r => uptoBulkEntry x + uptoBulkEntries r
def uptoBulkEntry {H : Type} : Lit × DataW H → Nat
  | (.string bytes, d) => bytes.length + uptoBulk d + 1
  | (_, d) => uptoBulk d + 1
 end
def uptoSmall : (H : Type) → List (DataW H) → Bool := fun _ ds => decide (uptoBulkAll ds ≤ 1048576)
def OpenSpec.upto (s : _root_.Go.ChangeSpec) : _root_.Go.OpenSpec := { _root_.Go.OpenSpec.ofChange s with cond := some uptoSmall }

/-- 'ballasttop.TopCompact', WHERE WHAT IT READS IS OF BULK AT MOST 1048576: true; the input reads as it did. -/
def topCompactUptoRow : OpenClaim := { program := "ytpcajamacpbjcaagreat", sum := "551869120c1ef3a8149b99fe1db133f2a0bbd4cf00b7db61e4c64584778f0d39", func := "ballast/ballasttop.TopCompact", spec := "topCompact", inPlace := ["slices.overlaps[ballast/api.Dirty]"], unfollowed := true, recurses := true, apart := false, narrowed := true }
def TopCompactUptoSaid : Prop := topCompactUptoRow.holds Tryz.pinned (OpenSpec.upto topCompactSpec)

/-- 'ballastlaw35.CompactHandles', WHERE WHAT IT READS IS OF BULK AT MOST 1048576: true; the input reads as it did. -/
def compactHandlesUptoRow : OpenClaim := { program := "ytpcajamacpbjcaagreat", sum := "551869120c1ef3a8149b99fe1db133f2a0bbd4cf00b7db61e4c64584778f0d39", func := "ballast/ballastlaw35.CompactHandles", spec := "compactHandles", unfollowed := true, recurses := true, apart := false, narrowed := true }
def CompactHandlesUptoSaid : Prop := compactHandlesUptoRow.holds Tryz.pinned (OpenSpec.upto compactHandlesSpec)

/-- 'ballastlaw35.CompactViews', WHERE WHAT IT READS IS OF BULK AT MOST 1048576: true; the input reads as it did. -/
def compactViewsUptoRow : OpenClaim := { program := "ytpcajamacpbjcaagreat", sum := "551869120c1ef3a8149b99fe1db133f2a0bbd4cf00b7db61e4c64584778f0d39", func := "ballast/ballastlaw35.CompactViews", spec := "compactViews", unfollowed := true, recurses := true, apart := false, narrowed := true }
def CompactViewsUptoSaid : Prop := compactViewsUptoRow.holds Tryz.pinned (OpenSpec.upto compactViewsSpec)

/-- 'ballastlaw35.CompactModel', WHERE WHAT IT READS IS OF BULK AT MOST 1048576: true; the input reads as it did. -/
def compactModelUptoRow : OpenClaim := { program := "ytpcajamacpbjcaagreat", sum := "551869120c1ef3a8149b99fe1db133f2a0bbd4cf00b7db61e4c64584778f0d39", func := "ballast/ballastlaw35.CompactModel", spec := "compactModel", unfollowed := true, recurses := true, apart := false, narrowed := true }
def CompactModelUptoSaid : Prop := compactModelUptoRow.holds Tryz.pinned (OpenSpec.upto compactModelSpec)

/-- 'ballastlaw35.CompactRuns', WHERE WHAT IT READS IS OF BULK AT MOST 1048576: true; the input reads as it did. -/
def compactRunsUptoRow : OpenClaim := { program := "ytpcajamacpbjcaagreat", sum := "551869120c1ef3a8149b99fe1db133f2a0bbd4cf00b7db61e4c64584778f0d39", func := "ballast/ballastlaw35.CompactRuns", spec := "compactRuns", inPlace := ["slices.overlaps[ballast/api.Dirty]"], unfollowed := true, recurses := true, apart := false, narrowed := true }
def CompactRunsUptoSaid : Prop := compactRunsUptoRow.holds Tryz.pinned (OpenSpec.upto compactRunsSpec)

/-- 'ballastlaw35.CompactCrash', WHERE WHAT IT READS IS OF BULK AT MOST 1048576: true; the input reads as it did. -/
def compactCrashUptoRow : OpenClaim := { program := "ytpcajamacpbjcaagreat", sum := "551869120c1ef3a8149b99fe1db133f2a0bbd4cf00b7db61e4c64584778f0d39", func := "ballast/ballastlaw35.CompactCrash", spec := "compactCrash", inPlace := ["slices.overlaps[ballast/api.Dirty]"], unfollowed := true, recurses := true, apart := false, narrowed := true }
def CompactCrashUptoSaid : Prop := compactCrashUptoRow.holds Tryz.pinned (OpenSpec.upto compactCrashSpec)

/-- 'ballastlaw35.CompactNames', WHERE WHAT IT READS IS OF BULK AT MOST 1048576: true; the input reads as it did. -/
def compactNamesUptoRow : OpenClaim := { program := "ytpcajamacpbjcaagreat", sum := "551869120c1ef3a8149b99fe1db133f2a0bbd4cf00b7db61e4c64584778f0d39", func := "ballast/ballastlaw35.CompactNames", spec := "compactNames", inPlace := ["slices.overlaps[ballast/api.Dirty]"], unfollowed := true, recurses := true, apart := false, narrowed := true }
def CompactNamesUptoSaid : Prop := compactNamesUptoRow.holds Tryz.pinned (OpenSpec.upto compactNamesSpec)

/-- 'ballastlaw35.CompactDevice', WHERE WHAT IT READS IS OF BULK AT MOST 1048576: true; the input reads as it did. -/
def compactDeviceUptoRow : OpenClaim := { program := "ytpcajamacpbjcaagreat", sum := "551869120c1ef3a8149b99fe1db133f2a0bbd4cf00b7db61e4c64584778f0d39", func := "ballast/ballastlaw35.CompactDevice", spec := "compactDevice", inPlace := ["slices.overlaps[ballast/api.Dirty]"], unfollowed := true, recurses := true, apart := false, narrowed := true }
def CompactDeviceUptoSaid : Prop := compactDeviceUptoRow.holds Tryz.pinned (OpenSpec.upto compactDeviceSpec)

end Rows
end Go.Proofs.YtpcajamacpbjcaaGreat
