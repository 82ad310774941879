/-
  No cell of these rows narrows 'for every input' (looked for: loops, veiled, ifaces, maps, wideKeys, modest, calm, conditions, laid).
  DERIVED. THE GIVEN ROWS OF THIS SEAT. 4 by the template 'for every input the law returns true; each argument reads behind the call as it read before'; 0 by the template 'total and deterministic' (their statements: YtpfbppjjegialaaTotals.lean).
  GIVEN WITH THE SEED: the statements are not yours to turn. If you find one false, say at which input.
  Laid BY PROGRAM, IN A SANDBOX (cutbox-rows.mjs): the forced cells as the released guide's own fill.sh prints them over the translation 0d63820d83b2b9a1… (all of the seat's roots in one cut). By AI agents, Wed Nov 11 2026. No macro, syntax, notation, axiom, sorry.
-/
import Derived.Test.YtpfbppjjegialaaChecked
import GoSem.Claim
import GoSem.ClaimJoined
import GoSem.ClaimMapViews
import Derived.JoinedTies
import Derived.KernelRfl
namespace Go.Proofs.Ytpfbppjjegialaa
/- THE CELL 'sum', in the pinned program and in every row, IS THE sha256 OF THE DUMP (.gsa) THAT YtpfbppjjegialaaProg.lean LOADS. Nothing in Lean hashes anything: it is a label: what it is worth is what the hold of that sum in a sandbox is worth. -/
noncomputable def Try.pinned : Pinned := { name := "ytpfbppjjegialaa", sum := "0d63820d83b2b9a1bbbb527826a364732d889b8c93431eaefecf9b6f0b5cca86", checked := Try.checked }
namespace Rows
def none {H : Type} : Left H := { results := [], args := [] }

/-- 'ballastlaw33.ResumeNames': WHATEVER THE INPUT: true; the input reads as it did. -/
def resumeNamesSpec : ChangeSpec := { name := "resumeNames", fn := fun _ => fun
  | [] => { results := [.lit (.bool true)], args := [] }
  | _ => none }
def resumeNamesRow : OpenClaim := { program := "ytpfbppjjegialaa", sum := "0d63820d83b2b9a1bbbb527826a364732d889b8c93431eaefecf9b6f0b5cca86", func := "ballast/ballastlaw33.ResumeNames", spec := "resumeNames", unfollowed := true, recurses := true, apart := false }
def ResumeNamesSaid : Prop := resumeNamesRow.holds Try.pinned (OpenSpec.ofChange resumeNamesSpec)

/-- ITS FALSE NEIGHBOUR: 'it returns false'. Refute it at one input. -/
def resumeNamesWrong : ChangeSpec := { name := "resumeNames", fn := fun _ => fun
  | [] => { results := [.lit (.bool false)], args := [] }
  | _ => none }
def ResumeNamesWrongFalsely : Prop := resumeNamesRow.holds Try.pinned (OpenSpec.ofChange resumeNamesWrong)

/-- 'ballastlaw33.ResumePhases': WHATEVER THE INPUT: true; the input reads as it did. -/
def resumePhasesSpec : ChangeSpec := { name := "resumePhases", fn := fun _ => fun
  | [d] => { results := [.lit (.bool true)], args := [d] }
  | _ => none }
def resumePhasesRow : OpenClaim := { program := "ytpfbppjjegialaa", sum := "0d63820d83b2b9a1bbbb527826a364732d889b8c93431eaefecf9b6f0b5cca86", func := "ballast/ballastlaw33.ResumePhases", spec := "resumePhases", unfollowed := true, recurses := true, apart := false }
def ResumePhasesSaid : Prop := resumePhasesRow.holds Try.pinned (OpenSpec.ofChange resumePhasesSpec)

/-- ITS FALSE NEIGHBOUR: 'it returns false'. Refute it at one input. -/
def resumePhasesWrong : ChangeSpec := { name := "resumePhases", fn := fun _ => fun
  | [d] => { results := [.lit (.bool false)], args := [d] }
  | _ => none }
def ResumePhasesWrongFalsely : Prop := resumePhasesRow.holds Try.pinned (OpenSpec.ofChange resumePhasesWrong)

/-- 'ballastlaw34.EffortNames': WHATEVER THE INPUT: true; the input reads as it did. -/
def effortNamesSpec : ChangeSpec := { name := "effortNames", fn := fun _ => fun
  | [] => { results := [.lit (.bool true)], args := [] }
  | _ => none }
def effortNamesRow : OpenClaim := { program := "ytpfbppjjegialaa", sum := "0d63820d83b2b9a1bbbb527826a364732d889b8c93431eaefecf9b6f0b5cca86", func := "ballast/ballastlaw34.EffortNames", spec := "effortNames", unfollowed := true, recurses := true, apart := false }
def EffortNamesSaid : Prop := effortNamesRow.holds Try.pinned (OpenSpec.ofChange effortNamesSpec)

/-- ITS FALSE NEIGHBOUR: 'it returns false'. Refute it at one input. -/
def effortNamesWrong : ChangeSpec := { name := "effortNames", fn := fun _ => fun
  | [] => { results := [.lit (.bool false)], args := [] }
  | _ => none }
def EffortNamesWrongFalsely : Prop := effortNamesRow.holds Try.pinned (OpenSpec.ofChange effortNamesWrong)

/-- 'ballastlaw34.EffortLinear': WHATEVER THE INPUT: true; the input reads as it did. -/
def effortLinearSpec : ChangeSpec := { name := "effortLinear", fn := fun _ => fun
  | [d] => { results := [.lit (.bool true)], args := [d] }
  | _ => none }
def effortLinearRow : OpenClaim := { program := "ytpfbppjjegialaa", sum := "0d63820d83b2b9a1bbbb527826a364732d889b8c93431eaefecf9b6f0b5cca86", func := "ballast/ballastlaw34.EffortLinear", spec := "effortLinear", unfollowed := true, recurses := true, apart := false }
def EffortLinearSaid : Prop := effortLinearRow.holds Try.pinned (OpenSpec.ofChange effortLinearSpec)

/-- ITS FALSE NEIGHBOUR: 'it returns false'. Refute it at one input. -/
def effortLinearWrong : ChangeSpec := { name := "effortLinear", fn := fun _ => fun
  | [d] => { results := [.lit (.bool false)], args := [d] }
  | _ => none }
def EffortLinearWrongFalsely : Prop := effortLinearRow.holds Try.pinned (OpenSpec.ofChange effortLinearWrong)

/- THE SECOND FORM. 'bulk': how many values and letters a reading holds, each counted each time it is reached (what is shared counts as often as it is met; a slice's spare places count too). A statement '..UptoSaid' is the law's where the arguments, and the package variables that the reading takes, are together of bulk at most 1048576: NARROWER than '..Said'. Prove '..Said' where nothing that the law and all that it calls make is longer than what came in: it says more and counts as full. Else prove '..UptoSaid'. A law counts once. -/
mutual
def uptoBulk {H : Type} : DataW H → Nat
  | .lit (.string bytes) => bytes.length + 1
  | .lit _ => 1
  | .nil => 1
  | .ptr d => uptoBulk d + 1
  | .slice elems spare => uptoBulkAll elems + uptoBulkAll spare + 1
  | .agg parts => uptoBulkAll parts + 1
  | .iface _ d => uptoBulk d + 1
  | .map entries => uptoBulkEntries entries + 1
  | .held _ => 1
def uptoBulkAll {H : Type} : List (DataW H) → Nat
  | [] => 0
  | d :: r => uptoBulk d + uptoBulkAll r
def uptoBulkEntries {H : Type} : List (Lit × DataW H) → Nat
  | [] => 0
  | x :: r => uptoBulkEntry x + uptoBulkEntries r
def uptoBulkEntry {H : Type} : Lit × DataW H → Nat
  | (.string bytes, d) => bytes.length + uptoBulk d + 1
  | (_, d) => uptoBulk d + 1
 end
def uptoSmall : (H : Type) → List (DataW H) → Bool := fun _ ds => decide (uptoBulkAll ds ≤ 1048576)
def OpenSpec.upto (s : _root_.Go.ChangeSpec) : _root_.Go.OpenSpec := { _root_.Go.OpenSpec.ofChange s with cond := some uptoSmall }

/-- 'ballastlaw33.ResumeNames', WHERE WHAT IT READS IS OF BULK AT MOST 1048576: true; the input reads as it did. -/
def resumeNamesUptoRow : OpenClaim := { program := "ytpfbppjjegialaa", sum := "0d63820d83b2b9a1bbbb527826a364732d889b8c93431eaefecf9b6f0b5cca86", func := "ballast/ballastlaw33.ResumeNames", spec := "resumeNames", unfollowed := true, recurses := true, apart := false, narrowed := true }
def ResumeNamesUptoSaid : Prop := resumeNamesUptoRow.holds Try.pinned (OpenSpec.upto resumeNamesSpec)

/-- 'ballastlaw33.ResumePhases', WHERE WHAT IT READS IS OF BULK AT MOST 1048576: true; the input reads as it did. -/
def resumePhasesUptoRow : OpenClaim := { program := "ytpfbppjjegialaa", sum := "0d63820d83b2b9a1bbbb527826a364732d889b8c93431eaefecf9b6f0b5cca86", func := "ballast/ballastlaw33.ResumePhases", spec := "resumePhases", unfollowed := true, recurses := true, apart := false, narrowed := true }
def ResumePhasesUptoSaid : Prop := resumePhasesUptoRow.holds Try.pinned (OpenSpec.upto resumePhasesSpec)

/-- 'ballastlaw34.EffortNames', WHERE WHAT IT READS IS OF BULK AT MOST 1048576: true; the input reads as it did. -/
def effortNamesUptoRow : OpenClaim := { program := "ytpfbppjjegialaa", sum := "0d63820d83b2b9a1bbbb527826a364732d889b8c93431eaefecf9b6f0b5cca86", func := "ballast/ballastlaw34.EffortNames", spec := "effortNames", unfollowed := true, recurses := true, apart := false, narrowed := true }
def EffortNamesUptoSaid : Prop := effortNamesUptoRow.holds Try.pinned (OpenSpec.upto effortNamesSpec)

/-- 'ballastlaw34.EffortLinear', WHERE WHAT IT READS IS OF BULK AT MOST 1048576: true; the input reads as it did. -/
def effortLinearUptoRow : OpenClaim := { program := "ytpfbppjjegialaa", sum := "0d63820d83b2b9a1bbbb527826a364732d889b8c93431eaefecf9b6f0b5cca86", func := "ballast/ballastlaw34.EffortLinear", spec := "effortLinear", unfollowed := true, recurses := true, apart := false, narrowed := true }
def EffortLinearUptoSaid : Prop := effortLinearUptoRow.holds Try.pinned (OpenSpec.upto effortLinearSpec)

end Rows
end Go.Proofs.Ytpfbppjjegialaa
