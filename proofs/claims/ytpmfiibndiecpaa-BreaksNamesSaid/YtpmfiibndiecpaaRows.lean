/-
  No cell of these rows narrows 'for every input' (looked for: loops, veiled, ifaces, maps, wideKeys, modest, calm, conditions, laid).
  DERIVED. THE GIVEN ROWS OF THIS SEAT. 11 by the template 'for every input the law returns true; each argument reads behind the call as it read before'; 0 by the template 'total and deterministic' (their statements: YtpmfiibndiecpaaTotals.lean).
  GIVEN WITH THE SEED: the statements are not yours to turn. If you find one false, say at which input.
  Laid BY PROGRAM, IN A SANDBOX (cutbox-rows.mjs): the forced cells as the released guide's own fill.sh prints them over the translation 1a7ea4425f2951bc… (all of the seat's roots in one cut). By AI agents, Wed Nov 11 2026. No macro, syntax, notation, axiom, sorry.
-/
import Derived.Test.YtpmfiibndiecpaaChecked
import GoSem.Claim
import GoSem.ClaimJoined
import GoSem.ClaimMapViews
import Derived.JoinedTies
import Derived.KernelRfl
namespace Go.Proofs.Ytpmfiibndiecpaa
/- THE CELL 'sum', in the pinned program and in every row, IS THE sha256 OF THE DUMP (.gsa) THAT YtpmfiibndiecpaaProg.lean LOADS. Nothing in Lean hashes anything: it is a label: what it is worth is what the hold of that sum in a sandbox is worth. -/
noncomputable def Try.pinned : Pinned := { name := "ytpmfiibndiecpaa", sum := "1a7ea4425f2951bc854428f7f7b2880c6ca5452ff691892541ab57e954487094", checked := Try.checked }
namespace Rows
def none {H : Type} : Left H := { results := [], args := [] }

/-- 'ballastlaw26.BreaksNames': WHATEVER THE INPUT: true; the input reads as it did. -/
def breaksNamesSpec : ChangeSpec := { name := "breaksNames", fn := fun _ => fun
  | [] => { results := [.lit (.bool true)], args := [] }
  | _ => none }
def breaksNamesRow : OpenClaim := { program := "ytpmfiibndiecpaa", sum := "1a7ea4425f2951bc854428f7f7b2880c6ca5452ff691892541ab57e954487094", func := "ballast/ballastlaw26.BreaksNames", spec := "breaksNames", unfollowed := true, recurses := true, apart := false }
def BreaksNamesSaid : Prop := breaksNamesRow.holds Try.pinned (OpenSpec.ofChange breaksNamesSpec)

/-- ITS FALSE NEIGHBOUR: 'it returns false'. Refute it at one input. -/
def breaksNamesWrong : ChangeSpec := { name := "breaksNames", fn := fun _ => fun
  | [] => { results := [.lit (.bool false)], args := [] }
  | _ => none }
def BreaksNamesWrongFalsely : Prop := breaksNamesRow.holds Try.pinned (OpenSpec.ofChange breaksNamesWrong)

/-- 'ballastlaw27.ForwardNames': WHATEVER THE INPUT: true; the input reads as it did. -/
def forwardNamesSpec : ChangeSpec := { name := "forwardNames", fn := fun _ => fun
  | [] => { results := [.lit (.bool true)], args := [] }
  | _ => none }
def forwardNamesRow : OpenClaim := { program := "ytpmfiibndiecpaa", sum := "1a7ea4425f2951bc854428f7f7b2880c6ca5452ff691892541ab57e954487094", func := "ballast/ballastlaw27.ForwardNames", spec := "forwardNames", unfollowed := true, recurses := true, apart := false }
def ForwardNamesSaid : Prop := forwardNamesRow.holds Try.pinned (OpenSpec.ofChange forwardNamesSpec)

/-- ITS FALSE NEIGHBOUR: 'it returns false'. Refute it at one input. -/
def forwardNamesWrong : ChangeSpec := { name := "forwardNames", fn := fun _ => fun
  | [] => { results := [.lit (.bool false)], args := [] }
  | _ => none }
def ForwardNamesWrongFalsely : Prop := forwardNamesRow.holds Try.pinned (OpenSpec.ofChange forwardNamesWrong)

/-- 'ballastlaw25.MarkNames': WHATEVER THE INPUT: true; the input reads as it did. -/
def markNamesSpec : ChangeSpec := { name := "markNames", fn := fun _ => fun
  | [] => { results := [.lit (.bool true)], args := [] }
  | _ => none }
def markNamesRow : OpenClaim := { program := "ytpmfiibndiecpaa", sum := "1a7ea4425f2951bc854428f7f7b2880c6ca5452ff691892541ab57e954487094", func := "ballast/ballastlaw25.MarkNames", spec := "markNames", unfollowed := true, recurses := true, apart := false }
def MarkNamesSaid : Prop := markNamesRow.holds Try.pinned (OpenSpec.ofChange markNamesSpec)

/-- ITS FALSE NEIGHBOUR: 'it returns false'. Refute it at one input. -/
def markNamesWrong : ChangeSpec := { name := "markNames", fn := fun _ => fun
  | [] => { results := [.lit (.bool false)], args := [] }
  | _ => none }
def MarkNamesWrongFalsely : Prop := markNamesRow.holds Try.pinned (OpenSpec.ofChange markNamesWrong)

/-- 'ballastlaw28.FixupNames': WHATEVER THE INPUT: true; the input reads as it did. -/
def fixupNamesSpec : ChangeSpec := { name := "fixupNames", fn := fun _ => fun
  | [] => { results := [.lit (.bool true)], args := [] }
  | _ => none }
def fixupNamesRow : OpenClaim := { program := "ytpmfiibndiecpaa", sum := "1a7ea4425f2951bc854428f7f7b2880c6ca5452ff691892541ab57e954487094", func := "ballast/ballastlaw28.FixupNames", spec := "fixupNames", unfollowed := true, recurses := true, apart := false }
def FixupNamesSaid : Prop := fixupNamesRow.holds Try.pinned (OpenSpec.ofChange fixupNamesSpec)

/-- ITS FALSE NEIGHBOUR: 'it returns false'. Refute it at one input. -/
def fixupNamesWrong : ChangeSpec := { name := "fixupNames", fn := fun _ => fun
  | [] => { results := [.lit (.bool false)], args := [] }
  | _ => none }
def FixupNamesWrongFalsely : Prop := fixupNamesRow.holds Try.pinned (OpenSpec.ofChange fixupNamesWrong)

/-- 'ballastlaw32.FinishNames': WHATEVER THE INPUT: true; the input reads as it did. -/
def finishNamesSpec : ChangeSpec := { name := "finishNames", fn := fun _ => fun
  | [] => { results := [.lit (.bool true)], args := [] }
  | _ => none }
def finishNamesRow : OpenClaim := { program := "ytpmfiibndiecpaa", sum := "1a7ea4425f2951bc854428f7f7b2880c6ca5452ff691892541ab57e954487094", func := "ballast/ballastlaw32.FinishNames", spec := "finishNames", unfollowed := true, recurses := true, apart := false }
def FinishNamesSaid : Prop := finishNamesRow.holds Try.pinned (OpenSpec.ofChange finishNamesSpec)

/-- ITS FALSE NEIGHBOUR: 'it returns false'. Refute it at one input. -/
def finishNamesWrong : ChangeSpec := { name := "finishNames", fn := fun _ => fun
  | [] => { results := [.lit (.bool false)], args := [] }
  | _ => none }
def FinishNamesWrongFalsely : Prop := finishNamesRow.holds Try.pinned (OpenSpec.ofChange finishNamesWrong)

/-- 'ballastlaw31.StagesNames': WHATEVER THE INPUT: true; the input reads as it did. -/
def stagesNamesSpec : ChangeSpec := { name := "stagesNames", fn := fun _ => fun
  | [] => { results := [.lit (.bool true)], args := [] }
  | _ => none }
def stagesNamesRow : OpenClaim := { program := "ytpmfiibndiecpaa", sum := "1a7ea4425f2951bc854428f7f7b2880c6ca5452ff691892541ab57e954487094", func := "ballast/ballastlaw31.StagesNames", spec := "stagesNames", unfollowed := true, recurses := true, apart := false }
def StagesNamesSaid : Prop := stagesNamesRow.holds Try.pinned (OpenSpec.ofChange stagesNamesSpec)

/-- ITS FALSE NEIGHBOUR: 'it returns false'. Refute it at one input. -/
def stagesNamesWrong : ChangeSpec := { name := "stagesNames", fn := fun _ => fun
  | [] => { results := [.lit (.bool false)], args := [] }
  | _ => none }
def StagesNamesWrongFalsely : Prop := stagesNamesRow.holds Try.pinned (OpenSpec.ofChange stagesNamesWrong)

/-- 'ballastlaw31.StagesSmall': WHATEVER THE INPUT: true; the input reads as it did. -/
def stagesSmallSpec : ChangeSpec := { name := "stagesSmall", fn := fun _ => fun
  | [d] => { results := [.lit (.bool true)], args := [d] }
  | _ => none }
def stagesSmallRow : OpenClaim := { program := "ytpmfiibndiecpaa", sum := "1a7ea4425f2951bc854428f7f7b2880c6ca5452ff691892541ab57e954487094", func := "ballast/ballastlaw31.StagesSmall", spec := "stagesSmall", unfollowed := true, recurses := true, apart := false }
def StagesSmallSaid : Prop := stagesSmallRow.holds Try.pinned (OpenSpec.ofChange stagesSmallSpec)

/-- ITS FALSE NEIGHBOUR: 'it returns false'. Refute it at one input. -/
def stagesSmallWrong : ChangeSpec := { name := "stagesSmall", fn := fun _ => fun
  | [d] => { results := [.lit (.bool false)], args := [d] }
  | _ => none }
def StagesSmallWrongFalsely : Prop := stagesSmallRow.holds Try.pinned (OpenSpec.ofChange stagesSmallWrong)

/-- 'ballastlaw31.StagesOn': WHATEVER THE INPUT: true; the input reads as it did. -/
def stagesOnSpec : ChangeSpec := { name := "stagesOn", fn := fun _ => fun
  | [d1, d2] => { results := [.lit (.bool true)], args := [d1, d2] }
  | _ => none }
def stagesOnRow : OpenClaim := { program := "ytpmfiibndiecpaa", sum := "1a7ea4425f2951bc854428f7f7b2880c6ca5452ff691892541ab57e954487094", func := "ballast/ballastlaw31.StagesOn", spec := "stagesOn", unfollowed := true, recurses := true, apart := false }
def StagesOnSaid : Prop := stagesOnRow.holds Try.pinned (OpenSpec.ofChange stagesOnSpec)

/-- ITS FALSE NEIGHBOUR: 'it returns false'. Refute it at one input. -/
def stagesOnWrong : ChangeSpec := { name := "stagesOn", fn := fun _ => fun
  | [d1, d2] => { results := [.lit (.bool false)], args := [d1, d2] }
  | _ => none }
def StagesOnWrongFalsely : Prop := stagesOnRow.holds Try.pinned (OpenSpec.ofChange stagesOnWrong)

/-- 'ballastlaw31.StagesReach': WHATEVER THE INPUT: true; the input reads as it did. -/
def stagesReachSpec : ChangeSpec := { name := "stagesReach", fn := fun _ => fun
  | [d] => { results := [.lit (.bool true)], args := [d] }
  | _ => none }
def stagesReachRow : OpenClaim := { program := "ytpmfiibndiecpaa", sum := "1a7ea4425f2951bc854428f7f7b2880c6ca5452ff691892541ab57e954487094", func := "ballast/ballastlaw31.StagesReach", spec := "stagesReach", unfollowed := true, recurses := true, apart := false }
def StagesReachSaid : Prop := stagesReachRow.holds Try.pinned (OpenSpec.ofChange stagesReachSpec)

/-- ITS FALSE NEIGHBOUR: 'it returns false'. Refute it at one input. -/
def stagesReachWrong : ChangeSpec := { name := "stagesReach", fn := fun _ => fun
  | [d] => { results := [.lit (.bool false)], args := [d] }
  | _ => none }
def StagesReachWrongFalsely : Prop := stagesReachRow.holds Try.pinned (OpenSpec.ofChange stagesReachWrong)

/-- 'ballastlaw33.ResumeSame': WHATEVER THE INPUT: true; the input reads as it did. -/
def resumeSameSpec : ChangeSpec := { name := "resumeSame", fn := fun _ => fun
  | [d1, d2] => { results := [.lit (.bool true)], args := [d1, d2] }
  | _ => none }
def resumeSameRow : OpenClaim := { program := "ytpmfiibndiecpaa", sum := "1a7ea4425f2951bc854428f7f7b2880c6ca5452ff691892541ab57e954487094", func := "ballast/ballastlaw33.ResumeSame", spec := "resumeSame", unfollowed := true, recurses := true, apart := false }
def ResumeSameSaid : Prop := resumeSameRow.holds Try.pinned (OpenSpec.ofChange resumeSameSpec)

/-- ITS FALSE NEIGHBOUR: 'it returns false'. Refute it at one input. -/
def resumeSameWrong : ChangeSpec := { name := "resumeSame", fn := fun _ => fun
  | [d1, d2] => { results := [.lit (.bool false)], args := [d1, d2] }
  | _ => none }
def ResumeSameWrongFalsely : Prop := resumeSameRow.holds Try.pinned (OpenSpec.ofChange resumeSameWrong)

/-- 'ballastlaw33.ResumeFew': WHATEVER THE INPUT: true; the input reads as it did. -/
def resumeFewSpec : ChangeSpec := { name := "resumeFew", fn := fun _ => fun
  | [d] => { results := [.lit (.bool true)], args := [d] }
  | _ => none }
def resumeFewRow : OpenClaim := { program := "ytpmfiibndiecpaa", sum := "1a7ea4425f2951bc854428f7f7b2880c6ca5452ff691892541ab57e954487094", func := "ballast/ballastlaw33.ResumeFew", spec := "resumeFew", unfollowed := true, recurses := true, apart := false }
def ResumeFewSaid : Prop := resumeFewRow.holds Try.pinned (OpenSpec.ofChange resumeFewSpec)

/-- ITS FALSE NEIGHBOUR: 'it returns false'. Refute it at one input. -/
def resumeFewWrong : ChangeSpec := { name := "resumeFew", fn := fun _ => fun
  | [d] => { results := [.lit (.bool false)], args := [d] }
  | _ => none }
def ResumeFewWrongFalsely : Prop := resumeFewRow.holds Try.pinned (OpenSpec.ofChange resumeFewWrong)

/- THE SECOND FORM. 'bulk': how many values and letters a reading holds, each counted each time it is reached (what is shared counts as often as it is met; a slice's spare places count too). A statement '..UptoSaid' is the law's where the arguments, and the package variables that the reading takes, are together of bulk at most 1048576: NARROWER than '..Said'. Prove '..Said' where nothing that the law and all that it calls make is longer than what came in: it says more and counts as full. Else prove '..UptoSaid'. A law counts once. -/
mutual
def uptoBulk {H : Type} : DataW H → Nat
  | .lit (.string bytes) => bytes.length + 1
  | .lit _ => 1
  | .nil => 1
  | .ptr d => uptoBulk d + 1
  | .slice elems spare => uptoBulkAll elems + uptoBulkAll spare + 1
  | .agg parts => uptoBulkAll parts + 1
  | .iface _ d => uptoBulk d + 1
  | .map entries => uptoBulkEntries entries + 1
  | .held _ => 1
def uptoBulkAll {H : Type} : List (DataW H) → Nat
  | [] => 0
  | d :: r => uptoBulk d + uptoBulkAll r
def uptoBulkEntries {H : Type} : List (Lit × DataW H) → Nat
  | [] => 0
  | x :: r => uptoBulkEntry x + uptoBulkEntries r
def uptoBulkEntry {H : Type} : Lit × DataW H → Nat
  | (.string bytes, d) => bytes.length + uptoBulk d + 1
  | (_, d) => uptoBulk d + 1
 end
def uptoSmall : (H : Type) → List (DataW H) → Bool := fun _ ds => decide (uptoBulkAll ds ≤ 1048576)
def OpenSpec.upto (s : _root_.Go.ChangeSpec) : _root_.Go.OpenSpec := { _root_.Go.OpenSpec.ofChange s with cond := some uptoSmall }

/-- 'ballastlaw26.BreaksNames', WHERE WHAT IT READS IS OF BULK AT MOST 1048576: true; the input reads as it did. -/
def breaksNamesUptoRow : OpenClaim := { program := "ytpmfiibndiecpaa", sum := "1a7ea4425f2951bc854428f7f7b2880c6ca5452ff691892541ab57e954487094", func := "ballast/ballastlaw26.BreaksNames", spec := "breaksNames", unfollowed := true, recurses := true, apart := false, narrowed := true }
def BreaksNamesUptoSaid : Prop := breaksNamesUptoRow.holds Try.pinned (OpenSpec.upto breaksNamesSpec)

/-- 'ballastlaw27.ForwardNames', WHERE WHAT IT READS IS OF BULK AT MOST 1048576: true; the input reads as it did. -/
def forwardNamesUptoRow : OpenClaim := { program := "ytpmfiibndiecpaa", sum := "1a7ea4425f2951bc854428f7f7b2880c6ca5452ff691892541ab57e954487094", func := "ballast/ballastlaw27.ForwardNames", spec := "forwardNames", unfollowed := true, recurses := true, apart := false, narrowed := true }
def ForwardNamesUptoSaid : Prop := forwardNamesUptoRow.holds Try.pinned (OpenSpec.upto forwardNamesSpec)

/-- 'ballastlaw25.MarkNames', WHERE WHAT IT READS IS OF BULK AT MOST 1048576: true; the input reads as it did. -/
def markNamesUptoRow : OpenClaim := { program := "ytpmfiibndiecpaa", sum := "1a7ea4425f2951bc854428f7f7b2880c6ca5452ff691892541ab57e954487094", func := "ballast/ballastlaw25.MarkNames", spec := "markNames", unfollowed := true, recurses := true, apart := false, narrowed := true }
def MarkNamesUptoSaid : Prop := markNamesUptoRow.holds Try.pinned (OpenSpec.upto markNamesSpec)

/-- 'ballastlaw28.FixupNames', WHERE WHAT IT READS IS OF BULK AT MOST 1048576: true; the input reads as it did. -/
def fixupNamesUptoRow : OpenClaim := { program := "ytpmfiibndiecpaa", sum := "1a7ea4425f2951bc854428f7f7b2880c6ca5452ff691892541ab57e954487094", func := "ballast/ballastlaw28.FixupNames", spec := "fixupNames", unfollowed := true, recurses := true, apart := false, narrowed := true }
def FixupNamesUptoSaid : Prop := fixupNamesUptoRow.holds Try.pinned (OpenSpec.upto fixupNamesSpec)

/-- 'ballastlaw32.FinishNames', WHERE WHAT IT READS IS OF BULK AT MOST 1048576: true; the input reads as it did. -/
def finishNamesUptoRow : OpenClaim := { program := "ytpmfiibndiecpaa", sum := "1a7ea4425f2951bc854428f7f7b2880c6ca5452ff691892541ab57e954487094", func := "ballast/ballastlaw32.FinishNames", spec := "finishNames", unfollowed := true, recurses := true, apart := false, narrowed := true }
def FinishNamesUptoSaid : Prop := finishNamesUptoRow.holds Try.pinned (OpenSpec.upto finishNamesSpec)

/-- 'ballastlaw31.StagesNames', WHERE WHAT IT READS IS OF BULK AT MOST 1048576: true; the input reads as it did. -/
def stagesNamesUptoRow : OpenClaim := { program := "ytpmfiibndiecpaa", sum := "1a7ea4425f2951bc854428f7f7b2880c6ca5452ff691892541ab57e954487094", func := "ballast/ballastlaw31.StagesNames", spec := "stagesNames", unfollowed := true, recurses := true, apart := false, narrowed := true }
def StagesNamesUptoSaid : Prop := stagesNamesUptoRow.holds Try.pinned (OpenSpec.upto stagesNamesSpec)

/-- 'ballastlaw31.StagesSmall', WHERE WHAT IT READS IS OF BULK AT MOST 1048576: true; the input reads as it did. -/
def stagesSmallUptoRow : OpenClaim := { program := "ytpmfiibndiecpaa", sum := "1a7ea4425f2951bc854428f7f7b2880c6ca5452ff691892541ab57e954487094", func := "ballast/ballastlaw31.StagesSmall", spec := "stagesSmall", unfollowed := true, recurses := true, apart := false, narrowed := true }
def StagesSmallUptoSaid : Prop := stagesSmallUptoRow.holds Try.pinned (OpenSpec.upto stagesSmallSpec)

/-- 'ballastlaw31.StagesOn', WHERE WHAT IT READS IS OF BULK AT MOST 1048576: true; the input reads as it did. -/
def stagesOnUptoRow : OpenClaim := { program := "ytpmfiibndiecpaa", sum := "1a7ea4425f2951bc854428f7f7b2880c6ca5452ff691892541ab57e954487094", func := "ballast/ballastlaw31.StagesOn", spec := "stagesOn", unfollowed := true, recurses := true, apart := false, narrowed := true }
def StagesOnUptoSaid : Prop := stagesOnUptoRow.holds Try.pinned (OpenSpec.upto stagesOnSpec)

/-- 'ballastlaw31.StagesReach', WHERE WHAT IT READS IS OF BULK AT MOST 1048576: true; the input reads as it did. -/
def stagesReachUptoRow : OpenClaim := { program := "ytpmfiibndiecpaa", sum := "1a7ea4425f2951bc854428f7f7b2880c6ca5452ff691892541ab57e954487094", func := "ballast/ballastlaw31.StagesReach", spec := "stagesReach", unfollowed := true, recurses := true, apart := false, narrowed := true }
def StagesReachUptoSaid : Prop := stagesReachUptoRow.holds Try.pinned (OpenSpec.upto stagesReachSpec)

/-- 'ballastlaw33.ResumeSame', WHERE WHAT IT READS IS OF BULK AT MOST 1048576: true; the input reads as it did. -/
def resumeSameUptoRow : OpenClaim := { program := "ytpmfiibndiecpaa", sum := "1a7ea4425f2951bc854428f7f7b2880c6ca5452ff691892541ab57e954487094", func := "ballast/ballastlaw33.ResumeSame", spec := "resumeSame", unfollowed := true, recurses := true, apart := false, narrowed := true }
def ResumeSameUptoSaid : Prop := resumeSameUptoRow.holds Try.pinned (OpenSpec.upto resumeSameSpec)

/-- 'ballastlaw33.ResumeFew', WHERE WHAT IT READS IS OF BULK AT MOST 1048576: true; the input reads as it did. -/
def resumeFewUptoRow : OpenClaim := { program := "ytpmfiibndiecpaa", sum := "1a7ea4425f2951bc854428f7f7b2880c6ca5452ff691892541ab57e954487094", func := "ballast/ballastlaw33.ResumeFew", spec := "resumeFew", unfollowed := true, recurses := true, apart := false, narrowed := true }
def ResumeFewUptoSaid : Prop := resumeFewUptoRow.holds Try.pinned (OpenSpec.upto resumeFewSpec)

end Rows
end Go.Proofs.Ytpmfiibndiecpaa
