/- A new heap that a law builds. -/
import Derived.Test.YtpfbppjjegialaaKImage
namespace Go.Proofs.Ytpfbppjjegialaa
open Go.RowKit

theorem own_cap {w : World} {H n c : Nat} {e : TypeId} {sz : Nat} {A : Option Addr} {xs : List Value} (h : w.ownsRow H e sz (.slice A n c) n xs) : n ≤ c := by
  obtain ⟨A', c', hv, hle, -⟩ := slice_of h
  cases hv; exact hle
def freshL : List Nat := buildL 256 [] [] []
theorem freshL_len : freshL.length = 256 := by decide +kernel
theorem freshL_lt : ∀ x ∈ freshL, x < 18446744073709551616 := by decide +kernel
end Go.Proofs.Ytpfbppjjegialaa
