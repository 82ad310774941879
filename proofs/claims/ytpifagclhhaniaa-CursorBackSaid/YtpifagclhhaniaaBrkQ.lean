/- Starts of rows, and the words of the laws on places: plain lemmas. -/
import Derived.Test.YtpifagclhhaniaaBrkP
namespace Go.Proofs.Ytpifagclhhaniaa
theorem stErr_8 {l : List Bk} {s : Int} (h : rowErr l ≠ 0) : stErr l s = rowErr l := by
  rcases rowErr_val l with h1 | h1
  · exact absurd h1 h
  · simp [stErr, h1]
theorem stErr_2 {l : List Bk} {s : Int} (h : rowErr l = 0) (h2 : s < 128 ∨ most l < s ∨ s % 2 ≠ 0) : stErr l s = 2 := by
  unfold stErr
  rw [if_pos h]
  by_cases a : s < 128
  · rw [if_pos a]
  · rw [if_neg a]
    by_cases b : most l < s
    · rw [if_pos b]
    · rw [if_neg b, if_neg (by omega)]
theorem stErr_0 {l : List Bk} {s : Int} (h : rowErr l = 0) (h2 : 128 ≤ s ∧ s ≤ most l ∧ s % 2 = 0) : stErr l s = 0 := by
  unfold stErr
  rw [if_pos h, if_neg (by omega), if_neg (by omega), if_pos h2.2.2]
theorem stErr_zero {l : List Bk} {s : Int} (h : stErr l s = 0) : rowErr l = 0 ∧ 128 ≤ s ∧ s ≤ most l ∧ s % 2 = 0 := by
  unfold stErr at h
  split at h
  · split at h
    · simp at h
    · split at h
      · simp at h
      · split at h
        · exact ⟨by assumption, by omega, by omega, by assumption⟩
        · simp at h
  · simp at h
end Go.Proofs.Ytpifagclhhaniaa
